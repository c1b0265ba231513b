/-
  Parts of the proof: Live, Own, Set, Check.
-/
import Derived.Test.YthblfhgofopcaaaGreatSH12
import Derived.Test.YthblfhgofopcaaaGreatProg
import Derived.Test.YthblfhgofopcaaaGreatSH01
import Derived.Deep.WholeRow
import Derived.Outline
set_option linter.all false
namespace Go.Proofs.YthblfhgofopcaaaGreat
def Xa:List (Nat×List Nat):=[(0,[1,3,4,5,7]),(1,[1,3,4,5,7,21]),(2,[10]),(3,[1,3,5,7,12,13,14]),(4,[12,13,14,41]),(5,[10]),(6,[12,13,14,15,16]),(7,[12,13,14,15,16,17]),(8,[12,13,14,15,16,17,50]),(9,[12,13,14,15,16,17]),(10,[12,13,14,15,16,17,64]),(11,[10]),(12,[10])]
def XP:List (Nat×List Nat):=[(0,[1,3,4,6]),(1,[1,3,4,6,22]),(2,[8]),(3,[1,4,6,9,10,11,12]),(4,[1,4,6,10,11,12,13]),(5,[14,15,16]),(6,[14,15,16,17]),(7,[14,15,16,17,52]),(8,[14,15,16,17]),(9,[14,15,16,17,18]),(10,[14,15,16,17,119]),(11,[8]),(12,[8])]
def To:List (Nat×List Nat):=[(0,[1,3,5]),(1,[1,34]),(2,[6]),(3,[1,7]),(4,[1,7,38]),(5,[1,7]),(6,[1,7,47]),(7,[6]),(8,[6])]
def ZI:List (Nat×List Nat):=[(0,[]),(1,[1]),(2,[1,2]),(3,[0])]
def aD:List (Nat×List Nat):=[(0,[0]),(1,[0,3]),(2,[0,3,4]),(3,[0,3,4,8]),(4,[0,3,4]),(5,[0,3,4]),(6,[2])]
def Tf:List (Nat×List Nat):=[(0,[2,3]),(1,[2,3,5]),(2,[2,3,5,12]),(3,[4]),(4,[2,3,6]),(5,[2,3,6,7]),(6,[2,3,7,8]),(7,[2,3,7,8,44]),(8,[4]),(9,[2,3,7,8,44,45]),(10,[2,3,7,8,44,45]),(11,[2,3,7,8,44,48]),(12,[2,3,8]),(13,[2,3,7,8,44,56]),(14,[2,3,8]),(15,[2,3,7,8,44,67]),(16,[2,3,8]),(17,[2,3,7,8,82]),(18,[2,3,8]),(19,[2,3,92]),(20,[4]),(21,[4])]
def UD:List (Nat×List Nat):=[(0,[2,3]),(1,[2,3,5]),(2,[2,3,5,11]),(3,[4]),(4,[2,3,20]),(5,[4]),(6,[2,3,6]),(7,[2,3,45]),(8,[4]),(9,[2,3,7]),(10,[2,3,7,51]),(11,[2,3,7,51,52]),(12,[2,3,56]),(13,[4]),(14,[2,3,7,51,57]),(15,[2,3,64]),(16,[4]),(17,[2,3,7,51,65]),(18,[2,3,74]),(19,[4]),(20,[2,3,7,75]),(21,[2,3,81]),(22,[4]),(23,[4])]
def bC:List (Nat×List Nat):=[(0,[1,2]),(1,[1,2,5]),(2,[1,2,5,12]),(3,[4]),(4,[1,2,14]),(5,[4]),(6,[1,2,18]),(7,[4]),(8,[2,22,23,24]),(9,[2,22,23,24,25]),(10,[2,7,22,23,24]),(11,[2,8,22,23,24]),(12,[2,8,22,23,24,32]),(13,[4]),(14,[2,22,23,24]),(15,[4])]
def Y7:List (Nat×List Nat):=[(0,[1,2]),(1,[1,2,5]),(2,[1,2,5,11]),(3,[4]),(4,[1,2,15]),(5,[4]),(6,[1,2,18]),(7,[4]),(8,[1,2,6]),(9,[1,2,6,22]),(10,[1,2,6]),(11,[1,2,6,7]),(12,[1,2,6,7,32]),(13,[4]),(14,[4])]
def cU:List (Nat×List Nat):=[(0,[0,1]),(1,[0,1,10]),(2,[4]),(3,[0,1,5]),(4,[0,1,5,14]),(5,[0,1,5]),(6,[0,1,5,54]),(7,[4]),(8,[4])]
def ZZ:List (Nat×List Nat):=[(0,[0,3,5]),(1,[3,5,6]),(2,[3,5,6,7]),(3,[3,5,6,7,14]),(4,[3,5,6,7]),(5,[3,5,6,7,8]),(6,[2,3,4,5])]
def Zk:List (Nat×List Nat):=[(0,[0,1]),(1,[0,1,10]),(2,[4]),(3,[0,1,5]),(4,[0,1,5,14]),(5,[0,1,5]),(6,[0,1,5,26]),(7,[4]),(8,[4])]
def Ip:List (Nat×List Nat):=[(0,[1,3,4,6]),(1,[1,3,4,6,46]),(2,[8]),(3,[1,3,4,6,9]),(4,[3,4,6,9,47,48,49]),(5,[3,4,6,9,47,48,49,50]),(6,[3,4,6,9,10,11,47,48,49]),(7,[3,4,6,9,10,47,48,49,57,58,59]),(8,[3,4,6,9,10,47,48,49,57,58,59,60]),(9,[3,4,6,9,10,13,47,48,49,57,58,59]),(10,[3,4,6,9,10,14,47,48,49,57,58,59]),(11,[3,4,6,9,10,14,15,47,48,49,57,58,59]),(12,[3,4,6,9,10,14,15,47,48,49,57,58,59,74]),(13,[3,4,6,9,10,14,15,47,48,49,57,58,59]),(14,[3,4,6,9,10,14,15,16,47,48,49,57,58,59]),(15,[3,4,6,9,10,14,15,47,48,49,57,58,59,105]),(16,[3,4,6,9,10,14,15,47,48,49,57,58,59]),(17,[3,4,6,9,10,47,48,49,57,58,59]),(18,[3,4,6,9,47,48,49]),(19,[8])]
def Iu:List (Nat×List Nat):=[(0,[1,3,4,6]),(1,[1,3,4,6,37]),(2,[8]),(3,[1,3,4,6,9]),(4,[1,3,4,6,9,10]),(5,[1,3,4,6,9,10,41]),(6,[1,3,4,6,9,10]),(7,[1,3,4,6,9,10,11]),(8,[1,3,4,6,9,10,11,12]),(9,[1,3,4,6,9,10,11,12,54]),(10,[1,3,4,6,9,10,11,12]),(11,[1,3,4,6,9,10,11,12,13]),(12,[1,3,4,6,9,10,11,12,13,63]),(13,[1,3,4,6,9,10,11,12,13]),(14,[1,3,4,6,9,10,11,12,13,96]),(15,[1,3,4,6,9,10,11,12,13]),(16,[8])]
def Zu:List (Nat×List Nat):=[(0,[0,3,4]),(1,[0,3,4,5]),(2,[4,5,6]),(3,[4,5,6,7]),(4,[4,5,6,7,19]),(5,[4,5,6,7]),(6,[4,5,6,7,32]),(7,[4,5]),(8,[4]),(9,[4,5,6,7]),(10,[4])]
def PZ:List (Nat×List Nat):=[(0,[1,3,5]),(1,[6])]
def Pz:List (Nat×List Nat):=[(0,[1,3,5]),(1,[6])]
def Tw:List (Nat×List Nat):=[(0,[0,1]),(1,[0,1,10]),(2,[4]),(3,[0,1,5]),(4,[0,1,5,14]),(5,[0,1,5]),(6,[0,1,5,25]),(7,[4]),(8,[4])]
def P5:List (Nat×List Nat):=[(0,[1,3,5]),(1,[1,3,5,19]),(2,[6]),(3,[1,3,5,7]),(4,[1,3,5,7,21,22]),(5,[1,3,5,7,21,22,23]),(6,[1,3,5,7,8,21,22]),(7,[1,3,5,7,8,9,21,22]),(8,[1,3,5,7,8,9,21,22]),(9,[1,3,5,7,8,21,22,37]),(10,[1,3,5,7,21,22]),(11,[1,3,5,7,21,22]),(12,[6])]
def L8:List (Nat×List Nat):=[(0,[1,3,5]),(1,[1,3,5,25]),(2,[6]),(3,[1,3,5,7]),(4,[1,3,5,7,8]),(5,[1,3,5,7,8,9]),(6,[1,3,5,7,8,9,31]),(7,[1,3,5,7,8,9]),(8,[1,3,5,7,8,9,40]),(9,[1,3,5,7,8,9,10]),(10,[1,3,5,7,8,9,10]),(11,[1,3,5,7,8,9,53]),(12,[1,3,5,7,8,9]),(13,[6])]
def qO:List (Nat×List Nat):=[(0,[0]),(1,[0,3]),(2,[0,3,4]),(3,[0,3,4,8]),(4,[0,3,4]),(5,[0,3,4,41]),(6,[0,3,4]),(7,[2])]
def cN:List (Nat×List Nat):=[(0,[0,1]),(1,[4])]
def qP:List (Nat×List Nat):=[(0,[0,1]),(1,[0,1,5]),(2,[0,1,5,9]),(3,[0,1,5]),(4,[0,1,5,17]),(5,[4]),(6,[4])]
def Yt:List (Nat×List Nat):=[(0,[0,3]),(1,[0,3,5]),(2,[0,3,5,6]),(3,[0,3,5,6,12]),(4,[0,3,5,6]),(5,[0,3,5,6,7]),(6,[0,3,5,6,7,21]),(7,[0,3,5,6]),(8,[0,5,33]),(9,[5,8]),(10,[5]),(11,[4])]
def ZT:List (Nat×List Nat):=[(0,[0]),(1,[0,3]),(2,[0,3,4]),(3,[0,3,4,10]),(4,[0,3,4]),(5,[0,3,4]),(6,[0,3,4]),(7,[2])]
def UJ:List (Nat×List Nat):=[(0,[0,2]),(1,[0,2,4]),(2,[2]),(3,[2])]
def Zq:List (Nat×List Nat):=[(0,[0,3,4]),(1,[0,3,4,7]),(2,[0,3,4,7,8]),(3,[0,3,4,7,8,9]),(4,[0,3,4,7,8,9,10]),(5,[0,3,4,7,8,9,10,11]),(6,[0,3,4,7,8,9,10,11,45]),(7,[0,3,4,7,8,9,10,11]),(8,[0,3,4,7,8,9,10,11,12]),(9,[0,3,4,7,8,9,10,11,12,13]),(10,[0,3,4,7,8,9,10,11,12,13,14]),(11,[0,3,4,7,8,9,10,11,12,13,14,69]),(12,[0,3,4,7,8,9,10,11,12,13,14]),(13,[0,3,4,7,8,9,10,11,13,14,73]),(14,[0,3,4,7,8,9,10,11]),(15,[0,3,4,7,8,9,10,11,14]),(16,[0,3,4,7,8,9,10,11]),(17,[0,3,4,7,8,9,15]),(18,[0,3,4,7,8,9,15,16]),(19,[0,3,4,7,8,9,15,16,101]),(20,[0,3,4,7,8,9,15,16]),(21,[0,3,4,7,8,9,15,16,17]),(22,[0,3,4,7,8,9,15,16,17,113]),(23,[4,7,9,17]),(24,[4,5,6]),(25,[4,5,6])]
def Z3:List (Nat×List Nat):=[(0,[]),(1,[0])]
def cO:List (Nat×List Nat):=[(0,[0]),(1,[0,3]),(2,[0,3,4]),(3,[0,3,4,9]),(4,[0,3,4]),(5,[0,3,4,5]),(6,[0,3,4,5,27]),(7,[0,3,4,5]),(8,[0,3,4]),(9,[2])]
def UW:List (Nat×List Nat):=[(0,[0,1]),(1,[0,1]),(2,[0,1,15]),(3,[4]),(4,[4])]
def UT:List (Nat×List Nat):=[(0,[0,1]),(1,[0,1,10]),(2,[4]),(3,[0,1,5]),(4,[0,1,5,14]),(5,[0,1,5]),(6,[0,1,5,26]),(7,[4]),(8,[4])]
def Pc:List (Nat×List Nat):=[(0,[1,2]),(1,[1,2,17]),(2,[4]),(3,[1,2,18,19,20]),(4,[1,2,18,19,20,21]),(5,[1,2,6,18,19,20]),(6,[1,2,18,19,20,31]),(7,[4]),(8,[1,2,18,19,20]),(9,[1,2,7]),(10,[1,2,45]),(11,[4]),(12,[4])]
def aN:List (Nat×List Nat):=[(0,[0]),(1,[0])]
def Zg:List (Nat×List Nat):=[(0,[0]),(1,[0])]
def aA:List (Nat×List Nat):=[(0,[0,1,2,3,4,10]),(1,[10])]
def Zt:List (Nat×List Nat):=[(0,[1,2,3]),(1,[1,2,3,7]),(2,[1,2,3,7,11,12,13]),(3,[1,2,3,7,11,12,13,14]),(4,[1,2,3,7,8,9,11,12,13]),(5,[1,2,3,7,8,9,11,12,13,25]),(6,[6]),(7,[1,2,3,7,8,9,10,11,12,13]),(8,[1,2,3,7,10,11,12,13,54]),(9,[6]),(10,[1,2,3,7,11,12,13,56]),(11,[1,2,3,7,11,12,13]),(12,[1,2,3,7,11,12,13]),(13,[1,2,3,7,11,12,13,65]),(14,[6]),(15,[1,2,3,7,11,12,13]),(16,[6])]
def PI:List (Nat×List Nat):=[(0,[1]),(1,[1,9]),(2,[2]),(3,[1,13]),(4,[2]),(5,[1,3]),(6,[1,3,18]),(7,[1,3]),(8,[1,3,27]),(9,[2]),(10,[1,43]),(11,[2]),(12,[1,59]),(13,[2]),(14,[1,4]),(15,[1,4,63]),(16,[2]),(17,[1,4,5]),(18,[1,4,5,68]),(19,[1,4,5]),(20,[1,4,5,79]),(21,[2]),(22,[1,4,5,95]),(23,[2]),(24,[114]),(25,[2]),(26,[2])]
def Y8:List (Nat×List Nat):=[(0,[1]),(1,[2])]
def ZL:List (Nat×List Nat):=[(0,[2,3]),(1,[2,3,5]),(2,[2,3,5,6]),(3,[2,3,5,6,12]),(4,[2,3,5,6]),(5,[2,3,5,6,7]),(6,[2,3,5,6,7,23]),(7,[4]),(8,[2,3,5,6,7,50]),(9,[4]),(10,[2,3,5,6,62]),(11,[2,3,5,6]),(12,[2,3,5,6]),(13,[2,3,5,6,68]),(14,[4]),(15,[4])]
def ZR:List (Nat×List Nat):=[(0,[0,1]),(1,[4])]
def bQ:List (Nat×List Nat):=[(0,[0,1,4]),(1,[0,1,4,5]),(2,[0,1,4,5,6]),(3,[0,1,4,5,6,24]),(4,[0,1,4,5,6]),(5,[0,1,4,5,6]),(6,[0,4,5,7]),(7,[0,4,5,7,53]),(8,[0,4,5,7]),(9,[0,4,5,7,59]),(10,[0,4,5,7]),(11,[0,4,5,7,67]),(12,[0,4,5,7]),(13,[0,4,5,7,75]),(14,[0,4,5,7]),(15,[0,4,5,8]),(16,[0,4,5,8,86]),(17,[0,4,5,8]),(18,[0,4,5,8,90]),(19,[0,4,5,8]),(20,[4])]
def aM:List (Nat×List Nat):=[(0,[0,1,2]),(1,[6])]
def ZY:List (Nat×List Nat):=[(0,[0,2,4,6]),(1,[0,4,6,7,8]),(2,[0,4,6,7,29]),(3,[0,4,6,7]),(4,[6]),(5,[0,4,6,7,42]),(6,[0,4,6,7,9]),(7,[4,6,7,9,10]),(8,[4,6,7,9]),(9,[6,7,9,59]),(10,[6]),(11,[6])]
def Z8:List (Nat×List Nat):=[(0,[2,3]),(1,[4])]
def UR:List (Nat×List Nat):=[(0,[1,3,5]),(1,[6])]
def UU:List (Nat×List Nat):=[(0,[3,4,5]),(1,[3,4,5,7]),(2,[3,4,5,7,8]),(3,[3,4,5,7,8,11]),(4,[3,4,5,7,8,11,12]),(5,[3,4,5,7,8]),(6,[3,4,5,7,8,16]),(7,[3,4,5,7,8]),(8,[3,4,5,7,25]),(9,[6]),(10,[6])]
def Zd:List (Nat×List Nat):=[(0,[0]),(1,[0,3]),(2,[0,3,9,10,11]),(3,[0,3,9,10,11,12]),(4,[0,3,5,9,10,11]),(5,[0,3,9,10,11]),(6,[0,3,9,10,11,20]),(7,[0,3,9,10,11]),(8,[0,3,9,10,11]),(9,[0,6]),(10,[6,25,26,27]),(11,[6,25,26,27,28]),(12,[6,8,25,26,27]),(13,[6,25,26,27]),(14,[6,25,26,27]),(15,[2])]
def aT:List (Nat×List Nat):=[(0,[0]),(1,[0,4]),(2,[2]),(3,[2])]
def bG:List (Nat×List Nat):=[(0,[1,2]),(1,[4])]
def EA:List (Nat×List Nat):=[(0,[3,4,5]),(1,[3,4,5,7]),(2,[3,4,5,7,14]),(3,[6]),(4,[3,4,5,7,21]),(5,[3,5,26]),(6,[6]),(7,[6]),(8,[3,4,5,32]),(9,[6]),(10,[3,4,5,34]),(11,[3,4,5,34,35]),(12,[6]),(13,[3,4,5,34,42]),(14,[6]),(15,[3,4,5,49]),(16,[6]),(17,[5,8]),(18,[5,61]),(19,[6]),(20,[6])]
def aF:List (Nat×List Nat):=[(0,[1,2]),(1,[4])]
def ZQ:List (Nat×List Nat):=[(0,[0]),(1,[0,3]),(2,[0,3,4]),(3,[0,3,4,8]),(4,[0,3,4]),(5,[0,3,4]),(6,[2])]
def bL:List (Nat×List Nat):=[(0,[0,1]),(1,[4])]
def bM:List (Nat×List Nat):=[(0,[1,2,3]),(1,[4])]
def WD:List (Nat×List Nat):=[(0,[1,3,5]),(1,[1,3,5,7]),(2,[1,3,5,7,11]),(3,[1,3,5,7]),(4,[1,3,5,7,22]),(5,[6]),(6,[6])]
def WY:List (Nat×List Nat):=[(0,[1]),(1,[2])]
def jG:List (Nat×List Nat):=[(0,[0,1]),(1,[0,1,5]),(2,[0,1,5,15]),(3,[0,1,5]),(4,[0,1,5,26]),(5,[4]),(6,[0,1,5,35]),(7,[4]),(8,[4])]
def JX:List (Nat×List Nat):=[(0,[0,3,4]),(1,[0,3,4,5]),(2,[0,3,4,5,13]),(3,[0,3,4,5,13,14]),(4,[4,5]),(5,[0,3,4,5,13,19]),(6,[4,5]),(7,[0,3,4,5,29]),(8,[0,3,4,5,6,7]),(9,[0,3,4,5,6,7,42]),(10,[0,3,4,5,6,7]),(11,[0,3,4,5,6,7,8]),(12,[0,3,4,5,6,7,8,55]),(13,[0,3,4,5,6,7,8]),(14,[0,3,4,5,6,7,8]),(15,[0,3,4,5,6,7,8]),(16,[4])]
def Vz:List (Nat×List Nat):=[(0,[1]),(1,[2])]
def NN:List (Nat×List Nat):=[(0,[0,2,4,6]),(1,[0,2,6,7]),(2,[0,6,7,20]),(3,[6,7]),(4,[6])]
def X4:List (Nat×List Nat):=[(0,[1,2,3]),(1,[2,3,7]),(2,[2,3,7,8]),(3,[2,3,7,8,15]),(4,[2,3,7,8]),(5,[2,3,7,8]),(6,[2,3,7,8,36]),(7,[6]),(8,[6])]
def Xn:List (Nat×List Nat):=[(0,[0,1,4]),(1,[0,1,4,8]),(2,[0,1,4]),(3,[0,1,4])]
def XC:List (Nat×List Nat):=[(0,[2,3]),(1,[2,3,5]),(2,[4]),(3,[2,3,14]),(4,[4]),(5,[25]),(6,[4]),(7,[4])]
def XV:List (Nat×List Nat):=[(0,[2,3]),(1,[4])]
def Q9:List (Nat×List Nat):=[(0,[1,2]),(1,[1,2,10]),(2,[4]),(3,[1,2,5]),(4,[1,2,5,14]),(5,[1,2,5]),(6,[1,2,5,30]),(7,[4]),(8,[4])]
def Vo:List (Nat×List Nat):=[(0,[2,3]),(1,[2,3,8]),(2,[4]),(3,[3,5]),(4,[3,5,13]),(5,[4]),(6,[22]),(7,[4]),(8,[4])]
def Yb:List (Nat×List Nat):=[(0,[2,3]),(1,[2,3,12]),(2,[4]),(3,[2,3,17]),(4,[4]),(5,[27]),(6,[4]),(7,[4])]
def Qo:List (Nat×List Nat):=[(0,[1,2]),(1,[2,5]),(2,[2,5,6]),(3,[2,5,6,7]),(4,[2,5,6,7,8]),(5,[2,5,6,7,8,9]),(6,[2,5,6,7,8,9,10]),(7,[7,10]),(8,[7]),(9,[7]),(10,[4])]
def Yj:List (Nat×List Nat):=[(0,[1,2]),(1,[1,2,5]),(2,[1,2,5,6]),(3,[1,2,5,6,13]),(4,[1,2,5,6]),(5,[1,2,5,6,20]),(6,[1,2,5,6,7]),(7,[1,2,5,6,7,8]),(8,[1,2,5,6,7,8,9]),(9,[1,2,5,6,7,8,9,32]),(10,[1,2,5,6,7,8,9]),(11,[1,2,5,6,7,8,9]),(12,[4])]
def XB:List (Nat×List Nat):=[(0,[0,1,2]),(1,[6])]
def Xv:List (Nat×List Nat):=[(0,[1]),(1,[1,3]),(2,[1,3,4]),(3,[1,3,4,14]),(4,[1,3,4]),(5,[1,3,4]),(6,[2])]
def Gl:List (Nat×List Nat):=[(0,[0,4,5,6]),(1,[0,4,5,6,8]),(2,[0,4,5,6,8,19]),(3,[6,14,16]),(4,[6,7]),(5,[0,4,5,6,8,19,29]),(6,[0,4,5,6,9]),(7,[4,6,9,54]),(8,[4,6,9]),(9,[4,6,8]),(10,[0,4,5,6,8,19,63]),(11,[4,6,8]),(12,[0,4,5,6,8,19,78]),(13,[4,6,8]),(14,[0,4,5,6,8,19,83]),(15,[0,4,6,8,10]),(16,[0,4,6,8,10,11]),(17,[0,4,6,8,10,11,88]),(18,[0,4,6,8,10,11]),(19,[0,4,6,8,10,11]),(20,[0,4,6,8,12]),(21,[0,4,6,8]),(22,[4,6,8,13]),(23,[4,6,8]),(24,[0,4,5,6,130]),(25,[4,6,8]),(26,[4,6,17]),(27,[6,7])]
def Xe:List (Nat×List Nat):=[(0,[0,3,5,6,8]),(1,[0,3,5,6,8,9]),(2,[0,3,5,6,8,9,10]),(3,[0,3,5,6,8,9,10,11]),(4,[0,3,5,6,8,9,10,11,32]),(5,[0,3,5,6,8,9,10,11]),(6,[0,3,5,6,8,9,10,11]),(7,[0,3,5,8,9,10,12]),(8,[0,5,8,9,10,12,52]),(9,[0,5,8,9,10,12]),(10,[0,5,8,9,10,12,13]),(11,[0,5,8,9,10,12,13,14]),(12,[0,5,8,9,10,12,13,14,68]),(13,[0,5,8,9,10,12,13,14]),(14,[0,5,8,9,10,12,13,14,15]),(15,[0,5,8,9,10,12,13,14,15,76]),(16,[0,5,8,9,10,12,13,14,15]),(17,[0,5,8,9,10,12,13,14,15,86]),(18,[0,5,8,9,10,12,13,14,15]),(19,[0,5,8,9,10,12,13,14]),(20,[5,8,9,10,12,16]),(21,[5,8,9,10,12,16,106]),(22,[5,8,9,10,12,16]),(23,[5,8,9,10,12,16,122]),(24,[5,8,9,10,12,16]),(25,[5,8,9,10,12,16]),(26,[8])]
def Yf:List (Nat×List Nat):=[(0,[1]),(1,[2])]
def Vi:List (Nat×List Nat):=[(0,[1]),(1,[1,3]),(2,[1,3,8,9,10]),(3,[1,3,8,9,10,11]),(4,[1,3,4,5,8,9,10]),(5,[1,3,4,5,8,9,10,27]),(6,[2]),(7,[1,3,8,9,10]),(8,[1,3,8,9,10]),(9,[2])]
def YY:List (Nat×List Nat):=[(0,[1]),(1,[1,3]),(2,[1,3,10,11,12]),(3,[1,3,10,11,12,13]),(4,[1,3,4,5,10,11,12]),(5,[1,3,4,5,7,10,11,12]),(6,[1,3,4,5,10,11,12,25]),(7,[2]),(8,[1,3,4,5,10,11,12,34]),(9,[1,3,10,11,12]),(10,[1,3,10,11,12]),(11,[2])]
def Vu:List (Nat×List Nat):=[(0,[1]),(1,[1,10,11,12]),(2,[1,10,11,12,13]),(3,[1,4,10,11,12]),(4,[1,4,5,10,11,12]),(5,[1,4,5,10,11,12,19,20,21]),(6,[1,4,5,10,11,12,19,20,21,22]),(7,[1,4,5,6,7,10,11,12,19,20,21]),(8,[1,4,5,7,8,9,10,11,12,19,20,21]),(9,[1,4,5,7,8,9,10,11,12,19,20,21,33]),(10,[2]),(11,[1,4,5,8,9,10,11,12,19,20,21,36]),(12,[1,4,5,10,11,12]),(13,[1,4,5,10,11,12,19,20,21]),(14,[1,10,11,12,58]),(15,[2]),(16,[1,10,11,12]),(17,[2])]
def Wx:List (Nat×List Nat):=[(0,[1]),(1,[1,3]),(2,[1,3,13,14,15]),(3,[1,3,13,14,15,16]),(4,[1,3,5,13,14,15]),(5,[1,3,5,6,7,13,14,15]),(6,[1,3,5,6,7,13,14,15,29,30]),(7,[1,3,5,6,7,13,14,15,29,30,31]),(8,[1,3,5,6,7,8,13,14,15,29,30]),(9,[1,3,5,6,7,8,9,10,13,14,15,29,30]),(10,[1,3,5,6,7,8,13,14,15,29,30,49]),(11,[1,3,5,6,7,8,13,14,15,29,30]),(12,[1,3,5,6,7,8,13,14,15,29,30,60]),(13,[1,3,5,6,7,13,14,15,29,30]),(14,[1,3,5,6,7,13,14,15,29,30]),(15,[1,3,7,13,14,15,68,69,70]),(16,[1,3,7,13,14,15,68,69,70,71]),(17,[1,3,7,12,13,14,15,68,69,70]),(18,[1,3,7,13,14,15,68,69,70]),(19,[1,3,7,13,14,15,68,69,70]),(20,[1,3,13,14,15]),(21,[3]),(22,[2])]
def XU:List (Nat×List Nat):=[(0,[1]),(1,[1,3]),(2,[1,3,13,14,15]),(3,[1,3,13,14,15,16]),(4,[1,3,5,13,14,15]),(5,[1,3,13,14,15]),(6,[1,3,13,14,15]),(7,[3,31]),(8,[2]),(9,[2])]
def Q2:List (Nat×List Nat):=[(0,[1]),(1,[1,5]),(2,[2]),(3,[2])]
def Vw:List (Nat×List Nat):=[(0,[1,2]),(1,[1,2,5]),(2,[1,2,5,6]),(3,[1,2,5,6,17]),(4,[1,2,5,6]),(5,[1,2,5,6,7]),(6,[1,2,5,6,7,21]),(7,[1,2,5,6,7]),(8,[1,2,5,6,7,26]),(9,[1,2,5,6,7,8]),(10,[1,2,5,6,7,8,9]),(11,[1,2,5,6,7,8,9,10]),(12,[1,2,5,6,7,8,9,10,35]),(13,[1,2,5,6,7,8,9,10]),(14,[1,2,5,6,7,8,9,10]),(15,[1,2,5,6,7,8,11]),(16,[1,2,5,6,7,8,11,58]),(17,[1,2,5,6,7,8,12]),(18,[1,2,5,6,7,8,12,13]),(19,[1,2,5,6,7,8,12,13,65]),(20,[1,2,5,6,7,8,12,13]),(21,[1,2,5,6,7,8,12,13,14]),(22,[1,2,5,6,7,8,12,13,14,15]),(23,[1,2,5,6,7,8,12,13,14,15,73]),(24,[1,2,5,6,7,8,12,13,14,15]),(25,[1,2,5,6,7,8,12,13,14,15]),(26,[1,2,5,6,7,8,12,13]),(27,[4])]
def WH:List (Nat×List Nat):=[(0,[0,1]),(1,[0,1,5]),(2,[0,1,5,6]),(3,[0,1,5,6,11]),(4,[0,1,5,6]),(5,[0,1,5,6,30]),(6,[4]),(7,[0,1,5,6,7]),(8,[0,1,5,6,7,36]),(9,[0,1,5,6,7]),(10,[0,1,5,6,7]),(11,[4])]
def NM:List (Nat×List Nat):=[(0,[0,1]),(1,[1,5]),(2,[1,5,17]),(3,[4]),(4,[1,5,6]),(5,[1,5,6,7]),(6,[1,5,6,7,21]),(7,[1,5,6,7]),(8,[1,5,6,7,31]),(9,[1,5,6,7]),(10,[1,5,6,7]),(11,[6,50]),(12,[4]),(13,[4])]
def X5:List (Nat×List Nat):=[(0,[1,2]),(1,[1,2,5]),(2,[1,2,5,15]),(3,[1,2,5]),(4,[1,2,5,22]),(5,[4]),(6,[1,2,6]),(7,[1,2,6,26]),(8,[1,2,6]),(9,[1,2,6,7]),(10,[1,2,6,7,31]),(11,[1,2,6,7]),(12,[1,2,6,7,8,9]),(13,[1,2,6,7,8,9,10,11]),(14,[1,2,6,7,8,9,10,11,65]),(15,[1,2,6,7,74]),(16,[4]),(17,[4])]
def Vr:List (Nat×List Nat):=[(0,[0,1]),(1,[1,5]),(2,[1,5,6]),(3,[1,5,6,13]),(4,[1,5,6]),(5,[1,5,6]),(6,[1,5,6,32]),(7,[4]),(8,[4])]
def YK:List (Nat×List Nat):=[(0,[0]),(1,[2])]
def Vm:List (Nat×List Nat):=[(0,[0]),(1,[0,3]),(2,[0,3,4]),(3,[0,3,4,9]),(4,[0,3,4]),(5,[0,3,4,5]),(6,[0,3,4,5,17]),(7,[0,3,4,5]),(8,[0,3,4,5]),(9,[2])]
def Xi:List (Nat×List Nat):=[(0,[0,1]),(1,[0,1,5]),(2,[0,1,5,9]),(3,[0,1,5]),(4,[0,1,5,17]),(5,[4]),(6,[4])]
def WX:List (Nat×List Nat):=[(0,[0,1]),(1,[0,1,7,8]),(2,[0,1,7,8,9]),(3,[0,1,5,7,8]),(4,[0,1,5,7,8,16]),(5,[4]),(6,[0,1,7,8]),(7,[4])]
def QJ:List (Nat×List Nat):=[(0,[1]),(1,[1,8]),(2,[2]),(3,[1,3]),(4,[3,15,16,17]),(5,[3,15,16,17,18]),(6,[3,5,15,16,17]),(7,[3,15,16,17]),(8,[3,15,16,17]),(9,[2])]
def YA:List (Nat×List Nat):=[(0,[0,2,4]),(1,[0,2,4,7]),(2,[0,2,4,7,8]),(3,[0,2,4,7,8,13]),(4,[0,2,4,7,8]),(5,[0,2,4,7,8,9]),(6,[0,2,4,7,8,28]),(7,[0,2,4,7,8]),(8,[0,2,4,7,8]),(9,[6])]
def MP:List (Nat×List Nat):=[(0,[1,2]),(1,[2,5,6]),(2,[4])]
def ML:List (Nat×List Nat):=[(0,[1,2]),(1,[2,5,6]),(2,[4])]
def KE:List (Nat×List Nat):=[(0,[1,2,3,4,5]),(1,[1,3,4,5,7]),(2,[1,3,4,5,7,15,16,17]),(3,[1,3,4,5,7,15,16,17,18]),(4,[1,3,4,5,7,9,15,16,17]),(5,[1,3,4,5,7,15,16,17]),(6,[1,3,4,5,7,15,16,17]),(7,[1,3,4,7]),(8,[3,4,7]),(9,[3,7]),(10,[3,39,40,41]),(11,[3,39,40,41,42]),(12,[3,11,39,40,41]),(13,[3,39,40,41]),(14,[3,39,40,41])]
def Ed:List (Nat×List Nat):=[(0,[1,2,3,4,5,6,7,8]),(1,[1,2,3,4,5,6,7,8,21]),(2,[1,2,3,4,5,6,7,8]),(3,[1,2,3,4,5,6,7,8,27]),(4,[3,4,28]),(5,[]),(6,[1,2,4,6,7,8,9]),(7,[1,2,4,6,7,8,9,10]),(8,[1,2,4,6,7,8,9,10,48]),(9,[1,2,6,7,8,9,10]),(10,[1,2,6,7,8,9,10,68]),(11,[1,2,6,7,8,9,10]),(12,[1,2,6,7,8,9,10]),(13,[1,6,7,8,9,10]),(14,[1,6,7,8,9,82]),(15,[1,6,7,8,9]),(16,[6,8,9,106]),(17,[])]
def Q4:List (Nat×List Nat):=[(0,[0]),(1,[3]),(2,[3]),(3,[2])]
def J6:List (Nat×List Nat):=[(0,[])]
def WE:List (Nat×List Nat):=[(0,[0,1,4]),(1,[])]
def Xt:List (Nat×List Nat):=[(0,[1,2]),(1,[1,2,5]),(2,[1,2,5,22]),(3,[1,2,5]),(4,[1,2,5,28]),(5,[4]),(6,[1,2,5,6]),(7,[1,2,5,6,36]),(8,[1,2,6]),(9,[1,2,6,7]),(10,[1,2,6,7,8]),(11,[1,2,6,7,8,45]),(12,[1,2,6,7,8]),(13,[1,2,6,7,8,9]),(14,[1,2,6,7,8,9,56]),(15,[1,2,6,7,8,10]),(16,[1,2,6,7,8,10,11]),(17,[1,2,6,7,8,10,11,63]),(18,[1,2,6,7,8,10,11]),(19,[1,2,6,7,8,10,11]),(20,[4])]
def Yi:List (Nat×List Nat):=[(0,[0,1]),(1,[0,1,5]),(2,[0,1,5,19]),(3,[0,1,5]),(4,[0,1,5,33]),(5,[4]),(6,[4])]
def Vp:List (Nat×List Nat):=[(0,[0,3]),(1,[0,3,5]),(2,[0,3,5,20]),(3,[0,3,5]),(4,[4])]
def WT:List (Nat×List Nat):=[(0,[0,3]),(1,[0,3,5]),(2,[0,3,5,6]),(3,[0,3,5,6,7]),(4,[0,3,5,6,7,8]),(5,[0,3,5,6,7,8,18]),(6,[0,3,5,6,7,8]),(7,[0,3,5,6,7,8,9]),(8,[0,3,5,6,7,8,9,27]),(9,[0,3,5,6,7,8,9]),(10,[0,3,5,6,7,8,9,36]),(11,[0,3,5,6,7,8,9]),(12,[0,3,5,6,7,8,9]),(13,[0,3,6,7,46]),(14,[0,3,6,7]),(15,[0,3,6,7]),(16,[0,6,10]),(17,[0,6,10,60]),(18,[0,6,10,11]),(19,[0,6,10]),(20,[4])]
def Wv:List (Nat×List Nat):=[(0,[1,2]),(1,[1,5]),(2,[5]),(3,[4])]
def Xk:List (Nat×List Nat):=[(0,[]),(1,[0])]
def YH:List (Nat×List Nat):=[(0,[0]),(1,[0,3]),(2,[3,6,7,8]),(3,[3,6,7,8,9]),(4,[3,4,5,6,7,8]),(5,[3,6,7,8]),(6,[3,6,7,8]),(7,[2])]
def Mg:List (Nat×List Nat):=[(0,[1,2]),(1,[1,2,23]),(2,[4,5]),(3,[2,6]),(4,[2,6,7]),(5,[2,6,7,29]),(6,[2,6,7]),(7,[2,6,7,38]),(8,[4,5]),(9,[2,6,7]),(10,[2,6,51]),(11,[4,5]),(12,[2,6]),(13,[2,6,60]),(14,[4,5]),(15,[4,5])]
def Xb:List (Nat×List Nat):=[(0,[0,1,2,3,4,10]),(1,[0,1,2,3,4,10,11]),(2,[0,1,2,3,4,10,11,12]),(3,[0,1,2,3,4,10,11,12,25]),(4,[]),(5,[0,1,2,3,4,10,11,12,32]),(6,[]),(7,[0,1,2,3,4,10,11,12,39]),(8,[0,1,2,3,4,10,11,12]),(9,[0,1,2,3,4,10,11,12]),(10,[0,1,2,3,4,10,11,12,13,14]),(11,[0,1,2,3,4,10,11,12,13,14,56]),(12,[0,1,2,3,4,10,11,12,13]),(13,[0,1,2,3,4,10,11,12,13]),(14,[0,1,2,3,4,10,11,12,13,14]),(15,[0,1,2,3,4,10,11,12,13,75]),(16,[0,1,2,3,4,10,11,12,13,80]),(17,[0,1,2,3,4,10,11,12,13,97]),(18,[0,2,3,4,10,11,15]),(19,[0,1,2,3,4,10,11]),(20,[0,1,2,3,4,12,16,17]),(21,[0,1,2,3,4,11,12,16]),(22,[0,1,2,3,4,11,12,16,18,19]),(23,[0,1,2,3,4,11,16,18,19,20]),(24,[0,1,2,3,4,11,16,18,19,20,125]),(25,[0,1,2,3,4,10,11,16]),(26,[0,2,3,4,10,11,16]),(27,[0,1,2,3,4,10,11]),(28,[0,1,2,3,4,10,11,16]),(29,[0,1,3,4,10,11,16]),(30,[0,1,2,3,4,10,11])]
def WQ:List (Nat×List Nat):=[(0,[0,1]),(1,[0,1,5]),(2,[0,1,5,15]),(3,[0,1,5]),(4,[0,1,5,28]),(5,[4]),(6,[0,1,5,50]),(7,[4]),(8,[4])]
def YN:List (Nat×List Nat):=[(0,[0,1,2,3,8]),(1,[0,1,2,3,8,14]),(2,[0,1,2,3,8]),(3,[0,1,2,3,8,9]),(4,[0,1,2,3,8,9,34]),(5,[0,1,2,3,8,9]),(6,[0,1,2,3,8,9])]
end Go.Proofs.YthblfhgofopcaaaGreat

namespace Go.Proofs.YthblfhgofopcaaaGreat
open Go.RowKit
def Own (w0 w:World) (v:Value) (os:List Int):Prop:=w.ownsRow w0.heap.size 3 1 v os.length (Ke os)
theorem Own.nil (w0 w:World):Own w0 w (.slice none 0 0) []:=World.ownsRow_nil _ _ _ _
theorem Own.is {w0 w:World} {v:Value} {os:List Int} (h:Own w0 w v os):BO w v os:=BO.of_own h
theorem Own.block {w0 w:World} {v:Value} {os:List Int} (h:Own w0 w v os):∀k,v.ownBlock=some k→w0.heap.size≤k:=fun k hk=>(World.ownsRow.lt h k hk).1
def Ei (w:World) (g:Nat) (e:TypeId) (xs:List Value):Prop:=w.heap[g]? =some (.cells xs.toArray e (0,0))
section
variable {w w' :World} {g:Nat} {e:TypeId} {xs:List Value}
theorem Ei.lt (h:Ei w g e xs):g<w.heap.size:=lt_of_block h
theorem Ei.cell (h:Ei w g e xs) (i:Nat):w.cell? ⟨g,i,none⟩=xs[i]? :=by rw [cell_of_row w g i xs.toArray e (0,0) h];simp
theorem Ei.free (h:Ei w g e xs) (i:Nat):w.frozen? ⟨g,i,none⟩=false:=frozen_of_row w g i xs.toArray e h
theorem Ei.grow (h:Ei w g e xs) (k:Aw w w'):Ei w' g e xs:=k.blk_some h
theorem Ei.drewN (h:Ei w g e xs) (n:Nat):Ei (w.drewN n) g e xs:=h
theorem Ei.set (h:Ei w g e xs) (i:Nat) (u:Value):Ei (w.setCell ⟨g,i,none⟩ u) g e (xs.set i u):=by
 unfold Ei at h ⊢;rw [heap_setCell_same w g i xs.toArray e u h];simp
theorem Ei.far (h:Ei w g e xs) {p:Addr} (hp:g≠p.block) (u:Value):Ei (w.setCell p u) g e xs:=(Below.heap_setCell w p u g hp).trans h
theorem Ei.is {zs:List Int} (h:Ei w g e (Ke zs)) (hl:zs.length≤maxLen):BO w (.slice (some ⟨g,0,none⟩) zs.length zs.length) zs :=
 ⟨_,_,rfl,Nat.le_refl _,hl,fun i u hu=>⟨_,rfl,h.lt,by rw [show (⟨g,0,none⟩:Addr).add i=⟨g,i,none⟩ from by unfold Addr.add;split<;>simp_all];rw [h.cell];exact hu⟩⟩
end
structure AL where
 pl:Int
 su:List Int
 wi:Int
 dr:Int
 fl:Int
 co:Int
 me:Int
 de:Int
 re:List Int
abbrev HL (s:AL) (a b:Value):List Value:=[.int .i64 s.pl,a, .int .i64 s.wi, .int .i64 s.dr, .int .i64 s.fl, .int .i64 s.co, .int .i64 s.me, .int .i64 s.de,b]
def F5 (w:World) (v:Value) (s:AL):Prop:=∃a b,v= .agg #[.int .i64 s.pl,a, .int .i64 s.wi, .int .i64 s.dr, .int .i64 s.fl, .int .i64 s.co, .int .i64 s.me, .int .i64 s.de,b]∧BO w a s.su∧BO w b s.re
theorem F5.grow {w w' :World} {v:Value} {s:AL} (h:F5 w v s) (g:Aw w w'):F5 w' v s:=by
 obtain ⟨a,b,e,h1,h2⟩:=h;exact ⟨a,b,e,h1.grow g,h2.grow g⟩
theorem F5.open_ {w:World} {v:Value} {s:AL} (h:F5 w v s):∃A c B d,v= .agg #[.int .i64 s.pl, .slice A s.su.length c, .int .i64 s.wi, .int .i64 s.dr, .int .i64 s.fl, .int .i64 s.co, .int .i64 s.me, .int .i64 s.de, .slice B s.re.length d]∧BO w (.slice A s.su.length c) s.su∧BO w (.slice B s.re.length d) s.re:=by
 obtain ⟨a,b,e,h1,h2⟩:=h;obtain ⟨A,c,rfl,_⟩:=id h1;obtain ⟨B,d,rfl,_⟩:=id h2;exact ⟨A,c,B,d,e,h1,h2⟩
def Bl (many:Int):Int→List Int→Int
 | _,[]=>0
 | p,k::l=>if k<0∨many≤k then 2 else if k≤p then 11 else Bl many k l
def Aj:List Int→Int
 | []=>0
 | x::l=>x+Aj l
def HD (n:Int):Bool:=decide (n<1) || decide (9<n)
def AQ (s:AL):Int:=s.wi+s.dr+Aj s.su
def GD (s:AL):Bool:=(decide (s.wi<0) || decide (4<s.wi)) || (decide (s.dr<0) || decide (3<s.dr)) || (decide (s.fl<0) || decide (8<s.fl)) || (decide (s.co<1) || decide (4<s.co)) || (decide (s.me<1) || decide (4<s.me)) || (decide (s.de<0) || decide (20<s.de))
def AP (s:AL):Int :=
 if s.pl<3∨4<s.pl then 2
 else if 3<s.su.length then 8
 else if s.su.any HD=true then 2
 else if GD s=true then 2
 else if AQ s=0 then 6
 else if Bl (AQ s) (-1) s.re≠0 then Bl (AQ s) (-1) s.re
 else if AQ s*s.co+s.fl≤s.pl*(3*s.me+1)+s.de then 6
 else 0
def OF (w:World) (v:Value) (e:Ending) (w' :World):Prop:=e= .returned v∧Aw w w'
theorem In (x:Int) (l:List Int):Aj (x::l)=x+Aj l:=rfl
theorem R5 (l m:List Int):Aj (l++m)=Aj l+Aj m:=by
 induction l with
 | nil=>simp [Aj]
 | cons x l ih=>rw [List.cons_append,In,In,ih];omega
theorem Fi (l:List Int) {k:Nat} (h:k<l.length):Aj (l.take (k+1))=Aj (l.take k)+l[k]:=by
 rw [List.take_succ_eq_append_getElem h,R5];simp [Aj]
theorem Ek {l:List Int} (h:∀z∈l,1≤z∧z≤9):(l.length:Int)≤Aj l∧Aj l≤9*(l.length:Int):=by
 induction l with
 | nil=>simp [Aj]
 | cons x l ih =>
  have h1:=ih fun z hz=>h z (by simp [hz])
  have h2:=h x (by simp);rw [In,List.length_cons];omega
theorem LY {many p:Int} {l:List Int} {k:Nat} (h:k<l.length):Bl many p (l.drop k)=if l[k]<0∨many≤l[k] then 2 else if l[k]≤p then 11 else Bl many l[k] (l.drop (k+1)):=by
 rw [List.drop_eq_getElem_cons h];rfl
theorem SY {n:Int} (h:HD n=false):1≤n∧n≤9:=by
 unfold HD at h;simp at h;omega
theorem Nj {l:List Int} (h:l.any HD=false):∀z∈l,1≤z∧z≤9:=fun z hz=>SY (by
 have:=List.any_eq_false.1 h z hz
 simpa using this)
theorem Tr {n:Int} (h0: -9223372036854775808≤n) (h1:n≤9223372036854775807):wrap64 n=n:=by
 unfold wrap64;omega
def Gz (s:AL) (k:Nat) (z:Int):Prop:=0≤s.wi∧s.wi≤4∧0≤s.dr∧s.dr≤3→z=s.wi+s.dr+Aj (s.su.take k)
theorem Gz.start (s:AL):Gz s 0 (wrap64 (s.wi+s.dr)):=fun h=>by
 rw [Tr (by omega) (by omega)];simp [Aj]
theorem Gz.step {s:AL} {k:Nat} {z:Int} (h:Gz s k z) (hk:k<s.su.length) (h3:s.su.length≤3) (hs:∀j (hj:j<s.su.length),j<k+1→1≤s.su[j]∧s.su[j]≤9):Gz s (k+1) (wrap64 (z+s.su[k])):=fun hw=>by
 have h1:=h hw;have h2:=Ek (l:=s.su.take k) fun z hz=>by
  obtain ⟨j,hj,rfl⟩:=List.getElem_of_mem hz;rw [List.length_take] at hj;rw [List.getElem_take];exact hs j (by omega) (by omega)
 rw [List.length_take] at h2;have h4:=hs k hk (by omega);rw [Fi _ hk,Tr (by omega) (by omega)];omega
def DS (s:AL) (k:Nat):Prop:=(0<k→0≤s.wi∧s.wi≤4)∧(1<k→0≤s.dr∧s.dr≤3)∧(2<k→0≤s.fl∧s.fl≤8)∧(3<k→1≤s.co∧s.co≤4)∧(4<k→1≤s.me∧s.me≤4)∧(5<k→0≤s.de∧s.de≤20)
theorem Qd {s:AL} (h:DS s 6):GD s=false:=by
 obtain ⟨h1,h2,h3,h4,h5,h6⟩:=h;unfold GD;simp;omega
theorem TL {s:AL} (h:GD s=false):DS s 6:=by
 unfold GD at h;simp at h;unfold DS;omega
theorem Bq {s:AL} (h:s.wi<0∨4<s.wi∨s.dr<0∨3<s.dr∨s.fl<0∨8<s.fl∨s.co<1∨4<s.co∨s.me<1∨4<s.me∨s.de<0∨20<s.de):GD s=true:=by
 unfold GD;simp;omega
structure Ov (s:AL):Prop where
 pl:3≤s.pl∧s.pl≤4
 su3:s.su.length≤3
 su:∀z∈s.su,1≤z∧z≤9
 wi:0≤s.wi∧s.wi≤4
 dr:0≤s.dr∧s.dr≤3
 fl:0≤s.fl∧s.fl≤8
 co:1≤s.co∧s.co≤4
 me:1≤s.me∧s.me≤4
 de:0≤s.de∧s.de≤20
 plain:1≤AQ s∧AQ s≤34
 re:Bl (AQ s) (-1) s.re=0
 full:s.pl*(3*s.me+1)+s.de<AQ s*s.co+s.fl
theorem II {s:AL} (h3:s.su.length≤3) (hs:∀z∈s.su,1≤z∧z≤9) (hw:0≤s.wi∧s.wi≤4) (hd:0≤s.dr∧s.dr≤3):0≤AQ s∧AQ s≤34:=by
 have h:=Ek hs;unfold AQ;omega
theorem AU {s:AL} (h:AP s=0):Ov s:=by
 unfold AP at h;by_cases b1:s.pl<3∨4<s.pl
 ·rw [if_pos b1] at h;omega
 rw [if_neg b1] at h;by_cases b2:3<s.su.length
 ·rw [if_pos b2] at h;omega
 rw [if_neg b2] at h;by_cases b3:s.su.any HD=true
 ·rw [if_pos b3] at h;omega
 rw [if_neg b3] at h;by_cases b4:GD s=true
 ·rw [if_pos b4] at h;omega
 rw [if_neg b4] at h;by_cases b5:AQ s=0
 ·rw [if_pos b5] at h;omega
 rw [if_neg b5] at h;by_cases b6:Bl (AQ s) (-1) s.re≠0
 ·rw [if_pos b6] at h;exact absurd h b6
 rw [if_neg b6] at h;by_cases b7:AQ s*s.co+s.fl≤s.pl*(3*s.me+1)+s.de
 ·rw [if_pos b7] at h;omega
 obtain ⟨h1,h2,h3,h4,h5,h6⟩:=TL (by simpa using b4);have hs:=Nj (by simpa using b3);have hp:=II (by omega) hs (h1 (by omega)) (h2 (by omega));exact ⟨by omega,by omega,hs,h1 (by omega),h2 (by omega),h3 (by omega),h4 (by omega),h5 (by omega),h6 (by omega),by omega,by omega,by omega⟩
theorem Pi {p c:Int} (hp:0≤p∧p≤34) (hc:1≤c∧c≤4):0≤p*c∧p*c≤136 :=
 ⟨Int.mul_nonneg hp.1 (by omega),by have:=Int.mul_le_mul hp.2 hc.2 (by omega) (by omega);omega⟩
theorem Wq {p m:Int} (hp:3≤p∧p≤4) (hm:1≤m∧m≤4):0≤p*(3*m+1)∧p*(3*m+1)≤52 :=
 ⟨Int.mul_nonneg (by omega) (by omega),by have:=Int.mul_le_mul hp.2 (show 3*m+1≤13 by omega) (by omega) (by omega);omega⟩
theorem X3 {w:World} {o:Obj} {g:Nat} {old cs:Array Value} {t:TypeId} (hg:g=w.heap.size) (_ho:(w.alloc o).heap[g]? =some (.cells old t (0,0))) (_hs:old.size=cs.size):Aw w ((w.alloc o).setRow g cs):=by
 subst hg;exact ⟨rfl,rfl,rfl,by simp,fun k hk=>(setRow_other _ _ _ _ (by omega)).trans (Below.heap_alloc w o k hk)⟩
set_option maxRecDepth 100000 in
set_option maxHeartbeats 4000000 in
theorem Ou (v:Value) (s:AL) (w:World) (h:F5 w v s):Calls Tryz.prog 76 #[v] w (OF w (.int .i64 (AP s))):=by
 have hfin:∀r wf,AP s=r→Aw w wf→OF w (.int .i64 (AP s)) (.returned (.int .i64 r)) wf:=fun r wf h hg=>⟨by rw [h],hg⟩
 have HF:=BP hfin;obtain ⟨A,c,B,d,rfl,h1,h2⟩:=h.open_;obtain ⟨_,_,e1,c1,m1,r1⟩:=h1;obtain ⟨_,_,e2,d1,m2,r2⟩:=h2;injection e1 with e1 _ e1'
 injection e2 with e2 _ e2'
 subst e1 e1' e2 e2';unfold maxLen at m1 m2;have g0:Aw w (w.alloc (.cells #[.int .i64 s.pl, .slice A s.su.length c, .int .i64 s.wi, .int .i64 s.dr, .int .i64 s.fl, .int .i64 s.co, .int .i64 s.me, .int .i64 s.de, .slice B s.re.length d] 24)):=(Aw.refl w).alloc _;clear hfin h;by_cases b1:s.pl<3∨4<s.pl
 ·have HE:=BP (show AP s=2 by unfold AP;rw [if_pos b1]);rcases b1 with b1 | b1
  ·go_enter Tryz.func76,Tryz.ntmps76;go_wp2;go_ret;exact HF.out _ _ HE.out g0
  ·have b0:¬s.pl<3:=by omega
   go_enter Tryz.func76,Tryz.ntmps76;go_wp2;go_ret;exact HF.out _ _ HE.out g0
 have p0:¬s.pl<3:=by omega
 have p1:¬4<s.pl:=by omega
 by_cases b2:3<s.su.length
 ·have HE:=BP (show AP s=8 by unfold AP;rw [if_neg b1,if_pos b2]);have b3:(3:Int)<(s.su.length:Int):=by omega
  clear b1;go_enter Tryz.func76,Tryz.ntmps76;go_wp2;go_ret;exact HF.out _ _ HE.out g0
 have b3:¬(3:Int)<(s.su.length:Int):=by omega
 have HE1:=BP (fun (k:Nat) (hk:k<s.su.length) (hb:HD s.su[k]=true)=>(show AP s=2 by
  unfold AP
  rw [if_neg b1,if_neg b2,if_pos (List.any_eq_true.2 ⟨s.su[k],List.getElem_mem hk,hb⟩)]))
 have HE2:=BP (fun (hs:∀z∈s.su,1≤z∧z≤9)=>(show AP s=if GD s=true then 2 else if AQ s=0 then 6 else if Bl (AQ s) (-1) s.re≠0 then Bl (AQ s) (-1) s.re
   else if AQ s*s.co+s.fl≤s.pl*(3*s.me+1)+s.de then 6 else 0 by
  unfold AP
  rw [if_neg b1,if_neg b2,if_neg]
  intro hb
  obtain ⟨z,hz,hb⟩:=List.any_eq_true.1 hb
  have:=hs z hz
  unfold HD at hb
  simp at hb
  omega))
 clear b1;go_enter Tryz.func76,Tryz.ntmps76;go_wp2;go_loop [3,32] (fun z i=>∃(k:Nat) (x:Int),k≤s.su.length∧i= .int .i64 (k:Int)∧z= .int .i64 x∧Gz s k x∧∀j (hj:j<s.su.length),j<k→1≤s.su[j]∧s.su[j]≤9) (fun _ i=>s.su.length-(intOf i).toNat);case atStart=>exact ⟨0,_,Nat.zero_le _,rfl,rfl,Gz.start s,by simp⟩
 case round =>
  obtain ⟨k,x,hk,rfl,rfl,hsum,hall⟩:=hrel;have HS:=BP hsum;have HA:=BP hall;clear hsum hall;by_cases hlt:k<s.su.length
  ·obtain ⟨ad,rfl,_,hx⟩:=(r1.grow g0).int hlt;have i0:(0:Int)≤(k:Int):=by omega
   have i1:(k:Int)<(s.su.length:Int):=by omega
   by_cases hlo:s.su[k]<1
   ·have HE:=BP (HE1.out k hlt (by unfold HD;simp;omega));go_wp2;go_ret;exact HF.out _ _ HE.out g0
   ·by_cases hhi:9<s.su[k]
    ·have HE:=BP (HE1.out k hlt (by unfold HD;simp;omega));go_wp2;go_ret;exact HF.out _ _ HE.out g0
    ·have hall' :∀j (hj:j<s.su.length),j<k+1→1≤s.su[j]∧s.su[j]≤9:=fun j hj hjk=>by
      by_cases e:j=k
      ·subst e;omega
      ·exact HA.out j hj (by omega)
     have HA2:=BP hall';have HS2:=BP (HS.out.step hlt (by omega) hall');clear hall';go_wp2;exact ⟨⟨k+1,_,by omega,by go_num,rfl,HS2.out,HA2.out⟩,by simp only [intOf];omega⟩
  ·obtain rfl:k=s.su.length:=by omega
   have hw:∀z∈s.su,1≤z∧z≤9:=fun z hz=>by
    obtain ⟨j,hj,rfl⟩:=List.getElem_of_mem hz;exact HA.out j hj hj
   have HE3:=BP (HE2.out hw);have HP:=BP (fun (h:DS s 6)=>II (s:=s) (by omega) hw (h.1 (by omega)) (h.2.1 (by omega)));have HX:=BP (fun (h:DS s 6)=>(show x=AQ s by
    have h1:=h.1 (by omega)
    have h2:=h.2.1 (by omega)
    have:=HS.out ⟨h1.1,h1.2,h2.1,h2.2⟩
    rwa [List.take_length] at this))
   clear hw;have b0:Ei (w.alloc (.cells #[.int .i64 s.pl, .slice A s.su.length c, .int .i64 s.wi, .int .i64 s.dr, .int .i64 s.fl, .int .i64 s.co, .int .i64 s.me, .int .i64 s.de, .slice B s.re.length d] 24)) w.heap.size 24 (HL s (.slice A s.su.length c) (.slice B s.re.length d)):=heap_alloc_new w _;have HG0:=BP g0;have HB0:=BP b0;clear b0 g0;go_wp2_with (first
    | (refine wpList_store_row (by rfl) 139 (.tmp 6) (.tmp 64) (by rfl) (w.heap.size+1) #[.int .i64 s.wi, .int .i64 0, .int .i64 4, .int .i64 s.dr, .int .i64 0, .int .i64 3, .int .i64 s.fl, .int .i64 0, .int .i64 8, .int .i64 s.co, .int .i64 1, .int .i64 4, .int .i64 s.me, .int .i64 1, .int .i64 4, .int .i64 s.de, .int .i64 0, .int .i64 20] (by rfl) (by rfl) 139 _ (heap_alloc2_new _ _ _) (by kernel_rfl) (by rfl) (by simp [Value.oneCell']) ?_
       generalize hW2:World.setRow _ _ _=W2 at *
       have hgr:Aw (w.alloc (.cells #[.int .i64 s.pl, .slice A s.su.length c, .int .i64 s.wi, .int .i64 s.dr, .int .i64 s.fl, .int .i64 s.co, .int .i64 s.me, .int .i64 s.de, .slice B s.re.length d] 24)) W2:=by
        rw [←hW2]
        exact X3 (by simp) (heap_alloc2_new _ _ _) (by rfl)
       have HT1:=BP (show W2.heap[w.heap.size+1]? =some (.cells #[.int .i64 s.wi, .int .i64 0, .int .i64 4, .int .i64 s.dr, .int .i64 0, .int .i64 3, .int .i64 s.fl, .int .i64 0, .int .i64 8, .int .i64 s.co, .int .i64 1, .int .i64 4, .int .i64 s.me, .int .i64 1, .int .i64 4, .int .i64 s.de, .int .i64 0, .int .i64 20] 139 (0,0)) by
        rw [←hW2]
        exact setRow_heap _ _ _ _ _ _ (heap_alloc2_new _ _ _))
       have HG1:=BP (HG0.out.trans hgr)
       have HB1:=BP (HB0.out.grow hgr)
       clear hW2 hgr)
    | (refine wpList_load_row (by rfl) 139 (.tmp 6) (by rfl) (w.heap.size+1) (by rfl) 139 #[.int .i64 s.wi, .int .i64 0, .int .i64 4, .int .i64 s.dr, .int .i64 0, .int .i64 3, .int .i64 s.fl, .int .i64 0, .int .i64 8, .int .i64 s.co, .int .i64 1, .int .i64 4, .int .i64 s.me, .int .i64 1, .int .i64 4, .int .i64 s.de, .int .i64 0, .int .i64 20] (0,0) (.array 6 138) HT1.out Tryz.underlying139 rfl (by kernel_rfl) ?_))
   go_loopw [66] (fun i wr=>∃k:Nat,k≤6∧i= .int .i64 (k:Int)∧DS s k∧Ei wr w.heap.size 24 (HL s (.slice A s.su.length c) (.slice B s.re.length d))∧Aw w wr) (fun i _=>6-(intOf i).toNat);case atStart=>exact ⟨0,by omega,rfl,by unfold DS;omega,HB1.out,HG1.out⟩
   case round =>
    obtain ⟨k,hk,rfl,hrows,hb,hg⟩:=hrel;have HR:=BP hrows;have GA:=BP (fun o=>hg.alloc o);have BA:=BP (fun o=>hb.grow ((Aw.refl wr).alloc o));rcases (show k=0∨k=1∨k=2∨k=3∨k=4∨k=5∨k=6 by omega) with rfl | rfl | rfl | rfl | rfl | rfl | rfl
    ·as_aux_lemma =>
      have ix:∀w,(Instr.index 139 (.agg #[.int .i64 s.wi, .int .i64 0, .int .i64 4, .int .i64 s.dr, .int .i64 0, .int .i64 3, .int .i64 s.fl, .int .i64 0, .int .i64 8, .int .i64 s.co, .int .i64 1, .int .i64 4, .int .i64 s.me, .int .i64 1, .int .i64 4, .int .i64 s.de, .int .i64 0, .int .i64 20]) (.int .i64 0)).run Tryz.prog w= .ok (.agg #[.int .i64 s.wi, .int .i64 0, .int .i64 4]) w:=fun _=>by kernel_rfl
      by_cases q1:s.wi<0
      ·have HE:=BP (HE3.out.trans (if_pos (Bq (by omega))));clear hrows;go_wp2;go_ret;exact HF.out _ _ HE.out (GA.out _)
      ·by_cases q2:4<s.wi
       ·have HE:=BP (HE3.out.trans (if_pos (Bq (by omega))));clear hrows;go_wp2;go_ret;exact HF.out _ _ HE.out (GA.out _)
       ·have HR2:=BP (show DS s 1 by unfold DS at hrows ⊢;omega);clear hrows;go_wp2;exact ⟨⟨1,by omega,by go_num,HR2.out,BA.out _,GA.out _⟩,by simp only [intOf];omega⟩
    ·as_aux_lemma =>
      have ix:∀w,(Instr.index 139 (.agg #[.int .i64 s.wi, .int .i64 0, .int .i64 4, .int .i64 s.dr, .int .i64 0, .int .i64 3, .int .i64 s.fl, .int .i64 0, .int .i64 8, .int .i64 s.co, .int .i64 1, .int .i64 4, .int .i64 s.me, .int .i64 1, .int .i64 4, .int .i64 s.de, .int .i64 0, .int .i64 20]) (.int .i64 1)).run Tryz.prog w= .ok (.agg #[.int .i64 s.dr, .int .i64 0, .int .i64 3]) w:=fun _=>by kernel_rfl
      by_cases q1:s.dr<0
      ·have HE:=BP (HE3.out.trans (if_pos (Bq (by omega))));clear hrows;go_wp2;go_ret;exact HF.out _ _ HE.out (GA.out _)
      ·by_cases q2:3<s.dr
       ·have HE:=BP (HE3.out.trans (if_pos (Bq (by omega))));clear hrows;go_wp2;go_ret;exact HF.out _ _ HE.out (GA.out _)
       ·have HR2:=BP (show DS s 2 by unfold DS at hrows ⊢;omega);clear hrows;go_wp2;exact ⟨⟨2,by omega,by go_num,HR2.out,BA.out _,GA.out _⟩,by simp only [intOf];omega⟩
    ·as_aux_lemma =>
      have ix:∀w,(Instr.index 139 (.agg #[.int .i64 s.wi, .int .i64 0, .int .i64 4, .int .i64 s.dr, .int .i64 0, .int .i64 3, .int .i64 s.fl, .int .i64 0, .int .i64 8, .int .i64 s.co, .int .i64 1, .int .i64 4, .int .i64 s.me, .int .i64 1, .int .i64 4, .int .i64 s.de, .int .i64 0, .int .i64 20]) (.int .i64 2)).run Tryz.prog w= .ok (.agg #[.int .i64 s.fl, .int .i64 0, .int .i64 8]) w:=fun _=>by kernel_rfl
      by_cases q1:s.fl<0
      ·have HE:=BP (HE3.out.trans (if_pos (Bq (by omega))));clear hrows;go_wp2;go_ret;exact HF.out _ _ HE.out (GA.out _)
      ·by_cases q2:8<s.fl
       ·have HE:=BP (HE3.out.trans (if_pos (Bq (by omega))));clear hrows;go_wp2;go_ret;exact HF.out _ _ HE.out (GA.out _)
       ·have HR2:=BP (show DS s 3 by unfold DS at hrows ⊢;omega);clear hrows;go_wp2;exact ⟨⟨3,by omega,by go_num,HR2.out,BA.out _,GA.out _⟩,by simp only [intOf];omega⟩
    ·as_aux_lemma =>
      have ix:∀w,(Instr.index 139 (.agg #[.int .i64 s.wi, .int .i64 0, .int .i64 4, .int .i64 s.dr, .int .i64 0, .int .i64 3, .int .i64 s.fl, .int .i64 0, .int .i64 8, .int .i64 s.co, .int .i64 1, .int .i64 4, .int .i64 s.me, .int .i64 1, .int .i64 4, .int .i64 s.de, .int .i64 0, .int .i64 20]) (.int .i64 3)).run Tryz.prog w= .ok (.agg #[.int .i64 s.co, .int .i64 1, .int .i64 4]) w:=fun _=>by kernel_rfl
      by_cases q1:s.co<1
      ·have HE:=BP (HE3.out.trans (if_pos (Bq (by omega))));clear hrows;go_wp2;go_ret;exact HF.out _ _ HE.out (GA.out _)
      ·by_cases q2:4<s.co
       ·have HE:=BP (HE3.out.trans (if_pos (Bq (by omega))));clear hrows;go_wp2;go_ret;exact HF.out _ _ HE.out (GA.out _)
       ·have HR2:=BP (show DS s 4 by unfold DS at hrows ⊢;omega);clear hrows;go_wp2;exact ⟨⟨4,by omega,by go_num,HR2.out,BA.out _,GA.out _⟩,by simp only [intOf];omega⟩
    ·as_aux_lemma =>
      have ix:∀w,(Instr.index 139 (.agg #[.int .i64 s.wi, .int .i64 0, .int .i64 4, .int .i64 s.dr, .int .i64 0, .int .i64 3, .int .i64 s.fl, .int .i64 0, .int .i64 8, .int .i64 s.co, .int .i64 1, .int .i64 4, .int .i64 s.me, .int .i64 1, .int .i64 4, .int .i64 s.de, .int .i64 0, .int .i64 20]) (.int .i64 4)).run Tryz.prog w= .ok (.agg #[.int .i64 s.me, .int .i64 1, .int .i64 4]) w:=fun _=>by kernel_rfl
      by_cases q1:s.me<1
      ·have HE:=BP (HE3.out.trans (if_pos (Bq (by omega))));clear hrows;go_wp2;go_ret;exact HF.out _ _ HE.out (GA.out _)
      ·by_cases q2:4<s.me
       ·have HE:=BP (HE3.out.trans (if_pos (Bq (by omega))));clear hrows;go_wp2;go_ret;exact HF.out _ _ HE.out (GA.out _)
       ·have HR2:=BP (show DS s 5 by unfold DS at hrows ⊢;omega);clear hrows;go_wp2;exact ⟨⟨5,by omega,by go_num,HR2.out,BA.out _,GA.out _⟩,by simp only [intOf];omega⟩
    ·as_aux_lemma =>
      have ix:∀w,(Instr.index 139 (.agg #[.int .i64 s.wi, .int .i64 0, .int .i64 4, .int .i64 s.dr, .int .i64 0, .int .i64 3, .int .i64 s.fl, .int .i64 0, .int .i64 8, .int .i64 s.co, .int .i64 1, .int .i64 4, .int .i64 s.me, .int .i64 1, .int .i64 4, .int .i64 s.de, .int .i64 0, .int .i64 20]) (.int .i64 5)).run Tryz.prog w= .ok (.agg #[.int .i64 s.de, .int .i64 0, .int .i64 20]) w:=fun _=>by kernel_rfl
      by_cases q1:s.de<0
      ·have HE:=BP (HE3.out.trans (if_pos (Bq (by omega))));clear hrows;go_wp2;go_ret;exact HF.out _ _ HE.out (GA.out _)
      ·by_cases q2:20<s.de
       ·have HE:=BP (HE3.out.trans (if_pos (Bq (by omega))));clear hrows;go_wp2;go_ret;exact HF.out _ _ HE.out (GA.out _)
       ·have HR2:=BP (show DS s 6 by unfold DS at hrows ⊢;omega);clear hrows;go_wp2;exact ⟨⟨6,by omega,by go_num,HR2.out,BA.out _,GA.out _⟩,by simp only [intOf];omega⟩
    ·as_aux_lemma =>
      have HE4:=BP (HE3.out.trans (if_neg (by rw [Qd hrows];simp)));obtain rfl:=HX.out hrows;have hpl:=HP.out hrows;have HR6:=BP hrows;clear hrows;by_cases q1:AQ s=0
      ·have HE:=BP (HE4.out.trans (if_pos q1));have q2:(AQ s==0)=true:=by simp [q1]
       clear q1;go_wp2;go_ret;exact HF.out _ _ HE.out hg
      ·have HE:=BP (HE4.out.trans (if_neg q1));have q2:(AQ s==0)=false:=by simpa using q1
       clear q1;have c8:=hb.cell 8;have c0:=hb.cell 0;have c4:=hb.cell 4;have c5:=hb.cell 5;have c6:=hb.cell 6;have c7:=hb.cell 7;simp only [HL,List.getElem?_cons_zero,List.getElem?_cons_succ] at c8 c0 c4 c5 c6 c7;have r3:=r2.grow hg;obtain ⟨w1,w2,w3,w4,w5,w6⟩:=HR6.out;have bco:=Pi hpl (w4 (by omega));have bpl:=Wq (p:=s.pl) ⟨by omega,by omega⟩ (w5 (by omega));have bfl:=w3 (by omega);have bme:=w5 (by omega);have bde:=w6 (by omega);have bcc:=w4 (by omega);clear w1 w2 w3 w4 w5 w6;go_wp2;go_loop [9,87] (fun q i=>∃(k:Nat) (p:Int),k≤s.re.length∧i= .int .i64 (k:Int)∧q= .int .i64 p∧Bl (AQ s) (-1) s.re=Bl (AQ s) p (s.re.drop k)) (fun _ i=>s.re.length-(intOf i).toNat);case atStart=>exact ⟨0,-1,Nat.zero_le _,rfl,rfl,rfl⟩
       case round =>
        obtain ⟨k,p,hk,rfl,rfl,hz⟩:=hrel;have HZ:=BP hz;clear hz;by_cases hlt:k<s.re.length
        ·obtain ⟨ad,rfl,_,hx⟩:=r3.int hlt;have hst:=HZ.out;rw [LY hlt] at hst;have i0:(0:Int)≤(k:Int):=by omega
         have i1:(k:Int)<(s.re.length:Int):=by omega
         by_cases q3:s.re[k]<0
         ·rw [if_pos (.inl q3)] at hst;have HE5:=BP (HE.out.trans ((if_pos (by omega)).trans hst));clear hst;go_wp2;go_ret;exact HF.out _ _ HE5.out hg
         ·by_cases q4:AQ s≤s.re[k]
          ·rw [if_pos (.inr q4)] at hst;have HE5:=BP (HE.out.trans ((if_pos (by omega)).trans hst));clear hst;go_wp2;go_ret;exact HF.out _ _ HE5.out hg
          ·rw [if_neg (by omega)] at hst;by_cases q5:s.re[k]≤p
           ·rw [if_pos q5] at hst;have HE5:=BP (HE.out.trans ((if_pos (by omega)).trans hst));clear hst;go_wp2;go_ret;exact HF.out _ _ HE5.out hg
           ·rw [if_neg q5] at hst;have HST:=BP hst;clear hst;go_wp2;exact ⟨⟨k+1,_,by omega,by go_num,rfl,HST.out⟩,by simp only [intOf];omega⟩
        ·have hz0:Bl (AQ s) (-1) s.re=0:=by rw [HZ.out,List.drop_eq_nil_of_le (by omega)];rfl
         have HE5:=BP (HE.out.trans (if_neg (by rw [hz0];simp)));clear hz0;by_cases q3:AQ s*s.co+s.fl≤s.pl*(3*s.me+1)+s.de
         ·have HE6:=BP (HE5.out.trans (if_pos q3));go_wp2;go_ret;exact HF.out _ _ HE6.out hg
         ·have HE6:=BP (HE5.out.trans (if_neg q3));go_wp2;go_ret;exact HF.out _ _ HE6.out hg
end Go.Proofs.YthblfhgofopcaaaGreat
