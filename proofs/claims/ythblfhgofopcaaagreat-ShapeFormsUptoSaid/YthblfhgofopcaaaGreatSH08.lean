/-
  Parts of the proof: Tys.
-/
import Derived.Test.YthblfhgofopcaaaGreatProg
import Derived.Test.YthblfhgofopcaaaGreatSH07
import Derived.KernelRfl
set_option linter.all false
namespace Go.Proofs.YthblfhgofopcaaaGreat
open Go.RowKit
def dG (P:Program):List (Nat×TI)→Prop
 | []=>True
 | p::l=>bV P p.1=some p.2∧dG P l
def qI:List (Nat×TI)→Nat→Option TI
 | [],_=>none
 | p::l,t=>if p.1=t then some p.2 else qI l t
theorem fY {P:Program} {l:List (Nat×TI)} (h:dG P l):CQ P (qI l):=by
 induction l with
 | nil=>intro t i ht;cases ht
 | cons p l ih =>
  intro t i ht;simp only [qI] at ht;split at ht
  ·rename_i hp;injection ht with ht
   subst hp ht;exact h.1
  ·exact ih h.2 t i ht
def wE:List (Nat×TI):=[(3,⟨false,1,8,[.int .i64 0], .int .i64⟩),
 (4,⟨false,1,1,[.bool false], .bool⟩),
 (5,⟨false,1,1,[.int .u8 0], .int .u8⟩),
 (9,⟨false,1,16,[.string ⟨#[]⟩], .str⟩),
 (22,⟨false,1,24,[.slice none 0 0], .slice 3⟩),
 (24,⟨true,9,104,[.int .i64 0, .slice none 0 0, .int .i64 0, .int .i64 0, .int .i64 0, .int .i64 0, .int .i64 0, .int .i64 0, .slice none 0 0], .st [(0,3),(1,22),(2,3),(3,3),(4,3),(5,3),(6,3),(7,3),(8,22)]⟩),
 (26,⟨true,3,40,[.int .i64 0, .slice none 0 0, .bool false], .st [(0,3),(1,22),(2,4)]⟩),
 (27,⟨false,1,24,[.slice none 0 0], .slice 26⟩),
 (29,⟨false,1,24,[.slice none 0 0], .slice 72⟩),
 (31,⟨true,2,48,[.slice none 0 0, .slice none 0 0], .st [(0,22),(1,29)]⟩),
 (34,⟨false,1,8,[.int .i64 0], .int .i64⟩),
 (44,⟨false,1,24,[.slice none 0 0], .slice 58⟩),
 (50,⟨false,1,24,[.slice none 0 0], .slice 24⟩),
 (51,⟨false,1,24,[.slice none 0 0], .slice 27⟩),
 (52,⟨false,1,24,[.slice none 0 0], .slice 31⟩),
 (58,⟨true,3,40,[.int .i64 0, .slice none 0 0, .int .i64 0], .st [(0,3),(1,29),(2,3)]⟩),
 (72,⟨true,3,24,[.int .i64 0, .int .i64 0, .bool false], .st [(0,3),(1,3),(2,4)]⟩),
 (82,⟨false,1,24,[.slice none 0 0], .slice 22⟩),
 (84,⟨false,1,24,[.slice none 0 0], .slice 29⟩),
 (113,⟨false,1,8,[.int .u64 0], .int .u64⟩),
 (115,⟨true,1,8,[.int .u64 0], .st [(0,113)]⟩),
 (116,⟨false,1,8,[.int .u64 0], .int .u64⟩),
 (128,⟨false,1,24,[.slice none 0 0], .slice 34⟩),
 (129,⟨false,1,24,[.slice none 0 0], .slice 4⟩),
 (136,⟨true,2,16,[.int .i64 0, .int .i64 0], .st [(0,3),(1,3)]⟩),
 (138,⟨true,3,24,[.int .i64 0, .int .i64 0, .int .i64 0], .st [(0,3),(1,3),(2,3)]⟩),
 (139,⟨true,18,144,[.int .i64 0, .int .i64 0, .int .i64 0, .int .i64 0, .int .i64 0, .int .i64 0, .int .i64 0, .int .i64 0, .int .i64 0, .int .i64 0, .int .i64 0, .int .i64 0, .int .i64 0, .int .i64 0, .int .i64 0, .int .i64 0, .int .i64 0, .int .i64 0], .arr 6 138⟩),
 (144,⟨false,1,8,[.nilFunc], .other⟩),
 (147,⟨true,14,192,[.int .i64 0, .slice none 0 0, .int .i64 0, .int .i64 0, .int .i64 0, .int .i64 0, .int .i64 0, .int .i64 0, .slice none 0 0, .int .i64 0, .slice none 0 0, .bool false, .slice none 0 0, .slice none 0 0], .st [(0,24),(9,26),(12,31)]⟩),
 (148,⟨true,7,56,[.nilFunc, .nilFunc, .nilFunc, .nilFunc, .nilFunc, .nilFunc, .nilFunc], .arr 7 144⟩),
 (160,⟨false,1,8,[.nilFunc], .other⟩),
 (161,⟨false,1,8,[.nilFunc], .other⟩),
 (165,⟨false,1,8,[.nilFunc], .other⟩),
 (167,⟨true,3,24,[.int .i64 0, .int .i64 0, .int .i64 0], .arr 3 3⟩),
 (172,⟨true,2,16,[.int .i64 0, .int .i64 0], .arr 2 3⟩),
 (173,⟨false,1,24,[.slice none 0 0], .slice 175⟩),
 (175,⟨true,3,24,[.int .i64 0, .int .i64 0, .int .i64 0], .arr 3 3⟩),
 (176,⟨false,1,4,[.int .u32 0], .int .u32⟩),
 (189,⟨false,1,8,[.int .i64 0], .int .i64⟩),
 (202,⟨false,1,8,[.int .u64 0], .int .u64⟩)]
def Fx:Dj:=qI wE
theorem Ie:CQ Tryz.prog Fx:=fY ⟨by kernel_rfl,by kernel_rfl,by kernel_rfl,by kernel_rfl,by kernel_rfl,by kernel_rfl,by kernel_rfl,by kernel_rfl,by kernel_rfl,by kernel_rfl,by kernel_rfl,by kernel_rfl,by kernel_rfl,by kernel_rfl,by kernel_rfl,by kernel_rfl,by kernel_rfl,by kernel_rfl,by kernel_rfl,by kernel_rfl,by kernel_rfl,by kernel_rfl,by kernel_rfl,by kernel_rfl,by kernel_rfl,by kernel_rfl,by kernel_rfl,by kernel_rfl,by kernel_rfl,by kernel_rfl,by kernel_rfl,by kernel_rfl,by kernel_rfl,by kernel_rfl,by kernel_rfl,by kernel_rfl,by kernel_rfl,by kernel_rfl,by kernel_rfl,by kernel_rfl,trivial⟩
@[go_sem] theorem vU:Fx 3=some ⟨false,1,8,[.int .i64 0], .int .i64⟩:=rfl
@[go_sem] theorem vT:Fx 4=some ⟨false,1,1,[.bool false], .bool⟩:=rfl
@[go_sem] theorem vI:Fx 5=some ⟨false,1,1,[.int .u8 0], .int .u8⟩:=rfl
@[go_sem] theorem vJ:Fx 9=some ⟨false,1,16,[.string ⟨#[]⟩], .str⟩:=rfl
@[go_sem] theorem u2:Fx 22=some ⟨false,1,24,[.slice none 0 0], .slice 3⟩:=rfl
@[go_sem] theorem sB:Fx 24=some ⟨true,9,104,[.int .i64 0, .slice none 0 0, .int .i64 0, .int .i64 0, .int .i64 0, .int .i64 0, .int .i64 0, .int .i64 0, .slice none 0 0], .st [(0,3),(1,22),(2,3),(3,3),(4,3),(5,3),(6,3),(7,3),(8,22)]⟩:=rfl
@[go_sem] theorem tR:Fx 26=some ⟨true,3,40,[.int .i64 0, .slice none 0 0, .bool false], .st [(0,3),(1,22),(2,4)]⟩:=rfl
@[go_sem] theorem s7:Fx 27=some ⟨false,1,24,[.slice none 0 0], .slice 26⟩:=rfl
@[go_sem] theorem rM:Fx 29=some ⟨false,1,24,[.slice none 0 0], .slice 72⟩:=rfl
@[go_sem] theorem uQ:Fx 31=some ⟨true,2,48,[.slice none 0 0, .slice none 0 0], .st [(0,22),(1,29)]⟩:=rfl
@[go_sem] theorem u6:Fx 34=some ⟨false,1,8,[.int .i64 0], .int .i64⟩:=rfl
@[go_sem] theorem tQ:Fx 44=some ⟨false,1,24,[.slice none 0 0], .slice 58⟩:=rfl
@[go_sem] theorem rP:Fx 50=some ⟨false,1,24,[.slice none 0 0], .slice 24⟩:=rfl
@[go_sem] theorem sS:Fx 51=some ⟨false,1,24,[.slice none 0 0], .slice 27⟩:=rfl
@[go_sem] theorem uD:Fx 52=some ⟨false,1,24,[.slice none 0 0], .slice 31⟩:=rfl
@[go_sem] theorem sM:Fx 58=some ⟨true,3,40,[.int .i64 0, .slice none 0 0, .int .i64 0], .st [(0,3),(1,29),(2,3)]⟩:=rfl
@[go_sem] theorem t6:Fx 72=some ⟨true,3,24,[.int .i64 0, .int .i64 0, .bool false], .st [(0,3),(1,3),(2,4)]⟩:=rfl
@[go_sem] theorem sO:Fx 84=some ⟨false,1,24,[.slice none 0 0], .slice 29⟩:=rfl
@[go_sem] theorem nE:Fx 113=some ⟨false,1,8,[.int .u64 0], .int .u64⟩:=rfl
@[go_sem] theorem oN:Fx 115=some ⟨true,1,8,[.int .u64 0], .st [(0,113)]⟩:=rfl
@[go_sem] theorem nZ:Fx 116=some ⟨false,1,8,[.int .u64 0], .int .u64⟩:=rfl
@[go_sem] theorem m7:Fx 136=some ⟨true,2,16,[.int .i64 0, .int .i64 0], .st [(0,3),(1,3)]⟩:=rfl
@[go_sem] theorem mW:Fx 138=some ⟨true,3,24,[.int .i64 0, .int .i64 0, .int .i64 0], .st [(0,3),(1,3),(2,3)]⟩:=rfl
@[go_sem] theorem mQ:Fx 139=some ⟨true,18,144,[.int .i64 0, .int .i64 0, .int .i64 0, .int .i64 0, .int .i64 0, .int .i64 0, .int .i64 0, .int .i64 0, .int .i64 0, .int .i64 0, .int .i64 0, .int .i64 0, .int .i64 0, .int .i64 0, .int .i64 0, .int .i64 0, .int .i64 0, .int .i64 0], .arr 6 138⟩:=rfl
@[go_sem] theorem pT:Fx 144=some ⟨false,1,8,[.nilFunc], .other⟩:=rfl
@[go_sem] theorem oS:Fx 147=some ⟨true,14,192,[.int .i64 0, .slice none 0 0, .int .i64 0, .int .i64 0, .int .i64 0, .int .i64 0, .int .i64 0, .int .i64 0, .slice none 0 0, .int .i64 0, .slice none 0 0, .bool false, .slice none 0 0, .slice none 0 0], .st [(0,24),(9,26),(12,31)]⟩:=rfl
@[go_sem] theorem l5:Fx 148=some ⟨true,7,56,[.nilFunc, .nilFunc, .nilFunc, .nilFunc, .nilFunc, .nilFunc, .nilFunc], .arr 7 144⟩:=rfl
@[go_sem] theorem qZ:Fx 160=some ⟨false,1,8,[.nilFunc], .other⟩:=rfl
@[go_sem] theorem oP:Fx 161=some ⟨false,1,8,[.nilFunc], .other⟩:=rfl
@[go_sem] theorem qT:Fx 165=some ⟨false,1,8,[.nilFunc], .other⟩:=rfl
@[go_sem] theorem mP:Fx 167=some ⟨true,3,24,[.int .i64 0, .int .i64 0, .int .i64 0], .arr 3 3⟩:=rfl
@[go_sem] theorem mS:Fx 172=some ⟨true,2,16,[.int .i64 0, .int .i64 0], .arr 2 3⟩:=rfl
@[go_sem] theorem lN:Fx 173=some ⟨false,1,24,[.slice none 0 0], .slice 175⟩:=rfl
@[go_sem] theorem n8:Fx 175=some ⟨true,3,24,[.int .i64 0, .int .i64 0, .int .i64 0], .arr 3 3⟩:=rfl
@[go_sem] theorem lG:Fx 176=some ⟨false,1,4,[.int .u32 0], .int .u32⟩:=rfl
@[go_sem] theorem qA:Fx 189=some ⟨false,1,8,[.int .i64 0], .int .i64⟩:=rfl
@[go_sem] theorem rC:Fx 202=some ⟨false,1,8,[.int .u64 0], .int .u64⟩:=rfl
@[go_sem] theorem vP:Tryz.f4.results.toList=[.tmp 10]:=rfl
@[go_sem] theorem vN:Tryz.f5.results.toList=[.tmp 8]:=rfl
@[go_sem] theorem uR:Tryz.f17.results.toList=[.tmp 6]:=rfl
@[go_sem] theorem sI:Tryz.f18.results.toList=[.tmp 0]:=rfl
@[go_sem] theorem rS:Tryz.f19.results.toList=[.tmp 2]:=rfl
@[go_sem] theorem rR:Tryz.f20.results.toList=[.tmp 4]:=rfl
@[go_sem] theorem tG:Tryz.f21.results.toList=[.tmp 4]:=rfl
@[go_sem] theorem s9:Tryz.f22.results.toList=[.tmp 4]:=rfl
@[go_sem] theorem vB:Tryz.f23.results.toList=[.tmp 4]:=rfl
@[go_sem] theorem t8:Tryz.f24.results.toList=[.tmp 4]:=rfl
@[go_sem] theorem tO:Tryz.f25.results.toList=[.tmp 2, .cell 3 24, .tmp 4, .cell 5 31]:=rfl
@[go_sem] theorem uG:Tryz.f27.results.toList=[.tmp 4]:=rfl
@[go_sem] theorem uT:Tryz.f28.results.toList=[.tmp 8]:=rfl
@[go_sem] theorem vC:Tryz.f29.results.toList=[.tmp 8]:=rfl
@[go_sem] theorem uN:Tryz.f30.results.toList=[.cell 2 31]:=rfl
@[go_sem] theorem uL:Tryz.f31.results.toList=[.tmp 4]:=rfl
@[go_sem] theorem rQ:Tryz.f32.results.toList=[.cell 4 31]:=rfl
@[go_sem] theorem sX:Tryz.f33.results.toList=[.tmp 6]:=rfl
@[go_sem] theorem sY:Tryz.f34.results.toList=[.tmp 6]:=rfl
@[go_sem] theorem uX:Tryz.f35.results.toList=[.tmp 4]:=rfl
@[go_sem] theorem u3:Tryz.f36.results.toList=[.tmp 6]:=rfl
@[go_sem] theorem s4:Tryz.f37.results.toList=[.tmp 6]:=rfl
@[go_sem] theorem sJ:Tryz.f39.results.toList=[.tmp 4]:=rfl
@[go_sem] theorem sH:Tryz.f40.results.toList=[.tmp 4]:=rfl
@[go_sem] theorem tT:Tryz.f41.results.toList=[.tmp 4]:=rfl
@[go_sem] theorem sD:Tryz.f43.results.toList=[.tmp 4]:=rfl
@[go_sem] theorem uH:Tryz.f44.results.toList=[.tmp 2]:=rfl
@[go_sem] theorem sU:Tryz.f45.results.toList=[.cell 2 24]:=rfl
@[go_sem] theorem tC:Tryz.f46.results.toList=[.cell 4 31, .tmp 5, .tmp 6]:=rfl
@[go_sem] theorem rZ:Tryz.f47.results.toList=[.tmp 0]:=rfl
@[go_sem] theorem u9:Tryz.f48.results.toList=[.tmp 4]:=rfl
@[go_sem] theorem s0:Tryz.f49.results.toList=[.tmp 2]:=rfl
@[go_sem] theorem tM:Tryz.f50.results.toList=[.tmp 4]:=rfl
@[go_sem] theorem uO:Tryz.f53.results.toList=[.tmp 4]:=rfl
@[go_sem] theorem sW:Tryz.f54.results.toList=[.tmp 4]:=rfl
@[go_sem] theorem sN:Tryz.f55.results.toList=[.tmp 4]:=rfl
@[go_sem] theorem t7:Tryz.f57.results.toList=[.cell 2 31]:=rfl
@[go_sem] theorem tV:Tryz.f61.results.toList=[.tmp 4]:=rfl
@[go_sem] theorem sF:Tryz.f62.results.toList=[.tmp 4]:=rfl
@[go_sem] theorem sR:Tryz.f63.results.toList=[.tmp 4]:=rfl
@[go_sem] theorem tW:Tryz.f66.results.toList=[.cell 0 24]:=rfl
@[go_sem] theorem uK:Tryz.f67.results.toList=[.cell 0 24]:=rfl
@[go_sem] theorem sC:Tryz.f68.results.toList=[.cell 10 31]:=rfl
@[go_sem] theorem tB:Tryz.f76.results.toList=[.tmp 2]:=rfl
@[go_sem] theorem sV:Tryz.f77.results.toList=[.tmp 4]:=rfl
@[go_sem] theorem tF:Tryz.f78.results.toList=[.tmp 6]:=rfl
@[go_sem] theorem uW:Tryz.f79.results.toList=[.tmp 2]:=rfl
@[go_sem] theorem uV:Tryz.f80.results.toList=[.tmp 2]:=rfl
@[go_sem] theorem vA:Tryz.f81.results.toList=[.tmp 4]:=rfl
@[go_sem] theorem tX:Tryz.f82.results.toList=[.tmp 4]:=rfl
@[go_sem] theorem tP:Tryz.f83.results.toList=[.cell 4 24]:=rfl
@[go_sem] theorem sP:Tryz.f84.results.toList=[.tmp 6]:=rfl
@[go_sem] theorem u7:Tryz.f85.results.toList=[.cell 6 31]:=rfl
@[go_sem] theorem tZ:Tryz.f86.results.toList=[.tmp 4]:=rfl
@[go_sem] theorem uA:Tryz.f87.results.toList=[.tmp 6]:=rfl
@[go_sem] theorem sZ:Tryz.f88.results.toList=[.tmp 6]:=rfl
@[go_sem] theorem vF:Tryz.f89.results.toList=[.tmp 2]:=rfl
@[go_sem] theorem tU:Tryz.f90.results.toList=[.tmp 4]:=rfl
@[go_sem] theorem uU:Tryz.f91.results.toList=[.tmp 2]:=rfl
@[go_sem] theorem u4:Tryz.f92.results.toList=[.tmp 4]:=rfl
@[go_sem] theorem sG:Tryz.f93.results.toList=[.tmp 6]:=rfl
@[go_sem] theorem u5:Tryz.f94.results.toList=[.tmp 4]:=rfl
@[go_sem] theorem uC:Tryz.f95.results.toList=[.tmp 4]:=rfl
@[go_sem] theorem rN:Tryz.f96.results.toList=[.tmp 4]:=rfl
@[go_sem] theorem tY:Tryz.f97.results.toList=[.tmp 2]:=rfl
@[go_sem] theorem sQ:Tryz.f98.results.toList=[.tmp 4]:=rfl
@[go_sem] theorem tS:Tryz.f99.results.toList=[.tmp 4]:=rfl
@[go_sem] theorem pG:Tryz.f100.results.toList=[.tmp 6]:=rfl
@[go_sem] theorem lB:Tryz.f101.results.toList=[.tmp 2]:=rfl
@[go_sem] theorem pO:Tryz.f102.results.toList=[.tmp 2]:=rfl
@[go_sem] theorem pD:Tryz.f104.results.toList=[.tmp 2]:=rfl
@[go_sem] theorem oA:Tryz.f105.results.toList=[.tmp 4]:=rfl
@[go_sem] theorem lF:Tryz.f106.results.toList=[.tmp 4]:=rfl
@[go_sem] theorem mU:Tryz.f107.results.toList=[.cell 4 26]:=rfl
@[go_sem] theorem nV:Tryz.f108.results.toList=[.tmp 2]:=rfl
@[go_sem] theorem oK:Tryz.f109.results.toList=[.cell 6 72]:=rfl
@[go_sem] theorem oD:Tryz.f110.results.toList=[.tmp 6]:=rfl
@[go_sem] theorem lZ:Tryz.f111.results.toList=[]:=rfl
@[go_sem] theorem mR:Tryz.f112.results.toList=[.tmp 4]:=rfl
@[go_sem] theorem mD:Tryz.f113.results.toList=[.tmp 4]:=rfl
@[go_sem] theorem k9:Tryz.f114.results.toList=[.tmp 4]:=rfl
@[go_sem] theorem rF:Tryz.f117.results.toList=[.tmp 4]:=rfl
@[go_sem] theorem qY:Tryz.f118.results.toList=[.tmp 4]:=rfl
@[go_sem] theorem pC:Tryz.f119.results.toList=[.tmp 4]:=rfl
@[go_sem] theorem oZ:Tryz.f120.results.toList=[.tmp 2]:=rfl
@[go_sem] theorem nX:Tryz.f121.results.toList=[.tmp 2]:=rfl
@[go_sem] theorem nK:Tryz.f122.results.toList=[.tmp 4]:=rfl
@[go_sem] theorem qH:Tryz.f123.results.toList=[.tmp 2]:=rfl
@[go_sem] theorem pE:Tryz.f124.results.toList=[.tmp 4]:=rfl
@[go_sem] theorem p8:Tryz.f125.results.toList=[.tmp 4]:=rfl
@[go_sem] theorem rI:Tryz.f126.results.toList=[.cell 4 3, .cell 5 3]:=rfl
@[go_sem] theorem mV:Tryz.f127.results.toList=[.tmp 2]:=rfl
@[go_sem] theorem pK:Tryz.f129.results.toList=[.tmp 6]:=rfl
@[go_sem] theorem lU:Tryz.f130.results.toList=[.tmp 2]:=rfl
@[go_sem] theorem nM:Tryz.f131.results.toList=[.cell 6 31, .tmp 7]:=rfl
@[go_sem] theorem lL:Tryz.f132.results.toList=[.cell 8 31]:=rfl
@[go_sem] theorem pH:Tryz.f133.results.toList=[.tmp 2]:=rfl
@[go_sem] theorem mI:Tryz.f134.results.toList=[.tmp 2]:=rfl
@[go_sem] theorem pP:Tryz.f135.results.toList=[.tmp 2]:=rfl
@[go_sem] theorem pL:Tryz.f136.results.toList=[.tmp 2]:=rfl
@[go_sem] theorem qS:Tryz.f137.results.toList=[.tmp 2]:=rfl
@[go_sem] theorem oG:Tryz.f138.results.toList=[.tmp 2]:=rfl
@[go_sem] theorem oM:Tryz.f139.results.toList=[.tmp 4]:=rfl
@[go_sem] theorem mN:Tryz.f140.results.toList=[.tmp 4]:=rfl
@[go_sem] theorem nP:Tryz.f141.results.toList=[.tmp 2]:=rfl
@[go_sem] theorem qF:Tryz.f142.results.toList=[.tmp 4]:=rfl
@[go_sem] theorem oU:Tryz.f143.results.toList=[.tmp 4]:=rfl
@[go_sem] theorem pJ:Tryz.f144.results.toList=[.tmp 4]:=rfl
@[go_sem] theorem lY:Tryz.f145.results.toList=[.tmp 4]:=rfl
@[go_sem] theorem mG:Tryz.f146.results.toList=[.tmp 4]:=rfl
@[go_sem] theorem q9:Tryz.f147.results.toList=[.tmp 2]:=rfl
@[go_sem] theorem pA:Tryz.f148.results.toList=[.tmp 2]:=rfl
@[go_sem] theorem rK:Tryz.f149.results.toList=[.tmp 4]:=rfl
@[go_sem] theorem mX:Tryz.f150.results.toList=[.tmp 4]:=rfl
@[go_sem] theorem p9:Tryz.f151.results.toList=[.tmp 2]:=rfl
@[go_sem] theorem oY:Tryz.f152.results.toList=[.tmp 6]:=rfl
@[go_sem] theorem qM:Tryz.f153.results.toList=[.tmp 4]:=rfl
@[go_sem] theorem lW:Tryz.f154.results.toList=[.tmp 4, .tmp 5]:=rfl
@[go_sem] theorem l7:Tryz.f156.results.toList=[.tmp 4]:=rfl
@[go_sem] theorem qB:Tryz.f157.results.toList=[]:=rfl
@[go_sem] theorem pY:Tryz.f158.results.toList=[]:=rfl
@[go_sem] theorem pN:Tryz.f159.results.toList=[.tmp 2]:=rfl
@[go_sem] theorem qV:Tryz.f160.results.toList=[]:=rfl
@[go_sem] theorem lJ:Tryz.f161.results.toList=[]:=rfl
@[go_sem] theorem lI:Tryz.f162.results.toList=[.tmp 4]:=rfl
@[go_sem] theorem rE:Tryz.f163.results.toList=[.tmp 4]:=rfl
@[go_sem] theorem m5:Tryz.f164.results.toList=[.tmp 4]:=rfl
@[go_sem] theorem l8:Tryz.f165.results.toList=[.tmp 4]:=rfl
@[go_sem] theorem pB:Tryz.f166.results.toList=[]:=rfl
@[go_sem] theorem rA:Tryz.f167.results.toList=[.tmp 6]:=rfl
@[go_sem] theorem lS:Tryz.f168.results.toList=[.tmp 4]:=rfl
@[go_sem] theorem qJ:Tryz.f169.results.toList=[.tmp 4]:=rfl
@[go_sem] theorem n9:Tryz.f170.results.toList=[.tmp 4]:=rfl
@[go_sem] theorem rJ:Tryz.f171.results.toList=[.tmp 4, .tmp 5]:=rfl
@[go_sem] theorem lE:Tryz.f172.results.toList=[.tmp 0]:=rfl
@[go_sem] theorem nJ:Tryz.f173.results.toList=[.tmp 2]:=rfl
@[go_sem] theorem m8:Tryz.f174.results.toList=[.tmp 4, .tmp 5]:=rfl
@[go_sem] theorem mY:Tryz.f175.results.toList=[.tmp 4, .tmp 5]:=rfl
@[go_sem] theorem pU:Tryz.f176.results.toList=[.tmp 4, .tmp 5]:=rfl
@[go_sem] theorem rH:Tryz.f177.results.toList=[]:=rfl
@[go_sem] theorem qW:Tryz.f178.results.toList=[.tmp 4]:=rfl
@[go_sem] theorem pS:Tryz.f179.results.toList=[]:=rfl
@[go_sem] theorem oW:Tryz.f180.results.toList=[.tmp 2]:=rfl
@[go_sem] theorem rB:Tryz.f181.results.toList=[.tmp 6]:=rfl
@[go_sem] theorem qN:Tryz.f182.results.toList=[.tmp 4]:=rfl
@[go_sem] theorem oE:Tryz.f183.results.toList=[.tmp 2]:=rfl
@[go_sem] theorem pQ:Tryz.f184.results.toList=[.tmp 4]:=rfl
@[go_sem] theorem lQ:Tryz.f185.results.toList=[.tmp 4]:=rfl
@[go_sem] theorem pF:Tryz.f186.results.toList=[.tmp 4]:=rfl
@[go_sem] theorem oH:Tryz.f187.results.toList=[.tmp 2]:=rfl
@[go_sem] theorem oJ:Tryz.f188.results.toList=[]:=rfl
@[go_sem] theorem m4:Tryz.f189.results.toList=[]:=rfl
@[go_sem] theorem nG:Tryz.f190.results.toList=[]:=rfl
@[go_sem] theorem qD:Tryz.f191.results.toList=[]:=rfl
@[go_sem] theorem lX:Tryz.f192.results.toList=[.tmp 8, .tmp 9]:=rfl
@[go_sem] theorem p5:Tryz.f193.results.toList=[]:=rfl
@[go_sem] theorem l9:Tryz.f194.results.toList=[.tmp 8]:=rfl
@[go_sem] theorem oI:Tryz.f195.results.toList=[.tmp 10]:=rfl
@[go_sem] theorem m9:Tryz.f196.results.toList=[.tmp 10, .tmp 11]:=rfl
@[go_sem] theorem nF:Tryz.f197.results.toList=[.tmp 2]:=rfl
@[go_sem] theorem mJ:Tryz.f198.results.toList=[.tmp 2]:=rfl
@[go_sem] theorem rD:Tryz.f199.results.toList=[.tmp 2]:=rfl
@[go_sem] theorem nN:Tryz.f200.results.toList=[]:=rfl
@[go_sem] theorem qK:Tryz.f201.results.toList=[]:=rfl
@[go_sem] theorem lC:Tryz.f202.results.toList=[]:=rfl
@[go_sem] theorem lH:Tryz.f203.results.toList=[.tmp 8, .tmp 9]:=rfl
@[go_sem] theorem pV:Tryz.f204.results.toList=[]:=rfl
@[go_sem] theorem pM:Tryz.f205.results.toList=[.tmp 8]:=rfl
@[go_sem] theorem mZ:Tryz.f206.results.toList=[.tmp 10]:=rfl
@[go_sem] theorem n7:Tryz.f207.results.toList=[.tmp 10, .tmp 11]:=rfl
@[go_sem] theorem mM:Tryz.f208.results.toList=[]:=rfl
@[go_sem] theorem qQ:Tryz.f209.results.toList=[.tmp 2]:=rfl
@[go_sem] theorem lK:Tryz.f210.results.toList=[.tmp 2]:=rfl
@[go_sem] theorem nU:Tryz.f211.results.toList=[.tmp 8]:=rfl
@[go_sem] theorem lD:Tryz.f212.results.toList=[.tmp 12]:=rfl
@[go_sem] theorem lO:Tryz.f213.results.toList=[]:=rfl
@[go_sem] theorem p6:Tryz.f214.results.toList=[.tmp 8]:=rfl
@[go_sem] theorem oF:Tryz.f215.results.toList=[.tmp 12]:=rfl
@[go_sem] theorem lP:Tryz.f216.results.toList=[.tmp 10, .tmp 11]:=rfl
@[go_sem] theorem mF:Tryz.f217.results.toList=[.tmp 10, .tmp 11]:=rfl
def dO:List (Nat×List Nat×List Nat):=[(4,[0,1,2,3,5,6,7,8,4,9,10,11],[0,0,0,0,15,0,0,0,0,511,1023,2047]),(10,[0,1,2,3,5,6,7,8,4,9,10,11],[0,0,0,0,15,0,0,0,0,511,1023,2047])]
def dF:List (Nat×List Nat×List Nat):=[(5,[0,1,2,3,4,5,6,7,8,9,10,11,12,13,14,15,16,17],[0,0,0,0,15,0,0,0,0,480,0,0,0,0,15360,31,33791,131071]),(10,[0,1,2,3,4,5,6,7,8,10,11,12,13,14,15,16,17,18,19,20,21,9,22,23,24,25,26,27,28,29,30,31,32,33,35,36,37,38,39,40,41,42,43,44,45,46,34,47,48,49,50,51,52,53,54,55,56,57,58,59],[0,0,3,7,0,0,48,112,0,511,0,0,3072,7168,0,0,49152,114688,0,0,786432,1835008,4194303,8388607,16777215,33554431,33554431,134217727,268435455,33554431,33554431,1644167167,3791650815,33554431,17179869183,33554431,33554431,103112769535,240551723007,33554431,33554431,1649300996095,3848324251647,33554431,33554431,26388312621055,61572684709887,140737488355327,281474976710655,562949953421311,1125899906842623,2251799813685247,4503599627370495,4503599627370495,4503599627370495,31525197391593471,67553994410557439,144115188075855871,288230376151711743,576460752303423487])]
def Wz:List (Nat×List Nat×List Nat):=[]
def iC:List (Nat×List Nat×List Nat):=[(2,[0,1,2,3,4],[0,0,2,7,15]),(3,[0,1,2,3,4,5,6,7,8,9,10,11,12,13,14,15,16,17,18,22,19,20,21,23,24,25,26,27,28,29,30,31],[0,1,3,7,15,31,63,127,255,511,1023,2047,4095,8191,16383,32767,65535,131071,262143,262143,786431,2097151,262143,8388607,16777215,33554431,67108863,67108863,268435455,536870911,1073741823,2147483647])]
def gW:List (Nat×List Nat×List Nat):=[(5,[0,1,2,3,4,5,6,7,8,9,10,11,13,14,15,16,17,12,18,19,20,21],[0,0,0,6,14,30,0,0,0,384,896,1920,4032,0,0,24576,57344,122880,262142,524286,1048575,2097151])]
def Xy:List (Nat×List Nat×List Nat):=[]
def V5:List (Nat×List Nat×List Nat):=[]
def fL:List (Nat×List Nat×List Nat):=[]
def gA:List (Nat×List Nat×List Nat):=[(11,[0,1,2,3,4,5,6],[0,0,0,6,14,31,63])]
def fN:List (Nat×List Nat×List Nat):=[(6,[0,1,2,3,4,5,6,7,8,9,10,11,12,13,14,15,16,17,18,19,20,21,22,23,24,25,26,27,28,29,30,31,32,33,34,35,36,37],[0,0,3,7,15,0,0,96,224,480,1023,2047,4095,4095,16383,32767,65535,4095,4095,397311,921599,1970175,4194303,8388607,16777215,33554431,33554431,134217727,268435455,536870911,33554431,33554431,3254779903,7549747199,16139681791,34359738367,68719476735,137438953471])]
def fV:List (Nat×List Nat×List Nat):=[(6,[0,1,2,3,4,5,6,7,8,9,10],[0,0,0,0,0,0,56,121,251,511,1023])]
def gM:List (Nat×List Nat×List Nat):=[(6,[0,1,2,3,4,5,6,7,8,9],[0,0,3,7,0,0,48,112,255,511])]
def Ky:List (Nat×List Nat×List Nat):=[(14,[0,1,2,3,4,5,6,7,8,9,10,11,12,13,14,15,16,17],[0,0,2,6,15,31,63,63,255,511,63,63,2111,7231,15423,32767,65535,131071]),(15,[0,1,2,3,4,5,6,7,9,8,10,11],[0,1,3,7,7,7,55,119,255,7,1023,2047])]
def Kq:List (Nat×List Nat×List Nat):=[(7,[0,1,2,3,4,5,6,7],[0,0,0,6,14,0,63,127]),(14,[0,1,2,3,4,5,6,7,8,9,10,11,12,13,14,15,16,17,18,19,20,21,22,23,24,25,26,27,28,29,30],[0,0,3,7,0,31,63,0,255,511,1023,2047,4095,8191,8191,32767,65535,8191,262143,524287,8191,8191,3153919,7348223,8191,16785407,66068479,133177343,268435455,536870911,1073741823]),(15,[0,1,2,3,4,6,7,8,9,11,12,13,14,15,5,10,16,17,18,19],[0,0,0,0,8,28,0,0,192,448,1020,0,2048,6144,0,30720,65534,131070,262143,524287])]
def gC:List (Nat×List Nat×List Nat):=[(1,[0,1,2,4,5,6,3,7,8,9],[0,0,2,7,0,0,32,127,255,511])]
def fQ:List (Nat×List Nat×List Nat):=[]
def eS:List (Nat×List Nat×List Nat):=[]
def SJ:List (Nat×List Nat×List Nat):=[]
def Sa:List (Nat×List Nat×List Nat):=[]
def XH:List (Nat×List Nat×List Nat):=[(6,[0,1,2,3,4,5,6,7,8],[0,0,3,7,0,0,48,112,255])]
def SD:List (Nat×List Nat×List Nat):=[]
def Pw:List (Nat×List Nat×List Nat):=[(8,[0,1,2,3,4,5,6],[0,0,3,7,0,16,63])]
def vE:List (Nat×List Nat×List Nat):=[(5,[0,1,2,3,4,5,6,7,8,9,10,11,12,13,14,15,16,17,18,19,20,21,22,23,24,25,26,27,28,29,30],[0,1,3,7,7,31,63,127,7,7,519,1799,3847,7943,16383,32767,65535,131071,131071,524287,1048575,2097151,131071,131071,8519679,29491199,63045631,130154495,268435455,536870911,1073741823])]
def eZ:List (Nat×List Nat×List Nat):=[]
def Yg:List (Nat×List Nat×List Nat):=[(1,[0,1,2,3,4,5,6,8,9,10,11,12,13,14,15,7,16,17,18],[0,0,3,7,15,31,63,127,31,287,31,1055,3103,7967,16159,32543,65535,131071,262143])]
def Sr:List (Nat×List Nat×List Nat):=[(4,[0,1,2,3,4,5],[0,1,3,0,8,31])]
def sT:List (Nat×List Nat×List Nat):=[]
def fD:List (Nat×List Nat×List Nat):=[(10,[0,1,2,3,5,6,8,9,10,4,7,11,12],[0,0,0,6,15,0,32,127,0,0,768,2047,4095])]
def dY:List (Nat×List Nat×List Nat):=[(5,[0,1,2,3,4,5,6,7,8,9,10,11,12,13,14],[0,0,2,6,14,0,0,96,224,480,1022,2046,4095,8191,16383]),(6,[0,1,2,3,4,5,6,7,8,9,10,11,12,13],[0,0,2,6,14,0,32,96,224,480,1022,2047,4095,8191])]
def YP:List (Nat×List Nat×List Nat):=[]
def gO:List (Nat×List Nat×List Nat):=[(4,[0,2,3,4,5,1,6,7,8],[0,1,0,0,8,24,63,127,255]),(24,[0,1,2,3,4,5,6,7,8,9],[0,0,0,4,12,30,62,127,255,511])]
def eL:List (Nat×List Nat×List Nat):=[]
def TO:List (Nat×List Nat×List Nat):=[]
def eX:List (Nat×List Nat×List Nat):=[(6,[0,1,2,3,4,5,6,7,8,9,10,11,12,13],[0,1,3,7,7,31,63,7,7,263,903,1927,4095,8191]),(8,[0,1,2,3,5,6,7,8,9,11,12,13,4,10,14,15],[0,0,0,6,15,0,0,96,224,480,1023,0,0,6144,16383,32767])]
def Vv:List (Nat×List Nat×List Nat):=[(4,[0,1,2,3,4,5,6,7,8,9,10,11,12,13,14,15],[0,1,3,7,0,16,48,112,240,511,1023,0,2048,8191,16383,32767])]
def PA:List (Nat×List Nat×List Nat):=[(12,[0,1,2,3,4,5,6,7],[0,0,2,0,14,30,63,127]),(19,[0,1,2,3,4,5,6],[0,0,3,7,0,16,63])]
def Yc:List (Nat×List Nat×List Nat):=[(1,[0,1,2,3,4,5,6,8,9,10,11,12,13,14,15,7,16,17,18],[0,0,3,7,15,31,63,127,31,287,31,1055,3103,7967,16159,32543,65535,131071,262143])]
def YL:List (Nat×List Nat×List Nat):=[]
def gN:List (Nat×List Nat×List Nat):=[(1,[0,1,3,4,2,5,6,7],[0,1,3,0,8,31,63,127])]
def SQ:List (Nat×List Nat×List Nat):=[]
def XD:List (Nat×List Nat×List Nat):=[(6,[0,1,2,3,4,5,6,7,8,9],[0,0,3,7,0,0,48,112,255,511])]
def TY:List (Nat×List Nat×List Nat):=[]
def fM:List (Nat×List Nat×List Nat):=[]
def fO:List (Nat×List Nat×List Nat):=[]
def dX:List (Nat×List Nat×List Nat):=[]
def iE:List (Nat×List Nat×List Nat):=[(6,[0,1,2,3,4,5,6,7,8],[0,0,3,7,0,0,48,112,255])]
def gR:List (Nat×List Nat×List Nat):=[]
def S3:List (Nat×List Nat×List Nat):=[(22,[0,1,2,3,4,5,6,7,8,9,10,11,12,13,14,15],[0,1,3,7,15,7,63,127,7,263,7,1031,3847,7943,16383,32767])]
def d8:List (Nat×List Nat×List Nat):=[]
def d9:List (Nat×List Nat×List Nat):=[]
def fG:List (Nat×List Nat×List Nat):=[]
def fK:List (Nat×List Nat×List Nat):=[(5,[0,1,2,3,4,5,6,7],[0,1,0,4,12,31,63,127]),(7,[0,2,3,5,6,8,1,4,7,9],[0,1,0,4,15,0,32,127,0,511])]
def f9:List (Nat×List Nat×List Nat):=[]
def fB:List (Nat×List Nat×List Nat):=[(1,[0,1,2,3,4,5,13,6,7,8,9,10,11,12,14,15],[0,0,0,0,0,16,56,124,252,511,1023,2047,2047,0,12287,32767])]
def fH:List (Nat×List Nat×List Nat):=[]
def Vl:List (Nat×List Nat×List Nat):=[]
def YX:List (Nat×List Nat×List Nat):=[(10,[0,1,2,3,4,5,6,7,8,9],[0,1,3,7,0,0,0,112,255,511])]
def fE:List (Nat×List Nat×List Nat):=[]
def gS:List (Nat×List Nat×List Nat):=[]
def Pp:List (Nat×List Nat×List Nat):=[]
def eE:List (Nat×List Nat×List Nat):=[]
def FR:List (Nat×List Nat×List Nat):=[]
def eJ:List (Nat×List Nat×List Nat):=[]
def gZ:List (Nat×List Nat×List Nat):=[(4,[0,1,2,3,4,5,6,7,8],[0,0,3,7,0,0,48,112,255])]
def gD:List (Nat×List Nat×List Nat):=[(6,[0,1,2,3,4,5,6,7,8],[0,0,3,7,0,0,48,112,255])]
def iG:List (Nat×List Nat×List Nat):=[]
def gJ:List (Nat×List Nat×List Nat):=[]
def fA:List (Nat×List Nat×List Nat):=[]
def ZX:List (Nat×List Nat×List Nat):=[(4,[0,1,2,3,4,5,6,7,8],[0,0,0,6,14,0,63,127,255])]
def Zo:List (Nat×List Nat×List Nat):=[]
def aV:List (Nat×List Nat×List Nat):=[]
def oT:List (Nat×List Nat×List Nat):=[(4,[0,1,2,3,4,5,6,7,8],[0,0,3,7,0,0,48,112,255]),(6,[0,1,2,3,4,5,6,7,8],[0,0,3,7,0,0,48,112,255])]
def Y5:List (Nat×List Nat×List Nat):=[]
def Zl:List (Nat×List Nat×List Nat):=[]
def Z5:List (Nat×List Nat×List Nat):=[]
def L6:List (Nat×List Nat×List Nat):=[(8,[0,1,2,3,4,5],[0,1,3,7,0,31])]
def bR:List (Nat×List Nat×List Nat):=[(1,[0,1,3,4,6,7,2,5,8,9],[0,1,3,0,8,31,0,64,255,511])]
def PX:List (Nat×List Nat×List Nat):=[(1,[0,2,3,6,8,1,4,5,7,9],[0,1,0,0,11,31,0,127,0,511])]
def cQ:List (Nat×List Nat×List Nat):=[(6,[0,1,2,3,4,5,6,7,8,9],[0,0,0,6,14,31,63,0,128,511])]
def ZO:List (Nat×List Nat×List Nat):=[]
def Zr:List (Nat×List Nat×List Nat):=[(3,[0,1,2,3,4,5,6,7,8,9,10],[0,1,3,7,15,31,15,79,255,511,1023])]
def cT:List (Nat×List Nat×List Nat):=[(9,[0,1,2,3,4,5,6,7,8,9],[0,0,0,6,0,0,48,126,255,511])]
def Yq:List (Nat×List Nat×List Nat):=[]
def Yz:List (Nat×List Nat×List Nat):=[(6,[0,1,2,3,4,5,6,7,8],[0,0,3,7,0,0,48,112,255])]
def UN:List (Nat×List Nat×List Nat):=[(6,[0,1,2,3,4,5,6,7,8,9,10,11,12,13],[0,0,3,7,15,31,63,63,255,511,63,1087,4095,8191])]
def ZB:List (Nat×List Nat×List Nat):=[]
def bI:List (Nat×List Nat×List Nat):=[]
def IT:List (Nat×List Nat×List Nat):=[]
def ZU:List (Nat×List Nat×List Nat):=[]
def Zx:List (Nat×List Nat×List Nat):=[]
def UB:List (Nat×List Nat×List Nat):=[]
def b8:List (Nat×List Nat×List Nat):=[(7,[0,1,2,3,4,5,6],[0,0,0,4,14,31,63]),(11,[0,1,2,3,4,5,6,7,8],[0,0,0,6,14,0,62,127,255])]
def Zm:List (Nat×List Nat×List Nat):=[]
def bZ:List (Nat×List Nat×List Nat):=[]
def IW:List (Nat×List Nat×List Nat):=[(11,[0,1,2,3,4,5,10,11,6,7,8,9,12,13],[0,1,0,0,8,24,60,127,255,511,0,1024,4095,8191]),(27,[0,1,2,3,4,5],[0,0,0,6,15,31])]
def cG:List (Nat×List Nat×List Nat):=[(1,[0,3,4,5,8,1,2,6,7,9],[0,1,3,0,0,16,59,127,0,511]),(6,[0,1,2,3,4,5,6,7,8],[0,0,0,4,0,28,60,126,255]),(17,[0,1,2,3,4,5,6],[0,0,3,7,0,16,63]),(23,[0,1,2,3,4,5,6,7,8,9,11,10,12,13],[0,0,3,7,0,16,63,127,255,511,1023,255,4095,8191])]
def ZA:List (Nat×List Nat×List Nat):=[]
def Zh:List (Nat×List Nat×List Nat):=[]
def cL:List (Nat×List Nat×List Nat):=[]
def Zz:List (Nat×List Nat×List Nat):=[]
def cX:List (Nat×List Nat×List Nat):=[(5,[0,1,2,4,5,6,7,8,3,9,10],[0,1,3,7,0,16,48,112,240,15,1023])]
def Zi:List (Nat×List Nat×List Nat):=[]
def Zj:List (Nat×List Nat×List Nat):=[]
def T2:List (Nat×List Nat×List Nat):=[]
def bE:List (Nat×List Nat×List Nat):=[]
def ZE:List (Nat×List Nat×List Nat):=[]
def PL:List (Nat×List Nat×List Nat):=[]
def Zf:List (Nat×List Nat×List Nat):=[]
def aB:List (Nat×List Nat×List Nat):=[]
def Zw:List (Nat×List Nat×List Nat):=[]
def bX:List (Nat×List Nat×List Nat):=[]
def aP:List (Nat×List Nat×List Nat):=[]
def Z6:List (Nat×List Nat×List Nat):=[]
def T9:List (Nat×List Nat×List Nat):=[]
def Y3:List (Nat×List Nat×List Nat):=[]
def PN:List (Nat×List Nat×List Nat):=[]
def QE:List (Nat×List Nat×List Nat):=[]
def Lx:List (Nat×List Nat×List Nat):=[]
def Fd:List (Nat×List Nat×List Nat):=[(5,[0,1,2,3,4,5],[0,0,2,6,15,31]),(8,[0,1,2,3,4,5,6,7,8,9,10,11,12,13],[0,1,3,7,15,15,47,111,255,511,1023,15,4095,8191])]
def UA:List (Nat×List Nat×List Nat):=[]
def L5:List (Nat×List Nat×List Nat):=[]
def cE:List (Nat×List Nat×List Nat):=[]
def cD:List (Nat×List Nat×List Nat):=[]
def bO:List (Nat×List Nat×List Nat):=[(19,[0,1,2,3,4,5,6,7,8,9,10,11],[0,0,0,6,14,0,0,96,224,510,1023,2047])]
def cJ:List (Nat×List Nat×List Nat):=[(6,[0,1,2,3,5,6,8,9,10,4,7,11,12],[0,0,0,6,15,0,32,127,0,0,768,2047,4095])]
def Ys:List (Nat×List Nat×List Nat):=[(2,[0,1,2,3,4,5,6,7,8,9,10,11,12],[0,1,3,7,15,7,7,71,7,487,1023,2047,4095]),(4,[0,1,2,3,5,6,8,9,10,4,7,11,12],[0,0,0,6,15,0,32,127,0,0,768,2047,4095])]
def aL:List (Nat×List Nat×List Nat):=[(19,[0,1,2,3,5,6,7,8,4,9,10],[0,0,0,6,15,0,0,64,224,511,1023])]
def bU:List (Nat×List Nat×List Nat):=[]
def Y9:List (Nat×List Nat×List Nat):=[(9,[0,1,2,3,4,5,6,7,8,9],[0,0,0,6,0,0,48,126,255,511])]
def Z7:List (Nat×List Nat×List Nat):=[]
def Yp:List (Nat×List Nat×List Nat):=[]
def Pg:List (Nat×List Nat×List Nat):=[(1,[0,1,2,3,4,6,7,5,8,9,10,11,12,13,14,15],[0,1,3,7,7,23,7,71,247,511,1023,2047,4095,8191,16383,32767]),(15,[0,1,2,3,4,5],[0,0,2,7,0,31])]
def bH:List (Nat×List Nat×List Nat):=[]
def aW:List (Nat×List Nat×List Nat):=[(17,[0,1,2,3,4,5,6,7,8,9,10,11,12,13,14,15,16],[0,1,3,7,7,7,39,119,247,7,7,1543,3591,8191,16383,32767,65535])]
def bN:List (Nat×List Nat×List Nat):=[]
def Yu:List (Nat×List Nat×List Nat):=[(1,[0,1,2,3,5,6,7,8,4,9,10,11,12],[0,1,0,4,15,0,32,0,128,511,1023,2047,4095])]
def aY:List (Nat×List Nat×List Nat):=[]
def Ze:List (Nat×List Nat×List Nat):=[]
def Z9:List (Nat×List Nat×List Nat):=[(4,[0,1,2,3,4,5,6,7,8,9,10],[0,0,3,7,15,0,0,96,224,480,1023]),(5,[0,1,2,3,4,5,6,7,8,9,10,11],[0,0,3,7,15,0,0,96,224,480,1023,2047]),(6,[0,1,2,3,4,5,6,7,8,9,10],[0,0,3,7,15,0,0,96,224,480,1023]),(7,[0,1,2,3,4,5,6,7,8,9,10,11],[0,0,3,7,15,0,0,96,224,480,1023,2047])]
def ZF:List (Nat×List Nat×List Nat):=[(4,[0,1,2,3,4,5,6,7,8,9,10,11,12,13,14,15,16],[0,0,3,7,15,15,15,111,239,15,15,1039,3599,7695,16383,32767,65535]),(6,[0,1,2,3,4,5,6,7,8,9,10,11,12,13,14,15,16,17],[0,0,0,0,8,0,0,64,224,480,0,0,3072,7168,16355,32739,65535,131071])]
def Yw:List (Nat×List Nat×List Nat):=[]
theorem mixed:Tryz.prog.follows .mixedOrders=true:=by kernel_rfl
end Go.Proofs.YthblfhgofopcaaaGreat
