/-
  Parts of the proof: Tys.
-/
import Derived.Test.YthblfhgofopcaaaGreatProg
import Derived.Test.YthblfhgofopcaaaGreatHA09
import Derived.KernelRfl
set_option linter.all false
namespace Go.Proofs.YthblfhgofopcaaaGreat
open Go.RowKit
def tysOk (P : Program) : List (Nat × TI) → Prop
 | [] => True
 | p :: l => tiOf P p.1 = some p.2 ∧ tysOk P l
def lkT : List (Nat × TI) → Nat → Option TI
 | [], _ => none
 | p :: l, t => if p.1 = t then some p.2 else lkT l t
theorem tys_ok {P : Program} {l : List (Nat × TI)} (h : tysOk P l) : TyOk P (lkT l) := by
 induction l with
 | nil => intro t i ht; cases ht
 | cons p l ih =>
  intro t i ht
  simp only [lkT] at ht
  split at ht
  ·rename_i hp
   injection ht with ht
   subst hp ht
   exact h.1
  ·exact ih h.2 t i ht
def tyL : List (Nat × TI) := [(3, ⟨false, 1, 8, [.int .i64 0], .int .i64⟩),
 (4, ⟨false, 1, 1, [.bool false], .bool⟩),
 (5, ⟨false, 1, 1, [.int .u8 0], .int .u8⟩),
 (9, ⟨false, 1, 16, [.string ⟨#[]⟩], .str⟩),
 (22, ⟨false, 1, 24, [.slice none 0 0], .slice 3⟩),
 (24, ⟨true, 9, 104, [.int .i64 0, .slice none 0 0, .int .i64 0, .int .i64 0, .int .i64 0, .int .i64 0, .int .i64 0, .int .i64 0, .slice none 0 0], .st [(0, 3), (1, 22), (2, 3), (3, 3), (4, 3), (5, 3), (6, 3), (7, 3), (8, 22)]⟩),
 (26, ⟨true, 3, 40, [.int .i64 0, .slice none 0 0, .bool false], .st [(0, 3), (1, 22), (2, 4)]⟩),
 (27, ⟨false, 1, 24, [.slice none 0 0], .slice 26⟩),
 (29, ⟨false, 1, 24, [.slice none 0 0], .slice 72⟩),
 (31, ⟨true, 2, 48, [.slice none 0 0, .slice none 0 0], .st [(0, 22), (1, 29)]⟩),
 (34, ⟨false, 1, 8, [.int .i64 0], .int .i64⟩),
 (44, ⟨false, 1, 24, [.slice none 0 0], .slice 58⟩),
 (50, ⟨false, 1, 24, [.slice none 0 0], .slice 24⟩),
 (51, ⟨false, 1, 24, [.slice none 0 0], .slice 27⟩),
 (52, ⟨false, 1, 24, [.slice none 0 0], .slice 31⟩),
 (58, ⟨true, 3, 40, [.int .i64 0, .slice none 0 0, .int .i64 0], .st [(0, 3), (1, 29), (2, 3)]⟩),
 (72, ⟨true, 3, 24, [.int .i64 0, .int .i64 0, .bool false], .st [(0, 3), (1, 3), (2, 4)]⟩),
 (82, ⟨false, 1, 24, [.slice none 0 0], .slice 22⟩),
 (84, ⟨false, 1, 24, [.slice none 0 0], .slice 29⟩),
 (113, ⟨false, 1, 8, [.int .u64 0], .int .u64⟩),
 (115, ⟨true, 1, 8, [.int .u64 0], .st [(0, 113)]⟩),
 (116, ⟨false, 1, 8, [.int .u64 0], .int .u64⟩),
 (128, ⟨false, 1, 24, [.slice none 0 0], .slice 34⟩),
 (129, ⟨false, 1, 24, [.slice none 0 0], .slice 4⟩),
 (136, ⟨true, 2, 16, [.int .i64 0, .int .i64 0], .st [(0, 3), (1, 3)]⟩),
 (138, ⟨true, 3, 24, [.int .i64 0, .int .i64 0, .int .i64 0], .st [(0, 3), (1, 3), (2, 3)]⟩),
 (139, ⟨true, 18, 144, [.int .i64 0, .int .i64 0, .int .i64 0, .int .i64 0, .int .i64 0, .int .i64 0, .int .i64 0, .int .i64 0, .int .i64 0, .int .i64 0, .int .i64 0, .int .i64 0, .int .i64 0, .int .i64 0, .int .i64 0, .int .i64 0, .int .i64 0, .int .i64 0], .arr 6 138⟩),
 (144, ⟨false, 1, 8, [.nilFunc], .other⟩),
 (147, ⟨true, 14, 192, [.int .i64 0, .slice none 0 0, .int .i64 0, .int .i64 0, .int .i64 0, .int .i64 0, .int .i64 0, .int .i64 0, .slice none 0 0, .int .i64 0, .slice none 0 0, .bool false, .slice none 0 0, .slice none 0 0], .st [(0, 24), (9, 26), (12, 31)]⟩),
 (148, ⟨true, 7, 56, [.nilFunc, .nilFunc, .nilFunc, .nilFunc, .nilFunc, .nilFunc, .nilFunc], .arr 7 144⟩),
 (160, ⟨false, 1, 8, [.nilFunc], .other⟩),
 (161, ⟨false, 1, 8, [.nilFunc], .other⟩),
 (165, ⟨false, 1, 8, [.nilFunc], .other⟩),
 (167, ⟨true, 3, 24, [.int .i64 0, .int .i64 0, .int .i64 0], .arr 3 3⟩),
 (172, ⟨true, 2, 16, [.int .i64 0, .int .i64 0], .arr 2 3⟩),
 (173, ⟨false, 1, 24, [.slice none 0 0], .slice 175⟩),
 (175, ⟨true, 3, 24, [.int .i64 0, .int .i64 0, .int .i64 0], .arr 3 3⟩),
 (176, ⟨false, 1, 4, [.int .u32 0], .int .u32⟩),
 (189, ⟨false, 1, 8, [.int .i64 0], .int .i64⟩),
 (202, ⟨false, 1, 8, [.int .u64 0], .int .u64⟩)]
def tys : Tys := lkT tyL
theorem tysGood : TyOk Tryz.prog tys := tys_ok ⟨by kernel_rfl, by kernel_rfl, by kernel_rfl, by kernel_rfl, by kernel_rfl, by kernel_rfl, by kernel_rfl, by kernel_rfl, by kernel_rfl, by kernel_rfl, by kernel_rfl, by kernel_rfl, by kernel_rfl, by kernel_rfl, by kernel_rfl, by kernel_rfl, by kernel_rfl, by kernel_rfl, by kernel_rfl, by kernel_rfl, by kernel_rfl, by kernel_rfl, by kernel_rfl, by kernel_rfl, by kernel_rfl, by kernel_rfl, by kernel_rfl, by kernel_rfl, by kernel_rfl, by kernel_rfl, by kernel_rfl, by kernel_rfl, by kernel_rfl, by kernel_rfl, by kernel_rfl, by kernel_rfl, by kernel_rfl, by kernel_rfl, by kernel_rfl, by kernel_rfl, trivial⟩
@[go_sem] theorem tys_3 : tys 3 = some ⟨false, 1, 8, [.int .i64 0], .int .i64⟩ := rfl
@[go_sem] theorem tys_4 : tys 4 = some ⟨false, 1, 1, [.bool false], .bool⟩ := rfl
@[go_sem] theorem tys_5 : tys 5 = some ⟨false, 1, 1, [.int .u8 0], .int .u8⟩ := rfl
@[go_sem] theorem tys_9 : tys 9 = some ⟨false, 1, 16, [.string ⟨#[]⟩], .str⟩ := rfl
@[go_sem] theorem tys_22 : tys 22 = some ⟨false, 1, 24, [.slice none 0 0], .slice 3⟩ := rfl
@[go_sem] theorem tys_24 : tys 24 = some ⟨true, 9, 104, [.int .i64 0, .slice none 0 0, .int .i64 0, .int .i64 0, .int .i64 0, .int .i64 0, .int .i64 0, .int .i64 0, .slice none 0 0], .st [(0, 3), (1, 22), (2, 3), (3, 3), (4, 3), (5, 3), (6, 3), (7, 3), (8, 22)]⟩ := rfl
@[go_sem] theorem tys_26 : tys 26 = some ⟨true, 3, 40, [.int .i64 0, .slice none 0 0, .bool false], .st [(0, 3), (1, 22), (2, 4)]⟩ := rfl
@[go_sem] theorem tys_27 : tys 27 = some ⟨false, 1, 24, [.slice none 0 0], .slice 26⟩ := rfl
@[go_sem] theorem tys_29 : tys 29 = some ⟨false, 1, 24, [.slice none 0 0], .slice 72⟩ := rfl
@[go_sem] theorem tys_31 : tys 31 = some ⟨true, 2, 48, [.slice none 0 0, .slice none 0 0], .st [(0, 22), (1, 29)]⟩ := rfl
@[go_sem] theorem tys_34 : tys 34 = some ⟨false, 1, 8, [.int .i64 0], .int .i64⟩ := rfl
@[go_sem] theorem tys_44 : tys 44 = some ⟨false, 1, 24, [.slice none 0 0], .slice 58⟩ := rfl
@[go_sem] theorem tys_50 : tys 50 = some ⟨false, 1, 24, [.slice none 0 0], .slice 24⟩ := rfl
@[go_sem] theorem tys_52 : tys 52 = some ⟨false, 1, 24, [.slice none 0 0], .slice 31⟩ := rfl
@[go_sem] theorem tys_58 : tys 58 = some ⟨true, 3, 40, [.int .i64 0, .slice none 0 0, .int .i64 0], .st [(0, 3), (1, 29), (2, 3)]⟩ := rfl
@[go_sem] theorem tys_72 : tys 72 = some ⟨true, 3, 24, [.int .i64 0, .int .i64 0, .bool false], .st [(0, 3), (1, 3), (2, 4)]⟩ := rfl
@[go_sem] theorem tys_84 : tys 84 = some ⟨false, 1, 24, [.slice none 0 0], .slice 29⟩ := rfl
@[go_sem] theorem tys_113 : tys 113 = some ⟨false, 1, 8, [.int .u64 0], .int .u64⟩ := rfl
@[go_sem] theorem tys_115 : tys 115 = some ⟨true, 1, 8, [.int .u64 0], .st [(0, 113)]⟩ := rfl
@[go_sem] theorem tys_116 : tys 116 = some ⟨false, 1, 8, [.int .u64 0], .int .u64⟩ := rfl
@[go_sem] theorem tys_136 : tys 136 = some ⟨true, 2, 16, [.int .i64 0, .int .i64 0], .st [(0, 3), (1, 3)]⟩ := rfl
@[go_sem] theorem tys_138 : tys 138 = some ⟨true, 3, 24, [.int .i64 0, .int .i64 0, .int .i64 0], .st [(0, 3), (1, 3), (2, 3)]⟩ := rfl
@[go_sem] theorem tys_139 : tys 139 = some ⟨true, 18, 144, [.int .i64 0, .int .i64 0, .int .i64 0, .int .i64 0, .int .i64 0, .int .i64 0, .int .i64 0, .int .i64 0, .int .i64 0, .int .i64 0, .int .i64 0, .int .i64 0, .int .i64 0, .int .i64 0, .int .i64 0, .int .i64 0, .int .i64 0, .int .i64 0], .arr 6 138⟩ := rfl
@[go_sem] theorem tys_144 : tys 144 = some ⟨false, 1, 8, [.nilFunc], .other⟩ := rfl
@[go_sem] theorem tys_147 : tys 147 = some ⟨true, 14, 192, [.int .i64 0, .slice none 0 0, .int .i64 0, .int .i64 0, .int .i64 0, .int .i64 0, .int .i64 0, .int .i64 0, .slice none 0 0, .int .i64 0, .slice none 0 0, .bool false, .slice none 0 0, .slice none 0 0], .st [(0, 24), (9, 26), (12, 31)]⟩ := rfl
@[go_sem] theorem tys_148 : tys 148 = some ⟨true, 7, 56, [.nilFunc, .nilFunc, .nilFunc, .nilFunc, .nilFunc, .nilFunc, .nilFunc], .arr 7 144⟩ := rfl
@[go_sem] theorem tys_160 : tys 160 = some ⟨false, 1, 8, [.nilFunc], .other⟩ := rfl
@[go_sem] theorem tys_161 : tys 161 = some ⟨false, 1, 8, [.nilFunc], .other⟩ := rfl
@[go_sem] theorem tys_165 : tys 165 = some ⟨false, 1, 8, [.nilFunc], .other⟩ := rfl
@[go_sem] theorem tys_167 : tys 167 = some ⟨true, 3, 24, [.int .i64 0, .int .i64 0, .int .i64 0], .arr 3 3⟩ := rfl
@[go_sem] theorem tys_176 : tys 176 = some ⟨false, 1, 4, [.int .u32 0], .int .u32⟩ := rfl
@[go_sem] theorem tys_189 : tys 189 = some ⟨false, 1, 8, [.int .i64 0], .int .i64⟩ := rfl
@[go_sem] theorem tys_202 : tys 202 = some ⟨false, 1, 8, [.int .u64 0], .int .u64⟩ := rfl
@[go_sem] theorem res_12 : Tryz.f12.results.toList = [.tmp 12] := rfl
@[go_sem] theorem res_17 : Tryz.f17.results.toList = [.tmp 6] := rfl
@[go_sem] theorem res_18 : Tryz.f18.results.toList = [.tmp 0] := rfl
@[go_sem] theorem res_20 : Tryz.f20.results.toList = [.tmp 4] := rfl
@[go_sem] theorem res_21 : Tryz.f21.results.toList = [.tmp 4] := rfl
@[go_sem] theorem res_22 : Tryz.f22.results.toList = [.tmp 4] := rfl
@[go_sem] theorem res_25 : Tryz.f25.results.toList = [.tmp 2, .cell 3 24, .tmp 4, .cell 5 31] := rfl
@[go_sem] theorem res_26 : Tryz.f26.results.toList = [.tmp 4] := rfl
@[go_sem] theorem res_28 : Tryz.f28.results.toList = [.tmp 8] := rfl
@[go_sem] theorem res_30 : Tryz.f30.results.toList = [.cell 2 31] := rfl
@[go_sem] theorem res_31 : Tryz.f31.results.toList = [.tmp 4] := rfl
@[go_sem] theorem res_32 : Tryz.f32.results.toList = [.cell 4 31] := rfl
@[go_sem] theorem res_33 : Tryz.f33.results.toList = [.tmp 6] := rfl
@[go_sem] theorem res_35 : Tryz.f35.results.toList = [.tmp 4] := rfl
@[go_sem] theorem res_36 : Tryz.f36.results.toList = [.tmp 6] := rfl
@[go_sem] theorem res_40 : Tryz.f40.results.toList = [.tmp 4] := rfl
@[go_sem] theorem res_41 : Tryz.f41.results.toList = [.tmp 4] := rfl
@[go_sem] theorem res_43 : Tryz.f43.results.toList = [.tmp 4] := rfl
@[go_sem] theorem res_44 : Tryz.f44.results.toList = [.tmp 2] := rfl
@[go_sem] theorem res_45 : Tryz.f45.results.toList = [.cell 2 24] := rfl
@[go_sem] theorem res_46 : Tryz.f46.results.toList = [.cell 4 31, .tmp 5, .tmp 6] := rfl
@[go_sem] theorem res_47 : Tryz.f47.results.toList = [.tmp 0] := rfl
@[go_sem] theorem res_48 : Tryz.f48.results.toList = [.tmp 4] := rfl
@[go_sem] theorem res_49 : Tryz.f49.results.toList = [.tmp 2] := rfl
@[go_sem] theorem res_50 : Tryz.f50.results.toList = [.tmp 4] := rfl
@[go_sem] theorem res_53 : Tryz.f53.results.toList = [.tmp 4] := rfl
@[go_sem] theorem res_54 : Tryz.f54.results.toList = [.tmp 4] := rfl
@[go_sem] theorem res_55 : Tryz.f55.results.toList = [.tmp 4] := rfl
@[go_sem] theorem res_56 : Tryz.f56.results.toList = [.tmp 4] := rfl
@[go_sem] theorem res_57 : Tryz.f57.results.toList = [.cell 2 31] := rfl
@[go_sem] theorem res_58 : Tryz.f58.results.toList = [.tmp 4] := rfl
@[go_sem] theorem res_61 : Tryz.f61.results.toList = [.tmp 4] := rfl
@[go_sem] theorem res_66 : Tryz.f66.results.toList = [.cell 0 24] := rfl
@[go_sem] theorem res_67 : Tryz.f67.results.toList = [.cell 0 24] := rfl
@[go_sem] theorem res_68 : Tryz.f68.results.toList = [.cell 10 31] := rfl
@[go_sem] theorem res_76 : Tryz.f76.results.toList = [.tmp 2] := rfl
@[go_sem] theorem res_77 : Tryz.f77.results.toList = [.tmp 4] := rfl
@[go_sem] theorem res_78 : Tryz.f78.results.toList = [.tmp 6] := rfl
@[go_sem] theorem res_79 : Tryz.f79.results.toList = [.tmp 2] := rfl
@[go_sem] theorem res_80 : Tryz.f80.results.toList = [.tmp 2] := rfl
@[go_sem] theorem res_81 : Tryz.f81.results.toList = [.tmp 4] := rfl
@[go_sem] theorem res_82 : Tryz.f82.results.toList = [.tmp 4] := rfl
@[go_sem] theorem res_83 : Tryz.f83.results.toList = [.cell 4 24] := rfl
@[go_sem] theorem res_84 : Tryz.f84.results.toList = [.tmp 6] := rfl
@[go_sem] theorem res_85 : Tryz.f85.results.toList = [.cell 6 31] := rfl
@[go_sem] theorem res_87 : Tryz.f87.results.toList = [.tmp 6] := rfl
@[go_sem] theorem res_88 : Tryz.f88.results.toList = [.tmp 6] := rfl
@[go_sem] theorem res_89 : Tryz.f89.results.toList = [.tmp 2] := rfl
@[go_sem] theorem res_90 : Tryz.f90.results.toList = [.tmp 4] := rfl
@[go_sem] theorem res_91 : Tryz.f91.results.toList = [.tmp 2] := rfl
@[go_sem] theorem res_92 : Tryz.f92.results.toList = [.tmp 4] := rfl
@[go_sem] theorem res_95 : Tryz.f95.results.toList = [.tmp 4] := rfl
@[go_sem] theorem res_96 : Tryz.f96.results.toList = [.tmp 4] := rfl
@[go_sem] theorem res_97 : Tryz.f97.results.toList = [.tmp 2] := rfl
@[go_sem] theorem res_98 : Tryz.f98.results.toList = [.tmp 4] := rfl
@[go_sem] theorem res_99 : Tryz.f99.results.toList = [.tmp 4] := rfl
@[go_sem] theorem res_101 : Tryz.f101.results.toList = [.tmp 2] := rfl
@[go_sem] theorem res_102 : Tryz.f102.results.toList = [.tmp 2] := rfl
@[go_sem] theorem res_104 : Tryz.f104.results.toList = [.tmp 2] := rfl
@[go_sem] theorem res_105 : Tryz.f105.results.toList = [.tmp 4] := rfl
@[go_sem] theorem res_106 : Tryz.f106.results.toList = [.tmp 4] := rfl
@[go_sem] theorem res_107 : Tryz.f107.results.toList = [.cell 4 26] := rfl
@[go_sem] theorem res_108 : Tryz.f108.results.toList = [.tmp 2] := rfl
@[go_sem] theorem res_109 : Tryz.f109.results.toList = [.cell 6 72] := rfl
@[go_sem] theorem res_110 : Tryz.f110.results.toList = [.tmp 6] := rfl
@[go_sem] theorem res_111 : Tryz.f111.results.toList = [] := rfl
@[go_sem] theorem res_112 : Tryz.f112.results.toList = [.tmp 4] := rfl
@[go_sem] theorem res_113 : Tryz.f113.results.toList = [.tmp 4] := rfl
@[go_sem] theorem res_114 : Tryz.f114.results.toList = [.tmp 4] := rfl
@[go_sem] theorem res_117 : Tryz.f117.results.toList = [.tmp 4] := rfl
@[go_sem] theorem res_118 : Tryz.f118.results.toList = [.tmp 4] := rfl
@[go_sem] theorem res_119 : Tryz.f119.results.toList = [.tmp 4] := rfl
@[go_sem] theorem res_120 : Tryz.f120.results.toList = [.tmp 2] := rfl
@[go_sem] theorem res_121 : Tryz.f121.results.toList = [.tmp 2] := rfl
@[go_sem] theorem res_122 : Tryz.f122.results.toList = [.tmp 4] := rfl
@[go_sem] theorem res_123 : Tryz.f123.results.toList = [.tmp 2] := rfl
@[go_sem] theorem res_124 : Tryz.f124.results.toList = [.tmp 4] := rfl
@[go_sem] theorem res_126 : Tryz.f126.results.toList = [.cell 4 3, .cell 5 3] := rfl
@[go_sem] theorem res_127 : Tryz.f127.results.toList = [.tmp 2] := rfl
@[go_sem] theorem res_129 : Tryz.f129.results.toList = [.tmp 6] := rfl
@[go_sem] theorem res_130 : Tryz.f130.results.toList = [.tmp 2] := rfl
@[go_sem] theorem res_131 : Tryz.f131.results.toList = [.cell 6 31, .tmp 7] := rfl
@[go_sem] theorem res_132 : Tryz.f132.results.toList = [.cell 8 31] := rfl
@[go_sem] theorem res_133 : Tryz.f133.results.toList = [.tmp 2] := rfl
@[go_sem] theorem res_139 : Tryz.f139.results.toList = [.tmp 4] := rfl
@[go_sem] theorem res_140 : Tryz.f140.results.toList = [.tmp 4] := rfl
@[go_sem] theorem res_141 : Tryz.f141.results.toList = [.tmp 2] := rfl
@[go_sem] theorem res_150 : Tryz.f150.results.toList = [.tmp 4] := rfl
@[go_sem] theorem res_151 : Tryz.f151.results.toList = [.tmp 2] := rfl
@[go_sem] theorem res_152 : Tryz.f152.results.toList = [.tmp 6] := rfl
@[go_sem] theorem res_153 : Tryz.f153.results.toList = [.tmp 4] := rfl
@[go_sem] theorem res_154 : Tryz.f154.results.toList = [.tmp 4, .tmp 5] := rfl
@[go_sem] theorem res_156 : Tryz.f156.results.toList = [.tmp 4] := rfl
@[go_sem] theorem res_157 : Tryz.f157.results.toList = [] := rfl
@[go_sem] theorem res_158 : Tryz.f158.results.toList = [] := rfl
@[go_sem] theorem res_159 : Tryz.f159.results.toList = [.tmp 2] := rfl
@[go_sem] theorem res_160 : Tryz.f160.results.toList = [] := rfl
@[go_sem] theorem res_161 : Tryz.f161.results.toList = [] := rfl
@[go_sem] theorem res_162 : Tryz.f162.results.toList = [.tmp 4] := rfl
@[go_sem] theorem res_166 : Tryz.f166.results.toList = [] := rfl
@[go_sem] theorem res_167 : Tryz.f167.results.toList = [.tmp 6] := rfl
@[go_sem] theorem res_168 : Tryz.f168.results.toList = [.tmp 4] := rfl
@[go_sem] theorem res_169 : Tryz.f169.results.toList = [.tmp 4] := rfl
@[go_sem] theorem res_174 : Tryz.f174.results.toList = [.tmp 4, .tmp 5] := rfl
@[go_sem] theorem res_175 : Tryz.f175.results.toList = [.tmp 4, .tmp 5] := rfl
@[go_sem] theorem res_176 : Tryz.f176.results.toList = [.tmp 4, .tmp 5] := rfl
@[go_sem] theorem res_177 : Tryz.f177.results.toList = [] := rfl
@[go_sem] theorem res_178 : Tryz.f178.results.toList = [.tmp 4] := rfl
@[go_sem] theorem res_179 : Tryz.f179.results.toList = [] := rfl
@[go_sem] theorem res_180 : Tryz.f180.results.toList = [.tmp 2] := rfl
@[go_sem] theorem res_181 : Tryz.f181.results.toList = [.tmp 6] := rfl
@[go_sem] theorem res_182 : Tryz.f182.results.toList = [.tmp 4] := rfl
@[go_sem] theorem res_183 : Tryz.f183.results.toList = [.tmp 2] := rfl
@[go_sem] theorem res_184 : Tryz.f184.results.toList = [.tmp 4] := rfl
@[go_sem] theorem res_188 : Tryz.f188.results.toList = [] := rfl
@[go_sem] theorem res_189 : Tryz.f189.results.toList = [] := rfl
@[go_sem] theorem res_190 : Tryz.f190.results.toList = [] := rfl
@[go_sem] theorem res_191 : Tryz.f191.results.toList = [] := rfl
@[go_sem] theorem res_192 : Tryz.f192.results.toList = [.tmp 8, .tmp 9] := rfl
@[go_sem] theorem res_193 : Tryz.f193.results.toList = [] := rfl
@[go_sem] theorem res_194 : Tryz.f194.results.toList = [.tmp 8] := rfl
@[go_sem] theorem res_195 : Tryz.f195.results.toList = [.tmp 10] := rfl
@[go_sem] theorem res_196 : Tryz.f196.results.toList = [.tmp 10, .tmp 11] := rfl
@[go_sem] theorem res_197 : Tryz.f197.results.toList = [.tmp 2] := rfl
@[go_sem] theorem res_198 : Tryz.f198.results.toList = [.tmp 2] := rfl
@[go_sem] theorem res_199 : Tryz.f199.results.toList = [.tmp 2] := rfl
@[go_sem] theorem res_200 : Tryz.f200.results.toList = [] := rfl
@[go_sem] theorem res_201 : Tryz.f201.results.toList = [] := rfl
@[go_sem] theorem res_202 : Tryz.f202.results.toList = [] := rfl
@[go_sem] theorem res_203 : Tryz.f203.results.toList = [.tmp 8, .tmp 9] := rfl
@[go_sem] theorem res_204 : Tryz.f204.results.toList = [] := rfl
@[go_sem] theorem res_205 : Tryz.f205.results.toList = [.tmp 8] := rfl
@[go_sem] theorem res_206 : Tryz.f206.results.toList = [.tmp 10] := rfl
@[go_sem] theorem res_207 : Tryz.f207.results.toList = [.tmp 10, .tmp 11] := rfl
@[go_sem] theorem res_208 : Tryz.f208.results.toList = [] := rfl
@[go_sem] theorem res_209 : Tryz.f209.results.toList = [.tmp 2] := rfl
@[go_sem] theorem res_210 : Tryz.f210.results.toList = [.tmp 2] := rfl
@[go_sem] theorem res_211 : Tryz.f211.results.toList = [.tmp 8] := rfl
@[go_sem] theorem res_212 : Tryz.f212.results.toList = [.tmp 12] := rfl
@[go_sem] theorem res_213 : Tryz.f213.results.toList = [] := rfl
@[go_sem] theorem res_214 : Tryz.f214.results.toList = [.tmp 8] := rfl
@[go_sem] theorem res_215 : Tryz.f215.results.toList = [.tmp 12] := rfl
@[go_sem] theorem res_216 : Tryz.f216.results.toList = [.tmp 10, .tmp 11] := rfl
@[go_sem] theorem res_217 : Tryz.f217.results.toList = [.tmp 10, .tmp 11] := rfl
def ord_12 : List (Nat × List Nat × List Nat) := [(4, [0, 1, 2, 3, 4, 5, 9, 10, 6, 7, 8, 11, 12, 13], [0, 1, 0, 0, 8, 24, 60, 127, 255, 0, 512, 2047, 4095, 8191]), (5, [0, 1, 2, 3, 4, 5, 6, 7, 8, 9], [0, 0, 0, 7, 0, 0, 0, 112, 15, 511]), (10, [0, 1, 2, 3, 4, 6, 7, 8, 9, 10, 11, 12, 13, 5, 14, 15, 16, 17, 18, 19, 20, 21, 23, 24, 25, 26, 27, 28, 29, 30, 22, 31, 32, 33, 34, 35, 36, 37, 38, 39, 41, 42, 43, 44, 45, 46, 47, 48, 40, 49, 50, 51, 52], [0, 0, 3, 7, 0, 31, 0, 0, 192, 448, 0, 0, 3072, 7168, 16383, 32767, 65535, 131071, 131071, 524287, 1048575, 131071, 4194303, 131071, 131071, 25296895, 58851327, 131071, 131071, 402784255, 939655167, 2147483647, 4294967295, 8589934591, 17179869183, 34359738367, 34359738367, 137438953471, 274877906943, 34359738367, 1099511627775, 34359738367, 34359738367, 6631429505023, 15427522527231, 34359738367, 34359738367, 105587476004863, 246324964360191, 562949953421311, 1125899906842623, 2251799813685247, 4503599627370495]), (13, [0, 1, 2, 3, 4, 5, 6, 7, 8, 9, 10, 11, 12, 13, 14, 15, 17, 18, 16, 19, 20, 21], [0, 0, 3, 7, 15, 31, 31, 31, 223, 479, 1023, 2047, 4095, 8191, 16383, 16383, 65535, 16383, 16383, 524287, 1048575, 2097151]), (23, [0, 1, 2, 3, 4, 5, 6], [0, 0, 0, 6, 14, 31, 63])]
def ord_17 : List (Nat × List Nat × List Nat) := []
def ord_18 : List (Nat × List Nat × List Nat) := [(2, [0, 1, 2, 3, 4], [0, 0, 2, 7, 15]), (3, [0, 1, 2, 3, 4, 5, 6, 7, 8, 9, 10, 11, 12, 13, 14, 15, 16, 17, 18, 22, 19, 20, 21, 23, 24, 25, 26, 27, 28, 29, 30, 31], [0, 1, 3, 7, 15, 31, 63, 127, 255, 511, 1023, 2047, 4095, 8191, 16383, 32767, 65535, 131071, 262143, 262143, 786431, 2097151, 262143, 8388607, 16777215, 33554431, 67108863, 67108863, 268435455, 536870911, 1073741823, 2147483647])]
def ord_20 : List (Nat × List Nat × List Nat) := []
def ord_21 : List (Nat × List Nat × List Nat) := []
def ord_22 : List (Nat × List Nat × List Nat) := []
def ord_25 : List (Nat × List Nat × List Nat) := [(6, [0, 1, 2, 3, 4, 5, 6, 7, 8, 9, 10], [0, 0, 0, 0, 0, 0, 56, 121, 251, 511, 1023])]
def ord_26 : List (Nat × List Nat × List Nat) := []
def ord_28 : List (Nat × List Nat × List Nat) := [(14, [0, 1, 2, 3, 4, 5, 6, 7, 8, 9, 10, 11, 12, 13, 14, 15, 16, 17], [0, 0, 2, 6, 15, 31, 63, 63, 255, 511, 63, 63, 2111, 7231, 15423, 32767, 65535, 131071]), (15, [0, 1, 2, 3, 4, 5, 6, 7, 9, 8, 10, 11], [0, 1, 3, 7, 7, 7, 55, 119, 255, 7, 1023, 2047])]
def ord_30 : List (Nat × List Nat × List Nat) := [(1, [0, 1, 2, 4, 5, 6, 3, 7, 8, 9], [0, 0, 2, 7, 0, 0, 32, 127, 255, 511])]
def ord_31 : List (Nat × List Nat × List Nat) := []
def ord_32 : List (Nat × List Nat × List Nat) := []
def ord_33 : List (Nat × List Nat × List Nat) := []
def ord_35 : List (Nat × List Nat × List Nat) := [(6, [0, 1, 2, 3, 4, 5, 6, 7, 8], [0, 0, 3, 7, 0, 0, 48, 112, 255])]
def ord_36 : List (Nat × List Nat × List Nat) := []
def ord_40 : List (Nat × List Nat × List Nat) := [(1, [0, 1, 2, 3, 4, 5, 6, 8, 9, 10, 11, 12, 13, 14, 15, 7, 16, 17, 18], [0, 0, 3, 7, 15, 31, 63, 127, 31, 287, 31, 1055, 3103, 7967, 16159, 32543, 65535, 131071, 262143])]
def ord_41 : List (Nat × List Nat × List Nat) := [(4, [0, 1, 2, 3, 4, 5], [0, 1, 3, 0, 8, 31])]
def ord_43 : List (Nat × List Nat × List Nat) := [(10, [0, 1, 2, 3, 5, 6, 8, 9, 10, 4, 7, 11, 12], [0, 0, 0, 6, 15, 0, 32, 127, 0, 0, 768, 2047, 4095])]
def ord_44 : List (Nat × List Nat × List Nat) := [(5, [0, 1, 2, 3, 4, 5, 6, 7, 8, 9, 10, 11, 12, 13, 14], [0, 0, 2, 6, 14, 0, 0, 96, 224, 480, 1022, 2046, 4095, 8191, 16383]), (6, [0, 1, 2, 3, 4, 5, 6, 7, 8, 9, 10, 11, 12, 13], [0, 0, 2, 6, 14, 0, 32, 96, 224, 480, 1022, 2047, 4095, 8191])]
def ord_45 : List (Nat × List Nat × List Nat) := []
def ord_46 : List (Nat × List Nat × List Nat) := [(4, [0, 2, 3, 4, 5, 1, 6, 7, 8], [0, 1, 0, 0, 8, 24, 63, 127, 255]), (24, [0, 1, 2, 3, 4, 5, 6, 7, 8, 9], [0, 0, 0, 4, 12, 30, 62, 127, 255, 511])]
def ord_47 : List (Nat × List Nat × List Nat) := []
def ord_48 : List (Nat × List Nat × List Nat) := []
def ord_49 : List (Nat × List Nat × List Nat) := [(6, [0, 1, 2, 3, 4, 5, 6, 7, 8, 9, 10, 11, 12, 13], [0, 1, 3, 7, 7, 31, 63, 7, 7, 263, 903, 1927, 4095, 8191]), (8, [0, 1, 2, 3, 5, 6, 7, 8, 9, 11, 12, 13, 4, 10, 14, 15], [0, 0, 0, 6, 15, 0, 0, 96, 224, 480, 1023, 0, 0, 6144, 16383, 32767])]
def ord_50 : List (Nat × List Nat × List Nat) := [(4, [0, 1, 2, 3, 4, 5, 6, 7, 8, 9, 10, 11, 12, 13, 14, 15], [0, 1, 3, 7, 0, 16, 48, 112, 240, 511, 1023, 0, 2048, 8191, 16383, 32767])]
def ord_53 : List (Nat × List Nat × List Nat) := [(12, [0, 1, 2, 3, 4, 5, 6, 7], [0, 0, 2, 0, 14, 30, 63, 127]), (19, [0, 1, 2, 3, 4, 5, 6], [0, 0, 3, 7, 0, 16, 63])]
def ord_54 : List (Nat × List Nat × List Nat) := [(1, [0, 1, 2, 3, 4, 5, 6, 8, 9, 10, 11, 12, 13, 14, 15, 7, 16, 17, 18], [0, 0, 3, 7, 15, 31, 63, 127, 31, 287, 31, 1055, 3103, 7967, 16159, 32543, 65535, 131071, 262143])]
def ord_55 : List (Nat × List Nat × List Nat) := []
def ord_56 : List (Nat × List Nat × List Nat) := []
def ord_57 : List (Nat × List Nat × List Nat) := [(1, [0, 1, 3, 4, 2, 5, 6, 7], [0, 1, 3, 0, 8, 31, 63, 127])]
def ord_58 : List (Nat × List Nat × List Nat) := []
def ord_61 : List (Nat × List Nat × List Nat) := []
def ord_66 : List (Nat × List Nat × List Nat) := []
def ord_67 : List (Nat × List Nat × List Nat) := []
def ord_68 : List (Nat × List Nat × List Nat) := []
def ord_77 : List (Nat × List Nat × List Nat) := [(6, [0, 1, 2, 3, 4, 5, 6, 7, 8], [0, 0, 3, 7, 0, 0, 48, 112, 255])]
def ord_78 : List (Nat × List Nat × List Nat) := []
def ord_80 : List (Nat × List Nat × List Nat) := []
def ord_81 : List (Nat × List Nat × List Nat) := []
def ord_82 : List (Nat × List Nat × List Nat) := []
def ord_83 : List (Nat × List Nat × List Nat) := [(5, [0, 1, 2, 3, 4, 5, 6, 7], [0, 1, 0, 4, 12, 31, 63, 127]), (7, [0, 2, 3, 5, 6, 8, 1, 4, 7, 9], [0, 1, 0, 4, 15, 0, 32, 127, 0, 511])]
def ord_84 : List (Nat × List Nat × List Nat) := []
def ord_85 : List (Nat × List Nat × List Nat) := [(1, [0, 1, 2, 3, 4, 5, 13, 6, 7, 8, 9, 10, 11, 12, 14, 15], [0, 0, 0, 0, 0, 16, 56, 124, 252, 511, 1023, 2047, 2047, 0, 12287, 32767])]
def ord_87 : List (Nat × List Nat × List Nat) := []
def ord_88 : List (Nat × List Nat × List Nat) := [(10, [0, 1, 2, 3, 4, 5, 6, 7, 8, 9], [0, 1, 3, 7, 0, 0, 0, 112, 255, 511])]
def ord_89 : List (Nat × List Nat × List Nat) := []
def ord_90 : List (Nat × List Nat × List Nat) := []
def ord_91 : List (Nat × List Nat × List Nat) := []
def ord_95 : List (Nat × List Nat × List Nat) := [(4, [0, 1, 2, 3, 4, 5, 6, 7, 8], [0, 0, 3, 7, 0, 0, 48, 112, 255])]
def ord_96 : List (Nat × List Nat × List Nat) := [(6, [0, 1, 2, 3, 4, 5, 6, 7, 8], [0, 0, 3, 7, 0, 0, 48, 112, 255])]
def ord_97 : List (Nat × List Nat × List Nat) := []
def ord_98 : List (Nat × List Nat × List Nat) := []
def ord_99 : List (Nat × List Nat × List Nat) := []
def ord_102 : List (Nat × List Nat × List Nat) := []
def ord_104 : List (Nat × List Nat × List Nat) := []
def ord_105 : List (Nat × List Nat × List Nat) := []
def ord_106 : List (Nat × List Nat × List Nat) := []
def ord_107 : List (Nat × List Nat × List Nat) := [(8, [0, 1, 2, 3, 4, 5], [0, 1, 3, 7, 0, 31])]
def ord_108 : List (Nat × List Nat × List Nat) := [(1, [0, 1, 3, 4, 6, 7, 2, 5, 8, 9], [0, 1, 3, 0, 8, 31, 0, 64, 255, 511])]
def ord_109 : List (Nat × List Nat × List Nat) := [(1, [0, 2, 3, 6, 8, 1, 4, 5, 7, 9], [0, 1, 0, 0, 11, 31, 0, 127, 0, 511])]
def ord_110 : List (Nat × List Nat × List Nat) := [(6, [0, 1, 2, 3, 4, 5, 6, 7, 8, 9], [0, 0, 0, 6, 14, 31, 63, 0, 128, 511])]
def ord_111 : List (Nat × List Nat × List Nat) := []
def ord_113 : List (Nat × List Nat × List Nat) := [(9, [0, 1, 2, 3, 4, 5, 6, 7, 8, 9], [0, 0, 0, 6, 0, 0, 48, 126, 255, 511])]
def ord_114 : List (Nat × List Nat × List Nat) := []
def ord_117 : List (Nat × List Nat × List Nat) := [(6, [0, 1, 2, 3, 4, 5, 6, 7, 8], [0, 0, 3, 7, 0, 0, 48, 112, 255])]
def ord_120 : List (Nat × List Nat × List Nat) := []
def ord_121 : List (Nat × List Nat × List Nat) := []
def ord_123 : List (Nat × List Nat × List Nat) := []
def ord_124 : List (Nat × List Nat × List Nat) := []
def ord_131 : List (Nat × List Nat × List Nat) := [(11, [0, 1, 2, 3, 4, 5, 10, 11, 6, 7, 8, 9, 12, 13], [0, 1, 0, 0, 8, 24, 60, 127, 255, 511, 0, 1024, 4095, 8191]), (27, [0, 1, 2, 3, 4, 5], [0, 0, 0, 6, 15, 31])]
def ord_132 : List (Nat × List Nat × List Nat) := [(1, [0, 3, 4, 5, 8, 1, 2, 6, 7, 9], [0, 1, 3, 0, 0, 16, 59, 127, 0, 511]), (6, [0, 1, 2, 3, 4, 5, 6, 7, 8], [0, 0, 0, 4, 0, 28, 60, 126, 255]), (17, [0, 1, 2, 3, 4, 5, 6], [0, 0, 3, 7, 0, 16, 63]), (23, [0, 1, 2, 3, 4, 5, 6, 7, 8, 9, 11, 10, 12, 13], [0, 0, 3, 7, 0, 16, 63, 127, 255, 511, 1023, 255, 4095, 8191])]
def ord_133 : List (Nat × List Nat × List Nat) := []
def ord_140 : List (Nat × List Nat × List Nat) := []
def ord_150 : List (Nat × List Nat × List Nat) := []
def ord_152 : List (Nat × List Nat × List Nat) := []
def ord_157 : List (Nat × List Nat × List Nat) := []
def ord_158 : List (Nat × List Nat × List Nat) := [(5, [0, 1, 2, 3, 4, 5], [0, 0, 2, 6, 15, 31]), (8, [0, 1, 2, 3, 4, 5, 6, 7, 8, 9, 10, 11, 12, 13], [0, 1, 3, 7, 15, 15, 47, 111, 255, 511, 1023, 15, 4095, 8191])]
def ord_159 : List (Nat × List Nat × List Nat) := []
def ord_160 : List (Nat × List Nat × List Nat) := []
def ord_162 : List (Nat × List Nat × List Nat) := []
def ord_168 : List (Nat × List Nat × List Nat) := [(19, [0, 1, 2, 3, 5, 6, 7, 8, 4, 9, 10], [0, 0, 0, 6, 15, 0, 0, 64, 224, 511, 1023])]
def ord_169 : List (Nat × List Nat × List Nat) := []
def ord_178 : List (Nat × List Nat × List Nat) := []
def ord_181 : List (Nat × List Nat × List Nat) := []
def ord_182 : List (Nat × List Nat × List Nat) := [(1, [0, 1, 2, 3, 5, 6, 7, 8, 4, 9, 10, 11, 12], [0, 1, 0, 4, 15, 0, 32, 0, 128, 511, 1023, 2047, 4095])]
def ord_183 : List (Nat × List Nat × List Nat) := []
def ord_184 : List (Nat × List Nat × List Nat) := []
def ord_199 : List (Nat × List Nat × List Nat) := []
theorem mixed : Tryz.prog.follows .mixedOrders = true := by kernel_rfl
end Go.Proofs.YthblfhgofopcaaaGreat
