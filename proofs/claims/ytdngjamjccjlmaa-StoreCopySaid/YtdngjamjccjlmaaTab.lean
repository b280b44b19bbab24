/- The seat's table of types. No condition. -/
import Derived.Test.YtdngjamjccjlmaaProg
import Derived.Test.YtdngjamjccjlmaaPAb
namespace Go.Proofs.Ytdngjamjccjlmaa
open Go Go.Ab

def tab : List (Nat × TL) := [(2, ⟨.int .i64, 1, 8, .int .i64 0⟩),
  (3, ⟨.int .i64, 1, 8, .int .i64 0⟩),
  (4, ⟨.bool, 1, 1, .bool false⟩),
  (5, ⟨.int .u8, 1, 1, .int .u8 0⟩),
  (9, ⟨.str, 1, 16, .str ByteArray.empty⟩),
  (12, ⟨.int .u64, 1, 8, .int .u64 0⟩),
  (13, ⟨.st [(0, 9), (1, 12)], 2, 24, .agg [.str ByteArray.empty, .int .u64 0]⟩),
  (19, ⟨.st [(0, 17)], 1, 8, .agg [.nilp]⟩),
  (21, ⟨.int .i32, 1, 4, .int .i32 0⟩),
  (22, ⟨.sl 24, 1, 24, .sl [] .full⟩),
  (23, ⟨.st [(0, 3), (1, 3), (2, 22)], 3, 40, .agg [.int .i64 0, .int .i64 0, .sl [] .full]⟩),
  (24, ⟨.st [(0, 3), (1, 3), (2, 22)], 3, 40, .agg [.int .i64 0, .int .i64 0, .sl [] .full]⟩),
  (27, ⟨.ptr, 1, 8, .nilp⟩),
  (29, ⟨.map 3 3, 1, 8, .nilm⟩),
  (30, ⟨.int .i64, 1, 8, .int .i64 0⟩),
  (33, ⟨.sl 3, 1, 24, .sl [] .full⟩),
  (56, ⟨.st [(0, 24), (3, 24)], 6, 80, .agg [.int .i64 0, .int .i64 0, .sl [] .full, .int .i64 0, .int .i64 0, .sl [] .full]⟩),
  (57, ⟨.st [(0, 24), (3, 24)], 6, 80, .agg [.int .i64 0, .int .i64 0, .sl [] .full, .int .i64 0, .int .i64 0, .sl [] .full]⟩),
  (58, ⟨.sl 57, 1, 24, .sl [] .full⟩),
  (61, ⟨.ptr, 1, 8, .nilp⟩),
  (67, ⟨.sl 69, 1, 24, .sl [] .full⟩),
  (68, ⟨.st [(0, 3), (1, 3), (2, 3), (3, 3), (4, 24), (7, 33), (8, 33)], 9, 120, .agg [.int .i64 0, .int .i64 0, .int .i64 0, .int .i64 0, .int .i64 0, .int .i64 0, .sl [] .full, .sl [] .full, .sl [] .full]⟩),
  (69, ⟨.st [(0, 3), (1, 3), (2, 3), (3, 3), (4, 24), (7, 33), (8, 33)], 9, 120, .agg [.int .i64 0, .int .i64 0, .int .i64 0, .int .i64 0, .int .i64 0, .int .i64 0, .sl [] .full, .sl [] .full, .sl [] .full]⟩),
  (70, ⟨.sl 139, 1, 24, .sl [] .full⟩),
  (71, ⟨.st [(0, 3), (1, 3), (2, 70)], 3, 40, .agg [.int .i64 0, .int .i64 0, .sl [] .full]⟩),
  (72, ⟨.st [(0, 3), (1, 3), (2, 70)], 3, 40, .agg [.int .i64 0, .int .i64 0, .sl [] .full]⟩),
  (78, ⟨.sl 150, 1, 24, .sl [] .full⟩),
  (86, ⟨.st [(0, 3), (1, 3)], 2, 16, .agg [.int .i64 0, .int .i64 0]⟩),
  (87, ⟨.st [(0, 3), (1, 3)], 2, 16, .agg [.int .i64 0, .int .i64 0]⟩),
  (88, ⟨.sl 90, 1, 24, .sl [] .full⟩),
  (89, ⟨.st [(0, 3), (1, 87), (3, 9), (4, 2), (5, 9), (6, 88)], 7, 88, .agg [.int .i64 0, .int .i64 0, .int .i64 0, .str ByteArray.empty, .int .i64 0, .str ByteArray.empty, .sl [] .full]⟩),
  (90, ⟨.st [(0, 3), (1, 87), (3, 9), (4, 2), (5, 9), (6, 88)], 7, 88, .agg [.int .i64 0, .int .i64 0, .int .i64 0, .str ByteArray.empty, .int .i64 0, .str ByteArray.empty, .sl [] .full]⟩),
  (94, ⟨.sl 111, 1, 24, .sl [] .full⟩),
  (98, ⟨.sl 9, 1, 24, .sl [] .full⟩),
  (106, ⟨.st [(0, 87), (2, 30), (3, 3), (4, 3), (5, 9)], 6, 56, .agg [.int .i64 0, .int .i64 0, .int .i64 0, .int .i64 0, .int .i64 0, .str ByteArray.empty]⟩),
  (107, ⟨.st [(0, 87), (2, 30), (3, 3), (4, 3), (5, 9)], 6, 56, .agg [.int .i64 0, .int .i64 0, .int .i64 0, .int .i64 0, .int .i64 0, .str ByteArray.empty]⟩),
  (110, ⟨.st [(0, 9), (1, 24)], 4, 56, .agg [.str ByteArray.empty, .int .i64 0, .int .i64 0, .sl [] .full]⟩),
  (111, ⟨.st [(0, 9), (1, 24)], 4, 56, .agg [.str ByteArray.empty, .int .i64 0, .int .i64 0, .sl [] .full]⟩),
  (114, ⟨.sl 118, 1, 24, .sl [] .full⟩),
  (115, ⟨.st [(0, 114), (1, 3), (2, 3), (3, 3)], 4, 48, .agg [.sl [] .full, .int .i64 0, .int .i64 0, .int .i64 0]⟩),
  (116, ⟨.st [(0, 114), (1, 3), (2, 3), (3, 3)], 4, 48, .agg [.sl [] .full, .int .i64 0, .int .i64 0, .int .i64 0]⟩),
  (117, ⟨.st [(0, 3), (1, 3), (2, 3), (3, 33), (4, 3)], 5, 56, .agg [.int .i64 0, .int .i64 0, .int .i64 0, .sl [] .full, .int .i64 0]⟩),
  (118, ⟨.st [(0, 3), (1, 3), (2, 3), (3, 33), (4, 3)], 5, 56, .agg [.int .i64 0, .int .i64 0, .int .i64 0, .sl [] .full, .int .i64 0]⟩),
  (124, ⟨.int .u64, 1, 8, .int .u64 0⟩),
  (126, ⟨.ptr, 1, 8, .nilp⟩),
  (127, ⟨.map 3 24, 1, 8, .nilm⟩),
  (128, ⟨.st [(0, 27), (1, 3), (2, 29), (3, 127)], 4, 32, .agg [.nilp, .int .i64 0, .nilm, .nilm]⟩),
  (129, ⟨.st [(0, 27), (1, 3), (2, 29), (3, 127)], 4, 32, .agg [.nilp, .int .i64 0, .nilm, .nilm]⟩),
  (131, ⟨.ptr, 1, 8, .nilp⟩),
  (132, ⟨.st [(0, 27), (1, 29), (2, 29), (3, 29)], 4, 32, .agg [.nilp, .nilm, .nilm, .nilm]⟩),
  (133, ⟨.st [(0, 27), (1, 29), (2, 29), (3, 29)], 4, 32, .agg [.nilp, .nilm, .nilm, .nilm]⟩),
  (135, ⟨.arr 2 3, 2, 16, .agg [.int .i64 0, .int .i64 0]⟩),
  (136, ⟨.sl 135, 1, 24, .sl [] .full⟩),
  (138, ⟨.st [(0, 3), (1, 3), (2, 3), (3, 3), (4, 3)], 5, 40, .agg [.int .i64 0, .int .i64 0, .int .i64 0, .int .i64 0, .int .i64 0]⟩),
  (139, ⟨.st [(0, 3), (1, 3), (2, 3), (3, 3), (4, 3)], 5, 40, .agg [.int .i64 0, .int .i64 0, .int .i64 0, .int .i64 0, .int .i64 0]⟩),
  (140, ⟨.ptr, 1, 8, .nilp⟩),
  (141, ⟨.st [(0, 3), (1, 3)], 2, 16, .agg [.int .i64 0, .int .i64 0]⟩),
  (142, ⟨.st [(0, 3), (1, 3)], 2, 16, .agg [.int .i64 0, .int .i64 0]⟩),
  (143, ⟨.sl 142, 1, 24, .sl [] .full⟩),
  (144, ⟨.st [(0, 61), (1, 143)], 2, 32, .agg [.nilp, .sl [] .full]⟩),
  (145, ⟨.st [(0, 61), (1, 143)], 2, 32, .agg [.nilp, .sl [] .full]⟩),
  (149, ⟨.st [(0, 3), (1, 24)], 4, 48, .agg [.int .i64 0, .int .i64 0, .int .i64 0, .sl [] .full]⟩),
  (150, ⟨.st [(0, 3), (1, 24)], 4, 48, .agg [.int .i64 0, .int .i64 0, .int .i64 0, .sl [] .full]⟩),
  (154, ⟨.ptr, 1, 8, .nilp⟩),
  (155, ⟨.st [(0, 78), (1, 29)], 2, 32, .agg [.sl [] .full, .nilm]⟩),
  (156, ⟨.st [(0, 78), (1, 29)], 2, 32, .agg [.sl [] .full, .nilm]⟩),
  (161, ⟨.ptr, 1, 8, .nilp⟩),
  (162, ⟨.st [(0, 27), (1, 3), (2, 98), (3, 33), (4, 107)], 10, 120, .agg [.nilp, .int .i64 0, .sl [] .full, .sl [] .full, .int .i64 0, .int .i64 0, .int .i64 0, .int .i64 0, .int .i64 0, .str ByteArray.empty]⟩),
  (163, ⟨.st [(0, 27), (1, 3), (2, 98), (3, 33), (4, 107)], 10, 120, .agg [.nilp, .int .i64 0, .sl [] .full, .sl [] .full, .int .i64 0, .int .i64 0, .int .i64 0, .int .i64 0, .int .i64 0, .str ByteArray.empty]⟩),
  (173, ⟨.sl 4, 1, 24, .sl [] .full⟩),
  (176, ⟨.map 9 3, 1, 8, .nilm⟩),
  (192, ⟨.int .u32, 1, 4, .int .u32 0⟩),
  (196, ⟨.ptr, 1, 8, .nilp⟩)]

theorem tab_checked : tabCheck Try.prog tab = true := by kernel_rfl

def C : Cfg := { ty := tyOf tab, rdr := fun f => [29, 32, 35, 60, 36, 83].contains f, mwr := fun f => [89, 90].contains f, zwr := fun f => [91].contains f }

theorem C_ok : CfgOK Try.prog C := tab_ok tab_checked

theorem ty_2 : C.ty 2 = some ⟨.int .i64, 1, 8, .int .i64 0⟩ := rfl
theorem ty_3 : C.ty 3 = some ⟨.int .i64, 1, 8, .int .i64 0⟩ := rfl
theorem ty_4 : C.ty 4 = some ⟨.bool, 1, 1, .bool false⟩ := rfl
theorem ty_5 : C.ty 5 = some ⟨.int .u8, 1, 1, .int .u8 0⟩ := rfl
theorem ty_9 : C.ty 9 = some ⟨.str, 1, 16, .str ByteArray.empty⟩ := rfl
theorem ty_12 : C.ty 12 = some ⟨.int .u64, 1, 8, .int .u64 0⟩ := rfl
theorem ty_13 : C.ty 13 = some ⟨.st [(0, 9), (1, 12)], 2, 24, .agg [.str ByteArray.empty, .int .u64 0]⟩ := rfl
theorem ty_19 : C.ty 19 = some ⟨.st [(0, 17)], 1, 8, .agg [.nilp]⟩ := rfl
theorem ty_21 : C.ty 21 = some ⟨.int .i32, 1, 4, .int .i32 0⟩ := rfl
theorem ty_22 : C.ty 22 = some ⟨.sl 24, 1, 24, .sl [] .full⟩ := rfl
theorem ty_23 : C.ty 23 = some ⟨.st [(0, 3), (1, 3), (2, 22)], 3, 40, .agg [.int .i64 0, .int .i64 0, .sl [] .full]⟩ := rfl
theorem ty_24 : C.ty 24 = some ⟨.st [(0, 3), (1, 3), (2, 22)], 3, 40, .agg [.int .i64 0, .int .i64 0, .sl [] .full]⟩ := rfl
theorem ty_27 : C.ty 27 = some ⟨.ptr, 1, 8, .nilp⟩ := rfl
theorem ty_29 : C.ty 29 = some ⟨.map 3 3, 1, 8, .nilm⟩ := rfl
theorem ty_30 : C.ty 30 = some ⟨.int .i64, 1, 8, .int .i64 0⟩ := rfl
theorem ty_33 : C.ty 33 = some ⟨.sl 3, 1, 24, .sl [] .full⟩ := rfl
theorem ty_56 : C.ty 56 = some ⟨.st [(0, 24), (3, 24)], 6, 80, .agg [.int .i64 0, .int .i64 0, .sl [] .full, .int .i64 0, .int .i64 0, .sl [] .full]⟩ := rfl
theorem ty_57 : C.ty 57 = some ⟨.st [(0, 24), (3, 24)], 6, 80, .agg [.int .i64 0, .int .i64 0, .sl [] .full, .int .i64 0, .int .i64 0, .sl [] .full]⟩ := rfl
theorem ty_58 : C.ty 58 = some ⟨.sl 57, 1, 24, .sl [] .full⟩ := rfl
theorem ty_61 : C.ty 61 = some ⟨.ptr, 1, 8, .nilp⟩ := rfl
theorem ty_67 : C.ty 67 = some ⟨.sl 69, 1, 24, .sl [] .full⟩ := rfl
theorem ty_68 : C.ty 68 = some ⟨.st [(0, 3), (1, 3), (2, 3), (3, 3), (4, 24), (7, 33), (8, 33)], 9, 120, .agg [.int .i64 0, .int .i64 0, .int .i64 0, .int .i64 0, .int .i64 0, .int .i64 0, .sl [] .full, .sl [] .full, .sl [] .full]⟩ := rfl
theorem ty_69 : C.ty 69 = some ⟨.st [(0, 3), (1, 3), (2, 3), (3, 3), (4, 24), (7, 33), (8, 33)], 9, 120, .agg [.int .i64 0, .int .i64 0, .int .i64 0, .int .i64 0, .int .i64 0, .int .i64 0, .sl [] .full, .sl [] .full, .sl [] .full]⟩ := rfl
theorem ty_70 : C.ty 70 = some ⟨.sl 139, 1, 24, .sl [] .full⟩ := rfl
theorem ty_71 : C.ty 71 = some ⟨.st [(0, 3), (1, 3), (2, 70)], 3, 40, .agg [.int .i64 0, .int .i64 0, .sl [] .full]⟩ := rfl
theorem ty_72 : C.ty 72 = some ⟨.st [(0, 3), (1, 3), (2, 70)], 3, 40, .agg [.int .i64 0, .int .i64 0, .sl [] .full]⟩ := rfl
theorem ty_78 : C.ty 78 = some ⟨.sl 150, 1, 24, .sl [] .full⟩ := rfl
theorem ty_86 : C.ty 86 = some ⟨.st [(0, 3), (1, 3)], 2, 16, .agg [.int .i64 0, .int .i64 0]⟩ := rfl
theorem ty_87 : C.ty 87 = some ⟨.st [(0, 3), (1, 3)], 2, 16, .agg [.int .i64 0, .int .i64 0]⟩ := rfl
theorem ty_88 : C.ty 88 = some ⟨.sl 90, 1, 24, .sl [] .full⟩ := rfl
theorem ty_89 : C.ty 89 = some ⟨.st [(0, 3), (1, 87), (3, 9), (4, 2), (5, 9), (6, 88)], 7, 88, .agg [.int .i64 0, .int .i64 0, .int .i64 0, .str ByteArray.empty, .int .i64 0, .str ByteArray.empty, .sl [] .full]⟩ := rfl
theorem ty_90 : C.ty 90 = some ⟨.st [(0, 3), (1, 87), (3, 9), (4, 2), (5, 9), (6, 88)], 7, 88, .agg [.int .i64 0, .int .i64 0, .int .i64 0, .str ByteArray.empty, .int .i64 0, .str ByteArray.empty, .sl [] .full]⟩ := rfl
theorem ty_94 : C.ty 94 = some ⟨.sl 111, 1, 24, .sl [] .full⟩ := rfl
theorem ty_98 : C.ty 98 = some ⟨.sl 9, 1, 24, .sl [] .full⟩ := rfl
theorem ty_106 : C.ty 106 = some ⟨.st [(0, 87), (2, 30), (3, 3), (4, 3), (5, 9)], 6, 56, .agg [.int .i64 0, .int .i64 0, .int .i64 0, .int .i64 0, .int .i64 0, .str ByteArray.empty]⟩ := rfl
theorem ty_107 : C.ty 107 = some ⟨.st [(0, 87), (2, 30), (3, 3), (4, 3), (5, 9)], 6, 56, .agg [.int .i64 0, .int .i64 0, .int .i64 0, .int .i64 0, .int .i64 0, .str ByteArray.empty]⟩ := rfl
theorem ty_110 : C.ty 110 = some ⟨.st [(0, 9), (1, 24)], 4, 56, .agg [.str ByteArray.empty, .int .i64 0, .int .i64 0, .sl [] .full]⟩ := rfl
theorem ty_111 : C.ty 111 = some ⟨.st [(0, 9), (1, 24)], 4, 56, .agg [.str ByteArray.empty, .int .i64 0, .int .i64 0, .sl [] .full]⟩ := rfl
theorem ty_114 : C.ty 114 = some ⟨.sl 118, 1, 24, .sl [] .full⟩ := rfl
theorem ty_115 : C.ty 115 = some ⟨.st [(0, 114), (1, 3), (2, 3), (3, 3)], 4, 48, .agg [.sl [] .full, .int .i64 0, .int .i64 0, .int .i64 0]⟩ := rfl
theorem ty_116 : C.ty 116 = some ⟨.st [(0, 114), (1, 3), (2, 3), (3, 3)], 4, 48, .agg [.sl [] .full, .int .i64 0, .int .i64 0, .int .i64 0]⟩ := rfl
theorem ty_117 : C.ty 117 = some ⟨.st [(0, 3), (1, 3), (2, 3), (3, 33), (4, 3)], 5, 56, .agg [.int .i64 0, .int .i64 0, .int .i64 0, .sl [] .full, .int .i64 0]⟩ := rfl
theorem ty_118 : C.ty 118 = some ⟨.st [(0, 3), (1, 3), (2, 3), (3, 33), (4, 3)], 5, 56, .agg [.int .i64 0, .int .i64 0, .int .i64 0, .sl [] .full, .int .i64 0]⟩ := rfl
theorem ty_124 : C.ty 124 = some ⟨.int .u64, 1, 8, .int .u64 0⟩ := rfl
theorem ty_126 : C.ty 126 = some ⟨.ptr, 1, 8, .nilp⟩ := rfl
theorem ty_127 : C.ty 127 = some ⟨.map 3 24, 1, 8, .nilm⟩ := rfl
theorem ty_128 : C.ty 128 = some ⟨.st [(0, 27), (1, 3), (2, 29), (3, 127)], 4, 32, .agg [.nilp, .int .i64 0, .nilm, .nilm]⟩ := rfl
theorem ty_129 : C.ty 129 = some ⟨.st [(0, 27), (1, 3), (2, 29), (3, 127)], 4, 32, .agg [.nilp, .int .i64 0, .nilm, .nilm]⟩ := rfl
theorem ty_131 : C.ty 131 = some ⟨.ptr, 1, 8, .nilp⟩ := rfl
theorem ty_132 : C.ty 132 = some ⟨.st [(0, 27), (1, 29), (2, 29), (3, 29)], 4, 32, .agg [.nilp, .nilm, .nilm, .nilm]⟩ := rfl
theorem ty_133 : C.ty 133 = some ⟨.st [(0, 27), (1, 29), (2, 29), (3, 29)], 4, 32, .agg [.nilp, .nilm, .nilm, .nilm]⟩ := rfl
theorem ty_135 : C.ty 135 = some ⟨.arr 2 3, 2, 16, .agg [.int .i64 0, .int .i64 0]⟩ := rfl
theorem ty_136 : C.ty 136 = some ⟨.sl 135, 1, 24, .sl [] .full⟩ := rfl
theorem ty_138 : C.ty 138 = some ⟨.st [(0, 3), (1, 3), (2, 3), (3, 3), (4, 3)], 5, 40, .agg [.int .i64 0, .int .i64 0, .int .i64 0, .int .i64 0, .int .i64 0]⟩ := rfl
theorem ty_139 : C.ty 139 = some ⟨.st [(0, 3), (1, 3), (2, 3), (3, 3), (4, 3)], 5, 40, .agg [.int .i64 0, .int .i64 0, .int .i64 0, .int .i64 0, .int .i64 0]⟩ := rfl
theorem ty_140 : C.ty 140 = some ⟨.ptr, 1, 8, .nilp⟩ := rfl
theorem ty_141 : C.ty 141 = some ⟨.st [(0, 3), (1, 3)], 2, 16, .agg [.int .i64 0, .int .i64 0]⟩ := rfl
theorem ty_142 : C.ty 142 = some ⟨.st [(0, 3), (1, 3)], 2, 16, .agg [.int .i64 0, .int .i64 0]⟩ := rfl
theorem ty_143 : C.ty 143 = some ⟨.sl 142, 1, 24, .sl [] .full⟩ := rfl
theorem ty_144 : C.ty 144 = some ⟨.st [(0, 61), (1, 143)], 2, 32, .agg [.nilp, .sl [] .full]⟩ := rfl
theorem ty_145 : C.ty 145 = some ⟨.st [(0, 61), (1, 143)], 2, 32, .agg [.nilp, .sl [] .full]⟩ := rfl
theorem ty_149 : C.ty 149 = some ⟨.st [(0, 3), (1, 24)], 4, 48, .agg [.int .i64 0, .int .i64 0, .int .i64 0, .sl [] .full]⟩ := rfl
theorem ty_150 : C.ty 150 = some ⟨.st [(0, 3), (1, 24)], 4, 48, .agg [.int .i64 0, .int .i64 0, .int .i64 0, .sl [] .full]⟩ := rfl
theorem ty_154 : C.ty 154 = some ⟨.ptr, 1, 8, .nilp⟩ := rfl
theorem ty_155 : C.ty 155 = some ⟨.st [(0, 78), (1, 29)], 2, 32, .agg [.sl [] .full, .nilm]⟩ := rfl
theorem ty_156 : C.ty 156 = some ⟨.st [(0, 78), (1, 29)], 2, 32, .agg [.sl [] .full, .nilm]⟩ := rfl
theorem ty_161 : C.ty 161 = some ⟨.ptr, 1, 8, .nilp⟩ := rfl
theorem ty_162 : C.ty 162 = some ⟨.st [(0, 27), (1, 3), (2, 98), (3, 33), (4, 107)], 10, 120, .agg [.nilp, .int .i64 0, .sl [] .full, .sl [] .full, .int .i64 0, .int .i64 0, .int .i64 0, .int .i64 0, .int .i64 0, .str ByteArray.empty]⟩ := rfl
theorem ty_163 : C.ty 163 = some ⟨.st [(0, 27), (1, 3), (2, 98), (3, 33), (4, 107)], 10, 120, .agg [.nilp, .int .i64 0, .sl [] .full, .sl [] .full, .int .i64 0, .int .i64 0, .int .i64 0, .int .i64 0, .int .i64 0, .str ByteArray.empty]⟩ := rfl
theorem ty_173 : C.ty 173 = some ⟨.sl 4, 1, 24, .sl [] .full⟩ := rfl
theorem ty_176 : C.ty 176 = some ⟨.map 9 3, 1, 8, .nilm⟩ := rfl
theorem ty_192 : C.ty 192 = some ⟨.int .u32, 1, 4, .int .u32 0⟩ := rfl
theorem ty_196 : C.ty 196 = some ⟨.ptr, 1, 8, .nilp⟩ := rfl


theorem inpl_C (t : Nat) : C.inpl t = false := rfl

theorem mixed : Try.prog.follows .mixedOrders = true := by kernel_rfl

end Go.Proofs.Ytdngjamjccjlmaa
