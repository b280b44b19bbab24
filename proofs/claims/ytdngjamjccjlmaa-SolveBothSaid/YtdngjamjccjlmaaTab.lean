/- The seat's table of types. No condition. -/
import Derived.Test.YtdngjamjccjlmaaProg
import Derived.Test.YtdngjamjccjlmaaPAb
namespace Go.Proofs.Ytdngjamjccjlmaa
open Go Go.Ab

def tab : List (Nat × TL) := [(2, ⟨false, .int .i64, 1, 8, .int .i64 0⟩),
  (3, ⟨false, .int .i64, 1, 8, .int .i64 0⟩),
  (4, ⟨false, .bool, 1, 1, .bool false⟩),
  (5, ⟨false, .int .u8, 1, 1, .int .u8 0⟩),
  (9, ⟨false, .str, 1, 16, .str ByteArray.empty⟩),
  (12, ⟨false, .int .u64, 1, 8, .int .u64 0⟩),
  (13, ⟨false, .st [(0, 9), (1, 12)], 2, 24, .agg [.str ByteArray.empty, .int .u64 0]⟩),
  (19, ⟨false, .st [(0, 17)], 1, 8, .agg [.nilp]⟩),
  (21, ⟨false, .int .i32, 1, 4, .int .i32 0⟩),
  (22, ⟨false, .sl 24, 1, 24, .sl [] .full⟩),
  (23, ⟨false, .st [(0, 3), (1, 3), (2, 22)], 3, 40, .agg [.int .i64 0, .int .i64 0, .sl [] .full]⟩),
  (24, ⟨false, .st [(0, 3), (1, 3), (2, 22)], 3, 40, .agg [.int .i64 0, .int .i64 0, .sl [] .full]⟩),
  (27, ⟨false, .ptr, 1, 8, .nilp⟩),
  (29, ⟨false, .map 3 3, 1, 8, .nilm⟩),
  (30, ⟨false, .int .i64, 1, 8, .int .i64 0⟩),
  (33, ⟨false, .sl 3, 1, 24, .sl [] .full⟩),
  (56, ⟨false, .st [(0, 24), (3, 24)], 6, 80, .agg [.int .i64 0, .int .i64 0, .sl [] .full, .int .i64 0, .int .i64 0, .sl [] .full]⟩),
  (57, ⟨false, .st [(0, 24), (3, 24)], 6, 80, .agg [.int .i64 0, .int .i64 0, .sl [] .full, .int .i64 0, .int .i64 0, .sl [] .full]⟩),
  (58, ⟨false, .sl 57, 1, 24, .sl [] .full⟩),
  (61, ⟨false, .ptr, 1, 8, .nilp⟩),
  (67, ⟨false, .sl 69, 1, 24, .sl [] .full⟩),
  (68, ⟨false, .st [(0, 3), (1, 3), (2, 3), (3, 3), (4, 24), (7, 33), (8, 33)], 9, 120, .agg [.int .i64 0, .int .i64 0, .int .i64 0, .int .i64 0, .int .i64 0, .int .i64 0, .sl [] .full, .sl [] .full, .sl [] .full]⟩),
  (69, ⟨false, .st [(0, 3), (1, 3), (2, 3), (3, 3), (4, 24), (7, 33), (8, 33)], 9, 120, .agg [.int .i64 0, .int .i64 0, .int .i64 0, .int .i64 0, .int .i64 0, .int .i64 0, .sl [] .full, .sl [] .full, .sl [] .full]⟩),
  (70, ⟨false, .sl 139, 1, 24, .sl [] .full⟩),
  (71, ⟨false, .st [(0, 3), (1, 3), (2, 70)], 3, 40, .agg [.int .i64 0, .int .i64 0, .sl [] .full]⟩),
  (72, ⟨false, .st [(0, 3), (1, 3), (2, 70)], 3, 40, .agg [.int .i64 0, .int .i64 0, .sl [] .full]⟩),
  (78, ⟨false, .sl 150, 1, 24, .sl [] .full⟩),
  (86, ⟨true, .st [(0, 3), (1, 3)], 2, 16, .agg [.int .i64 0, .int .i64 0]⟩),
  (87, ⟨true, .st [(0, 3), (1, 3)], 2, 16, .agg [.int .i64 0, .int .i64 0]⟩),
  (88, ⟨false, .sl 90, 1, 24, .sl [] .full⟩),
  (89, ⟨false, .st [(0, 3), (1, 87), (3, 9), (4, 2), (5, 9), (6, 88)], 7, 88, .agg [.int .i64 0, .int .i64 0, .int .i64 0, .str ByteArray.empty, .int .i64 0, .str ByteArray.empty, .sl [] .full]⟩),
  (90, ⟨false, .st [(0, 3), (1, 87), (3, 9), (4, 2), (5, 9), (6, 88)], 7, 88, .agg [.int .i64 0, .int .i64 0, .int .i64 0, .str ByteArray.empty, .int .i64 0, .str ByteArray.empty, .sl [] .full]⟩),
  (94, ⟨false, .sl 111, 1, 24, .sl [] .full⟩),
  (98, ⟨false, .sl 9, 1, 24, .sl [] .full⟩),
  (106, ⟨false, .st [(0, 87), (2, 30), (3, 3), (4, 3), (5, 9)], 6, 56, .agg [.int .i64 0, .int .i64 0, .int .i64 0, .int .i64 0, .int .i64 0, .str ByteArray.empty]⟩),
  (107, ⟨false, .st [(0, 87), (2, 30), (3, 3), (4, 3), (5, 9)], 6, 56, .agg [.int .i64 0, .int .i64 0, .int .i64 0, .int .i64 0, .int .i64 0, .str ByteArray.empty]⟩),
  (110, ⟨false, .st [(0, 9), (1, 24)], 4, 56, .agg [.str ByteArray.empty, .int .i64 0, .int .i64 0, .sl [] .full]⟩),
  (111, ⟨false, .st [(0, 9), (1, 24)], 4, 56, .agg [.str ByteArray.empty, .int .i64 0, .int .i64 0, .sl [] .full]⟩),
  (114, ⟨false, .sl 118, 1, 24, .sl [] .full⟩),
  (115, ⟨false, .st [(0, 114), (1, 3), (2, 3), (3, 3)], 4, 48, .agg [.sl [] .full, .int .i64 0, .int .i64 0, .int .i64 0]⟩),
  (116, ⟨false, .st [(0, 114), (1, 3), (2, 3), (3, 3)], 4, 48, .agg [.sl [] .full, .int .i64 0, .int .i64 0, .int .i64 0]⟩),
  (117, ⟨false, .st [(0, 3), (1, 3), (2, 3), (3, 33), (4, 3)], 5, 56, .agg [.int .i64 0, .int .i64 0, .int .i64 0, .sl [] .full, .int .i64 0]⟩),
  (118, ⟨false, .st [(0, 3), (1, 3), (2, 3), (3, 33), (4, 3)], 5, 56, .agg [.int .i64 0, .int .i64 0, .int .i64 0, .sl [] .full, .int .i64 0]⟩),
  (124, ⟨false, .int .u64, 1, 8, .int .u64 0⟩),
  (126, ⟨false, .ptr, 1, 8, .nilp⟩),
  (127, ⟨false, .map 3 24, 1, 8, .nilm⟩),
  (128, ⟨false, .st [(0, 27), (1, 3), (2, 29), (3, 127)], 4, 32, .agg [.nilp, .int .i64 0, .nilm, .nilm]⟩),
  (129, ⟨false, .st [(0, 27), (1, 3), (2, 29), (3, 127)], 4, 32, .agg [.nilp, .int .i64 0, .nilm, .nilm]⟩),
  (131, ⟨false, .ptr, 1, 8, .nilp⟩),
  (132, ⟨false, .st [(0, 27), (1, 29), (2, 29), (3, 29)], 4, 32, .agg [.nilp, .nilm, .nilm, .nilm]⟩),
  (133, ⟨false, .st [(0, 27), (1, 29), (2, 29), (3, 29)], 4, 32, .agg [.nilp, .nilm, .nilm, .nilm]⟩),
  (135, ⟨false, .arr 2 3, 2, 16, .agg [.int .i64 0, .int .i64 0]⟩),
  (136, ⟨false, .sl 135, 1, 24, .sl [] .full⟩),
  (138, ⟨false, .st [(0, 3), (1, 3), (2, 3), (3, 3), (4, 3)], 5, 40, .agg [.int .i64 0, .int .i64 0, .int .i64 0, .int .i64 0, .int .i64 0]⟩),
  (139, ⟨false, .st [(0, 3), (1, 3), (2, 3), (3, 3), (4, 3)], 5, 40, .agg [.int .i64 0, .int .i64 0, .int .i64 0, .int .i64 0, .int .i64 0]⟩),
  (140, ⟨false, .ptr, 1, 8, .nilp⟩),
  (141, ⟨true, .st [(0, 3), (1, 3)], 2, 16, .agg [.int .i64 0, .int .i64 0]⟩),
  (142, ⟨true, .st [(0, 3), (1, 3)], 2, 16, .agg [.int .i64 0, .int .i64 0]⟩),
  (143, ⟨false, .sl 142, 1, 24, .sl [] .full⟩),
  (144, ⟨false, .st [(0, 61), (1, 143)], 2, 32, .agg [.nilp, .sl [] .full]⟩),
  (145, ⟨false, .st [(0, 61), (1, 143)], 2, 32, .agg [.nilp, .sl [] .full]⟩),
  (149, ⟨false, .st [(0, 3), (1, 24)], 4, 48, .agg [.int .i64 0, .int .i64 0, .int .i64 0, .sl [] .full]⟩),
  (150, ⟨false, .st [(0, 3), (1, 24)], 4, 48, .agg [.int .i64 0, .int .i64 0, .int .i64 0, .sl [] .full]⟩),
  (154, ⟨false, .ptr, 1, 8, .nilp⟩),
  (155, ⟨false, .st [(0, 78), (1, 29)], 2, 32, .agg [.sl [] .full, .nilm]⟩),
  (156, ⟨false, .st [(0, 78), (1, 29)], 2, 32, .agg [.sl [] .full, .nilm]⟩),
  (161, ⟨false, .ptr, 1, 8, .nilp⟩),
  (162, ⟨false, .st [(0, 27), (1, 3), (2, 98), (3, 33), (4, 107)], 10, 120, .agg [.nilp, .int .i64 0, .sl [] .full, .sl [] .full, .int .i64 0, .int .i64 0, .int .i64 0, .int .i64 0, .int .i64 0, .str ByteArray.empty]⟩),
  (163, ⟨false, .st [(0, 27), (1, 3), (2, 98), (3, 33), (4, 107)], 10, 120, .agg [.nilp, .int .i64 0, .sl [] .full, .sl [] .full, .int .i64 0, .int .i64 0, .int .i64 0, .int .i64 0, .int .i64 0, .str ByteArray.empty]⟩),
  (173, ⟨false, .sl 4, 1, 24, .sl [] .full⟩),
  (176, ⟨false, .map 9 3, 1, 8, .nilm⟩),
  (192, ⟨false, .int .u32, 1, 4, .int .u32 0⟩),
  (196, ⟨false, .ptr, 1, 8, .nilp⟩)]

theorem tab_checked : tabCheck Try.prog tab = true := by kernel_rfl

def C : Cfg := { ty := tyOf tab, rdr := fun f => [29, 32, 35, 60, 36, 83, 120].contains f, mwr := fun f => [89, 90].contains f, zwr := fun f => [91, 124].contains f }

theorem C_ok : CfgOK Try.prog C := tab_ok tab_checked

theorem ty_2 : C.ty 2 = some ⟨false, .int .i64, 1, 8, .int .i64 0⟩ := rfl
theorem ty_3 : C.ty 3 = some ⟨false, .int .i64, 1, 8, .int .i64 0⟩ := rfl
theorem ty_4 : C.ty 4 = some ⟨false, .bool, 1, 1, .bool false⟩ := rfl
theorem ty_5 : C.ty 5 = some ⟨false, .int .u8, 1, 1, .int .u8 0⟩ := rfl
theorem ty_9 : C.ty 9 = some ⟨false, .str, 1, 16, .str ByteArray.empty⟩ := rfl
theorem ty_12 : C.ty 12 = some ⟨false, .int .u64, 1, 8, .int .u64 0⟩ := rfl
theorem ty_13 : C.ty 13 = some ⟨false, .st [(0, 9), (1, 12)], 2, 24, .agg [.str ByteArray.empty, .int .u64 0]⟩ := rfl
theorem ty_19 : C.ty 19 = some ⟨false, .st [(0, 17)], 1, 8, .agg [.nilp]⟩ := rfl
theorem ty_21 : C.ty 21 = some ⟨false, .int .i32, 1, 4, .int .i32 0⟩ := rfl
theorem ty_22 : C.ty 22 = some ⟨false, .sl 24, 1, 24, .sl [] .full⟩ := rfl
theorem ty_23 : C.ty 23 = some ⟨false, .st [(0, 3), (1, 3), (2, 22)], 3, 40, .agg [.int .i64 0, .int .i64 0, .sl [] .full]⟩ := rfl
theorem ty_24 : C.ty 24 = some ⟨false, .st [(0, 3), (1, 3), (2, 22)], 3, 40, .agg [.int .i64 0, .int .i64 0, .sl [] .full]⟩ := rfl
theorem ty_27 : C.ty 27 = some ⟨false, .ptr, 1, 8, .nilp⟩ := rfl
theorem ty_29 : C.ty 29 = some ⟨false, .map 3 3, 1, 8, .nilm⟩ := rfl
theorem ty_30 : C.ty 30 = some ⟨false, .int .i64, 1, 8, .int .i64 0⟩ := rfl
theorem ty_33 : C.ty 33 = some ⟨false, .sl 3, 1, 24, .sl [] .full⟩ := rfl
theorem ty_56 : C.ty 56 = some ⟨false, .st [(0, 24), (3, 24)], 6, 80, .agg [.int .i64 0, .int .i64 0, .sl [] .full, .int .i64 0, .int .i64 0, .sl [] .full]⟩ := rfl
theorem ty_57 : C.ty 57 = some ⟨false, .st [(0, 24), (3, 24)], 6, 80, .agg [.int .i64 0, .int .i64 0, .sl [] .full, .int .i64 0, .int .i64 0, .sl [] .full]⟩ := rfl
theorem ty_58 : C.ty 58 = some ⟨false, .sl 57, 1, 24, .sl [] .full⟩ := rfl
theorem ty_61 : C.ty 61 = some ⟨false, .ptr, 1, 8, .nilp⟩ := rfl
theorem ty_67 : C.ty 67 = some ⟨false, .sl 69, 1, 24, .sl [] .full⟩ := rfl
theorem ty_68 : C.ty 68 = some ⟨false, .st [(0, 3), (1, 3), (2, 3), (3, 3), (4, 24), (7, 33), (8, 33)], 9, 120, .agg [.int .i64 0, .int .i64 0, .int .i64 0, .int .i64 0, .int .i64 0, .int .i64 0, .sl [] .full, .sl [] .full, .sl [] .full]⟩ := rfl
theorem ty_69 : C.ty 69 = some ⟨false, .st [(0, 3), (1, 3), (2, 3), (3, 3), (4, 24), (7, 33), (8, 33)], 9, 120, .agg [.int .i64 0, .int .i64 0, .int .i64 0, .int .i64 0, .int .i64 0, .int .i64 0, .sl [] .full, .sl [] .full, .sl [] .full]⟩ := rfl
theorem ty_70 : C.ty 70 = some ⟨false, .sl 139, 1, 24, .sl [] .full⟩ := rfl
theorem ty_71 : C.ty 71 = some ⟨false, .st [(0, 3), (1, 3), (2, 70)], 3, 40, .agg [.int .i64 0, .int .i64 0, .sl [] .full]⟩ := rfl
theorem ty_72 : C.ty 72 = some ⟨false, .st [(0, 3), (1, 3), (2, 70)], 3, 40, .agg [.int .i64 0, .int .i64 0, .sl [] .full]⟩ := rfl
theorem ty_78 : C.ty 78 = some ⟨false, .sl 150, 1, 24, .sl [] .full⟩ := rfl
theorem ty_86 : C.ty 86 = some ⟨true, .st [(0, 3), (1, 3)], 2, 16, .agg [.int .i64 0, .int .i64 0]⟩ := rfl
theorem ty_87 : C.ty 87 = some ⟨true, .st [(0, 3), (1, 3)], 2, 16, .agg [.int .i64 0, .int .i64 0]⟩ := rfl
theorem ty_88 : C.ty 88 = some ⟨false, .sl 90, 1, 24, .sl [] .full⟩ := rfl
theorem ty_89 : C.ty 89 = some ⟨false, .st [(0, 3), (1, 87), (3, 9), (4, 2), (5, 9), (6, 88)], 7, 88, .agg [.int .i64 0, .int .i64 0, .int .i64 0, .str ByteArray.empty, .int .i64 0, .str ByteArray.empty, .sl [] .full]⟩ := rfl
theorem ty_90 : C.ty 90 = some ⟨false, .st [(0, 3), (1, 87), (3, 9), (4, 2), (5, 9), (6, 88)], 7, 88, .agg [.int .i64 0, .int .i64 0, .int .i64 0, .str ByteArray.empty, .int .i64 0, .str ByteArray.empty, .sl [] .full]⟩ := rfl
theorem ty_94 : C.ty 94 = some ⟨false, .sl 111, 1, 24, .sl [] .full⟩ := rfl
theorem ty_98 : C.ty 98 = some ⟨false, .sl 9, 1, 24, .sl [] .full⟩ := rfl
theorem ty_106 : C.ty 106 = some ⟨false, .st [(0, 87), (2, 30), (3, 3), (4, 3), (5, 9)], 6, 56, .agg [.int .i64 0, .int .i64 0, .int .i64 0, .int .i64 0, .int .i64 0, .str ByteArray.empty]⟩ := rfl
theorem ty_107 : C.ty 107 = some ⟨false, .st [(0, 87), (2, 30), (3, 3), (4, 3), (5, 9)], 6, 56, .agg [.int .i64 0, .int .i64 0, .int .i64 0, .int .i64 0, .int .i64 0, .str ByteArray.empty]⟩ := rfl
theorem ty_110 : C.ty 110 = some ⟨false, .st [(0, 9), (1, 24)], 4, 56, .agg [.str ByteArray.empty, .int .i64 0, .int .i64 0, .sl [] .full]⟩ := rfl
theorem ty_111 : C.ty 111 = some ⟨false, .st [(0, 9), (1, 24)], 4, 56, .agg [.str ByteArray.empty, .int .i64 0, .int .i64 0, .sl [] .full]⟩ := rfl
theorem ty_114 : C.ty 114 = some ⟨false, .sl 118, 1, 24, .sl [] .full⟩ := rfl
theorem ty_115 : C.ty 115 = some ⟨false, .st [(0, 114), (1, 3), (2, 3), (3, 3)], 4, 48, .agg [.sl [] .full, .int .i64 0, .int .i64 0, .int .i64 0]⟩ := rfl
theorem ty_116 : C.ty 116 = some ⟨false, .st [(0, 114), (1, 3), (2, 3), (3, 3)], 4, 48, .agg [.sl [] .full, .int .i64 0, .int .i64 0, .int .i64 0]⟩ := rfl
theorem ty_117 : C.ty 117 = some ⟨false, .st [(0, 3), (1, 3), (2, 3), (3, 33), (4, 3)], 5, 56, .agg [.int .i64 0, .int .i64 0, .int .i64 0, .sl [] .full, .int .i64 0]⟩ := rfl
theorem ty_118 : C.ty 118 = some ⟨false, .st [(0, 3), (1, 3), (2, 3), (3, 33), (4, 3)], 5, 56, .agg [.int .i64 0, .int .i64 0, .int .i64 0, .sl [] .full, .int .i64 0]⟩ := rfl
theorem ty_124 : C.ty 124 = some ⟨false, .int .u64, 1, 8, .int .u64 0⟩ := rfl
theorem ty_126 : C.ty 126 = some ⟨false, .ptr, 1, 8, .nilp⟩ := rfl
theorem ty_127 : C.ty 127 = some ⟨false, .map 3 24, 1, 8, .nilm⟩ := rfl
theorem ty_128 : C.ty 128 = some ⟨false, .st [(0, 27), (1, 3), (2, 29), (3, 127)], 4, 32, .agg [.nilp, .int .i64 0, .nilm, .nilm]⟩ := rfl
theorem ty_129 : C.ty 129 = some ⟨false, .st [(0, 27), (1, 3), (2, 29), (3, 127)], 4, 32, .agg [.nilp, .int .i64 0, .nilm, .nilm]⟩ := rfl
theorem ty_131 : C.ty 131 = some ⟨false, .ptr, 1, 8, .nilp⟩ := rfl
theorem ty_132 : C.ty 132 = some ⟨false, .st [(0, 27), (1, 29), (2, 29), (3, 29)], 4, 32, .agg [.nilp, .nilm, .nilm, .nilm]⟩ := rfl
theorem ty_133 : C.ty 133 = some ⟨false, .st [(0, 27), (1, 29), (2, 29), (3, 29)], 4, 32, .agg [.nilp, .nilm, .nilm, .nilm]⟩ := rfl
theorem ty_135 : C.ty 135 = some ⟨false, .arr 2 3, 2, 16, .agg [.int .i64 0, .int .i64 0]⟩ := rfl
theorem ty_136 : C.ty 136 = some ⟨false, .sl 135, 1, 24, .sl [] .full⟩ := rfl
theorem ty_138 : C.ty 138 = some ⟨false, .st [(0, 3), (1, 3), (2, 3), (3, 3), (4, 3)], 5, 40, .agg [.int .i64 0, .int .i64 0, .int .i64 0, .int .i64 0, .int .i64 0]⟩ := rfl
theorem ty_139 : C.ty 139 = some ⟨false, .st [(0, 3), (1, 3), (2, 3), (3, 3), (4, 3)], 5, 40, .agg [.int .i64 0, .int .i64 0, .int .i64 0, .int .i64 0, .int .i64 0]⟩ := rfl
theorem ty_140 : C.ty 140 = some ⟨false, .ptr, 1, 8, .nilp⟩ := rfl
theorem ty_141 : C.ty 141 = some ⟨true, .st [(0, 3), (1, 3)], 2, 16, .agg [.int .i64 0, .int .i64 0]⟩ := rfl
theorem ty_142 : C.ty 142 = some ⟨true, .st [(0, 3), (1, 3)], 2, 16, .agg [.int .i64 0, .int .i64 0]⟩ := rfl
theorem ty_143 : C.ty 143 = some ⟨false, .sl 142, 1, 24, .sl [] .full⟩ := rfl
theorem ty_144 : C.ty 144 = some ⟨false, .st [(0, 61), (1, 143)], 2, 32, .agg [.nilp, .sl [] .full]⟩ := rfl
theorem ty_145 : C.ty 145 = some ⟨false, .st [(0, 61), (1, 143)], 2, 32, .agg [.nilp, .sl [] .full]⟩ := rfl
theorem ty_149 : C.ty 149 = some ⟨false, .st [(0, 3), (1, 24)], 4, 48, .agg [.int .i64 0, .int .i64 0, .int .i64 0, .sl [] .full]⟩ := rfl
theorem ty_150 : C.ty 150 = some ⟨false, .st [(0, 3), (1, 24)], 4, 48, .agg [.int .i64 0, .int .i64 0, .int .i64 0, .sl [] .full]⟩ := rfl
theorem ty_154 : C.ty 154 = some ⟨false, .ptr, 1, 8, .nilp⟩ := rfl
theorem ty_155 : C.ty 155 = some ⟨false, .st [(0, 78), (1, 29)], 2, 32, .agg [.sl [] .full, .nilm]⟩ := rfl
theorem ty_156 : C.ty 156 = some ⟨false, .st [(0, 78), (1, 29)], 2, 32, .agg [.sl [] .full, .nilm]⟩ := rfl
theorem ty_161 : C.ty 161 = some ⟨false, .ptr, 1, 8, .nilp⟩ := rfl
theorem ty_162 : C.ty 162 = some ⟨false, .st [(0, 27), (1, 3), (2, 98), (3, 33), (4, 107)], 10, 120, .agg [.nilp, .int .i64 0, .sl [] .full, .sl [] .full, .int .i64 0, .int .i64 0, .int .i64 0, .int .i64 0, .int .i64 0, .str ByteArray.empty]⟩ := rfl
theorem ty_163 : C.ty 163 = some ⟨false, .st [(0, 27), (1, 3), (2, 98), (3, 33), (4, 107)], 10, 120, .agg [.nilp, .int .i64 0, .sl [] .full, .sl [] .full, .int .i64 0, .int .i64 0, .int .i64 0, .int .i64 0, .int .i64 0, .str ByteArray.empty]⟩ := rfl
theorem ty_173 : C.ty 173 = some ⟨false, .sl 4, 1, 24, .sl [] .full⟩ := rfl
theorem ty_176 : C.ty 176 = some ⟨false, .map 9 3, 1, 8, .nilm⟩ := rfl
theorem ty_192 : C.ty 192 = some ⟨false, .int .u32, 1, 4, .int .u32 0⟩ := rfl
theorem ty_196 : C.ty 196 = some ⟨false, .ptr, 1, 8, .nilp⟩ := rfl


theorem inpl_C (t : Nat) : C.inpl t = false := rfl

theorem mixed : Try.prog.follows .mixedOrders = true := by kernel_rfl

end Go.Proofs.Ytdngjamjccjlmaa
