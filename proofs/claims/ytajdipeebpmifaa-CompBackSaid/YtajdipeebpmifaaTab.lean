/- The seat's table of types. No condition. -/
import Derived.Test.YtajdipeebpmifaaProg
import Derived.Test.YtajdipeebpmifaaPAb
namespace Go.Proofs.Ytajdipeebpmifaa
open Go Go.Ab

def tab : List (Nat × TL) := [(2, ⟨.int .i64, 1, 8, .int .i64 0⟩),
  (3, ⟨.int .i64, 1, 8, .int .i64 0⟩),
  (4, ⟨.bool, 1, 1, .bool false⟩),
  (5, ⟨.int .u8, 1, 1, .int .u8 0⟩),
  (9, ⟨.str, 1, 16, .str ByteArray.empty⟩),
  (12, ⟨.int .u64, 1, 8, .int .u64 0⟩),
  (13, ⟨.st [(0, 9), (1, 12)], 2, 24, .agg [.str ByteArray.empty, .int .u64 0]⟩),
  (19, ⟨.st [(0, 17)], 1, 8, .agg [.nilp]⟩),
  (21, ⟨.int .i32, 1, 4, .int .i32 0⟩),
  (22, ⟨.sl 24, 1, 24, .sl [] .full⟩),
  (23, ⟨.st [(0, 3), (1, 3), (2, 3), (3, 4), (4, 22)], 5, 56, .agg [.int .i64 0, .int .i64 0, .int .i64 0, .bool false, .sl [] .full]⟩),
  (24, ⟨.st [(0, 3), (1, 3), (2, 3), (3, 4), (4, 22)], 5, 56, .agg [.int .i64 0, .int .i64 0, .int .i64 0, .bool false, .sl [] .full]⟩),
  (26, ⟨.int .i64, 1, 8, .int .i64 0⟩),
  (37, ⟨.int .u64, 1, 8, .int .u64 0⟩),
  (42, ⟨.sl 44, 1, 24, .sl [] .full⟩),
  (43, ⟨.st [(0, 3), (1, 3), (2, 42)], 3, 40, .agg [.int .i64 0, .int .i64 0, .sl [] .full]⟩),
  (44, ⟨.st [(0, 3), (1, 3), (2, 42)], 3, 40, .agg [.int .i64 0, .int .i64 0, .sl [] .full]⟩),
  (56, ⟨.sl 126, 1, 24, .sl [] .full⟩),
  (64, ⟨.sl 4, 1, 24, .sl [] .full⟩),
  (77, ⟨.sl 79, 1, 24, .sl [] .full⟩),
  (78, ⟨.st [(0, 3), (1, 2), (2, 9), (3, 24), (8, 77)], 9, 112, .agg [.int .i64 0, .int .i64 0, .str ByteArray.empty, .int .i64 0, .int .i64 0, .int .i64 0, .bool false, .sl [] .full, .sl [] .full]⟩),
  (79, ⟨.st [(0, 3), (1, 2), (2, 9), (3, 24), (8, 77)], 9, 112, .agg [.int .i64 0, .int .i64 0, .str ByteArray.empty, .int .i64 0, .int .i64 0, .int .i64 0, .bool false, .sl [] .full, .sl [] .full]⟩),
  (86, ⟨.st [(0, 3), (1, 3)], 2, 16, .agg [.int .i64 0, .int .i64 0]⟩),
  (87, ⟨.st [(0, 3), (1, 3)], 2, 16, .agg [.int .i64 0, .int .i64 0]⟩),
  (88, ⟨.sl 90, 1, 24, .sl [] .full⟩),
  (89, ⟨.st [(0, 3), (1, 87), (3, 9), (4, 2), (5, 9), (6, 88)], 7, 88, .agg [.int .i64 0, .int .i64 0, .int .i64 0, .str ByteArray.empty, .int .i64 0, .str ByteArray.empty, .sl [] .full]⟩),
  (90, ⟨.st [(0, 3), (1, 87), (3, 9), (4, 2), (5, 9), (6, 88)], 7, 88, .agg [.int .i64 0, .int .i64 0, .int .i64 0, .str ByteArray.empty, .int .i64 0, .str ByteArray.empty, .sl [] .full]⟩),
  (92, ⟨.sl 99, 1, 24, .sl [] .full⟩),
  (93, ⟨.st [(0, 3), (1, 79), (10, 3), (11, 4), (12, 87), (14, 3)], 15, 160, .agg [.int .i64 0, .int .i64 0, .int .i64 0, .str ByteArray.empty, .int .i64 0, .int .i64 0, .int .i64 0, .bool false, .sl [] .full, .sl [] .full, .int .i64 0, .bool false, .int .i64 0, .int .i64 0, .int .i64 0]⟩),
  (94, ⟨.st [(0, 3), (1, 79), (10, 3), (11, 4), (12, 87), (14, 3)], 15, 160, .agg [.int .i64 0, .int .i64 0, .int .i64 0, .str ByteArray.empty, .int .i64 0, .int .i64 0, .int .i64 0, .bool false, .sl [] .full, .sl [] .full, .int .i64 0, .bool false, .int .i64 0, .int .i64 0, .int .i64 0]⟩),
  (98, ⟨.st [(0, 9), (1, 79)], 10, 128, .agg [.str ByteArray.empty, .int .i64 0, .int .i64 0, .str ByteArray.empty, .int .i64 0, .int .i64 0, .int .i64 0, .bool false, .sl [] .full, .sl [] .full]⟩),
  (99, ⟨.st [(0, 9), (1, 79)], 10, 128, .agg [.str ByteArray.empty, .int .i64 0, .int .i64 0, .str ByteArray.empty, .int .i64 0, .int .i64 0, .int .i64 0, .bool false, .sl [] .full, .sl [] .full]⟩),
  (105, ⟨.sl 3, 1, 24, .sl [] .full⟩),
  (125, ⟨.st [(0, 3), (1, 44)], 4, 48, .agg [.int .i64 0, .int .i64 0, .int .i64 0, .sl [] .full]⟩),
  (126, ⟨.st [(0, 3), (1, 44)], 4, 48, .agg [.int .i64 0, .int .i64 0, .int .i64 0, .sl [] .full]⟩),
  (133, ⟨.sl 9, 1, 24, .sl [] .full⟩),
  (142, ⟨.map 9 3, 1, 8, .nilm⟩),
  (146, ⟨.ptr, 1, 8, .nilp⟩),
  (147, ⟨.st [(0, 92), (1, 94), (16, 26)], 17, 192, .agg [.sl [] .full, .int .i64 0, .int .i64 0, .int .i64 0, .str ByteArray.empty, .int .i64 0, .int .i64 0, .int .i64 0, .bool false, .sl [] .full, .sl [] .full, .int .i64 0, .bool false, .int .i64 0, .int .i64 0, .int .i64 0, .int .i64 0]⟩),
  (148, ⟨.st [(0, 92), (1, 94), (16, 26)], 17, 192, .agg [.sl [] .full, .int .i64 0, .int .i64 0, .int .i64 0, .str ByteArray.empty, .int .i64 0, .int .i64 0, .int .i64 0, .bool false, .sl [] .full, .sl [] .full, .int .i64 0, .bool false, .int .i64 0, .int .i64 0, .int .i64 0, .int .i64 0]⟩),
  (152, ⟨.arr 2 79, 18, 224, .agg [.int .i64 0, .int .i64 0, .str ByteArray.empty, .int .i64 0, .int .i64 0, .int .i64 0, .bool false, .sl [] .full, .sl [] .full, .int .i64 0, .int .i64 0, .str ByteArray.empty, .int .i64 0, .int .i64 0, .int .i64 0, .bool false, .sl [] .full, .sl [] .full]⟩),
  (153, ⟨.arr 2 24, 10, 112, .agg [.int .i64 0, .int .i64 0, .int .i64 0, .bool false, .sl [] .full, .int .i64 0, .int .i64 0, .int .i64 0, .bool false, .sl [] .full]⟩),
  (166, ⟨.int .u32, 1, 4, .int .u32 0⟩),
  (170, ⟨.ptr, 1, 8, .nilp⟩)]

theorem tab_checked : tabCheck Try.prog tab = true := by kernel_rfl

def C : Cfg := { ty := tyOf tab }

theorem C_ok : CfgOK Try.prog C := tab_ok tab_checked

theorem ty_2 : C.ty 2 = some ⟨.int .i64, 1, 8, .int .i64 0⟩ := rfl
theorem ty_3 : C.ty 3 = some ⟨.int .i64, 1, 8, .int .i64 0⟩ := rfl
theorem ty_4 : C.ty 4 = some ⟨.bool, 1, 1, .bool false⟩ := rfl
theorem ty_5 : C.ty 5 = some ⟨.int .u8, 1, 1, .int .u8 0⟩ := rfl
theorem ty_9 : C.ty 9 = some ⟨.str, 1, 16, .str ByteArray.empty⟩ := rfl
theorem ty_12 : C.ty 12 = some ⟨.int .u64, 1, 8, .int .u64 0⟩ := rfl
theorem ty_13 : C.ty 13 = some ⟨.st [(0, 9), (1, 12)], 2, 24, .agg [.str ByteArray.empty, .int .u64 0]⟩ := rfl
theorem ty_19 : C.ty 19 = some ⟨.st [(0, 17)], 1, 8, .agg [.nilp]⟩ := rfl
theorem ty_21 : C.ty 21 = some ⟨.int .i32, 1, 4, .int .i32 0⟩ := rfl
theorem ty_22 : C.ty 22 = some ⟨.sl 24, 1, 24, .sl [] .full⟩ := rfl
theorem ty_23 : C.ty 23 = some ⟨.st [(0, 3), (1, 3), (2, 3), (3, 4), (4, 22)], 5, 56, .agg [.int .i64 0, .int .i64 0, .int .i64 0, .bool false, .sl [] .full]⟩ := rfl
theorem ty_24 : C.ty 24 = some ⟨.st [(0, 3), (1, 3), (2, 3), (3, 4), (4, 22)], 5, 56, .agg [.int .i64 0, .int .i64 0, .int .i64 0, .bool false, .sl [] .full]⟩ := rfl
theorem ty_26 : C.ty 26 = some ⟨.int .i64, 1, 8, .int .i64 0⟩ := rfl
theorem ty_37 : C.ty 37 = some ⟨.int .u64, 1, 8, .int .u64 0⟩ := rfl
theorem ty_42 : C.ty 42 = some ⟨.sl 44, 1, 24, .sl [] .full⟩ := rfl
theorem ty_43 : C.ty 43 = some ⟨.st [(0, 3), (1, 3), (2, 42)], 3, 40, .agg [.int .i64 0, .int .i64 0, .sl [] .full]⟩ := rfl
theorem ty_44 : C.ty 44 = some ⟨.st [(0, 3), (1, 3), (2, 42)], 3, 40, .agg [.int .i64 0, .int .i64 0, .sl [] .full]⟩ := rfl
theorem ty_56 : C.ty 56 = some ⟨.sl 126, 1, 24, .sl [] .full⟩ := rfl
theorem ty_64 : C.ty 64 = some ⟨.sl 4, 1, 24, .sl [] .full⟩ := rfl
theorem ty_77 : C.ty 77 = some ⟨.sl 79, 1, 24, .sl [] .full⟩ := rfl
theorem ty_78 : C.ty 78 = some ⟨.st [(0, 3), (1, 2), (2, 9), (3, 24), (8, 77)], 9, 112, .agg [.int .i64 0, .int .i64 0, .str ByteArray.empty, .int .i64 0, .int .i64 0, .int .i64 0, .bool false, .sl [] .full, .sl [] .full]⟩ := rfl
theorem ty_79 : C.ty 79 = some ⟨.st [(0, 3), (1, 2), (2, 9), (3, 24), (8, 77)], 9, 112, .agg [.int .i64 0, .int .i64 0, .str ByteArray.empty, .int .i64 0, .int .i64 0, .int .i64 0, .bool false, .sl [] .full, .sl [] .full]⟩ := rfl
theorem ty_86 : C.ty 86 = some ⟨.st [(0, 3), (1, 3)], 2, 16, .agg [.int .i64 0, .int .i64 0]⟩ := rfl
theorem ty_87 : C.ty 87 = some ⟨.st [(0, 3), (1, 3)], 2, 16, .agg [.int .i64 0, .int .i64 0]⟩ := rfl
theorem ty_88 : C.ty 88 = some ⟨.sl 90, 1, 24, .sl [] .full⟩ := rfl
theorem ty_89 : C.ty 89 = some ⟨.st [(0, 3), (1, 87), (3, 9), (4, 2), (5, 9), (6, 88)], 7, 88, .agg [.int .i64 0, .int .i64 0, .int .i64 0, .str ByteArray.empty, .int .i64 0, .str ByteArray.empty, .sl [] .full]⟩ := rfl
theorem ty_90 : C.ty 90 = some ⟨.st [(0, 3), (1, 87), (3, 9), (4, 2), (5, 9), (6, 88)], 7, 88, .agg [.int .i64 0, .int .i64 0, .int .i64 0, .str ByteArray.empty, .int .i64 0, .str ByteArray.empty, .sl [] .full]⟩ := rfl
theorem ty_92 : C.ty 92 = some ⟨.sl 99, 1, 24, .sl [] .full⟩ := rfl
theorem ty_93 : C.ty 93 = some ⟨.st [(0, 3), (1, 79), (10, 3), (11, 4), (12, 87), (14, 3)], 15, 160, .agg [.int .i64 0, .int .i64 0, .int .i64 0, .str ByteArray.empty, .int .i64 0, .int .i64 0, .int .i64 0, .bool false, .sl [] .full, .sl [] .full, .int .i64 0, .bool false, .int .i64 0, .int .i64 0, .int .i64 0]⟩ := rfl
theorem ty_94 : C.ty 94 = some ⟨.st [(0, 3), (1, 79), (10, 3), (11, 4), (12, 87), (14, 3)], 15, 160, .agg [.int .i64 0, .int .i64 0, .int .i64 0, .str ByteArray.empty, .int .i64 0, .int .i64 0, .int .i64 0, .bool false, .sl [] .full, .sl [] .full, .int .i64 0, .bool false, .int .i64 0, .int .i64 0, .int .i64 0]⟩ := rfl
theorem ty_98 : C.ty 98 = some ⟨.st [(0, 9), (1, 79)], 10, 128, .agg [.str ByteArray.empty, .int .i64 0, .int .i64 0, .str ByteArray.empty, .int .i64 0, .int .i64 0, .int .i64 0, .bool false, .sl [] .full, .sl [] .full]⟩ := rfl
theorem ty_99 : C.ty 99 = some ⟨.st [(0, 9), (1, 79)], 10, 128, .agg [.str ByteArray.empty, .int .i64 0, .int .i64 0, .str ByteArray.empty, .int .i64 0, .int .i64 0, .int .i64 0, .bool false, .sl [] .full, .sl [] .full]⟩ := rfl
theorem ty_105 : C.ty 105 = some ⟨.sl 3, 1, 24, .sl [] .full⟩ := rfl
theorem ty_125 : C.ty 125 = some ⟨.st [(0, 3), (1, 44)], 4, 48, .agg [.int .i64 0, .int .i64 0, .int .i64 0, .sl [] .full]⟩ := rfl
theorem ty_126 : C.ty 126 = some ⟨.st [(0, 3), (1, 44)], 4, 48, .agg [.int .i64 0, .int .i64 0, .int .i64 0, .sl [] .full]⟩ := rfl
theorem ty_133 : C.ty 133 = some ⟨.sl 9, 1, 24, .sl [] .full⟩ := rfl
theorem ty_142 : C.ty 142 = some ⟨.map 9 3, 1, 8, .nilm⟩ := rfl
theorem ty_146 : C.ty 146 = some ⟨.ptr, 1, 8, .nilp⟩ := rfl
theorem ty_147 : C.ty 147 = some ⟨.st [(0, 92), (1, 94), (16, 26)], 17, 192, .agg [.sl [] .full, .int .i64 0, .int .i64 0, .int .i64 0, .str ByteArray.empty, .int .i64 0, .int .i64 0, .int .i64 0, .bool false, .sl [] .full, .sl [] .full, .int .i64 0, .bool false, .int .i64 0, .int .i64 0, .int .i64 0, .int .i64 0]⟩ := rfl
theorem ty_148 : C.ty 148 = some ⟨.st [(0, 92), (1, 94), (16, 26)], 17, 192, .agg [.sl [] .full, .int .i64 0, .int .i64 0, .int .i64 0, .str ByteArray.empty, .int .i64 0, .int .i64 0, .int .i64 0, .bool false, .sl [] .full, .sl [] .full, .int .i64 0, .bool false, .int .i64 0, .int .i64 0, .int .i64 0, .int .i64 0]⟩ := rfl
theorem ty_152 : C.ty 152 = some ⟨.arr 2 79, 18, 224, .agg [.int .i64 0, .int .i64 0, .str ByteArray.empty, .int .i64 0, .int .i64 0, .int .i64 0, .bool false, .sl [] .full, .sl [] .full, .int .i64 0, .int .i64 0, .str ByteArray.empty, .int .i64 0, .int .i64 0, .int .i64 0, .bool false, .sl [] .full, .sl [] .full]⟩ := rfl
theorem ty_153 : C.ty 153 = some ⟨.arr 2 24, 10, 112, .agg [.int .i64 0, .int .i64 0, .int .i64 0, .bool false, .sl [] .full, .int .i64 0, .int .i64 0, .int .i64 0, .bool false, .sl [] .full]⟩ := rfl
theorem ty_166 : C.ty 166 = some ⟨.int .u32, 1, 4, .int .u32 0⟩ := rfl
theorem ty_170 : C.ty 170 = some ⟨.ptr, 1, 8, .nilp⟩ := rfl


theorem inpl_C (t : Nat) : C.inpl t = false := rfl

theorem mixed : Try.prog.follows .mixedOrders = true := by kernel_rfl

end Go.Proofs.Ytajdipeebpmifaa
