/- The seat's table of types. No condition. -/
import Derived.Test.YtofogicgnldfhaaProg
import Derived.Test.YtofogicgnldfhaaPAb
namespace Go.Proofs.Ytofogicgnldfhaa
open Go Go.Ab

def tab : List (Nat × TL) := [(2, ⟨false, .int .i64, 1, 8, .int .i64 0⟩),
  (3, ⟨false, .int .i64, 1, 8, .int .i64 0⟩),
  (4, ⟨false, .bool, 1, 1, .bool false⟩),
  (5, ⟨false, .int .u8, 1, 1, .int .u8 0⟩),
  (9, ⟨false, .str, 1, 16, .str ByteArray.empty⟩),
  (12, ⟨false, .int .u64, 1, 8, .int .u64 0⟩),
  (13, ⟨false, .st [(0, 9), (1, 12)], 2, 24, .agg [.str ByteArray.empty, .int .u64 0]⟩),
  (19, ⟨false, .st [(0, 17)], 1, 8, .agg [.nilp]⟩),
  (21, ⟨false, .int .i32, 1, 4, .int .i32 0⟩),
  (22, ⟨false, .sl 24, 1, 24, .sl [] .full⟩),
  (23, ⟨false, .st [(0, 3), (1, 3), (2, 3), (3, 4), (4, 22)], 5, 56, .agg [.int .i64 0, .int .i64 0, .int .i64 0, .bool false, .sl [] .full]⟩),
  (24, ⟨false, .st [(0, 3), (1, 3), (2, 3), (3, 4), (4, 22)], 5, 56, .agg [.int .i64 0, .int .i64 0, .int .i64 0, .bool false, .sl [] .full]⟩),
  (25, ⟨false, .sl 27, 1, 24, .sl [] .full⟩),
  (26, ⟨false, .st [(0, 3), (1, 2), (2, 9), (3, 24), (8, 25)], 9, 112, .agg [.int .i64 0, .int .i64 0, .str ByteArray.empty, .int .i64 0, .int .i64 0, .int .i64 0, .bool false, .sl [] .full, .sl [] .full]⟩),
  (27, ⟨false, .st [(0, 3), (1, 2), (2, 9), (3, 24), (8, 25)], 9, 112, .agg [.int .i64 0, .int .i64 0, .str ByteArray.empty, .int .i64 0, .int .i64 0, .int .i64 0, .bool false, .sl [] .full, .sl [] .full]⟩),
  (28, ⟨false, .sl 30, 1, 24, .sl [] .full⟩),
  (29, ⟨false, .st [(0, 3), (1, 3), (2, 28)], 3, 40, .agg [.int .i64 0, .int .i64 0, .sl [] .full]⟩),
  (30, ⟨false, .st [(0, 3), (1, 3), (2, 28)], 3, 40, .agg [.int .i64 0, .int .i64 0, .sl [] .full]⟩),
  (33, ⟨false, .int .i64, 1, 8, .int .i64 0⟩),
  (41, ⟨true, .st [(0, 3), (1, 3)], 2, 16, .agg [.int .i64 0, .int .i64 0]⟩),
  (42, ⟨true, .st [(0, 3), (1, 3)], 2, 16, .agg [.int .i64 0, .int .i64 0]⟩),
  (43, ⟨false, .sl 45, 1, 24, .sl [] .full⟩),
  (44, ⟨false, .st [(0, 3), (1, 42), (3, 9), (4, 2), (5, 9), (6, 43)], 7, 88, .agg [.int .i64 0, .int .i64 0, .int .i64 0, .str ByteArray.empty, .int .i64 0, .str ByteArray.empty, .sl [] .full]⟩),
  (45, ⟨false, .st [(0, 3), (1, 42), (3, 9), (4, 2), (5, 9), (6, 43)], 7, 88, .agg [.int .i64 0, .int .i64 0, .int .i64 0, .str ByteArray.empty, .int .i64 0, .str ByteArray.empty, .sl [] .full]⟩),
  (47, ⟨false, .sl 54, 1, 24, .sl [] .full⟩),
  (48, ⟨false, .st [(0, 3), (1, 27), (10, 3), (11, 4), (12, 42), (14, 3)], 15, 160, .agg [.int .i64 0, .int .i64 0, .int .i64 0, .str ByteArray.empty, .int .i64 0, .int .i64 0, .int .i64 0, .bool false, .sl [] .full, .sl [] .full, .int .i64 0, .bool false, .int .i64 0, .int .i64 0, .int .i64 0]⟩),
  (49, ⟨false, .st [(0, 3), (1, 27), (10, 3), (11, 4), (12, 42), (14, 3)], 15, 160, .agg [.int .i64 0, .int .i64 0, .int .i64 0, .str ByteArray.empty, .int .i64 0, .int .i64 0, .int .i64 0, .bool false, .sl [] .full, .sl [] .full, .int .i64 0, .bool false, .int .i64 0, .int .i64 0, .int .i64 0]⟩),
  (53, ⟨false, .st [(0, 9), (1, 27)], 10, 128, .agg [.str ByteArray.empty, .int .i64 0, .int .i64 0, .str ByteArray.empty, .int .i64 0, .int .i64 0, .int .i64 0, .bool false, .sl [] .full, .sl [] .full]⟩),
  (54, ⟨false, .st [(0, 9), (1, 27)], 10, 128, .agg [.str ByteArray.empty, .int .i64 0, .int .i64 0, .str ByteArray.empty, .int .i64 0, .int .i64 0, .int .i64 0, .bool false, .sl [] .full, .sl [] .full]⟩),
  (64, ⟨false, .sl 3, 1, 24, .sl [] .full⟩),
  (65, ⟨false, .int .u64, 1, 8, .int .u64 0⟩),
  (69, ⟨false, .sl 4, 1, 24, .sl [] .full⟩),
  (91, ⟨false, .sl 9, 1, 24, .sl [] .full⟩),
  (106, ⟨false, .map 9 3, 1, 8, .nilm⟩),
  (110, ⟨false, .ptr, 1, 8, .nilp⟩),
  (111, ⟨false, .st [(0, 47), (1, 49), (16, 33)], 17, 192, .agg [.sl [] .full, .int .i64 0, .int .i64 0, .int .i64 0, .str ByteArray.empty, .int .i64 0, .int .i64 0, .int .i64 0, .bool false, .sl [] .full, .sl [] .full, .int .i64 0, .bool false, .int .i64 0, .int .i64 0, .int .i64 0, .int .i64 0]⟩),
  (112, ⟨false, .st [(0, 47), (1, 49), (16, 33)], 17, 192, .agg [.sl [] .full, .int .i64 0, .int .i64 0, .int .i64 0, .str ByteArray.empty, .int .i64 0, .int .i64 0, .int .i64 0, .bool false, .sl [] .full, .sl [] .full, .int .i64 0, .bool false, .int .i64 0, .int .i64 0, .int .i64 0, .int .i64 0]⟩),
  (117, ⟨false, .arr 2 27, 18, 224, .agg [.int .i64 0, .int .i64 0, .str ByteArray.empty, .int .i64 0, .int .i64 0, .int .i64 0, .bool false, .sl [] .full, .sl [] .full, .int .i64 0, .int .i64 0, .str ByteArray.empty, .int .i64 0, .int .i64 0, .int .i64 0, .bool false, .sl [] .full, .sl [] .full]⟩),
  (118, ⟨false, .arr 2 24, 10, 112, .agg [.int .i64 0, .int .i64 0, .int .i64 0, .bool false, .sl [] .full, .int .i64 0, .int .i64 0, .int .i64 0, .bool false, .sl [] .full]⟩),
  (130, ⟨false, .int .u32, 1, 4, .int .u32 0⟩),
  (134, ⟨false, .ptr, 1, 8, .nilp⟩)]

theorem tab_checked : tabCheck Try.prog tab = true := by kernel_rfl

def C : Cfg := { ty := tyOf tab }

theorem C_ok : CfgOK Try.prog C := tab_ok tab_checked

theorem ty_2 : C.ty 2 = some ⟨false, .int .i64, 1, 8, .int .i64 0⟩ := rfl
theorem ty_3 : C.ty 3 = some ⟨false, .int .i64, 1, 8, .int .i64 0⟩ := rfl
theorem ty_4 : C.ty 4 = some ⟨false, .bool, 1, 1, .bool false⟩ := rfl
theorem ty_5 : C.ty 5 = some ⟨false, .int .u8, 1, 1, .int .u8 0⟩ := rfl
theorem ty_9 : C.ty 9 = some ⟨false, .str, 1, 16, .str ByteArray.empty⟩ := rfl
theorem ty_12 : C.ty 12 = some ⟨false, .int .u64, 1, 8, .int .u64 0⟩ := rfl
theorem ty_13 : C.ty 13 = some ⟨false, .st [(0, 9), (1, 12)], 2, 24, .agg [.str ByteArray.empty, .int .u64 0]⟩ := rfl
theorem ty_19 : C.ty 19 = some ⟨false, .st [(0, 17)], 1, 8, .agg [.nilp]⟩ := rfl
theorem ty_21 : C.ty 21 = some ⟨false, .int .i32, 1, 4, .int .i32 0⟩ := rfl
theorem ty_22 : C.ty 22 = some ⟨false, .sl 24, 1, 24, .sl [] .full⟩ := rfl
theorem ty_23 : C.ty 23 = some ⟨false, .st [(0, 3), (1, 3), (2, 3), (3, 4), (4, 22)], 5, 56, .agg [.int .i64 0, .int .i64 0, .int .i64 0, .bool false, .sl [] .full]⟩ := rfl
theorem ty_24 : C.ty 24 = some ⟨false, .st [(0, 3), (1, 3), (2, 3), (3, 4), (4, 22)], 5, 56, .agg [.int .i64 0, .int .i64 0, .int .i64 0, .bool false, .sl [] .full]⟩ := rfl
theorem ty_25 : C.ty 25 = some ⟨false, .sl 27, 1, 24, .sl [] .full⟩ := rfl
theorem ty_26 : C.ty 26 = some ⟨false, .st [(0, 3), (1, 2), (2, 9), (3, 24), (8, 25)], 9, 112, .agg [.int .i64 0, .int .i64 0, .str ByteArray.empty, .int .i64 0, .int .i64 0, .int .i64 0, .bool false, .sl [] .full, .sl [] .full]⟩ := rfl
theorem ty_27 : C.ty 27 = some ⟨false, .st [(0, 3), (1, 2), (2, 9), (3, 24), (8, 25)], 9, 112, .agg [.int .i64 0, .int .i64 0, .str ByteArray.empty, .int .i64 0, .int .i64 0, .int .i64 0, .bool false, .sl [] .full, .sl [] .full]⟩ := rfl
theorem ty_28 : C.ty 28 = some ⟨false, .sl 30, 1, 24, .sl [] .full⟩ := rfl
theorem ty_29 : C.ty 29 = some ⟨false, .st [(0, 3), (1, 3), (2, 28)], 3, 40, .agg [.int .i64 0, .int .i64 0, .sl [] .full]⟩ := rfl
theorem ty_30 : C.ty 30 = some ⟨false, .st [(0, 3), (1, 3), (2, 28)], 3, 40, .agg [.int .i64 0, .int .i64 0, .sl [] .full]⟩ := rfl
theorem ty_33 : C.ty 33 = some ⟨false, .int .i64, 1, 8, .int .i64 0⟩ := rfl
theorem ty_41 : C.ty 41 = some ⟨true, .st [(0, 3), (1, 3)], 2, 16, .agg [.int .i64 0, .int .i64 0]⟩ := rfl
theorem ty_42 : C.ty 42 = some ⟨true, .st [(0, 3), (1, 3)], 2, 16, .agg [.int .i64 0, .int .i64 0]⟩ := rfl
theorem ty_43 : C.ty 43 = some ⟨false, .sl 45, 1, 24, .sl [] .full⟩ := rfl
theorem ty_44 : C.ty 44 = some ⟨false, .st [(0, 3), (1, 42), (3, 9), (4, 2), (5, 9), (6, 43)], 7, 88, .agg [.int .i64 0, .int .i64 0, .int .i64 0, .str ByteArray.empty, .int .i64 0, .str ByteArray.empty, .sl [] .full]⟩ := rfl
theorem ty_45 : C.ty 45 = some ⟨false, .st [(0, 3), (1, 42), (3, 9), (4, 2), (5, 9), (6, 43)], 7, 88, .agg [.int .i64 0, .int .i64 0, .int .i64 0, .str ByteArray.empty, .int .i64 0, .str ByteArray.empty, .sl [] .full]⟩ := rfl
theorem ty_47 : C.ty 47 = some ⟨false, .sl 54, 1, 24, .sl [] .full⟩ := rfl
theorem ty_48 : C.ty 48 = some ⟨false, .st [(0, 3), (1, 27), (10, 3), (11, 4), (12, 42), (14, 3)], 15, 160, .agg [.int .i64 0, .int .i64 0, .int .i64 0, .str ByteArray.empty, .int .i64 0, .int .i64 0, .int .i64 0, .bool false, .sl [] .full, .sl [] .full, .int .i64 0, .bool false, .int .i64 0, .int .i64 0, .int .i64 0]⟩ := rfl
theorem ty_49 : C.ty 49 = some ⟨false, .st [(0, 3), (1, 27), (10, 3), (11, 4), (12, 42), (14, 3)], 15, 160, .agg [.int .i64 0, .int .i64 0, .int .i64 0, .str ByteArray.empty, .int .i64 0, .int .i64 0, .int .i64 0, .bool false, .sl [] .full, .sl [] .full, .int .i64 0, .bool false, .int .i64 0, .int .i64 0, .int .i64 0]⟩ := rfl
theorem ty_53 : C.ty 53 = some ⟨false, .st [(0, 9), (1, 27)], 10, 128, .agg [.str ByteArray.empty, .int .i64 0, .int .i64 0, .str ByteArray.empty, .int .i64 0, .int .i64 0, .int .i64 0, .bool false, .sl [] .full, .sl [] .full]⟩ := rfl
theorem ty_54 : C.ty 54 = some ⟨false, .st [(0, 9), (1, 27)], 10, 128, .agg [.str ByteArray.empty, .int .i64 0, .int .i64 0, .str ByteArray.empty, .int .i64 0, .int .i64 0, .int .i64 0, .bool false, .sl [] .full, .sl [] .full]⟩ := rfl
theorem ty_64 : C.ty 64 = some ⟨false, .sl 3, 1, 24, .sl [] .full⟩ := rfl
theorem ty_65 : C.ty 65 = some ⟨false, .int .u64, 1, 8, .int .u64 0⟩ := rfl
theorem ty_69 : C.ty 69 = some ⟨false, .sl 4, 1, 24, .sl [] .full⟩ := rfl
theorem ty_91 : C.ty 91 = some ⟨false, .sl 9, 1, 24, .sl [] .full⟩ := rfl
theorem ty_106 : C.ty 106 = some ⟨false, .map 9 3, 1, 8, .nilm⟩ := rfl
theorem ty_110 : C.ty 110 = some ⟨false, .ptr, 1, 8, .nilp⟩ := rfl
theorem ty_111 : C.ty 111 = some ⟨false, .st [(0, 47), (1, 49), (16, 33)], 17, 192, .agg [.sl [] .full, .int .i64 0, .int .i64 0, .int .i64 0, .str ByteArray.empty, .int .i64 0, .int .i64 0, .int .i64 0, .bool false, .sl [] .full, .sl [] .full, .int .i64 0, .bool false, .int .i64 0, .int .i64 0, .int .i64 0, .int .i64 0]⟩ := rfl
theorem ty_112 : C.ty 112 = some ⟨false, .st [(0, 47), (1, 49), (16, 33)], 17, 192, .agg [.sl [] .full, .int .i64 0, .int .i64 0, .int .i64 0, .str ByteArray.empty, .int .i64 0, .int .i64 0, .int .i64 0, .bool false, .sl [] .full, .sl [] .full, .int .i64 0, .bool false, .int .i64 0, .int .i64 0, .int .i64 0, .int .i64 0]⟩ := rfl
theorem ty_117 : C.ty 117 = some ⟨false, .arr 2 27, 18, 224, .agg [.int .i64 0, .int .i64 0, .str ByteArray.empty, .int .i64 0, .int .i64 0, .int .i64 0, .bool false, .sl [] .full, .sl [] .full, .int .i64 0, .int .i64 0, .str ByteArray.empty, .int .i64 0, .int .i64 0, .int .i64 0, .bool false, .sl [] .full, .sl [] .full]⟩ := rfl
theorem ty_118 : C.ty 118 = some ⟨false, .arr 2 24, 10, 112, .agg [.int .i64 0, .int .i64 0, .int .i64 0, .bool false, .sl [] .full, .int .i64 0, .int .i64 0, .int .i64 0, .bool false, .sl [] .full]⟩ := rfl
theorem ty_130 : C.ty 130 = some ⟨false, .int .u32, 1, 4, .int .u32 0⟩ := rfl
theorem ty_134 : C.ty 134 = some ⟨false, .ptr, 1, 8, .nilp⟩ := rfl


theorem inpl_C (t : Nat) : C.inpl t = false := rfl

theorem mixed : Try.prog.follows .mixedOrders = true := by kernel_rfl

end Go.Proofs.Ytofogicgnldfhaa
