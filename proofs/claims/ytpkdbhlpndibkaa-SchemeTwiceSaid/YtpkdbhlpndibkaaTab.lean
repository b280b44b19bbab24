/- The seat's table of types. No condition. -/
import Derived.Test.YtpkdbhlpndibkaaProg
import Derived.Test.YtpkdbhlpndibkaaPAb
namespace Go.Proofs.Ytpkdbhlpndibkaa
open Go Go.Ab

def tab : List (Nat × TL) := [(2, ⟨.int .i64, 1, 8, .int .i64 0⟩),
  (3, ⟨.int .i64, 1, 8, .int .i64 0⟩),
  (4, ⟨.bool, 1, 1, .bool false⟩),
  (5, ⟨.int .u8, 1, 1, .int .u8 0⟩),
  (9, ⟨.str, 1, 16, .str ByteArray.empty⟩),
  (12, ⟨.int .u64, 1, 8, .int .u64 0⟩),
  (13, ⟨.st [(0, 9), (1, 12)], 2, 24, .agg [.str ByteArray.empty, .int .u64 0]⟩),
  (19, ⟨.st [(0, 17)], 1, 8, .agg [.nilp]⟩),
  (21, ⟨.int .i32, 1, 4, .int .i32 0⟩),
  (22, ⟨.sl 24, 1, 24, .sl [] .full⟩),
  (23, ⟨.st [(0, 3), (1, 3), (2, 22)], 3, 40, .agg [.int .i64 0, .int .i64 0, .sl [] .full]⟩),
  (24, ⟨.st [(0, 3), (1, 3), (2, 22)], 3, 40, .agg [.int .i64 0, .int .i64 0, .sl [] .full]⟩),
  (25, ⟨.sl 44, 1, 24, .sl [] .full⟩),
  (29, ⟨.int .i64, 1, 8, .int .i64 0⟩),
  (43, ⟨.st [(0, 3), (1, 24)], 4, 48, .agg [.int .i64 0, .int .i64 0, .int .i64 0, .sl [] .full]⟩),
  (44, ⟨.st [(0, 3), (1, 24)], 4, 48, .agg [.int .i64 0, .int .i64 0, .int .i64 0, .sl [] .full]⟩),
  (46, ⟨.sl 3, 1, 24, .sl [] .full⟩),
  (55, ⟨.map 3 3, 1, 8, .nilm⟩),
  (58, ⟨.ptr, 1, 8, .nilp⟩),
  (59, ⟨.st [(0, 25), (1, 55)], 2, 32, .agg [.sl [] .full, .nilm]⟩),
  (60, ⟨.st [(0, 25), (1, 55)], 2, 32, .agg [.sl [] .full, .nilm]⟩),
  (61, ⟨.ptr, 1, 8, .nilp⟩),
  (62, ⟨.sl 79, 1, 24, .sl [] .full⟩),
  (63, ⟨.st [(0, 62), (1, 55), (2, 55)], 3, 40, .agg [.sl [] .full, .nilm, .nilm]⟩),
  (64, ⟨.st [(0, 62), (1, 55), (2, 55)], 3, 40, .agg [.sl [] .full, .nilm, .nilm]⟩),
  (70, ⟨.ptr, 1, 8, .nilp⟩),
  (71, ⟨.st [(0, 25)], 1, 24, .agg [.sl [] .full]⟩),
  (72, ⟨.st [(0, 25)], 1, 24, .agg [.sl [] .full]⟩),
  (78, ⟨.st [(0, 3), (1, 3), (2, 46)], 3, 40, .agg [.int .i64 0, .int .i64 0, .sl [] .full]⟩),
  (79, ⟨.st [(0, 3), (1, 3), (2, 46)], 3, 40, .agg [.int .i64 0, .int .i64 0, .sl [] .full]⟩),
  (82, ⟨.arr 2 3, 2, 16, .agg [.int .i64 0, .int .i64 0]⟩),
  (83, ⟨.sl 82, 1, 24, .sl [] .full⟩),
  (92, ⟨.int .u32, 1, 4, .int .u32 0⟩),
  (96, ⟨.ptr, 1, 8, .nilp⟩)]

theorem tab_checked : tabCheck Try.prog tab = true := by kernel_rfl

def C : Cfg := { ty := tyOf tab, rdr := fun f => [38].contains f, zwr := fun f => [40, 59, 71, 58, 41, 60].contains f }

theorem C_ok : CfgOK Try.prog C := tab_ok tab_checked

theorem ty_2 : C.ty 2 = some ⟨.int .i64, 1, 8, .int .i64 0⟩ := rfl
theorem ty_3 : C.ty 3 = some ⟨.int .i64, 1, 8, .int .i64 0⟩ := rfl
theorem ty_4 : C.ty 4 = some ⟨.bool, 1, 1, .bool false⟩ := rfl
theorem ty_5 : C.ty 5 = some ⟨.int .u8, 1, 1, .int .u8 0⟩ := rfl
theorem ty_9 : C.ty 9 = some ⟨.str, 1, 16, .str ByteArray.empty⟩ := rfl
theorem ty_12 : C.ty 12 = some ⟨.int .u64, 1, 8, .int .u64 0⟩ := rfl
theorem ty_13 : C.ty 13 = some ⟨.st [(0, 9), (1, 12)], 2, 24, .agg [.str ByteArray.empty, .int .u64 0]⟩ := rfl
theorem ty_19 : C.ty 19 = some ⟨.st [(0, 17)], 1, 8, .agg [.nilp]⟩ := rfl
theorem ty_21 : C.ty 21 = some ⟨.int .i32, 1, 4, .int .i32 0⟩ := rfl
theorem ty_22 : C.ty 22 = some ⟨.sl 24, 1, 24, .sl [] .full⟩ := rfl
theorem ty_23 : C.ty 23 = some ⟨.st [(0, 3), (1, 3), (2, 22)], 3, 40, .agg [.int .i64 0, .int .i64 0, .sl [] .full]⟩ := rfl
theorem ty_24 : C.ty 24 = some ⟨.st [(0, 3), (1, 3), (2, 22)], 3, 40, .agg [.int .i64 0, .int .i64 0, .sl [] .full]⟩ := rfl
theorem ty_25 : C.ty 25 = some ⟨.sl 44, 1, 24, .sl [] .full⟩ := rfl
theorem ty_29 : C.ty 29 = some ⟨.int .i64, 1, 8, .int .i64 0⟩ := rfl
theorem ty_43 : C.ty 43 = some ⟨.st [(0, 3), (1, 24)], 4, 48, .agg [.int .i64 0, .int .i64 0, .int .i64 0, .sl [] .full]⟩ := rfl
theorem ty_44 : C.ty 44 = some ⟨.st [(0, 3), (1, 24)], 4, 48, .agg [.int .i64 0, .int .i64 0, .int .i64 0, .sl [] .full]⟩ := rfl
theorem ty_46 : C.ty 46 = some ⟨.sl 3, 1, 24, .sl [] .full⟩ := rfl
theorem ty_55 : C.ty 55 = some ⟨.map 3 3, 1, 8, .nilm⟩ := rfl
theorem ty_58 : C.ty 58 = some ⟨.ptr, 1, 8, .nilp⟩ := rfl
theorem ty_59 : C.ty 59 = some ⟨.st [(0, 25), (1, 55)], 2, 32, .agg [.sl [] .full, .nilm]⟩ := rfl
theorem ty_60 : C.ty 60 = some ⟨.st [(0, 25), (1, 55)], 2, 32, .agg [.sl [] .full, .nilm]⟩ := rfl
theorem ty_61 : C.ty 61 = some ⟨.ptr, 1, 8, .nilp⟩ := rfl
theorem ty_62 : C.ty 62 = some ⟨.sl 79, 1, 24, .sl [] .full⟩ := rfl
theorem ty_63 : C.ty 63 = some ⟨.st [(0, 62), (1, 55), (2, 55)], 3, 40, .agg [.sl [] .full, .nilm, .nilm]⟩ := rfl
theorem ty_64 : C.ty 64 = some ⟨.st [(0, 62), (1, 55), (2, 55)], 3, 40, .agg [.sl [] .full, .nilm, .nilm]⟩ := rfl
theorem ty_70 : C.ty 70 = some ⟨.ptr, 1, 8, .nilp⟩ := rfl
theorem ty_71 : C.ty 71 = some ⟨.st [(0, 25)], 1, 24, .agg [.sl [] .full]⟩ := rfl
theorem ty_72 : C.ty 72 = some ⟨.st [(0, 25)], 1, 24, .agg [.sl [] .full]⟩ := rfl
theorem ty_78 : C.ty 78 = some ⟨.st [(0, 3), (1, 3), (2, 46)], 3, 40, .agg [.int .i64 0, .int .i64 0, .sl [] .full]⟩ := rfl
theorem ty_79 : C.ty 79 = some ⟨.st [(0, 3), (1, 3), (2, 46)], 3, 40, .agg [.int .i64 0, .int .i64 0, .sl [] .full]⟩ := rfl
theorem ty_82 : C.ty 82 = some ⟨.arr 2 3, 2, 16, .agg [.int .i64 0, .int .i64 0]⟩ := rfl
theorem ty_83 : C.ty 83 = some ⟨.sl 82, 1, 24, .sl [] .full⟩ := rfl
theorem ty_92 : C.ty 92 = some ⟨.int .u32, 1, 4, .int .u32 0⟩ := rfl
theorem ty_96 : C.ty 96 = some ⟨.ptr, 1, 8, .nilp⟩ := rfl


theorem inpl_C (t : Nat) : C.inpl t = false := rfl

theorem mixed : Try.prog.follows .mixedOrders = true := by kernel_rfl

end Go.Proofs.Ytpkdbhlpndibkaa
