/- The seat's table of types. No condition. -/
import Derived.Test.YtcpfjabjonpdaaaProg
import Derived.Test.YtcpfjabjonpdaaaA6
namespace Go.Proofs.Ytcpfjabjonpdaaa
open Go Go.Ab

def tab : List (Nat × TL) := [(2, ⟨.int .i64, 1, 8, .int .i64 0⟩),
  (3, ⟨.int .i64, 1, 8, .int .i64 0⟩),
  (4, ⟨.bool, 1, 1, .bool false⟩),
  (5, ⟨.int .u8, 1, 1, .int .u8 0⟩),
  (9, ⟨.str, 1, 16, .str ByteArray.empty⟩),
  (12, ⟨.int .u64, 1, 8, .int .u64 0⟩),
  (13, ⟨.st [(0, 9), (1, 12)], 2, 24, .agg [.str ByteArray.empty, .int .u64 0]⟩),
  (19, ⟨.st [(0, 17)], 1, 8, .agg [.nilp]⟩),
  (21, ⟨.int .i32, 1, 4, .int .i32 0⟩),
  (22, ⟨.sl 24, 1, 24, .sl [] .full⟩),
  (23, ⟨.st [(0, 3), (1, 3), (2, 22)], 3, 40, .agg [.int .i64 0, .int .i64 0, .sl [] .full]⟩),
  (24, ⟨.st [(0, 3), (1, 3), (2, 22)], 3, 40, .agg [.int .i64 0, .int .i64 0, .sl [] .full]⟩),
  (34, ⟨.sl 4, 1, 24, .sl [] .full⟩),
  (44, ⟨.sl 3, 1, 24, .sl [] .full⟩),
  (48, ⟨.int .i64, 1, 8, .int .i64 0⟩),
  (54, ⟨.int .u64, 1, 8, .int .u64 0⟩),
  (60, ⟨.map 3 3, 1, 8, .nilm⟩),
  (72, ⟨.int .u32, 1, 4, .int .u32 0⟩),
  (76, ⟨.ptr, 1, 8, .nilp⟩)]

theorem tab_checked : tabCheck Try.prog tab = true := by kernel_rfl

def C : Cfg := { ty := tyOf tab }

theorem C_ok : CfgOK Try.prog C := tab_ok tab_checked

theorem ty_2 : C.ty 2 = some ⟨.int .i64, 1, 8, .int .i64 0⟩ := rfl
theorem ty_3 : C.ty 3 = some ⟨.int .i64, 1, 8, .int .i64 0⟩ := rfl
theorem ty_4 : C.ty 4 = some ⟨.bool, 1, 1, .bool false⟩ := rfl
theorem ty_5 : C.ty 5 = some ⟨.int .u8, 1, 1, .int .u8 0⟩ := rfl
theorem ty_9 : C.ty 9 = some ⟨.str, 1, 16, .str ByteArray.empty⟩ := rfl
theorem ty_12 : C.ty 12 = some ⟨.int .u64, 1, 8, .int .u64 0⟩ := rfl
theorem ty_13 : C.ty 13 = some ⟨.st [(0, 9), (1, 12)], 2, 24, .agg [.str ByteArray.empty, .int .u64 0]⟩ := rfl
theorem ty_19 : C.ty 19 = some ⟨.st [(0, 17)], 1, 8, .agg [.nilp]⟩ := rfl
theorem ty_21 : C.ty 21 = some ⟨.int .i32, 1, 4, .int .i32 0⟩ := rfl
theorem ty_22 : C.ty 22 = some ⟨.sl 24, 1, 24, .sl [] .full⟩ := rfl
theorem ty_23 : C.ty 23 = some ⟨.st [(0, 3), (1, 3), (2, 22)], 3, 40, .agg [.int .i64 0, .int .i64 0, .sl [] .full]⟩ := rfl
theorem ty_24 : C.ty 24 = some ⟨.st [(0, 3), (1, 3), (2, 22)], 3, 40, .agg [.int .i64 0, .int .i64 0, .sl [] .full]⟩ := rfl
theorem ty_34 : C.ty 34 = some ⟨.sl 4, 1, 24, .sl [] .full⟩ := rfl
theorem ty_44 : C.ty 44 = some ⟨.sl 3, 1, 24, .sl [] .full⟩ := rfl
theorem ty_48 : C.ty 48 = some ⟨.int .i64, 1, 8, .int .i64 0⟩ := rfl
theorem ty_54 : C.ty 54 = some ⟨.int .u64, 1, 8, .int .u64 0⟩ := rfl
theorem ty_60 : C.ty 60 = some ⟨.map 3 3, 1, 8, .nilm⟩ := rfl
theorem ty_72 : C.ty 72 = some ⟨.int .u32, 1, 4, .int .u32 0⟩ := rfl
theorem ty_76 : C.ty 76 = some ⟨.ptr, 1, 8, .nilp⟩ := rfl


theorem inpl_C (t : Nat) : C.inpl t = false := rfl

theorem mixed : Try.prog.follows .mixedOrders = true := by kernel_rfl

end Go.Proofs.Ytcpfjabjonpdaaa
