/- Layer 11: matching: plain laws about the binds of the statements. No condition. -/
import Derived.Test.YtpkdbhlpndibkaaEC
set_option linter.unusedSimpArgs false
set_option linter.unusedVariables false
namespace Go.Proofs.Ytpkdbhlpndibkaa
open Go Go.Ab

noncomputable def gT (l : List Ty) (c : Bool) (i : Nat) : T := if l.length = 0 then .base 0 else plainS c (tOf (l.getD (i % l.length) default))
theorem lookB_bdL (n : Int) : ∀ L : List BT, lookB (bdL L) n = (lookT L n).map T.ty
  | [] => rfl
  | p :: L => by
    simp only [bdL, List.map_cons, lookB, lookT]
    split
    · rfl
    · exact lookB_bdL n L
theorem sigB_bdL (L : List BT) : sigB (bdL L) = sigT L := by
  funext n
  rw [sigB, lookB_bdL, sigT]
  cases lookT L n with
  | none => rfl
  | some v => exact tOf_ty v
end Go.Proofs.Ytpkdbhlpndibkaa
