/- Whatever the input: SchemeExact answers true, and its arguments read as they did. No condition. -/
import Derived.Test.YtmpegnogdgbleaaLawT
import Derived.Test.YtmpegnogdgbleaaPLa
import Derived.Test.YtmpegnogdgbleaaVP
namespace Go.Proofs.Ytmpegnogdgbleaa
open Go Go.Ab

set_option maxRecDepth 100000 in
theorem schemeExact_lifted (os : Os) (started : os.Started) (H : Type) (enc : TypeId × Value → H) :
    ReturnsInHanded {} Try.checked os 3 .any (Rows.schemeExactSpec.pre6 enc Try.prog Try.f3 Rows.schemeExactRow.domain false) (Rows.schemeExactSpec.post enc Try.prog Try.f3 false true false false) := by
  refine returnsInHanded_of_change (C := Try.checked) zMt started (by kernel_rfl) Try.func3
    (ChangeSpec.witness6 (enc := enc) (C := Try.checked) false ⟨#[], #[.agg #[.int .i64 0, .int .i64 0, .slice none 0 0], .agg #[.int .i64 0, .int .i64 0, .slice none 0 0], .slice none 0 0], []⟩ 8 (by kernel_rfl) (by kernel_rfl) (by kernel_rfl) (by kernel_rfl)) ?_
  intro W base args ds gs before hval0 hW _ _
  have hval : ∀ (j : Nat) t v, Try.f3.params[j]? = some t → args[j]? = some v → Value.okWide Try.prog W .any base t v := hval0
  have hW' := hW
  obtain ⟨p, q, hA0, hV, _, _, _⟩ := hW
  have hA : DataW.TrodAll enc Try.prog W 0 (fun _ => true) true Try.f3.params.toList args.toList ds p := hA0
  rw [Try.params3] at hA hval
  clear hA0 hval0 hV
  obtain ⟨v0, vs0, d0, ds0, p0, q0, hargs, rfl, rfl, h0, r0⟩ := Go.ChangeShapes.trodAll_cons hA
  obtain ⟨v1, vs1, d1, ds1, p1, q1, rfl, rfl, rfl, h1, r1⟩ := Go.ChangeShapes.trodAll_cons r0
  obtain ⟨v2, vs2, d2, ds2, p2, q2, rfl, rfl, rfl, h2, r2⟩ := Go.ChangeShapes.trodAll_cons r1
  obtain ⟨rfl, rfl, rfl⟩ := Go.ChangeShapes.trodAll_nil r2
  obtain rfl : args = #[v0, v1, v2] := by cases args; simp_all
  obtain ⟨a, g0⟩ := zb7 (hval 0 _ v0 rfl rfl) h0
  obtain ⟨b, g1⟩ := zb7 (hval 1 _ v1 rfl rfl) h1
  obtain ⟨c, g2⟩ := zqp (hval 2 _ v2 rfl rfl) h2
  refine (zMr (avs := [emb a, emb b, .sl (c.map embB) .no]) (zsU a b c) rfl ?_).mono fun e W' he => ?_
  · intro i hi
    match i, hi with
    | 0, _ => exact g0
    | 1, _ => exact g1
    | 2, _ => exact g2
  · obtain ⟨rfl, hb⟩ := he
    exact ⟨_, rfl, zMu rfl zMs (by kernel_rfl) (tb := 4) (by kernel_rfl) Try.underlying4 hW' rfl hb⟩

theorem schemeExact_closed : joinedFacts Try.prog 3 Try.f3 Rows.schemeExactSpec Rows.schemeExactRow = true := by
  unfold joinedFacts
  rw [zL8, zL7, zL5]
  kernel_rfl

theorem schemeExact_holds : Rows.SchemeExactSaid :=
  OpenClaim.holds_of_wide 3 Try.f3 rfl rfl rfl rfl rfl rfl rfl ⟨rfl, rfl, rfl, rfl, rfl⟩ rfl rfl rfl rfl rfl (by kernel_rfl) Try.func3 schemeExact_closed
    (of_decide_eq_true (by kernel_rfl)) (by unfold Func.isWrapper; first | (rw [if_pos (by decide +kernel)]; kernel_rfl) | (rw [if_neg (by decide +kernel)]; exact ⟨rfl, rfl⟩))
    (fun os started H enc _ => schemeExact_lifted os started H enc)


end Go.Proofs.Ytmpegnogdgbleaa
