/- Whatever the input: PatsInto answers true, and its arguments read as they did. No condition. -/
import Derived.Test.YtdngjamjccjlmaaGreatPLd
import Derived.Test.YtdngjamjccjlmaaGreatPLa
import Derived.Test.YtdngjamjccjlmaaGreatPXd
namespace Go.Proofs.YtdngjamjccjlmaaGreat
open Go Go.Ab

set_option maxRecDepth 100000 in
theorem patsInto_lifted (os : Os) (started : os.Started) (H : Type) (enc : TypeId × Value → H) :
    ReturnsInHanded {} Tryz.checked os 3 .any (Rows.patsIntoSpec.pre6 enc Tryz.prog Tryz.f3 Rows.patsIntoRow.domain false) (Rows.patsIntoSpec.post enc Tryz.prog Tryz.f3 false true false false) := by
  refine returnsInHanded_of_change (C := Tryz.checked) zMt started (by kernel_rfl) Tryz.func3
    (ChangeSpec.witness6 (enc := enc) (C := Tryz.checked) false ⟨#[], #[.int .i64 0, .int .i64 0, .agg #[.int .i64 0, .int .i64 0, .slice none 0 0], .agg #[.int .i64 0, .int .i64 0, .int .i64 0, .string ByteArray.empty, .int .i64 0, .string ByteArray.empty, .slice none 0 0]], []⟩ 8 (by kernel_rfl) (by kernel_rfl) (by kernel_rfl) (by kernel_rfl)) ?_
  intro W base args ds gs before hval0 hW _ _
  have hval : ∀ (j : Nat) t v, Tryz.f3.params[j]? = some t → args[j]? = some v → Value.okWide Tryz.prog W .any base t v := hval0
  have hW' := hW
  obtain ⟨p, q, hA0, hV, _, _, _⟩ := hW
  have hA : DataW.TrodAll enc Tryz.prog W 0 (fun _ => true) true Tryz.f3.params.toList args.toList ds p := hA0
  rw [Tryz.params3] at hA hval
  clear hA0 hval0 hV
  obtain ⟨v0, vs0, d0, ds0, p0, q0, hargs, rfl, rfl, h0, r0⟩ := Go.ChangeShapes.trodAll_cons hA
  obtain ⟨v1, vs1, d1, ds1, p1, q1, rfl, rfl, rfl, h1, r1⟩ := Go.ChangeShapes.trodAll_cons r0
  obtain ⟨v2, vs2, d2, ds2, p2, q2, rfl, rfl, rfl, h2, r2⟩ := Go.ChangeShapes.trodAll_cons r1
  obtain ⟨v3, vs3, d3, ds3, p3, q3, rfl, rfl, rfl, h3, r3⟩ := Go.ChangeShapes.trodAll_cons r2
  obtain ⟨rfl, rfl, rfl⟩ := Go.ChangeShapes.trodAll_nil r3
  obtain rfl : args = #[v0, v1, v2, v3] := by cases args; simp_all
  obtain ⟨a, g0⟩ := zd5 (hval 0 _ v0 rfl rfl) h0
  obtain ⟨b, g1⟩ := zd5 (hval 1 _ v1 rfl rfl) h1
  obtain ⟨c, g2⟩ := zb7 (hval 2 _ v2 rfl rfl) h2
  obtain ⟨d, g3⟩ := zCh (hval 3 _ v3 rfl rfl) h3
  refine (zMr (avs := [.int .i64 a, .int .i64 b, emb c, embP d]) (zmu a b c d) rfl ?_).mono fun e W' he => ?_
  · intro i hi
    match i, hi with
    | 0, _ => exact g0
    | 1, _ => exact g1
    | 2, _ => exact g2
    | 3, _ => exact g3
  · obtain ⟨rfl, hb⟩ := he
    exact ⟨_, rfl, zMu rfl zMs (by kernel_rfl) (tb := 4) (by kernel_rfl) Tryz.underlying4 hW' rfl hb⟩

theorem patsInto_closed : joinedFacts Tryz.prog 3 Tryz.f3 Rows.patsIntoSpec Rows.patsIntoRow = true := by
  unfold joinedFacts
  rw [zL8, zL7, zL5]
  kernel_rfl

theorem patsInto_holds : Rows.PatsIntoSaid :=
  OpenClaim.holds_of_wide 3 Tryz.f3 rfl rfl rfl rfl rfl rfl rfl ⟨rfl, rfl, rfl, rfl, rfl⟩ rfl rfl rfl rfl rfl (by kernel_rfl) Tryz.func3 patsInto_closed
    (of_decide_eq_true (by kernel_rfl)) (by unfold Func.isWrapper; first | (rw [if_pos (by decide +kernel)]; kernel_rfl) | (rw [if_neg (by decide +kernel)]; exact ⟨rfl, rfl⟩))
    (fun os started H enc _ => patsInto_lifted os started H enc)


end Go.Proofs.YtdngjamjccjlmaaGreat
