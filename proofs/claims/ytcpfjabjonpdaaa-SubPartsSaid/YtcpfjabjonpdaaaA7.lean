/- The executor on abstract values: what is read as data. Conditions stand ahead of each part. -/
import Derived.Test.YtcpfjabjonpdaaaA5
import Derived.ChangeArms
import Derived.ChangeSame
import Derived.Carry
import Derived.OpenShut
import Derived.JoinedOf
import Derived.JoinedCond

/- What is read as data is abstract values: for laws: types of integers, truth values, texts, slices and structs of these. Condition: the executor's table of types is the program's. -/
set_option linter.unusedSimpArgs false
namespace Go.Ab
open Go.RowKit (Below)

theorem one_cells {a y : AV} (h : a.one = true) (hc : cellsOf a = [y]) : a = y := by
  cases a <;> first | (simp [AV.one] at h; done) | (simp [cellsOf] at hc; exact hc)

/-- All that there is stays as it is. -/
def viewOf (w : World) : View := ⟨w.heap.size, fun b o => w.cell? ⟨b, o, none⟩, fun _ _ => none⟩

theorem inv_viewOf (w : World) : Inv (viewOf w) (heapObj []) w :=
  ⟨Nat.le_refl _, fun _ _ _ h => h, fun _ _ _ h => (by cases h), fun r x h => by simp [heapObj] at h, fun r r' x x' b h => by simp [heapObj] at h⟩

def sizeT (C : Cfg) (t : Nat) : Nat := match C.ty t with | some l => l.size | none => 0
def aggT (C : Cfg) (t : Nat) : Bool := match C.ty t with | some l => l.d.isAgg | none => false

/-- Cells of a type, whatever their contents. -/
def Shp (C : Cfg) : Nat → Nat → List AV → Prop
  | 0, _, _ => False
  | n + 1, t, cs => match C.ty t with
    | none => False
    | some l => match l.d with
      | .int k => ∃ m, cs = [.int k m]
      | .bool => ∃ b, cs = [.bool b]
      | .str => ∃ s, cs = [.str s]
      | .sl e => ∃ es, cs = [.sl es .no] ∧ ∀ x ∈ es, Shp C n e (cellsOf x) ∧ if aggT C e then ∃ ys, x = .agg ys else ∃ y, x = y ∧ y.one = true
      | .st fs => cs.length = l.size ∧ ∀ p ∈ fs, Shp C n p.2 ((cs.drop p.1).take (sizeT C p.2))
      | _ => False

def tiled (C : Cfg) : List (Nat × Nat) → Nat → Nat → Bool
  | [], o, z => o == z
  | p :: r, o, z => p.1 == o && tiled C r (o + sizeT C p.2) z

def goodSet (C : Cfg) (S : List Nat) : Bool := S.all fun t => match C.ty t with
  | none => false
  | some l => match l.d with
    | .int _ | .bool | .str => l.size == 1
    | .sl e => S.contains e && l.size == 1
    | .st fs => (fs.all fun p => S.contains p.2) && tiled C fs 0 l.size
    | _ => false

section
variable {P : Program} {C : Cfg} {H : Type} {enc : TypeId × Value → H} {w : World}

theorem TyOK.cellsOf_eq {t : Nat} {l : TL} (h : TyOK P t l) : P.cellsOf t = l.size := by
  obtain ⟨i, z, h1, h2, _⟩ := h.info
  simp [Program.cellsOf, h1, h2]

theorem cells?_spec {base n : Nat} {a : Addr} {vs : List Value} (h : w.cells? base a n = some vs) : vs.length = n ∧ ∀ i v, vs[i]? = some v → w.cell? (a.add i) = some v := by
  unfold World.cells? at h
  split at h
  · have hl := mapM_some_length h
    refine ⟨by simpa using hl, fun i v hv => ?_⟩
    have hi : i < n := by
      have := (List.getElem?_eq_some_iff.1 hv).1
      simp at hl; omega
    rw [mapM_some_get h i i (by simp [hi]), hv]
  · cases h

theorem cell?_spot {a : Addr} {v : Value} (h : w.cell? a = some v) : a.spot = none := by
  unfold World.cell? at h
  split at h
  · split at h
    · cases h
    · rename_i hs; simpa using hs
  · cases h

theorem addr_eta {a : Addr} (h : a.spot = none) : a = ⟨a.block, a.off, none⟩ := by cases a; simp at h; subst h; rfl

theorem mkAV {as : List AV} (C : Cfg) (e : Nat) {l : TL} (hT : C.ty e = some l) (hl : as.length = l.size) (hone : ∀ x ∈ as, x.one = true) (hd : l.d.isAgg = false → l.size = 1) :
    ∃ x : AV, cellsOf x = as ∧ (if aggT C e then ∃ ys, x = .agg ys else ∃ y, x = y ∧ y.one = true) := by
  by_cases ha : aggT C e = true
  · exact ⟨.agg as, rfl, by simp [ha]⟩
  · have ha' : l.d.isAgg = false := by simpa [aggT, hT] using ha
    obtain ⟨y, hy⟩ := List.length_eq_one_iff.1 (hl.trans (hd ha'))
    refine ⟨y, ?_, by simp only [ha]; exact ⟨y, rfl, hone y (by simp [hy])⟩⟩
    have := hone y (by simp [hy])
    rw [hy]
    cases y <;> first | rfl | (simp [AV.one] at this)

theorem tiled_rep {V : View} {vs : List Value} {n : Nat} : ∀ (fs : List (Nat × Nat)) (o z : Nat), tiled C fs o z = true → vs.length = z →
    (∀ p ∈ fs, ∃ as, RepL V ((vs.drop p.1).take (sizeT C p.2)) as ∧ as.length = sizeT C p.2 ∧ (∀ x ∈ as, x.one = true) ∧ Shp C n p.2 as) →
    ∃ as, RepL V (vs.drop o) as ∧ as.length + o = z ∧ (∀ x ∈ as, x.one = true) ∧ ∀ p ∈ fs, o ≤ p.1 ∧ Shp C n p.2 ((as.drop (p.1 - o)).take (sizeT C p.2))
  | [], o, z, ht, hl, _ => by
    have : o = z := by simpa [tiled] using ht
    subst this
    exact ⟨[], by rw [List.drop_of_length_le (by omega)]; exact .nil V, by simp, by simp, by simp⟩
  | p :: r, o, z, ht, hl, h => by
    simp only [tiled, Bool.and_eq_true, beq_iff_eq] at ht
    obtain ⟨hp, hr⟩ := ht
    obtain ⟨as, h1, h2, h3, h4⟩ := h p List.mem_cons_self
    obtain ⟨bs, g1, g2, g3, g4⟩ := tiled_rep r (o + sizeT C p.2) z hr hl (fun q hq => h q (List.mem_cons_of_mem _ hq))
    refine ⟨as ++ bs, ?_, by simp; omega, ?_, ?_⟩
    · have : vs.drop o = (vs.drop p.1).take (sizeT C p.2) ++ vs.drop (o + sizeT C p.2) := by
        rw [hp, ← List.drop_drop, List.take_append_drop]
      rw [this]; exact h1.append g1
    · intro x hx
      rcases List.mem_append.1 hx with hx | hx
      · exact h3 x hx
      · exact g3 x hx
    · intro q hq
      rcases List.mem_cons.1 hq with rfl | hq
      · refine ⟨by omega, ?_⟩
        rw [hp, Nat.sub_self, List.drop_zero, List.take_append_of_le_length (by omega), List.take_of_length_le (by omega)]
        exact h4
      · obtain ⟨k1, k2⟩ := g4 q hq
        refine ⟨by omega, ?_⟩
        have : q.1 - o = as.length + (q.1 - (o + sizeT C p.2)) := by omega
        rw [this, ← List.drop_drop, List.drop_left]
        exact k2

theorem one_of_good {S : List Nat} (hS : goodSet C S = true) {t : Nat} {l : TL} (ht : t ∈ S) (hT : C.ty t = some l) (ha : l.d.isAgg = false) : l.size = 1 := by
  have hg := List.all_eq_true.1 hS t ht
  simp only [hT] at hg
  split at hg <;> first | (simp at hg; done) | skip
  · simpa using hg
  · simpa using hg
  · simpa using hg
  · simp only [Bool.and_eq_true, beq_iff_eq] at hg; exact hg.2
  · rename_i hd; rw [hd] at ha; simp [TD.isAgg] at ha

theorem trod_int' {n t : Nat} {k : IntKind} {spare : Nat → Bool} {held : Bool} {vs : List Value} {x : DataW H × List MemPlace} (ht : P.underlying t = some (.int k)) (h : DataW.trod enc P w 0 spare held (n + 1) t vs = some x) :
    ∃ m, vs = [.int k m] ∧ (Lit.int k m).wf = true := by
  unfold DataW.trod at h
  rw [ht] at h
  split at h <;> simp_all
theorem trod_bool' {n t : Nat} {spare : Nat → Bool} {held : Bool} {vs : List Value} {x : DataW H × List MemPlace} (ht : P.underlying t = some .bool) (h : DataW.trod enc P w 0 spare held (n + 1) t vs = some x) : ∃ b, vs = [.bool b] := by
  unfold DataW.trod at h
  rw [ht] at h
  split at h <;> simp_all
theorem trod_str' {n t : Nat} {spare : Nat → Bool} {held : Bool} {vs : List Value} {x : DataW H × List MemPlace} (ht : P.underlying t = some .string) (h : DataW.trod enc P w 0 spare held (n + 1) t vs = some x) : ∃ s, vs = [.string s] ∧ s.size ≤ maxLen := by
  unfold DataW.trod at h
  rw [ht] at h
  split at h <;> simp_all

theorem trod_shp (hC : CfgOK P C) {S : List Nat} (hS : goodSet C S = true) {spare : Nat → Bool} {held : Bool} : ∀ (fuel : Nat) {t : Nat} {l : TL} {vs : List Value} {x : DataW H × List MemPlace}, t ∈ S → C.ty t = some l →
    DataW.trod enc P w 0 spare held fuel t vs = some x → ∃ as, RepL (viewOf w) vs as ∧ as.length = l.size ∧ (∀ a ∈ as, a.one = true) ∧ Shp C fuel t as
  | 0, t, l, vs, x, ht, hT, h => by simp [DataW.trod] at h
  | n + 1, t, l, vs, x, ht, hT, h => by
    have hTy := hC _ _ hT
    have hsz := hTy.cellsOf_eq
    have hg := List.all_eq_true.1 hS t ht
    simp only [hT] at hg
    obtain ⟨desc, hdesc, hok⟩ := hTy.desc
    split at hg <;> first | (simp at hg; done) | skip
    · -- int
      rename_i k hd
      rw [hd] at hok
      simp only [DescOK] at hok
      subst hok
      obtain ⟨m, rfl, hwf⟩ := trod_int' hdesc h
      have hb : k.min ≤ m ∧ m ≤ k.max := by simpa [Lit.wf] using hwf
      refine ⟨[.int k m], .cons (.int _ _ hb.1 hb.2) (.nil _), ?_, by simp [AV.one], ?_⟩
      · have : l.size = 1 := by simpa using hg
        simp [this]
      · simp only [Shp, hT, hd]; exact ⟨m, rfl⟩
    · -- bool
      rename_i hd
      rw [hd] at hok
      simp only [DescOK] at hok
      subst hok
      obtain ⟨b, rfl⟩ := trod_bool' hdesc h
      refine ⟨[.bool b], .cons (.bool b) (.nil _), ?_, by simp [AV.one], ?_⟩
      · have : l.size = 1 := by simpa using hg
        simp [this]
      · simp only [Shp, hT, hd]; exact ⟨b, rfl⟩
    · -- str
      rename_i hd
      rw [hd] at hok
      simp only [DescOK] at hok
      subst hok
      obtain ⟨s, rfl, hs⟩ := trod_str' hdesc h
      refine ⟨[.str s], .cons (.str s hs) (.nil _), ?_, by simp [AV.one], ?_⟩
      · have : l.size = 1 := by simpa using hg
        simp [this]
      · simp only [Shp, hT, hd]; exact ⟨s, rfl⟩
    · -- slice
      rename_i e hd
      rw [hd] at hok
      simp only [DescOK] at hok
      subst hok
      simp only [Bool.and_eq_true, List.contains_iff_mem, beq_iff_eq] at hg
      obtain ⟨hmem, h1⟩ := hg
      have hge := List.all_eq_true.1 hS e hmem
      cases hE : C.ty e with
      | none => rw [hE] at hge; simp at hge
      | some le =>
        have hEsz := (hC _ _ hE).cellsOf_eq
        have hEpos := (hC _ _ hE).pos
        rcases DataW.trod_slice hdesc h with ⟨rfl, _⟩ | ⟨a, len, cap, elems, rest, m, hm, rfl, _, _, hlc, hcm, hel, hget, _, _⟩
        · refine ⟨[.sl [] .no], .cons (.sl none 0 0 [] .no le.size 0 0 (fun _ => undef) rfl (Nat.le_refl _) (Nat.zero_le _) (by simp) (by simp) (by simp) (by simp) (by simp) (by simp)) (.nil _), by simp [h1], by simp [AV.one], ?_⟩
          simp only [Shp, hT, hd]; exact ⟨[], rfl, by simp⟩
        · obtain rfl : n = m := by omega
          -- each element
          have hel1 : ∀ i, i < len → ∃ (vs : List Value) (y : AV), w.cells? 0 (a.add (i * le.size)) le.size = some vs ∧ RepL (viewOf w) vs (cellsOf y) ∧ (cellsOf y).length = le.size ∧ Shp C n e (cellsOf y) ∧ (if aggT C e then ∃ ys, y = .agg ys else ∃ z, y = z ∧ z.one = true) := by
            intro i hi
            have hgi := hget i hi
            rw [hEsz] at hgi
            have : elems[i]? = some elems[i] := List.getElem?_eq_getElem (by omega)
            rw [this] at hgi
            cases hcs : w.cells? 0 (a.add (i * le.size)) le.size with
            | none => rw [hcs] at hgi; simp at hgi
            | some vs =>
              rw [hcs] at hgi
              simp only [Option.bind_some] at hgi
              obtain ⟨as, k1, k2, k3, k4⟩ := trod_shp hC hS n hmem hE hgi
              obtain ⟨y, hy1, hy2⟩ := mkAV C e hE k2 k3 (one_of_good hS hmem hE)
              exact ⟨vs, y, rfl, by rw [hy1]; exact k1, by rw [hy1]; exact k2, by rw [hy1]; exact k4, hy2⟩
          let pick : Nat → AV := fun i => if hi : i < len then (hel1 i hi).choose_spec.choose else .any
          have hpick : ∀ i, i < len → ∃ vs, w.cells? 0 (a.add (i * le.size)) le.size = some vs ∧ RepL (viewOf w) vs (cellsOf (pick i)) ∧ (cellsOf (pick i)).length = le.size ∧ Shp C n e (cellsOf (pick i)) ∧ (if aggT C e then ∃ ys, pick i = .agg ys else ∃ z, pick i = z ∧ z.one = true) := by
            intro i hi
            have := (hel1 i hi).choose_spec.choose_spec
            refine ⟨(hel1 i hi).choose, ?_⟩
            simp only [pick, hi, dif_pos]
            exact this
          have hcellat : ∀ i j, i < len → j < le.size → ∃ v, w.cell? ⟨a.block, a.off + (i * le.size + j), none⟩ = some v ∧ a.spot = none ∧ Rep (viewOf w) v ((cellsOf (pick i)).getD j .any) := by
            intro i j hi hj
            obtain ⟨vs, g1, g2, g3, _⟩ := hpick i hi
            obtain ⟨g4, g5⟩ := cells?_spec g1
            have hjv : vs[j]? = some vs[j] := List.getElem?_eq_getElem (by omega)
            have g6 := g5 j _ hjv
            have hj0 := g5 0 _ (List.getElem?_eq_getElem (by omega))
            have hsp : a.spot = none := by
              obtain ⟨vs0, q1, _⟩ := hpick 0 (by omega)
              obtain ⟨q2, q3⟩ := cells?_spec q1
              have := cell?_spot (q3 0 _ (List.getElem?_eq_getElem (by omega)))
              simpa [Addr.add] using this
            have hadd : (a.add (i * le.size)).add j = ⟨a.block, a.off + (i * le.size + j), none⟩ := by
              rw [addr_eta hsp, addr_add, addr_add, Nat.add_assoc]
            rw [hadd] at g6
            refine ⟨_, g6, hsp, ?_⟩
            have := g2.2 j (by omega)
            rwa [getD_lt _ (by omega)] at this
          refine ⟨[.sl ((List.range len).map pick) .no], .cons ?_ (.nil _), by simp [h1], by simp [AV.one], ?_⟩
          · refine .sl (some a) len cap _ .no le.size a.block a.off (fun j => (w.cell? ⟨a.block, a.off + j, none⟩).getD undef) (by simp) hlc hcm ?_ ?_ ?_ ?_ (by simp) (by simp)
            · intro hpos
              obtain ⟨v, _, hsp, _⟩ := hcellat 0 0 hpos hEpos
              rw [addr_eta hsp]
            · intro i hi
              obtain ⟨vs, g1, g2, g3, _⟩ := hpick i hi
              rw [getD_lt _ (by simpa using hi)]; simpa using g3
            · intro j hj
              have hi : j / le.size < len := Nat.div_lt_of_lt_mul (by rw [Nat.mul_comm]; exact hj)
              obtain ⟨v, g1, _, _⟩ := hcellat (j / le.size) (j % le.size) hi (Nat.mod_lt _ hEpos)
              have : j / le.size * le.size + j % le.size = j := by rw [Nat.mul_comm]; exact Nat.div_add_mod j le.size
              rw [this] at g1
              simp only [viewOf, g1, Option.getD_some]
            · intro i j hi hj
              obtain ⟨v, g1, _, g3⟩ := hcellat i j hi hj
              simp only [g1, Option.getD_some]
              have e : ((List.range len).map pick).getD i .any = pick i := by simp [hi]
              rw [e]; exact g3
          · simp only [Shp, hT, hd]
            refine ⟨_, rfl, fun x hx => ?_⟩
            obtain ⟨i, hi, rfl⟩ := List.mem_map.1 hx
            obtain ⟨vs, _, _, _, g4, g5⟩ := hpick i (by simpa using hi)
            exact ⟨g4, g5⟩
    · -- struct
      rename_i fs hd
      rw [hd] at hok
      simp only [DescOK] at hok
      obtain ⟨f, rfl, hf⟩ := hok
      simp only [Bool.and_eq_true, List.all_eq_true, List.contains_iff_mem] at hg
      obtain ⟨hmem, htile⟩ := hg
      obtain ⟨xs, m, hm, _, hlen, hxs, hget⟩ := DataW.trod_struct hdesc h
      obtain rfl : n = m := by omega
      have hfield : ∀ p ∈ fs, ∃ as, RepL (viewOf w) ((vs.drop p.1).take (sizeT C p.2)) as ∧ as.length = sizeT C p.2 ∧ (∀ x ∈ as, x.one = true) ∧ Shp C n p.2 as := by
        intro p hp
        rw [← hf] at hp
        obtain ⟨q, hq, rfl⟩ := List.mem_map.1 hp
        obtain ⟨i, hi, rfl⟩ := List.mem_iff_getElem.1 hq
        have hi' : i < f.size := by simpa using hi
        have hfi : f[i]? = some f[i] := Array.getElem?_eq_getElem hi'
        have hg := hget i _ hfi
        have hmq := hmem (f.toList[i].offset, f.toList[i].type) (by rw [← hf]; exact hp)
        simp only [Array.getElem_toList] at hmq ⊢
        have hgq := List.all_eq_true.1 hS _ hmq
        cases hQ : C.ty f[i].type with
        | none => rw [hQ] at hgq; simp at hgq
        | some lq =>
          rw [(hC _ _ hQ).cellsOf_eq] at hg
          have hx : xs[i]? = some (xs[i]'(by omega)) := List.getElem?_eq_getElem (by omega)
          rw [hx] at hg
          have hsq : sizeT C f[i].type = lq.size := by simp [sizeT, hQ]
          rw [hsq]
          exact trod_shp hC hS n hmq hQ hg
      obtain ⟨as, g1, g2, g3, g4⟩ := tiled_rep fs 0 l.size htile (by rw [hlen, hsz]) hfield
      refine ⟨as, by simpa using g1, by omega, g3, ?_⟩
      simp only [Shp, hT, hd]
      refine ⟨by omega, ?_⟩
      intro p hp
      have := (g4 p hp).2
      simpa using this

theorem args_below (hl : laidOutB P = true) {W W' : World} (hb : Below W.heap.size W W') : ∀ (ts : List Nat) (vs : List Value) (ds : List (DataW H)) (ps : List MemPlace), (ts.all fun t => P.readableRec t && decide (t < P.types.size)) = true →
    DataW.TrodAll enc P W 0 (fun _ => true) true ts vs ds ps → (∀ x ∈ ps, x.block < W.heap.size) → DataW.TrodAll enc P W' 0 (fun b => decide (b < W.heap.size)) true ts vs ds ps
  | [], [], [], ps, _, h, _ => h
  | [], _ :: _, _, _, _, h, _ => h.elim
  | [], [], _ :: _, _, _, h, _ => h.elim
  | _ :: _, [], _, _, _, h, _ => h.elim
  | _ :: _, _ :: _, [], _, _, h, _ => h.elim
  | t :: ts, v :: vs, d :: ds, ps, hr, ⟨p, q, h1, h2, h3⟩, hlt => by
    simp only [List.all_cons, Bool.and_eq_true, decide_eq_true_eq] at hr
    subst h3
    exact ⟨p, q, Go.RowKit.Below.trod hl hr.1.1 hr.1.2 h1 hb (fun x hx => hlt x (List.mem_append_left _ hx)), args_below hl hb ts vs ds q hr.2 h2 (fun x hx => hlt x (List.mem_append_right _ hx)), rfl⟩

/-- What a law's row asks behind the call. -/
theorem law_post {f : Func} {s : ChangeSpec} {W W' : World} {args : Array Value} {ds gs : List (DataW H)} {before : List MemPlace} {tb : Nat} (hv : s.vars = []) (hl : laidOutB P = true)
    (hr : (f.params.toList.all fun t => P.readableRec t && decide (t < P.types.size)) = true) (hres : f.resultTypes = #[tb]) (htb : P.underlying tb = some .bool) (hW : DataW.Whole enc P f.params.toList s.vars false W args.toList ds gs before)
    (hfn : s.fn H ds = { results := [.lit (.bool true)], args := ds }) (hb : Below W.heap.size W W') : s.post enc P f false true false false W args (.bool true) W' := by
  have hW0 := hW
  have hlt : ∀ p ∈ before, p.block < W.heap.size := fun p hp => hW.lt p hp
  obtain ⟨p, q, hA, hV, rfl, _, _⟩ := hW
  rw [hv] at hV
  obtain ⟨rfl, rfl⟩ := Go.ChangeShapes.trodVars_none hV
  refine ⟨ds, [], _, [], p, [], hW0, ?_, ?_, ?_, hb.frame _, fun h => by cases h⟩
  · rw [List.append_nil, hfn, hres]
    exact ⟨[], [], Go.RowKit.shut_bool htb true, rfl, rfl⟩
  · rw [List.append_nil, hfn]
    exact args_below hl hb _ _ _ _ hr hA (fun x hx => hlt x (List.mem_append_left _ hx))
  · rw [List.append_nil, hfn, hv]; rfl

/-- An argument, as an abstract value. -/
theorem arg_rep (hC : CfgOK P C) {S : List Nat} (hS : goodSet C S = true) {r : Reach} {b0 : Nat} {spare : Nat → Bool} {held : Bool} {t : Nat} {l : TL} {v : Value} {d : DataW H} {ps : List MemPlace} (ht : t ∈ S) (hT : C.ty t = some l)
    (hval : Value.okWide P w r b0 t v) (hd : DataW.Trod enc P w 0 spare held t v d ps) : ∃ (a : AV) (n : Nat), Rep (viewOf w) v a ∧ Shp C n t (cellsOf a) ∧ if aggT C t then ∃ ys, a = .agg ys else ∃ y, a = y ∧ y.one = true := by
  obtain ⟨fuel, hf⟩ := hd
  obtain ⟨as, h1, h2, h3, h4⟩ := trod_shp hC hS fuel ht hT hf
  obtain ⟨desc, hdesc, hok⟩ := (hC _ _ hT).desc
  have hg := List.all_eq_true.1 hS t ht
  simp only [hT] at hg
  by_cases ha : l.d.isAgg = true
  · have hag : aggT C t = true := by simp [aggT, hT, ha]
    have hv : ∃ cs, v = .agg cs := by
      unfold Value.okWide at hval
      rw [hdesc] at hval
      cases hd : l.d <;> rw [hd] at ha <;> simp [TD.isAgg] at ha
      · rename_i n e
        rw [hd] at hok; simp only [DescOK] at hok; subst hok
        obtain ⟨cs, h, _⟩ := hval; exact ⟨cs, h⟩
      · rename_i fs
        rw [hd] at hok; simp only [DescOK] at hok; obtain ⟨f, rfl, _⟩ := hok
        obtain ⟨cs, h, _⟩ := hval; exact ⟨cs, h⟩
    obtain ⟨cs, rfl⟩ := hv
    refine ⟨.agg as, fuel, RepL.agg (by simpa [Value.cells] using h1), h4, by simp [hag]⟩
  · have ha' : l.d.isAgg = false := by simpa using ha
    have hag : aggT C t = false := by simp [aggT, hT, ha']
    obtain ⟨y, hy⟩ := List.length_eq_one_iff.1 (h2.trans (one_of_good hS ht hT ha'))
    subst hy
    have hone := h3 y (by simp)
    have hcy : cellsOf y = [y] := by cases y <;> first | rfl | (simp [AV.one] at hone)
    obtain ⟨u, hu⟩ := List.length_eq_one_iff.1 h1.1
    have hru : Rep (viewOf w) u y := by have := h1.2 0 (by simp); rw [hu] at this; simpa using this
    have hvu : v = u := by
      cases v with
      | agg cs =>
        exfalso
        unfold Value.okWide at hval
        rw [hdesc] at hval
        split at hg <;> first | (simp at hg; done) | skip
        all_goals (rename_i hd; rw [hd] at hok ha')
        · simp only [DescOK] at hok; subst hok; simp [Cell.okWide, Cell.ok, hdesc] at hval
        · simp only [DescOK] at hok; subst hok; simp [Cell.okWide, Cell.ok, hdesc] at hval
        · simp only [DescOK] at hok; subst hok; simp [Cell.okWide, Cell.ok, hdesc] at hval
        · simp only [DescOK] at hok; subst hok; simp [Cell.okWide, Cell.ok, hdesc] at hval
        · simp [TD.isAgg] at ha'
      | _ => simpa [Value.cells] using hu
    subst hvu
    exact ⟨y, fuel, hru, by rw [hcy]; exact h4, by rw [if_neg (by simp [hag])]; exact ⟨y, rfl, hone⟩⟩

/-- A law's call answers true, and leaves all that there was as it was. -/
theorem law_calls {f : Nat} {W : World} {vs : Array Value} {avs : List AV} (h : PCalls P f avs (.bool true)) (hs : vs.size = avs.length) (hr : ∀ i, i < avs.length → Rep (viewOf W) (vs.getD i undef) (avs.getD i .any)) :
    Calls P f vs W fun e W' => e = .returned (.bool true) ∧ Below W.heap.size W W' := by
  refine ((h.2 []).2 (viewOf W) W vs (inv_viewOf W) (by simp) hs hr).mono fun e W' he => ?_
  obtain ⟨V', v, r, H', _, g2, rfl, g4, _, _, rfl, _⟩ := he
  cases g4
  exact ⟨rfl, g2⟩

end
end Go.Ab

