/- Regions whose order the world draws, third part: every order ends where the text's does. Condition: the executor's table of types is the program's. -/
import Derived.Test.YtcpfjabjonpdaaaAbO
set_option linter.unusedSimpArgs false
namespace Go.Ab
open Go.RowKit (Below)

section
variable {P : Program} {C : Cfg} {ops : Array Oper} {V : View} {w : World} {s : AState} {a : Act} {o : Oper}

theorem new_box_at (hr : RelW V w s) {k : Nat} (ho : s.obj k = some .dead) (hk : s.b ≤ k) {cells : Array Value} {cs : List AV} (hc : RepL V cells.toList cs) (ty : TypeId) :
    ∃ V', V.Le V' ∧ V'.loc k 0 = some (some w.heap.size, 0) ∧ RelW V' (w.alloc (.cells cells ty)) (s.setObj k (.box cs)) := by
  obtain ⟨V', h1, h2, h3⟩ := hr.inv.newObj k (.inr ho) (.box cs) (.cells cells ty) 0 0 (by
    intro V' hV hb hl _ hi
    refine ⟨⟨w.heap.size, 0, cells, ty, hl, heap_alloc_new w _, by rw [hb]; exact hr.inv.base, by simpa using hc.1, fun i hi => ?_, hi⟩, by simp [own, hl]⟩
    have := (hc.mono hV).2 i hi
    simpa [List.getD_eq_getElem?_getD] using this)
  exact ⟨V', h1, h2, hr.setObj ho h3 (fun h => by omega)⟩

theorem effD_sound (hC : CfgOK P C) (hr : Rel V a w s) {k : Nat} {out : Out} (h : effD C k o s = some out) (hc : out.c) (hok : operOK o = true) : OpSound P V a w s o out := by
  have hk : ∀ x ∈ o.op.operands.toList, opndOK x = true := List.all_eq_true.1 hok
  unfold effD at h
  split at h
  · rename_i t hop
    split at h
    case h_2 => cases h
    rename_i l hT ho
    simp only [Option.some.injEq] at h; subst h
    obtain ⟨z, hz, hzr⟩ := (hC _ _ hT).run_zero w
    obtain ⟨V', h1, h2, h3⟩ := new_box_at hr.toW ho hc ((hzr V).cellsL (hC _ _ hT).solid) t
    refine ⟨_, _, V', ?_, h1, below_alloc w _ hr.inv.base, h3, setObj_env _ _ _, setObj_n _ _ _, setObj_b _ _ _, .inl ⟨_, rfl, .bptr _ 0 _ _ h2⟩⟩
    simp only [execOp, hop, Instr.alloc, newVar, Go.newRow, Sem.run_bind, hz, Result.andThen_ok, run_newObj, Sem.run_pure, World.alloc_eq]
  · rename_i t x hop
    split at h
    case h_2 => cases h
    rename_i ho
    simp only [Option.some.injEq] at h; subst h
    obtain ⟨V', h1, h2, h3⟩ := new_box_at hr.toW ho hc.1 ((ev_rep hr x (hk x (by simp [hop, Op.operands]))).cellsL hc.2) t
    refine ⟨_, _, V', ?_, h1, below_alloc w _ hr.inv.base, h3, setObj_env _ _ _, setObj_n _ _ _, setObj_b _ _ _, .inl ⟨_, rfl, .bptr _ 0 _ _ h2⟩⟩
    simp only [execOp, hop, Instr.box, newVar, Go.newRow, Sem.run_bind, Result.andThen_ok, run_newObj, Sem.run_pure, World.alloc_eq]
  · exact eff_sound hC hr h hc hok

theorem xopD_sound (hC : CfgOK P C) (hr : Rel V a w s) (hok : operOK o = true) (hd : dstOK s.n o = true) {k : Nat} {K : AState → Prop} {K' : Act → World → Prop} {Q : Exit → Act → World → Prop}
    (h : xopD P C k o K s) (hK : ∀ V' a' w' s', V.Le V' → Below V.base w w' → Rel V' a' w' s' → s'.n = s.n → s'.b = s.b → K s' → K' a' w') : o.wp P a w K' Q := by
  by_cases hcall : ∃ f args ts, o.op = .call { callee := .value f, args := args, argTypes := ts }
  · obtain ⟨f, args, ts, hop⟩ := hcall
    have hx : xop P C o K s := by
      unfold xopD at h
      unfold xop
      simp only [hop] at h ⊢
      split at h
      case h_2 => cases h
      rename_i g hg
      obtain ⟨r, as, h1, h2, h3⟩ := h
      simp only [hg]
      exact callK_p h1 h2 h3
    exact xop_sound hC hr hok hd callK_fn hx hK
  · have h1 : match effD C k o s with
        | some ⟨c, v, s'⟩ => c ∧ K (s'.put o.dst v)
        | none => False := by
      unfold xopD at h
      split at h
      · rename_i f args ts hop; exact absurd ⟨f, args, ts, hop⟩ hcall
      · exact h
    split at h1
    case h_2 => cases h1
    rename_i c v s' heff
    obtain ⟨hc, hKs⟩ := h1
    obtain ⟨nx, w', V', g1, g2, g3, g4, g5, g6, g7, g8⟩ := effD_sound hC hr heff hc hok
    have hrel : Rel V' a w' s' := hr.of_w g2 g4 g5 g6
    unfold Oper.wp
    rw [g1]
    have hn : ∀ x, (s'.put o.dst x).n = s.n := fun x => by rw [← g6]; cases o.dst <;> rfl
    have hbb : ∀ x, (s'.put o.dst x).b = s.b := fun x => by rw [← g7]; cases o.dst <;> rfl
    rcases g8 with ⟨u, rfl, hu⟩ | ⟨rfl, hv⟩
    · rw [Oper.upon_value]
      exact hK V' _ w' _ g2 g3 (hrel.put hu (fun d hd' => by rw [g6]; exact dst_lt hd d hd')) (hn _) (hbb _) hKs
    · rw [Oper.upon_skip]
      simp only at hv
      subst hv
      exact hK V' _ w' _ g2 g3 (hrel.put (.any _) (fun d hd' => by rw [g6]; exact dst_lt hd d hd')) (hn _) (hbb _) hKs

theorem st_sound (hC : CfgOK P C) (hr : Rel V a w s) {i : Nat} (hi : ops[i]? = some o) (hok : operOK o = true) (hd : dstOK s.n o = true) {k : Nat} {s' : AState} {K' : Act → World → Prop} {Q : Exit → Act → World → Prop}
    (h : St P C ops k o s s') (hK : ∀ V' a' w', V.Le V' → Below V.base w w' → Rel V' a' w' s' → s'.n = s.n → s'.b = s.b → K' a' w') : wpOp P ops Q i K' a w := by
  have hwant : ∀ t want b, guardOf ops o = some (some t, want) → s.env t = .bool b → Region.wanted o (yielded ops a.tmps) = (b == want) := by
    intro t want b h1 h2
    unfold guardOf at h1
    cases hgd : o.guard with
    | none => rw [hgd] at h1; simp at h1
    | some gw =>
      obtain ⟨j, wt⟩ := gw
      rw [hgd] at h1
      simp only [Option.map_some, Option.some.injEq, Prod.mk.injEq] at h1
      obtain ⟨h3, rfl⟩ := h1
      have h4 := hr.env t
      rw [h2] at h4
      generalize hv : a.tmps.getD t undef = v at h4
      cases h4
      have h5 : a.tmps[t]? = some (.bool b) := by
        rw [Array.getD_eq_getD_getElem?] at hv
        cases ht : a.tmps[t]? with
        | none => rw [ht] at hv; simp [undef] at hv
        | some y => rw [ht] at hv; simp at hv; rw [hv]
      simp only [Region.wanted, hgd, yielded, h3, Option.bind_some, h5]
      cases b <;> cases wt <;> rfl
  have hskip : ∀ t want, guardOf ops o = some (some t, want) → s.env t = .tup [] → Region.wanted o (yielded ops a.tmps) = false := by
    intro t want h1 h2
    unfold guardOf at h1
    cases hgd : o.guard with
    | none => rw [hgd] at h1; simp at h1
    | some gw =>
      obtain ⟨j, wt⟩ := gw
      rw [hgd] at h1
      simp only [Option.map_some, Option.some.injEq, Prod.mk.injEq] at h1
      obtain ⟨h3, rfl⟩ := h1
      have h4 := hr.env t
      rw [h2] at h4
      generalize hv : a.tmps.getD t undef = v at h4
      cases h4
      rename_i cs hl hh
      have h5 : a.tmps[t]? = some (.tuple cs) ∨ a.tmps[t]? = none := by
        rw [Array.getD_eq_getD_getElem?] at hv
        cases ht : a.tmps[t]? with
        | none => exact .inr rfl
        | some y => rw [ht] at hv; simp at hv; rw [hv]; exact .inl rfl
      simp only [Region.wanted, hgd, yielded, h3, Option.bind_some]
      rcases h5 with h5 | h5 <;> simp [h5]
  unfold wpOp
  simp only [hi]
  unfold St xguardD at h
  split at h
  · rename_i hgd
    have hno : o.guard = none := by
      unfold guardOf at hgd
      simpa using hgd
    rw [if_pos (by simp [Region.wanted, hno])]
    exact .inl (xopD_sound hC hr hok hd h fun V' a' w' s1 h1 h2 h3 h4 h5 h6 => hK V' a' w' h1 h2 (h6 ▸ h3) (h6 ▸ h4) (h6 ▸ h5))
  · rename_i t want hgd
    split at h
    case h_3 => cases h
    · rename_i b hev
      have hw := hwant t want b hgd hev
      split at h
      · rename_i hbw
        rw [if_pos (by rw [hw]; simp [hbw])]
        exact .inl (xopD_sound hC hr hok hd h fun V' a' w' s1 h1 h2 h3 h4 h5 h6 => hK V' a' w' h1 h2 (h6 ▸ h3) (h6 ▸ h4) (h6 ▸ h5))
      · rename_i hbw
        rw [if_neg (by rw [hw]; simp [hbw])]
        subst h
        exact hK V _ w (.refl V) (.refl _ _) (hr.put (rep_undef V) (fun d hd' => dst_lt hd d hd')) (put_n _ _ _) (put_b _ _ _)
    · rename_i hev
      rw [if_neg (by rw [hskip t want hgd hev]; simp)]
      subst h
      exact hK V _ w (.refl V) (.refl _ _) (hr.put (rep_undef V) (fun d hd' => dst_lt hd d hd')) (put_n _ _ _) (put_b _ _ _)
  · cases h

/-- A run along a list of operations. -/
def Run (P : Program) (C : Cfg) (ops : Array Oper) (num : Nat → Nat) : List Nat → AState → AState → Prop
  | [], s, s' => s = s'
  | i :: l, s, s' => ∃ o s1, ops[i]? = some o ∧ St P C ops (num i) o s s1 ∧ Run P C ops num l s1 s'

def freeOps (C : Cfg) (ops : Array Oper) (x y : Oper) : Bool := freeC (cls C x) (cls C y) && x.apart ops y

theorem bubble {num : Nat → Nat} {i : Nat} {o : Oper} (hi : ops[i]? = some o) : ∀ (pre : List Nat) {post : List Nat} {s s' : AState}, s.b = s.H.length → (∀ j ∈ pre, ∀ oj, ops[j]? = some oj → freeOps C ops oj o = true) →
    Run P C ops num (pre ++ i :: post) s s' → ∃ s1, St P C ops (num i) o s s1 ∧ Run P C ops num (pre ++ post) s1 s'
  | [], post, s, s', hb, hf, ⟨o', s1, h1, h2, h3⟩ => by
    rw [hi] at h1; cases h1
    exact ⟨s1, h2, h3⟩
  | j :: pre, post, s, s', hb, hf, ⟨oj, s1, h1, h2, h3⟩ => by
    have hfj := hf j (List.mem_cons_self) oj h1
    simp only [freeOps, Bool.and_eq_true] at hfj
    have hz : cls C oj ≠ .z := fun h => by rw [h] at hfj; simp [freeC] at hfj
    obtain ⟨od, v, hy⟩ := st_yl hz h2
    have hb1 : s1.b = s1.H.length := by rw [hy.to, act_b, act_hlen]; exact hb
    obtain ⟨s2, g1, g2⟩ := bubble hi pre hb1 (fun j' hj' => hf j' (List.mem_cons_of_mem _ hj')) h3
    obtain ⟨s1', k1, k2⟩ := swap hb hfj.2 hfj.1 h2 g1
    exact ⟨s1', k1, oj, s2, h1, k2, g2⟩

/-- Whom an operation stands behind, as a number's bits. -/
def mask (o : Oper) (acc : List Nat) : Nat := o.after.toList.foldr (fun e m => if Region.binds .any e then (2 ^ e.on ||| acc.getD e.on 0) ||| m else m) 0
def ancs : List Oper → List Nat → List Nat
  | [], acc => acc
  | o :: r, acc => ancs r (acc ++ [mask o acc])

theorem mask_bit {o : Oper} {acc : List Nat} {j : Nat} (h : (mask o acc).testBit j = true) : ∃ e ∈ o.after.toList, Region.binds .any e = true ∧ (e.on = j ∨ (acc.getD e.on 0).testBit j = true) := by
  unfold mask at h
  generalize o.after.toList = es at h
  induction es with
  | nil => simp at h
  | cons e es ih =>
    simp only [List.foldr_cons] at h
    split at h
    · rename_i hb
      simp only [Nat.testBit_or, Bool.or_eq_true, Nat.testBit_two_pow, decide_eq_true_eq] at h
      rcases h with (h | h) | h
      · exact ⟨e, List.mem_cons_self, hb, .inl h⟩
      · exact ⟨e, List.mem_cons_self, hb, .inr h⟩
      · obtain ⟨e', h1, h2⟩ := ih h; exact ⟨e', List.mem_cons_of_mem _ h1, h2⟩
    · obtain ⟨e', h1, h2⟩ := ih h; exact ⟨e', List.mem_cons_of_mem _ h1, h2⟩

theorem ancs_pre : ∀ (l : List Oper) (acc : List Nat) (i : Nat), i < acc.length → (ancs l acc).getD i 0 = acc.getD i 0
  | [], acc, i, h => rfl
  | o :: l, acc, i, h => by
    rw [ancs, ancs_pre l _ i (by simp; omega)]
    simp [List.getD_eq_getElem?_getD, List.getElem?_append, h]

theorem ancs_bit {o : Oper} {j : Nat} : ∀ (l : List Oper) (acc : List Nat) (i : Nat), l[i]? = some o → ((ancs l acc).getD (acc.length + i) 0).testBit j = true →
    (∀ e ∈ o.after.toList, Region.binds .any e = true → e.on < acc.length + i) → ∃ e ∈ o.after.toList, Region.binds .any e = true ∧ (e.on = j ∨ ((ancs l acc).getD e.on 0).testBit j = true)
  | [], acc, i, h, _, _ => by simp at h
  | o' :: l, acc, 0, h, hb, hlt => by
    simp only [List.getElem?_cons_zero, Option.some.injEq] at h
    subst h
    rw [ancs, Nat.add_zero, ancs_pre l _ _ (by simp)] at hb
    simp only [List.getD_eq_getElem?_getD, List.getElem?_append, Nat.lt_irrefl, if_false, Nat.sub_self, List.getElem?_cons_zero, Option.getD_some] at hb
    obtain ⟨e, h1, h2, h3⟩ := mask_bit hb
    refine ⟨e, h1, h2, h3.imp id fun h3 => ?_⟩
    have := hlt e h1 h2
    rw [ancs, ancs_pre l _ _ (by simp; omega)]
    simpa [List.getD_eq_getElem?_getD, List.getElem?_append, show e.on < acc.length by omega] using h3
  | o' :: l, acc, i + 1, h, hb, hlt => by
    have h' : l[i]? = some o := by simpa using h
    rw [ancs] at hb ⊢
    have := ancs_bit l (acc ++ [mask o' acc]) i h' (by simpa [Nat.add_assoc, Nat.add_comm 1 i] using hb) (fun e h1 h2 => by have := hlt e h1 h2; simp; omega)
    exact this

def chk (C : Cfg) (ops : Array Oper) : Bool :=
  let A := ancs ops.toList []
  (List.range ops.size).all fun i => match ops[i]? with
    | none => true
    | some o => (o.after.toList.all fun e => !Region.binds .any e || decide (e.on < i)) && (List.range i).all fun j => (A.getD i 0).testBit j || match ops[j]? with
      | some oj => freeOps C ops oj o
      | none => true

theorem chk_spec (h : chk C ops = true) {i : Nat} {o : Oper} (hi : ops[i]? = some o) : (∀ e ∈ o.after.toList, Region.binds .any e = true → e.on < i) ∧
    ∀ j, j < i → ((ancs ops.toList []).getD i 0).testBit j = true ∨ ∀ oj, ops[j]? = some oj → freeOps C ops oj o = true := by
  have hlt : i < ops.size := (Array.getElem?_eq_some_iff.1 hi).1
  simp only [chk, List.all_eq_true, List.mem_range] at h
  have h1 := h i hlt
  rw [hi] at h1
  simp only [Bool.and_eq_true, List.all_eq_true, List.mem_range, Bool.or_eq_true, Bool.not_eq_true', decide_eq_true_eq] at h1
  refine ⟨fun e he hb => (h1.1 e he).resolve_left (by simp [hb]), fun j hj => (h1.2 j hj).imp id fun h2 oj hoj => by rw [hoj] at h2; exact h2⟩

/-- What is listed holds all behind which it stands. -/
def Closed (ops : Array Oper) (listed : Array Bool) : Prop := ∀ i j, listed.getD i true = true → i < ops.size → ((ancs ops.toList []).getD i 0).testBit j = true → listed.getD j false = true

def todo (ops : Array Oper) (listed : Array Bool) : List Nat := (List.range ops.size).filter fun i => !listed.getD i true

theorem mem_todo {listed : Array Bool} {i : Nat} : i ∈ todo ops listed ↔ i < ops.size ∧ listed.getD i true = false := by simp [todo]

theorem todo_sorted (listed : Array Bool) : (todo ops listed).Pairwise (· < ·) := List.Pairwise.filter _ List.pairwise_lt_range

theorem todo_set {listed : Array Bool} {i : Nat} (hsz : listed.size = ops.size) (hi : i < ops.size) : todo ops (listed.setIfInBounds i true) = (todo ops listed).filter (· != i) := by
  unfold todo
  rw [List.filter_filter]
  refine List.filter_congr fun j hj => ?_
  by_cases hij : i = j
  · subst hij; simp [hsz, hi]
  · rw [getD_set_ne true hij]
    have : (j != i) = true := by simp [Ne.symm hij]
    rw [this, Bool.true_and]

theorem filter_split {pre post : List Nat} {i : Nat} (h : (pre ++ i :: post).Pairwise (· < ·)) : (pre ++ i :: post).filter (· != i) = pre ++ post := by
  rw [List.pairwise_append] at h
  obtain ⟨h1, h2, h3⟩ := h
  rw [List.pairwise_cons] at h2
  rw [List.filter_append, List.filter_cons]
  have e1 : pre.filter (· != i) = pre := List.filter_eq_self.2 fun x hx => by
    have := h3 x hx i List.mem_cons_self; simp; omega
  have e2 : post.filter (· != i) = post := List.filter_eq_self.2 fun x hx => by
    have := h2.1 x hx; simp; omega
  rw [e1, e2]; simp

theorem closed_set {listed : Array Bool} {i : Nat} (hc : Closed ops listed) (hk : chk C ops = true) (hsz : listed.size = ops.size) (hr : i ∈ Region.ready .any ops listed) : Closed ops (listed.setIfInBounds i true) := by
  intro k j hk1 hk2 hbit
  obtain ⟨h0, o, ho, hall⟩ := mem_ready.1 hr
  by_cases hki : k = i
  · subst hki
    have hlt := (chk_spec hk ho).1
    obtain ⟨e, h1, h2, h3⟩ := ancs_bit ops.toList [] k (by simpa using ho) (by simpa using hbit) (by simpa using hlt)
    have hl := hall e (Array.mem_toList_iff.1 h1) h2
    rcases h3 with rfl | h3
    · exact getD_set_true hl
    · have helt : e.on < ops.size := by have := hlt e h1 h2; omega
      refine getD_set_true (hc e.on j ?_ helt h3)
      have : e.on < listed.size := by omega
      simpa [this] using hl
  · refine getD_set_true (hc k j ?_ hk2 hbit)
    rwa [getD_set_ne true (Ne.symm hki)] at hk1

theorem ready_free {listed : Array Bool} {i j : Nat} {o oj : Oper} (hc : Closed ops listed) (hk : chk C ops = true) (hsz : listed.size = ops.size) (hr : i ∈ Region.ready .any ops listed) (hi : ops[i]? = some o) (hj : ops[j]? = some oj)
    (hji : j < i) (hun : listed.getD j true = false) : freeOps C ops oj o = true := by
  obtain ⟨h1, h2⟩ := chk_spec hk hi
  rcases h2 j hji with hb | hf
  · exfalso
    obtain ⟨_, o', ho', hall⟩ := mem_ready.1 hr
    rw [hi] at ho'; cases ho'
    obtain ⟨e, h3, h4, h5⟩ := ancs_bit ops.toList [] i (by simpa using hi) (by simpa using hb) (by simpa using h1)
    have hl := hall e (Array.mem_toList_iff.1 h3) h4
    have hlt : i < ops.size := (Array.getElem?_eq_some_iff.1 hi).1
    have helt : e.on < listed.size := by have := h1 e h3 h4; omega
    have hjl : listed.getD j false = true := by
      rcases h5 with rfl | h5
      · exact hl
      · exact hc e.on j (by simpa [helt] using hl) (by omega) h5
    have hjs : j < listed.size := by omega
    simp [hjs] at hun hjl
    rw [hun] at hjl; cases hjl
  · exact hf oj hj

/-- The first that is not listed can be taken. -/
theorem ready_of_todo {listed : Array Bool} {i : Nat} {l : List Nat} (hk : chk C ops = true) (hsz : listed.size = ops.size) (h : todo ops listed = i :: l) : i ∈ Region.ready .any ops listed := by
  have hm : i ∈ todo ops listed := by rw [h]; exact List.mem_cons_self
  obtain ⟨h1, h2⟩ := mem_todo.1 hm
  have ho : ops[i]? = some ops[i] := Array.getElem?_eq_getElem h1
  refine mem_ready.2 ⟨h2, _, ho, fun e he hb => ?_⟩
  have hlt := (chk_spec hk ho).1 e (Array.mem_toList_iff.2 he) hb
  have hs := todo_sorted (ops := ops) listed
  rw [h, List.pairwise_cons] at hs
  cases hl : listed.getD e.on true with
  | true =>
    have : e.on < listed.size := by omega
    simpa [this] using hl
  | false =>
    have hme : e.on ∈ todo ops listed := mem_todo.2 ⟨by omega, hl⟩
    rw [h] at hme
    rcases List.mem_cons.1 hme with h3 | h3
    · omega
    · have := hs.1 _ h3; omega

theorem wpAny_run (hC : CfgOK P C) (hk : chk C ops = true) {n b : Nat} {num : Nat → Nat} (hok : ∀ o ∈ ops.toList, operOK o = true ∧ dstOK n o = true) {Q : Exit → AState → Prop} {V0 : View} {w0 : World} :
    ∀ (fuel : Nat) {listed : Array Bool} {V : View} {a : Act} {w : World} {s s' : AState}, (todo ops listed).length ≤ fuel → listed.size = ops.size → Closed ops listed → s.n = n → s.b = b → Rel V a w s → V0.LeB b V → Below V0.base w0 w →
      Run P C ops num (todo ops listed) s s' → Q .normal s' → wpAny P .any ops (Post V0 w0 n b Q) fuel listed a w := by
  intro fuel
  have hdone : ∀ {listed : Array Bool}, listed.size = ops.size → (Region.ready .any ops listed = [] → todo ops listed = []) := by
    intro listed hsz hr
    cases ht : todo ops listed with
    | nil => rfl
    | cons i l => have := ready_of_todo hk hsz ht; rw [hr] at this; cases this
  induction fuel with
  | zero =>
    intro listed V a w s s' hf hsz hc hn hb hr hV hB hrun hq
    have ht : todo ops listed = [] := List.eq_nil_of_length_eq_zero (by omega)
    rw [ht] at hrun
    simp only [Run] at hrun
    subst hrun
    refine ⟨?_, V, s, hV, hB, hr, hn, hb, hq⟩
    cases hrd : Region.ready .any ops listed with
    | nil => rfl
    | cons i l =>
      obtain ⟨h1, o, ho, _⟩ := mem_ready.1 (show i ∈ Region.ready .any ops listed by rw [hrd]; exact List.mem_cons_self)
      have : i ∈ todo ops listed := mem_todo.2 ⟨(Array.getElem?_eq_some_iff.1 ho).1, h1⟩
      rw [ht] at this; cases this
  | succ fuel ih =>
    intro listed V a w s s' hf hsz hc hn hb hr hV hB hrun hq
    refine ⟨fun hrd => ?_, fun i hi => ?_⟩
    · have ht := hdone hsz hrd
      rw [ht] at hrun
      simp only [Run] at hrun
      subst hrun
      exact ⟨V, s, hV, hB, hr, hn, hb, hq⟩
    · obtain ⟨h1, o, ho, hall⟩ := mem_ready.1 hi
      have hlt : i < ops.size := (Array.getElem?_eq_some_iff.1 ho).1
      have hm : i ∈ todo ops listed := mem_todo.2 ⟨hlt, h1⟩
      obtain ⟨pre, post, hsp⟩ := List.append_of_mem hm
      have hsorted := todo_sorted (ops := ops) listed
      rw [hsp] at hsorted
      have hset : todo ops (listed.setIfInBounds i true) = pre ++ post := by rw [todo_set hsz hlt, hsp, filter_split hsorted]
      rw [hsp] at hrun
      have hpre : ∀ j ∈ pre, ∀ oj, ops[j]? = some oj → freeOps C ops oj o = true := by
        intro j hj oj hoj
        have hjm : j ∈ todo ops listed := by rw [hsp]; exact List.mem_append_left _ hj
        rw [List.pairwise_append] at hsorted
        exact ready_free hc hk hsz hi ho hoj (hsorted.2.2 j hj i List.mem_cons_self) (mem_todo.1 hjm).2
      obtain ⟨s1, g1, g2⟩ := bubble ho pre (hr.hb) hpre hrun
      have hoo := hok o (Array.mem_toList_iff.2 (Array.mem_of_getElem? ho))
      refine st_sound hC hr ho hoo.1 (by rw [hn]; exact hoo.2) g1 fun V' a' w' k1 k2 k3 k4 k5 => ?_
      refine ih ?_ (by simpa using hsz) (closed_set hc hk hsz hi) (by rw [k4, hn]) (by rw [k5, hb]) k3 (hV.trans (k1.toB b)) (hB.trans (by rw [← hV.base]; exact k2)) (by rw [hset]; exact g2) hq
      rw [hset]
      rw [hsp] at hf
      simp only [List.length_append, List.length_cons] at hf ⊢
      omega

end
end Go.Ab
