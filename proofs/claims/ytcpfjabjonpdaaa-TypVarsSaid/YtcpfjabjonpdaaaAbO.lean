/- Regions whose order the world draws, second part: two steps that do not meet change places. No condition. -/
import Derived.Test.YtcpfjabjonpdaaaAbN
set_option linter.unusedSimpArgs false
namespace Go.Ab
open Go.RowKit (Below)

section
variable {P : Program} {C : Cfg} {ops : Array Oper}

theorem cls_cases (o : Oper) : (cls C o = .a ∧ ((∃ t, o.op = .alloc t) ∨ ∃ t x, o.op = .box t x)) ∨ (cls C o = .w ∧ ∃ t a x, o.op = .store t a x) ∨
    ((∀ t, o.op ≠ .alloc t) ∧ (∀ t x, o.op ≠ .box t x) ∧ (cls C o = .t ∧ tOp C o = true ∨ cls C o = .q ∧ simpleOp C o = true ∧ tOp C o = false ∨ cls C o = .z)) := by
  unfold cls
  split
  · rename_i t hop; exact .inl ⟨rfl, .inl ⟨t, hop⟩⟩
  · rename_i t x hop; exact .inl ⟨rfl, .inr ⟨t, x, hop⟩⟩
  · rename_i t a x hop; exact .inr (.inl ⟨rfl, t, a, x, hop⟩)
  · rename_i h1 h2 h3
    refine .inr (.inr ⟨h1, h2, ?_⟩)
    split
    · rename_i h; exact .inl ⟨rfl, h⟩
    · split
      · rename_i h h'; exact .inr (.inl ⟨rfl, h', by simpa using h⟩)
      · exact .inr (.inr rfl)

theorem effD_eff {k : Nat} {o : Oper} {s : AState} (h1 : ∀ t, o.op ≠ .alloc t) (h2 : ∀ t x, o.op ≠ .box t x) : effD C k o s = eff C o s := by
  unfold effD
  split
  · rename_i t hop; exact absurd hop (h1 t)
  · rename_i t x hop; exact absurd hop (h2 t x)
  · rfl

theorem setObj_n' (s : AState) (r : Nat) (x : AObj) (dst : Option Tmp) (v : AV) : ((s.setObj r x).put dst v).n = s.n := by
  rw [← setObj_n s r x]; cases dst <;> rfl

/-- The step without its guard. -/
def YlX (P : Program) (C : Cfg) (k : Nat) (o : Oper) (s s' : AState) (od : Option (Nat × AObj × AObj)) (v : AV) : Prop :=
  (∀ r X y, od = some (r, X, y) → s.obj r = some X) ∧ s' = act od o.dst v s ∧
  (∀ s1 : AState, s1.b = s.b → (∀ x ∈ o.op.operands.toList, s1.ev x = s.ev x) → (∀ r X y, od = some (r, X, y) → s1.obj r = some X) → (cls C o = .q → ObjAg s s1) → xopD P C k o (· = act od o.dst v s1) s1) ∧
  (cls C o = .t ∨ cls C o = .q → od = none) ∧ (cls C o = .a → ∀ r X y, od = some (r, X, y) → X = .dead ∧ y ≠ .dead)

theorem xopD_yl {k : Nat} {o : Oper} {s s' : AState} (hz : cls C o ≠ .z) (h : xopD P C k o (· = s') s) : ∃ od v, YlX P C k o s s' od v := by
  by_cases hcall : ∃ f args ts, o.op = .call { callee := .value f, args := args, argTypes := ts }
  · obtain ⟨f, args, ts, hop⟩ := hcall
    unfold xopD at h
    simp only [hop] at h
    split at h
    case h_2 => cases h
    rename_i g hg
    obtain ⟨r, as, h1, h2, h3⟩ := h
    have hcl : cls C o = .t := by
      rcases cls_cases (C := C) o with ⟨_, hh | hh⟩ | ⟨_, hh⟩ | ⟨_, _, hh | hh | hh⟩
      · obtain ⟨t, ht⟩ := hh; rw [hop] at ht; cases ht
      · obtain ⟨t, x, ht⟩ := hh; rw [hop] at ht; cases ht
      · obtain ⟨t, a, x, ht⟩ := hh; rw [hop] at ht; cases ht
      · exact hh.1
      · have := hh.2.1; simp [simpleOp, hop] at this
      · exact absurd hh hz
    refine ⟨none, r, ⟨by simp, h3.symm, ?_, fun _ => rfl, by simp⟩⟩
    intro s1 _ hev _ _
    have hevf := hev f (by simp [hop, Op.operands, Call.operands])
    have hm : args.toList.map s1.ev = args.toList.map s.ev := List.map_congr_left fun p hp => hev p (by simp only [hop, Op.operands, Call.operands]; simp at hp ⊢; exact .inr hp)
    unfold xopD
    simp only [hop]
    rw [hevf, hg]
    exact ⟨r, as, h1, by rw [hm]; exact h2, rfl⟩
  · have hx : ∀ (k : Nat) (K : AState → Prop) (s : AState), xopD P C k o K s = match effD C k o s with
        | some ⟨c, v, s'⟩ => c ∧ K (s'.put o.dst v)
        | none => False := by
      intro k K s
      unfold xopD
      split
      · rename_i f args ts hop; exact absurd ⟨f, args, ts, hop⟩ hcall
      · rfl
    rw [hx] at h
    split at h
    case h_2 => cases h
    rename_i c v s0 heff
    obtain ⟨hc, rfl⟩ := h
    rcases cls_cases (C := C) o with ⟨hcl, hh | hh⟩ | ⟨hcl, hh⟩ | ⟨hna, hnb, hh⟩
    · obtain ⟨t, hop⟩ := hh
      simp only [effD, hop] at heff
      split at heff
      case h_2 => cases heff
      rename_i l hT ho
      simp only [Option.some.injEq, Out.mk.injEq] at heff
      obtain ⟨rfl, rfl, rfl⟩ := heff
      refine ⟨some (k, .dead, .box (cellsOf l.zero)), _, ⟨?_, rfl, ?_, by simp [hcl], ?_⟩⟩
      · intro r X y hr; simp only [Option.some.injEq, Prod.mk.injEq] at hr; obtain ⟨rfl, rfl, rfl⟩ := hr; exact ho
      · intro s1 hb _ hobj _
        rw [hx]
        simp only [effD, hop, hT, hobj _ _ _ rfl]
        exact ⟨by rw [hb]; exact hc, rfl⟩
      · intro _ r X y hr; simp only [Option.some.injEq, Prod.mk.injEq] at hr; obtain ⟨rfl, rfl, rfl⟩ := hr; exact ⟨rfl, by simp⟩
    · obtain ⟨t, x, hop⟩ := hh
      simp only [effD, hop] at heff
      split at heff
      case h_2 => cases heff
      rename_i ho
      simp only [Option.some.injEq, Out.mk.injEq] at heff
      obtain ⟨rfl, rfl, rfl⟩ := heff
      refine ⟨some (k, .dead, .box (cellsOf (s.ev x))), _, ⟨?_, rfl, ?_, by simp [hcl], ?_⟩⟩
      · intro r X y hr; simp only [Option.some.injEq, Prod.mk.injEq] at hr; obtain ⟨rfl, rfl, rfl⟩ := hr; exact ho
      · intro s1 hb hev hobj _
        rw [hx]
        have := hev x (by simp [hop, Op.operands])
        simp only [effD, hop, hobj _ _ _ rfl, this]
        exact ⟨by rw [hb]; exact hc, rfl⟩
      · intro _ r X y hr; simp only [Option.some.injEq, Prod.mk.injEq] at hr; obtain ⟨rfl, rfl, rfl⟩ := hr; exact ⟨rfl, by simp⟩
    · obtain ⟨t, p, x, hop⟩ := hh
      rw [effD_eff (by simp [hop]) (by simp [hop])] at heff
      have hx1 : ∀ (K : AState → Prop) (s : AState), xopD P C k o K s = match eff C o s with
        | some ⟨c, v, s'⟩ => c ∧ K (s'.put o.dst v)
        | none => False := fun K s => by rw [hx, effD_eff (by simp [hop]) (by simp [hop])]
      simp only [eff, hop] at heff
      split at heff
      case h_2 => cases heff
      rename_i l hT
      split at heff
      case h_3 => cases heff
      · rename_i r off hev
        split at heff
        case h_2 => cases heff
        rename_i cs ho
        simp only [Option.some.injEq, Out.mk.injEq] at heff
        obtain ⟨rfl, rfl, rfl⟩ := heff
        refine ⟨some (r, .box cs, .box (setRange cs off (cellsOf (s.ev x)))), _, ⟨?_, rfl, ?_, by simp [hcl], by simp [hcl]⟩⟩
        · intro r X y hr; simp only [Option.some.injEq, Prod.mk.injEq] at hr; obtain ⟨rfl, rfl, rfl⟩ := hr; exact ho
        · intro s1 hb hev1 hobj _
          have e1 := hev1 p (by simp [hop, Op.operands])
          have e2 := hev1 x (by simp [hop, Op.operands])
          rw [hx1]
          simp only [eff, hop, hT, e1, e2, hev, hobj _ _ _ rfl]
          exact ⟨by rw [hb]; exact hc, rfl⟩
      · rename_i r ver size i off hev
        split at heff
        case h_2 => cases heff
        rename_i v' sz es ho
        simp only [Option.some.injEq, Out.mk.injEq] at heff
        obtain ⟨rfl, rfl, rfl⟩ := heff
        refine ⟨some (r, .arr v' sz es, .arr v' sz (es.set i (reCells (es.getD i .any) (setRange (cellsOf (es.getD i .any)) off (cellsOf (s.ev x)))))), _, ⟨?_, rfl, ?_, by simp [hcl], by simp [hcl]⟩⟩
        · intro r X y hr; simp only [Option.some.injEq, Prod.mk.injEq] at hr; obtain ⟨rfl, rfl, rfl⟩ := hr; exact ho
        · intro s1 hb hev1 hobj _
          have e1 := hev1 p (by simp [hop, Op.operands])
          have e2 := hev1 x (by simp [hop, Op.operands])
          rw [hx1]
          simp only [eff, hop, hT, e1, e2, hev, hobj _ _ _ rfl]
          exact ⟨by rw [hb]; exact hc, rfl⟩
    · rw [effD_eff hna hnb] at heff
      have hx1 : ∀ (K : AState → Prop) (s : AState), xopD P C k o K s = match eff C o s with
        | some ⟨c, v, s'⟩ => c ∧ K (s'.put o.dst v)
        | none => False := fun K s => by rw [hx, effD_eff hna hnb]
      rcases hh with ⟨hcl, ht⟩ | ⟨hcl, hs, _⟩ | hh
      · have hnc : ∀ c, o.op ≠ .call c := by
          intro c hop
          unfold tOp at ht
          rw [hop] at ht
          split at ht <;> simp_all
        have h0 := eff_t ht hnc (s := s) (s1 := s) (fun _ _ => rfl) heff
        obtain ⟨h0, _⟩ := h0
        simp only at h0; subst h0
        refine ⟨none, v, ⟨by simp, rfl, ?_, fun _ => rfl, by simp⟩⟩
        intro s1 _ hev _ _
        rw [hx1, (eff_t ht hnc (s := s0) (s1 := s1) hev heff).2]
        exact ⟨hc, rfl⟩
      · have h0 := eff_agree hs (s := s) (s1 := s) ⟨fun _ _ => rfl, fun _ _ h _ => h⟩ heff
        obtain ⟨h0, _⟩ := h0
        simp only at h0; subst h0
        refine ⟨none, v, ⟨by simp, rfl, ?_, fun _ => rfl, by simp⟩⟩
        intro s1 _ hev _ hob
        rw [hx1, (eff_agree hs (s := s0) (s1 := s1) ⟨hev, hob hcl⟩ heff).2]
        exact ⟨hc, rfl⟩
      · exact absurd hh hz

theorem st_yl {k : Nat} {o : Oper} {s s' : AState} (hz : cls C o ≠ .z) (h : St P C ops k o s s') : ∃ od v, Yl P C ops k o s s' od v := by
  have lift : ∀ {od v}, YlX P C k o s s' od v → (∀ s1, EnvAg ops o s s1 → xopD P C k o (· = act od o.dst v s1) s1 → St P C ops k o s1 (act od o.dst v s1)) → Yl P C ops k o s s' od v :=
    fun hy hg => ⟨hy.1, hy.2.1, fun s1 hb he ho hq => hg s1 he (hy.2.2.1 s1 hb (ev_of_env he) ho hq), hy.2.2.2.1, hy.2.2.2.2⟩
  unfold St xguardD at h
  split at h
  · rename_i hg
    obtain ⟨od, v, hy⟩ := xopD_yl hz h
    exact ⟨od, v, lift hy fun s1 he hx => by unfold St xguardD; rw [hg]; exact hx⟩
  · rename_i t want hg
    split at h
    case h_3 => cases h
    · rename_i b hb
      split at h
      · rename_i hw
        obtain ⟨od, v, hy⟩ := xopD_yl hz h
        exact ⟨od, v, lift hy fun s1 he hx => by unfold St xguardD; rw [hg]; simp only [guard_env he hg, hb, if_pos hw]; exact hx⟩
      · rename_i hw
        refine ⟨none, .tup [], ⟨by simp, h.symm, fun s1 hb1 he _ _ => ?_, fun _ => rfl, by simp⟩⟩
        unfold St xguardD
        rw [hg]
        simp only [guard_env he hg, hb, if_neg hw]
        rfl
    · rename_i hb
      refine ⟨none, .tup [], ⟨by simp, h.symm, fun s1 hb1 he _ _ => ?_, fun _ => rfl, by simp⟩⟩
      unfold St xguardD
      rw [hg]
      simp only [guard_env he hg, hb]
      rfl
  · cases h

theorem put_b (s : AState) (d : Option Tmp) (v : AV) : (s.put d v).b = s.b := by cases d <;> rfl
theorem put_n (s : AState) (d : Option Tmp) (v : AV) : (s.put d v).n = s.n := by cases d <;> rfl
theorem put_H (s : AState) (d : Option Tmp) (v : AV) : (s.put d v).H = s.H := by cases d <;> rfl
theorem put_obj (s : AState) (d : Option Tmp) (v : AV) : (s.put d v).obj = s.obj := by cases d <;> rfl
theorem put_env_ne (s : AState) {d : Option Tmp} (v : AV) {t : Nat} (h : ∀ e, d = some e → e ≠ t) : (s.put d v).env t = s.env t := by
  cases d with
  | none => rfl
  | some e => simp [AState.put, upd, Ne.symm (h e rfl)]
theorem act_b (od : Option (Nat × AObj × AObj)) (d : Option Tmp) (v : AV) (s : AState) : (act od d v s).b = s.b := by
  unfold act; split <;> simp [put_b, setObj_b]
theorem act_n (od : Option (Nat × AObj × AObj)) (d : Option Tmp) (v : AV) (s : AState) : (act od d v s).n = s.n := by
  unfold act; split <;> simp [put_n, setObj_n]
theorem act_env_ne (od : Option (Nat × AObj × AObj)) {d : Option Tmp} (v : AV) (s : AState) {t : Nat} (h : ∀ e, d = some e → e ≠ t) : (act od d v s).env t = s.env t := by
  unfold act; split
  · exact put_env_ne s v h
  · rw [put_env_ne _ v h, setObj_env]
theorem setObj_hlen (s : AState) (r : Nat) (x : AObj) : (s.setObj r x).H.length = s.H.length := by unfold AState.setObj; split <;> simp
theorem act_hlen (od : Option (Nat × AObj × AObj)) (d : Option Tmp) (v : AV) (s : AState) : (act od d v s).H.length = s.H.length := by
  unfold act; split <;> simp [put_H, setObj_hlen]

theorem setObj_comm (s : AState) {r q : Nat} (x y : AObj) (h : r ≠ q) : (s.setObj r x).setObj q y = (s.setObj q y).setObj r x := by
  unfold AState.setObj
  by_cases h1 : r < s.b <;> by_cases h2 : q < s.b <;> simp [h1, h2]
  · exact List.set_comm _ _ h
  · exact List.set_comm _ _ (by omega)

theorem put_put_comm (s : AState) {d e : Option Tmp} (v u : AV) (h : ∀ t, d = some t → e ≠ some t) : (s.put d v).put e u = (s.put e u).put d v := by
  cases d with
  | none => rfl
  | some d => cases e with
    | none => rfl
    | some e =>
      have hne : d ≠ e := fun hh => h d rfl (by rw [hh])
      simp only [AState.put, AState.mk.injEq, and_true]
      funext t
      simp only [upd]
      by_cases h1 : t = d <;> by_cases h2 : t = e <;> simp_all

theorem put_setObj (s : AState) (d : Option Tmp) (v : AV) (r : Nat) (x : AObj) : (s.put d v).setObj r x = (s.setObj r x).put d v := by
  cases d with
  | none => rfl
  | some d => by_cases h : r < s.b <;> simp [AState.put, AState.setObj, h]

theorem act_comm {od oe : Option (Nat × AObj × AObj)} {d e : Option Tmp} (v u : AV) (s : AState) (h : ∀ t, d = some t → e ≠ some t) (ho : ∀ r X y q Z z, od = some (r, X, y) → oe = some (q, Z, z) → r ≠ q) :
    act oe e u (act od d v s) = act od d v (act oe e u s) := by
  cases od with
  | none => cases oe with
    | none => exact put_put_comm s v u h
    | some q =>
      obtain ⟨q, Z, z⟩ := q
      simp only [act, put_setObj]
      exact put_put_comm _ v u h
  | some r =>
    obtain ⟨r, X, y⟩ := r
    cases oe with
    | none =>
      simp only [act, put_setObj]
      exact put_put_comm _ v u h
    | some q =>
      obtain ⟨q, Z, z⟩ := q
      simp only [act, put_setObj]
      rw [setObj_comm s y z (ho _ _ _ _ _ _ rfl rfl)]
      exact put_put_comm _ v u h

/-- TWO STEPS CHANGE PLACES. -/
theorem swap {kx ky : Nat} {x y : Oper} {s s1 s2 : AState} (hb : s.b = s.H.length) (hap : x.apart ops y = true) (hf : freeC (cls C x) (cls C y) = true) (h1 : St P C ops kx x s s1) (h2 : St P C ops ky y s1 s2) :
    ∃ s1', St P C ops ky y s s1' ∧ St P C ops kx x s1' s2 := by
  have hxz : cls C x ≠ .z := fun h => by rw [h] at hf; simp [freeC] at hf
  have hyz : cls C y ≠ .z := fun h => by rw [h] at hf; revert hf; cases cls C x <;> simp [freeC]
  obtain ⟨ox, vx, hx⟩ := st_yl hxz h1
  obtain ⟨oy, vy, hy⟩ := st_yl hyz h2
  obtain ⟨a1, a2, a3⟩ := Oper.apart_spec hap
  have hd1 : ∀ (t : Nat), t ∈ y.looksAt ops → ∀ e, x.dst = some e → e ≠ t := fun t ht e he hh => a1 e he (hh ▸ ht)
  have hd2 : ∀ (t : Nat), t ∈ x.looksAt ops → ∀ e, y.dst = some e → e ≠ t := fun t ht e he hh => a3 e he (hh ▸ ht)
  have hs1obj : ∀ r X y', ox = some (r, X, y') → s1.obj = fun q => if q = r then some y' else s.obj q := by
    intro r X y' hr
    rw [hx.to, hr]
    simp only [act, put_obj]
    exact obj_setObj hb (hx.at_ r X y' hr)
  have hs1none : ox = none → s1.obj = s.obj := fun hn => by rw [hx.to, hn]; simp only [act, put_obj]
  -- the two objects are not one
  have hne : ∀ r X y' q Z z, ox = some (r, X, y') → oy = some (q, Z, z) → r ≠ q := by
    intro r X y' q Z z hr hq hrq
    subst hrq
    have e1 := hy.at_ _ _ _ hq
    rw [hs1obj _ _ _ hr] at e1
    simp only [if_true, Option.some.injEq] at e1
    cases hcx : cls C x with
    | t => rw [hx.none_ (.inl hcx)] at hr; cases hr
    | q => rw [hx.none_ (.inr hcx)] at hr; cases hr
    | z => exact hxz hcx
    | a =>
      cases hcy : cls C y with
      | t => rw [hy.none_ (.inl hcy)] at hq; cases hq
      | a =>
        have h3 := (hx.new_ hcx _ _ _ hr).2
        have h4 := (hy.new_ hcy _ _ _ hq).1
        exact h3 (e1.trans h4)
      | _ => rw [hcx, hcy] at hf; simp [freeC] at hf
    | w =>
      cases hcy : cls C y with
      | t => rw [hy.none_ (.inl hcy)] at hq; cases hq
      | _ => rw [hcx, hcy] at hf; simp [freeC] at hf
  have hy1 : ∀ r X y', oy = some (r, X, y') → s.obj r = some X := by
    intro r X y' hr
    have e1 := hy.at_ _ _ _ hr
    cases hox : ox with
    | none => rw [hs1none hox] at e1; exact e1
    | some q =>
      obtain ⟨q, Z, z⟩ := q
      rw [hs1obj _ _ _ hox] at e1
      simpa [Ne.symm (hne _ _ _ _ _ _ hox hr)] using e1
  have hstep1 : St P C ops ky y s (act oy y.dst vy s) := by
    refine hy.stab s ?_ ?_ hy1 ?_
    · rw [hx.to, act_b]
    · intro t ht; rw [hx.to, act_env_ne _ _ _ (hd1 t ht)]
    · intro hcy
      have hox : ox = none := by
        cases hcx : cls C x with
        | t => exact hx.none_ (.inl hcx)
        | q => exact hx.none_ (.inr hcx)
        | _ => rw [hcx, hcy] at hf; simp [freeC] at hf
      intro r X hr _
      rw [hs1none hox] at hr; exact hr
  have hs1'obj : ∀ r X y', oy = some (r, X, y') → (act oy y.dst vy s).obj = fun q => if q = r then some y' else s.obj q := by
    intro r X y' hr
    rw [hr]
    simp only [act, put_obj]
    exact obj_setObj hb (hy1 r X y' hr)
  have hstep2 := hx.stab (act oy y.dst vy s) (act_b _ _ _ _) (fun t ht => act_env_ne _ _ _ (hd2 t ht)) (by
    intro r X y' hr
    cases hoy : oy with
    | none => simp only [act, put_obj]; exact hx.at_ _ _ _ hr
    | some q =>
      obtain ⟨q, Z, z⟩ := q
      rw [← hoy, hs1'obj _ _ _ hoy]
      simp only [hne _ _ _ _ _ _ hr hoy, if_false]
      exact hx.at_ _ _ _ hr) (by
    intro hcx
    cases hoy : oy with
    | none => intro r X hr _; simp only [act, put_obj]; exact hr
    | some q =>
      obtain ⟨q, Z, z⟩ := q
      intro r X hr hnd
      rw [← hoy, hs1'obj _ _ _ hoy]
      have hZ : Z = .dead := by
        cases hcy : cls C y with
        | t => rw [hy.none_ (.inl hcy)] at hoy; cases hoy
        | q => rw [hy.none_ (.inr hcy)] at hoy; cases hoy
        | a => exact (hy.new_ hcy _ _ _ hoy).1
        | w => rw [hcx, hcy] at hf; simp [freeC] at hf
        | z => exact absurd hcy hyz
      have : r ≠ q := by
        intro hh; subst hh
        have := hy1 _ _ _ hoy
        rw [hr, hZ] at this
        exact hnd (Option.some.inj this)
      simp only [this, if_false]; exact hr)
  refine ⟨_, hstep1, ?_⟩
  have := act_comm vx vy s a2 hne
  rw [← hx.to, ← hy.to] at this
  rw [this]
  exact hstep2

end
end Go.Ab
