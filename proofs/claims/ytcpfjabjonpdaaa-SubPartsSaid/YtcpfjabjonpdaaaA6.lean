/- The executor on abstract values: guards, one list of objects, accumulators, maps. Conditions stand ahead of each part. -/
import Derived.Test.YtcpfjabjonpdaaaA5

/- Guards without a case split: a slot then holds a value that the guard decides. No condition. -/
set_option linter.unusedSimpArgs false
namespace Go.Ab
open Go.RowKit (Below)

section
variable {P : Program} {C : Cfg} {K : Exit → AState → Prop} {k : List KI} {s : AState}

/-- A guarded operation, without a case split: its slot holds a value that the guard decides. -/
theorem goGb_op {b want : Bool} {ops : Array Oper} {o : Oper} {todo : List Oper} {c : Prop} {v : AV} (hop : ∀ (K : AState → Prop) (s : AState), xop P C o K s = match eff C o s with
    | some ⟨c, v, s'⟩ => c ∧ K (s'.put o.dst v)
    | none => False) (hx : b = want → eff C o s = some ⟨c, v, s⟩ ∧ c) (hK : GoO P C K ops todo k (s.put o.dst (if b = want then v else .tup []))) : GoGb P C K b want ops o todo k s := by
  unfold GoGb
  split
  · rename_i hb
    obtain ⟨h1, h2⟩ := hx hb
    unfold GoX
    rw [hop, h1]
    rw [if_pos hb] at hK
    exact ⟨h2, hK⟩
  · rename_i hb
    rw [if_neg hb] at hK
    exact hK
theorem goGb_call {b want : Bool} {ops : Array Oper} {d : Option Tmp} {f : Nat} {args : Array Operand} {ts : Array Nat} {ty : Nat} {ps : String} {af : Array Edge} {g : Option (Nat × Bool)} {todo : List Oper} {args' : List AV} {r : AV} (h : PCalls P f args' r)
    (ha : b = want → args' = AV.normL (args.toList.map s.ev)) (hK : GoO P C K ops todo k (s.put d (if b = want then r else .tup []))) : GoGb P C K b want ops ⟨d, .call ⟨.value (.func f), args, ts⟩, ty, ps, af, g⟩ todo k s := by
  unfold GoGb
  split
  · rename_i hb
    rw [if_pos hb] at hK
    exact callK_p h (.inr (ha hb)) hK
  · rename_i hb
    rw [if_neg hb] at hK
    exact hK
theorem goDGb_op {b want : Bool} {ops : Array Oper} {j : Nat} {o : Oper} {todo : List Oper} {c : Prop} {v : AV} (hop : ∀ (K : AState → Prop) (s : AState), xopD P C j o K s = match eff C o s with
    | some ⟨c, v, s'⟩ => c ∧ K (s'.put o.dst v)
    | none => False) (hx : b = want → eff C o s = some ⟨c, v, s⟩ ∧ c) (hK : GoD P C K ops (nxt j o) todo k (s.put o.dst (if b = want then v else .tup []))) : GoDGb P C K b want ops j o todo k s := by
  unfold GoDGb
  split
  · rename_i hb
    obtain ⟨h1, h2⟩ := hx hb
    unfold GoDX
    rw [hop, h1]
    rw [if_pos hb] at hK
    exact ⟨h2, hK⟩
  · rename_i hb
    rw [if_neg hb] at hK
    exact hK
theorem goDGb_call {b want : Bool} {ops : Array Oper} {j : Nat} {d : Option Tmp} {f : Nat} {args : Array Operand} {ts : Array Nat} {ty : Nat} {ps : String} {af : Array Edge} {g : Option (Nat × Bool)} {todo : List Oper} {args' : List AV} {r : AV} (h : PCalls P f args' r)
    (ha : b = want → args' = AV.normL (args.toList.map s.ev)) (hK : GoD P C K ops j todo k (s.put d (if b = want then r else .tup []))) : GoDGb P C K b want ops j ⟨d, .call ⟨.value (.func f), args, ts⟩, ty, ps, af, g⟩ todo k s := by
  unfold GoDGb
  split
  · rename_i hb
    rw [if_pos hb] at hK
    exact ⟨r, args', h, .inr (ha hb), hK⟩
  · rename_i hb
    rw [if_neg hb] at hK
    exact hK

theorem ite_tt {b : Bool} {x y z : AV} : (if b = true then (if b = true then x else y) else z) = if b = true then x else z := by cases b <;> rfl
theorem ite_tf {b : Bool} {x y z : AV} : (if b = true then x else (if b = false then y else z)) = if b = true then x else y := by cases b <;> rfl
theorem ite_and {b p : Bool} : (if b = true then AV.bool p else AV.bool false) = .bool (b && p) := by cases b <;> rfl
theorem ite_or {b p : Bool} : (if b = true then AV.bool true else AV.bool p) = .bool (b || p) := by cases b <;> rfl

theorem ite_norm {b : Bool} {x y : AV} : (if b = true then x else y).norm = if b = true then x.norm else y.norm := by cases b <;> rfl

end
end Go.Ab

/- Guards on slots that a guard decides. No condition. -/
set_option linter.unusedSimpArgs false
namespace Go.Ab
open Go.RowKit (Below)

section
variable {P : Program} {C : Cfg} {K : Exit → AState → Prop} {k : List KI} {s : AState}

theorem goG_tt {b p : Bool} {ops : Array Oper} {o : Oper} {r : List Oper} : GoGv P C K (if b = true then AV.bool p else AV.tup []) true ops o r k s = GoGb P C K (b && p) true ops o r k s := by cases b <;> cases p <;> rfl
theorem goG_tf {b p : Bool} {ops : Array Oper} {o : Oper} {r : List Oper} : GoGv P C K (if b = true then AV.bool p else AV.tup []) false ops o r k s = GoGb P C K (!b || p) false ops o r k s := by cases b <;> cases p <;> rfl
theorem goG_ft {b p : Bool} {ops : Array Oper} {o : Oper} {r : List Oper} : GoGv P C K (if b = false then AV.bool p else AV.tup []) true ops o r k s = GoGb P C K (!b && p) true ops o r k s := by cases b <;> cases p <;> rfl
theorem goG_ff {b p : Bool} {ops : Array Oper} {o : Oper} {r : List Oper} : GoGv P C K (if b = false then AV.bool p else AV.tup []) false ops o r k s = GoGb P C K (b || p) false ops o r k s := by cases b <;> cases p <;> rfl
theorem goDG_tt {b p : Bool} {j : Nat} {ops : Array Oper} {o : Oper} {r : List Oper} : GoDGv P C K (if b = true then AV.bool p else AV.tup []) true ops j o r k s = GoDGb P C K (b && p) true ops j o r k s := by cases b <;> cases p <;> rfl
theorem goDG_tf {b p : Bool} {j : Nat} {ops : Array Oper} {o : Oper} {r : List Oper} : GoDGv P C K (if b = true then AV.bool p else AV.tup []) false ops j o r k s = GoDGb P C K (!b || p) false ops j o r k s := by cases b <;> cases p <;> rfl
theorem goDG_ft {b p : Bool} {j : Nat} {ops : Array Oper} {o : Oper} {r : List Oper} : GoDGv P C K (if b = false then AV.bool p else AV.tup []) true ops j o r k s = GoDGb P C K (!b && p) true ops j o r k s := by cases b <;> cases p <;> rfl
theorem goDG_ff {b p : Bool} {j : Nat} {ops : Array Oper} {o : Oper} {r : List Oper} : GoDGv P C K (if b = false then AV.bool p else AV.tup []) false ops j o r k s = GoDGb P C K (b || p) false ops j o r k s := by cases b <;> cases p <;> rfl

end
end Go.Ab

/- States by one list of objects, the callers' and the locals together; accumulators that grow. No condition. -/
set_option linter.unusedSimpArgs false
set_option linter.unusedVariables false
namespace Go.Ab
open Go.RowKit (Below)

def FS (e : Nat → AV) (F : List AObj) (b n : Nat) : AState := ⟨e, b, F.take b, F.drop b, n⟩

section
variable {P : Program} {C : Cfg} {K : Exit → AState → Prop} {k : List KI} {e : Nat → AV} {F : List AObj} {b n : Nat}

theorem fs_env : (FS e F b n).env = e := rfl
theorem fs_b : (FS e F b n).b = b := rfl
theorem fs_n : (FS e F b n).n = n := rfl
theorem fs_put (d : Nat) (v : AV) : (FS e F b n).put (some d) v = FS (upd e d v) F b n := rfl
theorem fs_put0 (v : AV) : (FS e F b n).put none v = FS e F b n := rfl
theorem fs_tmp (t : Nat) : (FS e F b n).ev (.tmp t) = e t := rfl
theorem fs_const (v : Value) : (FS e F b n).ev (.const v) = ofVal v := rfl
theorem fs_func (f : Nat) : (FS e F b n).ev (.func f) = .fn f := rfl
theorem fs_frz (l : List (Nat × AV)) : FS (envL l) F b n = FS (frz (envL l)) F b n := rfl
theorem fs_frz0 (l : List AV) : FS (fun t => l.getD t .any) F b n = FS (frz fun t => l.getD t .any) F b n := rfl
theorem fs_obj (r : Nat) : (FS e F b n).obj r = F[r]? := by
  unfold FS AState.obj
  split
  · rename_i h
    simp [List.getElem?_take, h]
  · rename_i h
    simp only [Nat.not_lt] at h
    simp only [List.getElem?_drop, Nat.add_sub_cancel' h]
theorem fs_setObj (r : Nat) (x : AObj) : (FS e F b n).setObj r x = FS e (F.set r x) b n := by
  unfold FS AState.setObj
  split
  · rename_i h
    simp only [AState.mk.injEq, true_and, and_true]
    refine ⟨List.take_set.symm, ?_⟩
    rw [List.drop_set_of_lt h]
  · rename_i h
    simp only [Nat.not_lt] at h
    simp only [AState.mk.injEq, true_and, and_true]
    refine ⟨?_, ?_⟩
    · rw [List.take_set_of_le h]
    · rw [List.drop_set, if_neg (by omega)]
theorem fs_new (x : AObj) (hb : b ≤ F.length) : (FS e F b n).new x = FS e (F ++ [x]) b n := by
  unfold FS AState.new
  simp only [AState.mk.injEq, true_and, and_true]
  exact ⟨(List.take_append_of_le_length hb).symm, (List.drop_append_of_le_length hb).symm⟩
theorem fs_len (hb : b ≤ F.length) : (FS e F b n).L.length = F.length - b := by unfold FS; simp
theorem fs_next (hb : b ≤ F.length) : b + (FS e F b n).L.length = F.length := by unfold FS; simp; omega
theorem fs_HL : (FS e F b n).H ++ (FS e F b n).L = F := List.take_append_drop b F
theorem fs_mk : AState.mk e b (F.take b) (F.drop b) n = FS e F b n := rfl
theorem fs_H : (FS e F b n).H = F.take b := rfl
theorem fs_res (m : Nat) (hb : b ≤ F.length) : AState.mk (FS e F b n).env (FS e F b n).b (FS e F b n).H ((FS e F b n).L ++ List.replicate m .dead) (FS e F b n).n = FS e (F ++ List.replicate m .dead) b n := by
  unfold FS
  simp only [AState.mk.injEq, true_and, and_true]
  exact ⟨(List.take_append_of_le_length hb).symm, (List.drop_append_of_le_length hb).symm⟩

theorem go_drawF (hC : CfgOK P C) (hm : P.follows .mixedOrders = true) {id : Nat} {ops : Array Oper} (m n' : Nat) (hb : b ≤ F.length) (hn : n = n') (hchk : chk C ops = true) (hok : codeOK n' (.region id ops true) = true)
    (h : GoD P C K ops (pos b (FS e F b n).L.length) ops.toList k (FS e (F ++ List.replicate m .dead) b n)) : Go P C K (.code (.region id ops true) :: k) (FS e F b n) := by
  refine go_draw hC hm m n' hn hchk hok ?_
  have := fs_res (e := e) (n := n) m hb
  simp only [fs_env, fs_b, fs_n] at this
  simp only [fs_b]
  exact (congrArg (fun s => GoD P C K ops (pos b (FS e F b n).L.length) ops.toList k s) this.symm) ▸ h
theorem le_app {l : List AObj} (h : b ≤ F.length) : (b ≤ (F ++ l).length) = True := by simp; omega
theorem le_set {r : Nat} {x : AObj} (h : b ≤ F.length) : (b ≤ (F.set r x).length) = True := by simpa using h
theorem app_get {l : List AObj} {q : Nat} (h : q < F.length) : (F ++ l)[q]? = F[q]? := List.getElem?_append_left h
theorem app_get0 {x : AObj} : (F ++ [x])[F.length]? = some x := by simp
theorem set_get {q r : Nat} {x : AObj} (h : r ≠ q) : (F.set r x)[q]? = F[q]? := List.getElem?_set_ne h
theorem set_get0 {q : Nat} {x : AObj} (h : q < F.length) : (F.set q x)[q]? = some x := List.getElem?_set_self h
theorem app_set {l : List AObj} {q : Nat} {x : AObj} (h : q < F.length) : (F ++ l).set q x = F.set q x ++ l := List.set_append_left _ _ h
theorem app_set0 {x y : AObj} : (F ++ [x]).set F.length y = F ++ [y] := by
  rw [List.set_append_right _ _ (Nat.le_refl _)]; simp
theorem app_get0c {l : List AObj} {m : Nat} (h : F.length = m) : (F ++ l)[m]? = l[0]? := by subst h; rw [List.getElem?_append_right (Nat.le_refl _), Nat.sub_self]
theorem app_getkc {l : List AObj} {m j : Nat} (h : F.length = m) : (F ++ l)[m + j]? = l[j]? := by subst h; rw [List.getElem?_append_right (by omega)]; congr 1; omega
theorem app_set0c {l : List AObj} {m : Nat} {x : AObj} (h : F.length = m) : (F ++ l).set m x = F ++ l.set 0 x := by subst h; rw [List.set_append_right _ _ (Nat.le_refl _), Nat.sub_self]
theorem app_setkc {l : List AObj} {m j : Nat} {x : AObj} (h : F.length = m) : (F ++ l).set (m + j) x = F ++ l.set j x := by subst h; rw [List.set_append_right _ _ (by omega)]; congr 2; omega
theorem get_lt {q : Nat} {x : AObj} (h : F[q]? = some x) : q < F.length := (List.getElem?_eq_some_iff.1 h).1

theorem acalls_text (hC : CfgOK P C) {f : Nat} {fn : Func} {c : Code} {args : List AV} {H : List AObj} {R : AV → List AObj → Prop} (hf : P.funcs[f]? = some fn) (hb : fn.body = some c) (hname : (fn.name == "runtime.NumGoroutine") = false)
    (hn : args.length ≤ fn.ntmps) (hok : codeOK fn.ntmps c = true) (h : AV.okayL args → Go P C (retE C fn.results.toList R) [.code c] (FS (fun t => args.getD t .any) H H.length fn.ntmps)) : ACalls P f args H R := by
  refine acalls_okay ⟨fn, hf, by simp [hb], hname⟩ fun hok' => acalls_esc hC hf hb hname hn hok ?_
  have h1 := h hok'
  have h2 : FS (fun t => args.getD t .any) H H.length fn.ntmps = initS args H fn.ntmps := by simp [FS, initS]
  rw [h2] at h1
  exact h1

theorem retE_fs {rs : List ResultVar} {R : AV → List AObj → Prop} {x : Exit} (hx : x = .ret ∨ x = .normal) {vs : List AV} {c : Prop} (h : aresL C (FS e F b n) rs = some (c, vs)) (hc : c) (hR : R (tupOf vs) F) : retE C rs R x (FS e F b n) := by
  refine ⟨by rcases hx with rfl | rfl <;> trivial, ?_⟩
  rw [h]
  refine ⟨hc, ?_⟩
  rw [fs_HL]; exact hR

theorem retE_ret {rs : List ResultVar} {R : AV → List AObj → Prop} : retE C rs R .ret (FS e F b n) = match aresL C (FS e F b n) rs with
    | some (c, vs) => c ∧ R (tupOf vs) F
    | none => False := by
  simp only [retE, fs_HL, true_and]
  cases aresL C (FS e F b n) rs <;> rfl

theorem retP_ret {rs : List ResultVar} {r : AV} {H : List AObj} : retP C rs r H .ret (FS e F b n) = match aresL C (FS e F b n) rs with
    | some (c, vs) => c ∧ (tupOf vs).norm = r ∧ F.take b = H
    | none => False := by
  simp only [retP, fs_H, true_and]
  cases aresL C (FS e F b n) rs <;> rfl
theorem initS_fs (args : List AV) (H : List AObj) (n : Nat) : initS args H n = FS (fun t => args.getD t .any) H H.length n := by simp [FS, initS]

/-- As 'callK_of', and what lies below is known of the callers' objects. -/
theorem callK_bel {s : AState} {f : Nat} {args args' : List AV} {K : AV → AState → Prop} {R : AV → List AObj → Prop} (h : ACalls P f args' (s.H ++ s.L) R) (ha : ∀ i, args'.getD i .any = args.getD i .any ∨ args'.getD i .any = (args.getD i .any).norm) (hl : args'.length = args.length)
    (hK : (∀ x ∈ s.H, x.bel s.b = true) → ∀ r H'', R r H'' → s.H.length + s.L.length ≤ H''.length → (∀ x ∈ H''.take s.b, x.bel s.b = true) ∧ K r { s with H := H''.take s.b, L := H''.drop s.b }) : CallK P f args s K := by
  refine ⟨h.1, fun V w vs hb hI hbel hvl hva => ?_⟩
  have hI' : Inv V (heapObj (s.H ++ s.L)) w := by rw [← obj_heap hb]; exact hI
  refine (h.2 V w vs hI' (heap_bel hI hb) (by rw [hvl, hl]) (fun i hi => ?_)).mono fun e w' he => ?_
  · rw [hl] at hi
    rcases ha i with e | e <;> rw [e]
    · exact hva i hi
    · exact (hva i hi).normed
  · obtain ⟨V', v, r, H'', g1, g2, g3, g4, g5, g6, g7⟩ := he
    have hlen : s.H.length + s.L.length ≤ H''.length := by simp at g6; omega
    obtain ⟨k1, k2⟩ := hK hbel r H'' g7 hlen
    refine ⟨V', v, r, { s with H := H''.take s.b, L := H''.drop s.b }, g1, g2, g3, g4, ?_, k1, by simp; omega, rfl, rfl, rfl, k2⟩
    have hb' : ({ s with H := H''.take s.b, L := H''.drop s.b } : AState).b = ({ s with H := H''.take s.b, L := H''.drop s.b } : AState).H.length := by simp; omega
    rw [obj_heap hb']
    simpa using g5

theorem fsCall {f : Nat} {args args' : List AV} {dst : Option Tmp} {ops : Array Oper} {todo : List Oper} {R : AV → List AObj → Prop} (h : ACalls P f args' F R) (ha : args' = args ∨ args' = AV.normL args)
    (hK : ∀ r F', R r F' → F.length ≤ F'.length → ((∀ x ∈ F.take b, x.bel b = true) → ∀ x ∈ F'.take b, x.bel b = true) ∧ GoO P C K ops todo k ((FS e F' b n).put dst r)) :
    GoCall P C K f args dst ops todo k (FS e F b n) := by
  refine callK_bel (s := FS e F b n) (args' := args') (R := R) (by rw [fs_HL]; exact h) (fun i => ?_) ?_ fun hbel r H'' hr hlen => ?_
  · rcases ha with rfl | rfl
    · exact .inl rfl
    · rw [normL_getD]; exact .inr rfl
  · rcases ha with rfl | rfl
    · rfl
    · exact normL_length _
  · have hl : (FS e F b n).H.length + (FS e F b n).L.length = F.length := by rw [← List.length_append, fs_HL]
    rw [hl] at hlen
    obtain ⟨h1, h2⟩ := hK r H'' hr hlen
    exact ⟨h1 hbel, h2⟩

theorem aloop_trimF (ts : List Nat) {c : Code} {Q : Exit → AState → Prop} (h : ALoop P c Q (FS (envL (ts.map fun t => (t, e t))) F b n)) : ALoop P c Q (FS e F b n) :=
  aloop_trim (s := FS e F b n) ts h

theorem weakF {l : List (Nat × AV)} {F' : List AObj} (hF : F' = F) (h : ∀ p ∈ l, e p.1 = p.2 ∨ (e p.1).norm = p.2) : Weak (FS e F b n) (FS (envL l) F' b n) := by
  subst hF
  exact weak_of rfl rfl rfl rfl h

theorem goLoopF {ι : Type} (m : Nat) (chg : ι → List (Nat × AV)) (Fx : ι → List AObj) (I : ι → Prop) (μ : ι → Nat) {l : List (Nat × AV)} {c : Code} (hC : CfgOK P C) (x : ι) (h0 : chg x = l.take m) (hF : Fx x = F) (hx : I x)
    (hok : codeOK n c = true)
    (h : ∀ x, I x → Go P C (cutNormal (Un P C K k) fun s' => ∃ y, I y ∧ μ y < μ x ∧ Weak s' (FS (envL (chg y ++ l.drop m)) (Fx y) b n)) [.code c] (FS (envL (chg x ++ l.drop m)) (Fx x) b n)) :
    ALoop P c (Un P C K k) (FS (envL l) F b n) := by
  refine goLoop (s := FS (envL l) F b n) (fun x => FS (envL (chg x ++ l.drop m)) (Fx x) b n) I μ hC x hx ?_ hok h
  rw [h0, hF, List.take_append_drop]
  exact ⟨rfl, rfl, rfl, by simp, fun t => .inr (.inl rfl), .inl rfl⟩
end

/- Accumulators: a slice that grows by append, of which the list of objects holds the room's owner. -/
def AccOK (sz : Nat) (F : List AObj) (es : List AV) (a : AV) : Prop :=
  (es = [] ∧ a = .sl [] .full) ∨ ∃ q, a = .sl es (.own q) ∧ F[q]? = some (.tok es.length sz)

/-- What has turned: the owner's number of elements; new objects behind. -/
def AccR (sz : Nat) (F : List AObj) (a : AV) (es' : List AV) (a' : AV) (F' : List AObj) : Prop :=
  ∃ J, match a with
    | .sl _ (.own q) => a' = .sl es' (.own q) ∧ F' = F.set q (.tok es'.length sz) ++ J
    | _ => F' = F ++ J ∧ ((es' = [] ∧ a' = .sl [] .full) ∨ ∃ q, F.length ≤ q ∧ a' = .sl es' (.own q) ∧ F'[q]? = some (.tok es'.length sz))

section
variable {sz : Nat} {F F' F1 F2 : List AObj} {es es' es1 es2 : List AV} {a a' a1 a2 : AV}

theorem set_same {q : Nat} {x : AObj} (h : F[q]? = some x) : F.set q x = F := by
  obtain ⟨h1, h2⟩ := List.getElem?_eq_some_iff.1 h
  rw [← h2]; exact List.set_getElem_self h1

theorem AccR.refl (h : AccOK sz F es a) : AccR sz F a es a F := by
  rcases h with ⟨rfl, rfl⟩ | ⟨q, rfl, h⟩
  · exact ⟨[], by simp, .inl ⟨rfl, rfl⟩⟩
  · exact ⟨[], rfl, by rw [set_same h]; simp⟩

theorem AccR.ok (h : AccOK sz F es a) (hr : AccR sz F a es' a' F') : AccOK sz F' es' a' := by
  obtain ⟨J, hr⟩ := hr
  rcases h with ⟨rfl, rfl⟩ | ⟨q, rfl, h⟩
  · obtain ⟨h1, h2⟩ := hr
    rcases h2 with h2 | ⟨q, _, h3, h4⟩
    · exact .inl h2
    · exact .inr ⟨q, h3, h4⟩
  · obtain ⟨h1, h2⟩ := hr
    refine .inr ⟨q, h1, ?_⟩
    rw [h2, app_get (by simpa using get_lt h), set_get0 (get_lt h)]

theorem AccR.len (hr : AccR sz F a es' a' F') : F.length ≤ F'.length := by
  obtain ⟨J, hr⟩ := hr
  split at hr
  · rw [hr.2]; simp
  · rw [hr.1]; simp

theorem AccR.trans (h : AccOK sz F es a) (h1 : AccR sz F a es1 a1 F1) (h2 : AccR sz F1 a1 es2 a2 F2) : AccR sz F a es2 a2 F2 := by
  have hl := h1.len
  obtain ⟨J1, h1⟩ := h1
  obtain ⟨J2, h2⟩ := h2
  rcases h with ⟨rfl, rfl⟩ | ⟨q, rfl, h⟩
  · obtain ⟨e1, h1⟩ := h1
    rcases h1 with ⟨rfl, rfl⟩ | ⟨q, hq, rfl, hF⟩
    · obtain ⟨e2, h2⟩ := h2
      refine ⟨J1 ++ J2, by rw [e2, e1, List.append_assoc], ?_⟩
      rcases h2 with h2 | ⟨q, hq, h3, h4⟩
      · exact .inl h2
      · exact .inr ⟨q, by omega, h3, h4⟩
    · obtain ⟨e2, e3⟩ := h2
      have hlt := get_lt hF
      refine ⟨J1.set (q - F.length) (.tok es2.length sz) ++ J2, ?_, .inr ⟨q, hq, e2, ?_⟩⟩
      · rw [e3, e1, List.set_append_right _ _ hq, List.append_assoc]
      · rw [e3, app_get (by simpa using hlt), set_get0 hlt]
  · obtain ⟨rfl, e1⟩ := h1
    obtain ⟨e2, e3⟩ := h2
    refine ⟨J1 ++ J2, e2, ?_⟩
    rw [e3, e1, app_set (by simpa using get_lt h), List.set_set, List.append_assoc]

/-- An object that is no owner stays. -/
theorem AccR.get (h : AccOK sz F es a) (hr : AccR sz F a es' a' F') {r : Nat} {x : AObj} (hx : F[r]? = some x) (hn : ∀ m, x ≠ .tok m sz) : F'[r]? = some x := by
  obtain ⟨J, hr⟩ := hr
  rcases h with ⟨rfl, rfl⟩ | ⟨q, rfl, h⟩
  · rw [hr.1, app_get (get_lt hx)]; exact hx
  · have hne : q ≠ r := by
      rintro rfl
      rw [h] at hx
      simp only [Option.some.injEq] at hx
      exact hn _ hx.symm
    rw [hr.2, app_get (by simpa using get_lt hx), set_get hne]; exact hx

theorem tok_bel (m k b : Nat) : (AObj.tok m k).bel b = true := rfl
theorem AccR.bel (h : AccOK sz F es a) (hr : AccR sz F a es' a' F') {b : Nat} (hb : b ≤ F.length) (hbel : ∀ x ∈ F.take b, x.bel b = true) : ∀ x ∈ F'.take b, x.bel b = true := by
  obtain ⟨J, hr⟩ := hr
  rcases h with ⟨rfl, rfl⟩ | ⟨q, rfl, h⟩
  · rw [hr.1, List.take_append_of_le_length hb]; exact hbel
  · rw [hr.2, List.take_append_of_le_length (by simpa using hb), List.take_set]
    intro x hx
    rcases List.mem_or_eq_of_mem_set hx with hx | rfl
    · exact hbel x hx
    · rfl

/-- New objects behind, that the accumulator does not know. -/
theorem AccR.junk (h : AccOK sz F es a) (J : List AObj) : AccR sz F a es a (F ++ J) := by
  rcases h with ⟨rfl, rfl⟩ | ⟨q, rfl, h⟩
  · exact ⟨J, rfl, .inl ⟨rfl, rfl⟩⟩
  · exact ⟨J, rfl, by rw [set_same h]⟩

theorem AccR.out (h : AccR sz F (.sl [] .full) es a' F') : a'.norm = .sl (AV.normL es) .no ∧ ∃ J, F' = F ++ J := by
  obtain ⟨J, h1, h2⟩ := h
  refine ⟨?_, J, h1⟩
  rcases h2 with ⟨rfl, rfl⟩ | ⟨q, _, rfl, _⟩
  · rfl
  · rfl

theorem AccR.app0 (x : AV) : AccR sz F (.sl [] .full) [x] (.sl [x] (.own F.length)) (F ++ [.tok 1 sz]) :=
  ⟨[.tok 1 sz], rfl, .inr ⟨F.length, Nat.le_refl _, rfl, by simp⟩⟩
theorem AccR.app {q : Nat} (x : AV) : AccR sz F (.sl es (.own q)) (es ++ [x]) (.sl (es ++ [x]) (.own q)) (F.set q (.tok (es.length + 1) sz)) :=
  ⟨[], rfl, by simp⟩
end
end Go.Ab

/- Maps from numbers to numbers, as lists. No condition. -/
set_option linter.unusedSimpArgs false
set_option linter.unusedVariables false
namespace Go.Ab

def embM (m : List (Int × Int)) : List (AV × AV) := m.map fun p => (.int .i64 p.1, .int .i64 p.2)
def mget : List (Int × Int) → Int → Option Int
  | [], _ => none
  | (k, w) :: m, n => if k = n then some w else mget m n
def mput : List (Int × Int) → Int → Int → List (Int × Int)
  | [], n, v => [(n, v)]
  | (k, w) :: m, n, v => if k = n then (n, v) :: m else (k, w) :: mput m n v
def mfind : List (Int × Int) → Int → Nat → Option (Nat × AV)
  | [], _, _ => none
  | (k, w) :: m, n, i => if k = n then some (i, .int .i64 w) else mfind m n (i + 1)

theorem findA_m (m : List (Int × Int)) (n : Int) : ∀ i, findA (.int .i64) (.int .i64 n) (embM m) i = some (mfind m n i) := by
  induction m with
  | nil => intro i; rfl
  | cons p m ih =>
    intro i
    obtain ⟨k, w⟩ := p
    simp only [embM, List.map_cons, findA, keyEq, if_true, mfind]
    by_cases h : k = n
    · simp [h]
    · have : (n == k) = false := by simpa using Ne.symm h
      simp only [this, if_neg h]
      exact ih (i + 1)
theorem mfind_iff (m : List (Int × Int)) (n : Int) : ∀ i, (mfind m n i).map (·.2) = (mget m n).map (.int .i64 ·) := by
  induction m with
  | nil => intro i; rfl
  | cons p m ih =>
    intro i
    obtain ⟨k, w⟩ := p
    simp only [mfind, mget]
    split
    · rfl
    · exact ih (i + 1)
theorem foundOr_m (m : List (Int × Int)) (n z : Int) : foundOr (.int .i64 z) (mfind m n 0) = .int .i64 ((mget m n).getD z) := by
  have := mfind_iff m n 0
  cases h : mfind m n 0 with
  | none => rw [h] at this; cases h2 : mget m n with
    | none => rfl
    | some v => rw [h2] at this; simp at this
  | some p => rw [h] at this; cases h2 : mget m n with
    | none => rw [h2] at this; simp at this
    | some v => rw [h2] at this; simp only [Option.map_some, Option.some.injEq] at this; simp only [foundOr, this, Option.getD_some]
theorem mfind_some (m : List (Int × Int)) (n : Int) : (mfind m n 0).isSome = (mget m n).isSome := by
  have := congrArg Option.isSome (mfind_iff m n 0)
  simpa using this
theorem mapPut_m (m : List (Int × Int)) (n v : Int) : mapPut (embM m) (mfind m n 0) (.int .i64 n) (.int .i64 v) = embM (mput m n v) := by
  have key : ∀ (m : List (Int × Int)) (j : Nat), match mfind m n j with
      | none => embM m ++ [(.int .i64 n, .int .i64 v)] = embM (mput m n v)
      | some (i, _) => j ≤ i ∧ (embM m).set (i - j) (.int .i64 n, .int .i64 v) = embM (mput m n v) := by
    intro m
    induction m with
    | nil => intro j; rfl
    | cons p m ih =>
      intro j
      obtain ⟨k, w⟩ := p
      simp only [mfind, mput]
      by_cases h : k = n
      · simp [h, embM]
      · simp only [if_neg h]
        have := ih (j + 1)
        split at this
        · rename_i hm
          simp only [embM, List.map_cons, List.cons_append] at this ⊢
          rw [this]
        · rename_i i x hm
          obtain ⟨h1, h2⟩ := this
          refine ⟨by omega, ?_⟩
          rw [show i - j = (i - (j + 1)) + 1 by omega]
          simp only [embM, List.map_cons, List.set_cons_succ] at h2 ⊢
          rw [h2]
  have := key m 0
  split at this
  · rename_i hm; rw [hm]; exact this
  · rename_i i x hm; rw [hm]; exact this.2
theorem mget_put (m : List (Int × Int)) (n v k : Int) : mget (mput m n v) k = if n = k then some v else mget m k := by
  induction m with
  | nil => simp [mput, mget]
  | cons p m ih =>
    obtain ⟨j, w⟩ := p
    simp only [mput]
    by_cases h : j = n
    · subst h; simp only [if_true, mget]; split <;> rfl
    · simp only [if_neg h, mget, ih]
      by_cases h1 : j = k
      · subst h1; simp [Ne.symm h]
      · simp [h1]
theorem embM_bel (m : List (Int × Int)) (b : Nat) : (AObj.map (embM m)).bel b = true := by
  induction m with
  | nil => rfl
  | cons p m ih => simpa [AObj.bel, embM, AV.belL, AV.bel] using ih

section
variable {sz : Nat} {F F' : List AObj} {es es' : List AV} {a a' : AV}
theorem AccOK.setO (h : AccOK sz F es a) {r : Nat} {y x : AObj} (hy : F[r]? = some y) (hn : ∀ m, y ≠ .tok m sz) : AccOK sz (F.set r x) es a := by
  rcases h with h | ⟨q, h1, h2⟩
  · exact .inl h
  · refine .inr ⟨q, h1, ?_⟩
    rw [set_get]; exact h2
    rintro rfl; rw [h2] at hy; exact hn _ (Option.some.inj hy).symm
theorem AccR.setO (h : AccOK sz F es a) (hr : AccR sz F a es' a' F') {r : Nat} {y x : AObj} (hy : F[r]? = some y) (hn : ∀ m, y ≠ .tok m sz) : AccR sz (F.set r x) a es' a' (F'.set r x) := by
  have hl := get_lt hy
  obtain ⟨J, hr⟩ := hr
  rcases h with ⟨rfl, rfl⟩ | ⟨q, rfl, h⟩
  · obtain ⟨h1, h2⟩ := hr
    refine ⟨J, by rw [h1, app_set hl], ?_⟩
    rcases h2 with h2 | ⟨q, h3, h4, h5⟩
    · exact .inl h2
    · exact .inr ⟨q, by simpa using h3, h4, by rw [set_get (by omega)]; exact h5⟩
  · have hne : q ≠ r := by
      rintro rfl; rw [h] at hy; exact hn _ (Option.some.inj hy).symm
    obtain ⟨h1, h2⟩ := hr
    refine ⟨J, h1, ?_⟩
    rw [h2, app_set (by simpa using hl), List.set_comm _ _ hne]
theorem bel_set {b r : Nat} {x : AObj} (hx : x.bel b = true) (h : ∀ y ∈ F.take b, y.bel b = true) : ∀ y ∈ (F.set r x).take b, y.bel b = true := by
  rw [List.take_set]
  intro y hy
  rcases List.mem_or_eq_of_mem_set hy with hy | rfl
  · exact h y hy
  · exact hx
end
end Go.Ab

