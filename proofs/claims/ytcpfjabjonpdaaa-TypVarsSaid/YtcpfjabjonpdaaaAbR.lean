/- Rules for the walks: arguments made plain, slots that are no longer looked at, loops. No condition. -/
import Derived.Test.YtcpfjabjonpdaaaAbQ
set_option linter.unusedSimpArgs false
set_option linter.defProp false
namespace Go.Ab
open Go.RowKit (Below)

section
variable {P : Program} {C : Cfg} {K : Exit → AState → Prop} {k : List KI} {s : AState}

/-- The slots, into which simp does not look but for a slot's value. -/
def frz (e : Nat → AV) : Nat → AV := e
theorem frz_app (e : Nat → AV) (t : Nat) : frz e t = e t := rfl
theorem frz_upd (e : Nat → AV) (d : Nat) (v : AV) : upd (frz e) d v = frz (upd e d v) := rfl
theorem frz_congr (e : Nat → AV) : frz e = frz e := rfl
attribute [congr] frz_congr
theorem initS_frz (args : List AV) (H : List AObj) (n : Nat) : initS args H n = ⟨frz fun t => args.getD t .any, H.length, H, [], n⟩ := rfl
theorem envL_frz (l : List (Nat × AV)) (b : Nat) (H L : List AObj) (n : Nat) : AState.mk (envL l) b H L n = AState.mk (frz (envL l)) b H L n := rfl

theorem goO_congr {ops : Array Oper} {todo : List Oper} {s' : AState} (h : s = s') : GoO P C K ops todo k s = GoO P C K ops todo k s' := by rw [h]
theorem goX_congr {ops : Array Oper} {o : Oper} {todo : List Oper} {s' : AState} (h : s = s') : GoX P C K ops o todo k s = GoX P C K ops o todo k s' := by rw [h]
theorem goCall_congr {f : Nat} {args args' : List AV} {dst : Option Tmp} {ops : Array Oper} {todo : List Oper} {s' : AState} (ha : args = args') (h : s = s') : GoCall P C K f args dst ops todo k s = GoCall P C K f args' dst ops todo k s' := by rw [ha, h]
theorem goG_congr {g g' : Option (Option Tmp × Bool)} {ops : Array Oper} {o : Oper} {todo : List Oper} {s' : AState} (hg : g = g') (h : s = s') : GoG P C K g ops o todo k s = GoG P C K g' ops o todo k s' := by rw [hg, h]
theorem goGb_congr {b b' want : Bool} {ops : Array Oper} {o : Oper} {todo : List Oper} {s' : AState} (hb : b = b') (h : s = s') : GoGb P C K b want ops o todo k s = GoGb P C K b' want ops o todo k s' := by rw [hb, h]
theorem goIf_congr {b b' : Bool} {x y : Code} {s' : AState} (hb : b = b') (h : s = s') : GoIf P C K b x y k s = GoIf P C K b' x y k s' := by rw [hb, h]
theorem go_congr {s' : AState} (h : s = s') : Go P C K k s = Go P C K k s' := by rw [h]
theorem goD_congr {ops : Array Oper} {j j' : Nat} {todo : List Oper} {s' : AState} (hj : j = j') (h : s = s') : GoD P C K ops j todo k s = GoD P C K ops j' todo k s' := by rw [hj, h]
theorem goDX_congr {ops : Array Oper} {j j' : Nat} {o : Oper} {todo : List Oper} {s' : AState} (hj : j = j') (h : s = s') : GoDX P C K ops j o todo k s = GoDX P C K ops j' o todo k s' := by rw [hj, h]
theorem goDCall_congr {f : Nat} {args args' : List AV} {dst : Option Tmp} {ops : Array Oper} {j j' : Nat} {todo : List Oper} {s' : AState} (ha : args = args') (hj : j = j') (h : s = s') : GoDCall P C K f args dst ops j todo k s = GoDCall P C K f args' dst ops j' todo k s' := by rw [ha, hj, h]
theorem goDG_congr {g g' : Option (Option Tmp × Bool)} {ops : Array Oper} {j j' : Nat} {o : Oper} {todo : List Oper} {s' : AState} (hg : g = g') (hj : j = j') (h : s = s') : GoDG P C K g ops j o todo k s = GoDG P C K g' ops j' o todo k s' := by rw [hg, hj, h]
theorem goDGb_congr {b b' want : Bool} {ops : Array Oper} {j j' : Nat} {o : Oper} {todo : List Oper} {s' : AState} (hb : b = b') (hj : j = j') (h : s = s') : GoDGb P C K b want ops j o todo k s = GoDGb P C K b' want ops j' o todo k s' := by rw [hb, hj, h]
attribute [congr] goO_congr goX_congr goCall_congr goG_congr goGb_congr goIf_congr go_congr goD_congr goDX_congr goDCall_congr goDG_congr goDGb_congr

theorem goCall_norm {f : Nat} {args : List AV} {dst : Option Tmp} {ops : Array Oper} {todo : List Oper} (h : GoCall P C K f (AV.normL args) dst ops todo k s) : GoCall P C K f args dst ops todo k s := by
  refine ⟨h.1, fun V w vs h1 h2 h3 h4 h5 => h.2 V w vs h1 h2 h3 (by rw [normL_length]; exact h4) fun i hi => ?_⟩
  rw [normL_length] at hi
  rw [normL_getD]
  exact (h5 i hi).normed

mutual
theorem norm_norm : ∀ a : AV, a.norm.norm = a.norm
  | .any => rfl
  | .int _ _ => rfl
  | .bool _ => rfl
  | .str _ => rfl
  | .nilp => rfl
  | .agg cs => by simp only [AV.norm, normL_normL cs]
  | .tup cs => by simp only [AV.norm, normL_normL cs]
  | .sl es t => by simp only [AV.norm, normL_normL es]
  | .eptr e _ => by simp only [AV.norm, normL_normL e]
  | .bptr _ _ => rfl
  | .ms _ _ _ => rfl
  | .aptr _ _ _ _ _ => rfl
  | .mp _ => rfl
  | .nilm => rfl
  | .fn _ => rfl
  | .nilf => rfl
theorem normL_normL : ∀ l : List AV, AV.normL (AV.normL l) = AV.normL l
  | [] => rfl
  | a :: as => by simp only [AV.normL, norm_norm a, normL_normL as]
end

theorem goDCall_norm {f : Nat} {args : List AV} {dst : Option Tmp} {ops : Array Oper} {j : Nat} {todo : List Oper} (h : GoDCall P C K f (AV.normL args) dst ops j todo k s) : GoDCall P C K f args dst ops j todo k s := by
  obtain ⟨r, as, h1, h2, h3⟩ := h
  refine ⟨r, as, h1, .inr ?_, h3⟩
  rcases h2 with h2 | h2
  · exact h2
  · rw [h2, normL_normL]

/-- Only these slots are still looked at. -/
theorem aloop_trim (ts : List Nat) {b : Code} {Q : Exit → AState → Prop} (h : ALoop P b Q ⟨envL (ts.map fun t => (t, s.env t)), s.b, s.H, s.L, s.n⟩) : ALoop P b Q s := by
  refine ALoop.weak (weak_of rfl rfl rfl rfl fun p hp => ?_) h
  obtain ⟨t, _, rfl⟩ := List.mem_map.1 hp
  exact .inl rfl

/-- A loop: S: the first m slots' and the locals' values, by a parameter; all other slots stay. -/
theorem goLoopS {ι : Type} (m : Nat) (chg : ι → List (Nat × AV)) (Lx : ι → List AObj) (I : ι → Prop) (μ : ι → Nat) {l : List (Nat × AV)} {b n : Nat} {H L : List AObj} {c : Code} (hC : CfgOK P C) (x : ι) (h0 : chg x = l.take m) (hL : Lx x = L) (hx : I x)
    (hok : codeOK n c = true)
    (h : ∀ x, I x → Go P C (cutNormal (Un P C K k) fun s' => ∃ y, I y ∧ μ y < μ x ∧ Weak s' ⟨envL (chg y ++ l.drop m), b, H, Lx y, n⟩) [.code c] ⟨envL (chg x ++ l.drop m), b, H, Lx x, n⟩) :
    ALoop P c (Un P C K k) ⟨envL l, b, H, L, n⟩ := by
  refine goLoop (s := ⟨envL l, b, H, L, n⟩) (fun x => ⟨envL (chg x ++ l.drop m), b, H, Lx x, n⟩) I μ hC x hx ?_ hok h
  rw [h0, hL, List.take_append_drop]
  exact ⟨rfl, rfl, rfl, by simp, fun t => .inr (.inl rfl), .inl rfl⟩

/-- The same, the locals from a number on by the parameter. -/
theorem goLoopP {ι : Type} (m p : Nat) (chg : ι → List (Nat × AV)) (ext : ι → List AObj) (I : ι → Prop) (μ : ι → Nat) {l : List (Nat × AV)} {b n : Nat} {H L : List AObj} {c : Code} (hC : CfgOK P C) (x : ι) (h0 : chg x = l.take m) (hL : ext x = L.drop p) (hx : I x)
    (hok : codeOK n c = true)
    (h : ∀ x, I x → Go P C (cutNormal (Un P C K k) fun s' => ∃ y, I y ∧ μ y < μ x ∧ Weak s' ⟨envL (chg y ++ l.drop m), b, H, L.take p ++ ext y, n⟩) [.code c] ⟨envL (chg x ++ l.drop m), b, H, L.take p ++ ext x, n⟩) :
    ALoop P c (Un P C K k) ⟨envL l, b, H, L, n⟩ :=
  goLoopS m chg (fun y => L.take p ++ ext y) I μ hC x h0 (by rw [hL, List.take_append_drop]) hx hok h

/-- One round. -/
theorem goRound {b : Code} (h : Go P C (cutNormal (Un P C K k) (ALoop P b (Un P C K k))) [.code b] s) (hC : CfgOK P C) (n : Nat) (hn : s.n = n) (hok : codeOK n b = true) : ALoop P b (Un P C K k) s :=
  aloop_round (X_sound hC callK_fn n b hok hn h)

theorem wrap_1 : IntKind.wrap .i64 1 = 1 := by decide
theorem wrap_2 : IntKind.wrap .i64 2 = 2 := by decide
theorem wrap_3 : IntKind.wrap .i64 3 = 3 := by decide
theorem goIf_b {α : Type} [BEq α] {u v : α} {x y : Code} (h : (u == v) = true → Go P C K (.code x :: k) s) (h' : (u == v) = false → Go P C K (.code y :: k) s) : GoIf P C K (u == v) x y k s := goIf_split h h'
theorem goIf_n {α : Type} [BEq α] {u v : α} {x y : Code} (h : (u != v) = true → Go P C K (.code x :: k) s) (h' : (u != v) = false → Go P C K (.code y :: k) s) : GoIf P C K (u != v) x y k s := goIf_split h h'
theorem goIf_d {p : Prop} [Decidable p] {x y : Code} (h : p → Go P C K (.code x :: k) s) (h' : ¬ p → Go P C K (.code y :: k) s) : GoIf P C K (decide p) x y k s := goIf_split (fun e => h (by simpa using e)) (fun e => h' (by simpa using e))
theorem goGb_b {α : Type} [BEq α] {u v : α} {want : Bool} {ops : Array Oper} {o : Oper} {r : List Oper} (h : (u == v) = true → GoGb P C K true want ops o r k s) (h' : (u == v) = false → GoGb P C K false want ops o r k s) : GoGb P C K (u == v) want ops o r k s := goGb_split h h'
theorem goGb_n {α : Type} [BEq α] {u v : α} {want : Bool} {ops : Array Oper} {o : Oper} {r : List Oper} (h : (u != v) = true → GoGb P C K true want ops o r k s) (h' : (u != v) = false → GoGb P C K false want ops o r k s) : GoGb P C K (u != v) want ops o r k s := goGb_split h h'
theorem goGb_d {p : Prop} [Decidable p] {want : Bool} {ops : Array Oper} {o : Oper} {r : List Oper} (h : p → GoGb P C K true want ops o r k s) (h' : ¬ p → GoGb P C K false want ops o r k s) : GoGb P C K (decide p) want ops o r k s := goGb_split (fun e => h (by simpa using e)) (fun e => h' (by simpa using e))
theorem goDGb_b {α : Type} [BEq α] {u v : α} {want : Bool} {ops : Array Oper} {j : Nat} {o : Oper} {r : List Oper} (h : (u == v) = true → GoDGb P C K true want ops j o r k s) (h' : (u == v) = false → GoDGb P C K false want ops j o r k s) : GoDGb P C K (u == v) want ops j o r k s := goDGb_split h h'
theorem goDGb_n {α : Type} [BEq α] {u v : α} {want : Bool} {ops : Array Oper} {j : Nat} {o : Oper} {r : List Oper} (h : (u != v) = true → GoDGb P C K true want ops j o r k s) (h' : (u != v) = false → GoDGb P C K false want ops j o r k s) : GoDGb P C K (u != v) want ops j o r k s := goDGb_split h h'
theorem goDGb_d {p : Prop} [Decidable p] {want : Bool} {ops : Array Oper} {j : Nat} {o : Oper} {r : List Oper} (h : p → GoDGb P C K true want ops j o r k s) (h' : ¬ p → GoDGb P C K false want ops j o r k s) : GoDGb P C K (decide p) want ops j o r k s := goDGb_split (fun e => h (by simpa using e)) (fun e => h' (by simpa using e))

theorem mem_nil_all {α : Type} {p : α → Prop} : (∀ x, x ∈ ([] : List α) → p x) = True := by simp
theorem maxLen_val : maxLen = 9223372036854775807 := rfl
theorem bytesMax_val : bytesMax = 140737488355328 := rfl
theorem app_cons {α : Type} (a : α) (l m : List α) : List.append (a :: l) m = a :: List.append l m := rfl
theorem app_nil {α : Type} (m : List α) : List.append [] m = m := rfl
theorem toList_arr {α : Type} (l : List α) : (List.toArray l).toList = l := rfl
theorem lt_is {i n : Nat} (h : i < n) : (i < n) = True := eq_true h
theorem aresL_c (x t : Nat) (rs : List ResultVar) : aresL C s (.cell x t :: rs) = match C.ty t, cellsAt s (s.env x), aresL C s rs with
    | some l, some (cs, off, c), some (c', vs) => some ((c ∧ (partA l cs off).1) ∧ c', (partA l cs off).2 :: vs)
    | _, _, _ => none := by
  simp only [aresL, ares1]
  cases C.ty t <;> cases cellsAt s (s.env x) <;> cases aresL C s rs <;> rfl

end

def W0d := And.intro @go_nil (And.intro @go_blk (And.intro @go_skip (And.intro @go_seq (And.intro @go_block (And.intro @go_cond (And.intro @go_exit (And.intro @go_ret (And.intro @go_region (And.intro @go_loop (And.intro @goO_nil (And.intro @goO_cons (And.intro @goG_none (And.intro @goG_some (And.intro @goGb_tt (And.intro @goGb_ff (And.intro @goGb_tf (And.intro @goGb_ft (And.intro @goIf_true (And.intro @goIf_false (And.intro @goIf_not (And.intro @cutNormal_normal (And.intro @cutNormal_ret (And.intro @cutNormal_exit (And.intro @goX_call (And.intro @goX_move (And.intro @goX_assign (And.intro @goX_pick (And.intro @goX_alloc (And.intro @goX_box (And.intro @goX_load (And.intro @goX_store (And.intro @goX_nilCheck (And.intro @goX_binOp (And.intro @goX_unOp (And.intro @goX_convert (And.intro @goX_fieldAddr (And.intro @goX_field (And.intro @goX_indexAddr (And.intro @goX_index (And.intro @goX_build (And.intro @goX_buildSlice (And.intro @goX_makeSlice (And.intro @goX_slice (And.intro @goX_extract (And.intro @goX_makeMap (And.intro @goX_lookup (And.intro @goX_mapUpdate (And.intro @goX_builtin (And.intro @un_nil (And.intro @un_exit_code (And.intro @un_exit_blk (And.intro @un_ret_code (And.intro @un_ret_blk (And.intro @un_normal (And.intro @partA_int (And.intro @partA_bool (And.intro @partA_str (And.intro @partA_sl (And.intro @partA_map (And.intro @partA_ptr (And.intro @partA_other (And.intro @partA_st (And.intro @partA_arr (And.intro @initS_frz (And.intro @obj_loc (And.intro @obj_loc0 (And.intro @setObj_loc (And.intro @setObj_loc0 (And.intro @envL_nil (And.intro @cellsOf_agg (And.intro @cellsOf_int (And.intro @cellsOf_bool (And.intro @cellsOf_str (And.intro @cellsOf_sl (And.intro @cellsOf_ms (And.intro @cellsOf_bptr (And.intro @cellsOf_mp (And.intro @cellsOf_nilp (And.intro @cellsOf_nilm (And.intro @cellsOf_fn (And.intro @solid_agg (And.intro @solid_int (And.intro @solid_bool (And.intro @solid_str (And.intro @solid_sl (And.intro @solid_ms (And.intro @solid_bptr (And.intro @solid_mp (And.intro @solid_nilp (And.intro @solid_fn (And.intro @one_int (And.intro @one_bool (And.intro @one_str (And.intro @one_sl (And.intro @one_ms (And.intro @one_bptr (And.intro @one_mp (And.intro @one_nilp (And.intro @one_fn (And.intro @Option.map_none.{0, 0} (And.intro @Option.map_some.{0, 0} (And.intro @Option.bind_some.{0, 0} (And.intro @true_and (And.intro @and_true (And.intro @List.getD_cons_zero.{0} (And.intro @List.getD_cons_succ.{0} (And.intro @Bool.false_eq_true (And.intro @List.length_nil.{0} (And.intro @List.length_cons.{0} (And.intro @Nat.add_zero (And.intro @List.nil_append.{0} (And.intro @List.cons_append.{0} (And.intro @List.getElem?_cons_zero.{0} (And.intro @List.getElem?_cons_succ.{0} (And.intro @Nat.zero_add (And.intro @Nat.lt_add_one (And.intro @Nat.zero_lt_succ (And.intro @List.map_nil.{0, 0} (And.intro @List.map_cons.{0, 0} (And.intro @List.getElem?_toArray.{0} (And.intro @List.all_cons.{0} (And.intro @List.all_nil.{0} (And.intro @Bool.and_self (And.intro @Bool.and_true (And.intro @Bool.true_and (And.intro @List.set_cons_zero.{0} (And.intro @List.set_cons_succ.{0} (And.intro @List.take_succ_cons.{0} (And.intro @List.take_zero.{0} (And.intro @List.drop_zero.{0} (And.intro @List.drop_succ_cons.{0} (And.intro @List.take_nil.{0} (And.intro @Nat.le_refl (And.intro @decide_true (And.intro @decide_false (And.intro @Bool.not_true (And.intro @Bool.not_false (And.intro @Nat.succ_ne_self (And.intro @lt_off (And.intro @nn (And.intro @Int.toNat_natCast (And.intro @false_implies (And.intro @Int.ofNat_lt (And.intro @List.length_map.{0, 0} (And.intro @app_cons (And.intro @app_nil (And.intro @toList_arr (And.intro @Nat.lt_irrefl (And.intro @beq_self_eq_true.{0} (And.intro @Bool.false_and (And.intro @Bool.and_false (And.intro @List.forall_mem_cons.{0} (And.intro @mem_nil_all (And.intro @Option.isSome_some.{0} (And.intro @List.replicate_zero.{0} (And.intro @List.not_mem_nil.{0} (And.intro @List.mem_cons.{0} (And.intro @or_false (And.intro @List.headD_cons.{0} (And.intro @goD_nil (And.intro @goD_cons (And.intro @goDG_none (And.intro @goDG_some (And.intro @goDGb_tt (And.intro @goDGb_ff (And.intro @goDGb_tf (And.intro @goDGb_ft (And.intro @nxt_pos (And.intro @goDX_call (And.intro @goDX_alloc (And.intro @goDX_box (And.intro @goDX_assign (And.intro @goDX_binOp (And.intro @goDX_build (And.intro @goDX_buildSlice (And.intro @goDX_builtin (And.intro @goDX_convert (And.intro @goDX_extract (And.intro @goDX_field (And.intro @goDX_fieldAddr (And.intro @goDX_index (And.intro @goDX_indexAddr (And.intro @goDX_load (And.intro @goDX_lookup (And.intro @goDX_makeMap (And.intro @goDX_makeSlice (And.intro @goDX_mapUpdate (And.intro @goDX_move (And.intro @goDX_nilCheck (And.intro @goDX_pick (And.intro @goDX_slice (And.intro @goDX_store (And.intro @goDX_unOp (And.intro @List.replicate_succ.{0} (And.intro @List.append_nil.{0} (And.intro @Nat.le_add_right (And.intro @aresL_nil (And.intro @aresL_tmp (And.intro @aresL_c (And.intro @tupOf_one (And.intro @tupOf_two (And.intro @tupOf_three (And.intro @tupOf_four (And.intro @frz_app (And.intro @frz_upd (And.intro @envL_frz (And.intro @AV.int.injEq (And.intro @AV.bool.injEq (And.intro @AV.tup.injEq (And.intro @AV.agg.injEq (And.intro @AV.sl.injEq (And.intro @List.cons.injEq.{0} (And.intro @maxLen_val (And.intro @bytesMax_val (@List.length_range)))))))))))))))))))))))))))))))))))))))))))))))))))))))))))))))))))))))))))))))))))))))))))))))))))))))))))))))))))))))))))))))))))))))))))))))))))))))))))))))))))))))))))))))))))))))))))))))))))))))))))))))))))))))
theorem W0 : type_of% W0d := W0d

def W3d := And.intro @wrap_1 (And.intro @wrap_2 (And.intro @wrap_3 (And.intro @Int.zero_add (And.intro @Int.natCast_zero (And.intro @Int.natCast_one (And.intro @Int.cast_ofNat_Int (And.intro @Int.toNat_zero (And.intro @Int.toNat_one (And.intro @Nat.lt_irrefl (And.intro @Int.lt_irrefl (And.intro @true_or (And.intro @or_true (And.intro @and_false (And.intro @false_and (@false_or)))))))))))))))
theorem W3 : type_of% W3d := W3d

end Go.Ab
