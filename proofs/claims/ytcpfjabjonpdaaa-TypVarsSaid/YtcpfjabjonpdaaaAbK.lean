/- The table of types: checked by computation. No condition. -/
import Derived.Test.YtcpfjabjonpdaaaAbJ
import Derived.KernelRfl
set_option linter.unusedSimpArgs false
namespace Go.Ab

def avEq1 : AV → AV → Bool
  | .int k n, .int k' n' => decide (k = k') && decide (n = n')
  | .bool b, .bool b' => decide (b = b')
  | .str a, .str b => decide (a = b)
  | .nilp, .nilp => true
  | .nilm, .nilm => true
  | .nilf, .nilf => true
  | .sl [] .full, .sl [] .full => true
  | _, _ => false

theorem avEq1_sound {a b : AV} (h : avEq1 a b = true) : a = b := by
  unfold avEq1 at h
  split at h <;> simp_all

def avEqL : List AV → List AV → Bool
  | [], [] => true
  | a :: as, b :: bs => avEq1 a b && avEqL as bs
  | _, _ => false

theorem avEqL_sound : ∀ {as bs : List AV}, avEqL as bs = true → as = bs
  | [], [], _ => rfl
  | a :: as, b :: bs, h => by
    simp only [avEqL, Bool.and_eq_true] at h
    rw [avEq1_sound h.1, avEqL_sound h.2]
  | [], _ :: _, h => by simp [avEqL] at h
  | _ :: _, [], h => by simp [avEqL] at h

def avEq : AV → AV → Bool
  | .agg as, .agg bs => avEqL as bs
  | a, b => avEq1 a b

theorem avEq_sound {a b : AV} (h : avEq a b = true) : a = b := by
  unfold avEq at h
  split at h
  · rw [avEqL_sound h]
  · exact avEq1_sound h

def descCheck : TypeDesc → TD → Bool
  | .struct f, .st fs => decide (f.toList.map (fun x => (x.offset, x.type)) = fs)
  | .array n e, .arr n' e' => n == n' && e == e'
  | .struct _, _ => false
  | .array _ _, _ => false
  | .int k, .int k' => decide (k = k')
  | .bool, .bool => true
  | .string, .str => true
  | .slice e, .sl e' => e == e'
  | .map k e, .map k' e' => k == k' && e == e'
  | .pointer _, .ptr => true
  | _, .other => true
  | _, _ => false

theorem descCheck_sound {d : TypeDesc} {t : TD} (h : descCheck d t = true) : DescOK d t := by
  unfold descCheck at h
  split at h <;> simp_all [DescOK]

def tyCheck (P : Program) (t : Nat) (l : TL) : Bool :=
  match P.info? t, P.underlying t with
  | some i, some d => i.size == l.size && i.bytes == l.bytes && (match i.zero with | some z => valOK z && avEq (ofVal z) l.zero | none => false) && descCheck d l.d && l.zero.solid && (cellsOf l.zero).length == l.size && decide (0 < l.size)
  | _, _ => false

theorem tyCheck_sound {P : Program} {t : Nat} {l : TL} (h : tyCheck P t l = true) : TyOK P t l := by
  unfold tyCheck at h
  split at h
  · rename_i i d hi hd
    simp only [Bool.and_eq_true, beq_iff_eq, decide_eq_true_eq] at h
    obtain ⟨⟨⟨⟨⟨⟨h1, h2⟩, h3⟩, h4⟩, h5⟩, h6⟩, h7⟩ := h
    split at h3
    · rename_i z hz
      simp only [Bool.and_eq_true] at h3
      exact ⟨⟨i, z, hi, h1, h2, hz, h3.1, avEq_sound h3.2⟩, ⟨d, hd, descCheck_sound h4⟩, h5, h6, h7⟩
    · cases h3
  · cases h

def tyOf : List (Nat × TL) → Nat → Option TL
  | [], _ => none
  | (k, l) :: r, t => if t = k then some l else tyOf r t

def tabCheck (P : Program) : List (Nat × TL) → Bool
  | [] => true
  | (k, l) :: r => tyCheck P k l && tabCheck P r

theorem tab_ok {P : Program} : ∀ {tab : List (Nat × TL)}, tabCheck P tab = true → ∀ t l, tyOf tab t = some l → TyOK P t l
  | [], _, t, l, h => by simp [tyOf] at h
  | (k, l') :: r, hc, t, l, h => by
    simp only [tabCheck, Bool.and_eq_true] at hc
    simp only [tyOf] at h
    split at h
    · rename_i hk; subst hk; cases h; exact tyCheck_sound hc.1
    · exact tab_ok hc.2 t l h

theorem upd_eq (e : Nat → AV) (d : Nat) (v : AV) (t : Nat) : upd e d v t = if t = d then v else e t := rfl

theorem obj_loc (e : Nat → AV) (b : Nat) (H L : List AObj) (n k : Nat) : (AState.mk e b H L n).obj (b + k) = L[k]? := by
  unfold AState.obj; rw [if_neg (show ¬ b + k < b by omega), show b + k - b = k by omega]
theorem setObj_loc (e : Nat → AV) (b : Nat) (H L : List AObj) (n k : Nat) (x : AObj) : (AState.mk e b H L n).setObj (b + k) x = AState.mk e b H (L.set k x) n := by
  unfold AState.setObj; rw [if_neg (show ¬ b + k < b by omega), show b + k - b = k by omega]
theorem obj_loc0 (e : Nat → AV) (b : Nat) (H L : List AObj) (n : Nat) : (AState.mk e b H L n).obj b = L[0]? := obj_loc e b H L n 0
theorem setObj_loc0 (e : Nat → AV) (b : Nat) (H L : List AObj) (n : Nat) (x : AObj) : (AState.mk e b H L n).setObj b x = AState.mk e b H (L.set 0 x) n := setObj_loc e b H L n 0 x

end Go.Ab
