/- What the functions laws.sz, to, eq, mark and held compute. (The file is written by wip/x/lawpure.py of this repository.) -/
import Derived.Test.YtdgkohichikpdaaDoorPL0
import Derived.Test.YtdgkohichikpdaaDoorF1
namespace Go.Proofs.YtdgkohichikpdaaDoorX
open Go
set_option linter.unusedVariables false
theorem laws_szActS_eq (k : Nat) (a : (List Deed)) (left : Int) (h0 : 0 ≤ left) (h1 : left ≤ 1048576) (h2 : a.length ≤ 9223372036854775807) : laws_szActS k a left = some (if left < (a.length : Int) then -1 else left - (a.length : Int)) := by
  unfold laws_szActS
  rw [wr_id (by omega) (by omega)]
  by_cases h : left < (a.length : Int)
  · rw [if_pos h, decide_eq_true (by omega)]; rfl
  · rw [if_neg h, decide_eq_false (by omega)]; rfl
theorem laws_toAct_eq (k : Nat) (a : Deed) : laws_toAct k a = some a := rfl
theorem laws_toActS_lp (k : Nat) : ∀ (m : Nat) (B A : (List Deed)), B.length ≤ m → (A ++ B).length ≤ 4194304 → laws_toActS_l0 k m (A ++ B) (A.length : Int) (A ++ List.replicate B.length dk_impl_Act) = some (A ++ B)
  | 0, [], A, _, _ => by simp only [laws_toActS_l0, laws_toActS_s0, lt_end, cond_false, List.length_nil, List.replicate_zero]
  | m + 1, [], A, _, _ => by simp only [laws_toActS_l0, laws_toActS_s0, lt_end, cond_false, List.length_nil, List.replicate_zero]
  | m + 1, b :: B, A, h1, h2 => by
    have ih := laws_toActS_lp k m B (A ++ [b]) (by simp at h1; omega) (by simpa using h2)
    simp only [laws_toActS_l0, laws_toActS_s0, List.length_cons, List.replicate_succ, lt_mid, cond_true, g_mid, if_true, getD_mid, set_mid, laws_toAct_eq, Option.bind_some]
    rw [wr_suc A b (by simp at h2; omega), app_mid A b B, app_mid A b (List.replicate B.length dk_impl_Act)]
    exact ih
theorem laws_toActS_eq (k : Nat) (a : (List Deed)) (h1 : a.length ≤ k) (h2 : a.length ≤ 4194304) : laws_toActS k a = some a := by
  unfold laws_toActS laws_toActS_m
  rw [if_pos ⟨by omega, by unfold maxRow; omega⟩, Int.toNat_natCast]
  exact laws_toActS_lp k k a [] h1 h2
theorem laws_eqAct_eq (k : Nat) (a : Deed) : laws_eqAct k a a = some true := by
  unfold laws_eqAct
  simp only [decide_true, Bool.not_true, cond_false]
theorem laws_eqActS_lp (k : Nat) : ∀ (m : Nat) (B A : (List Deed)), B.length ≤ m → (A ++ B).length ≤ 4194304 → laws_eqActS_l0 k m (A ++ B) (A ++ B) (A.length : Int) = some true
  | 0, [], A, _, _ => by simp only [laws_eqActS_l0, laws_eqActS_s0, lt_end, cond_false]
  | m + 1, [], A, _, _ => by simp only [laws_eqActS_l0, laws_eqActS_s0, lt_end, cond_false]
  | m + 1, b :: B, A, h1, h2 => by
    have ih := laws_eqActS_lp k m B (A ++ [b]) (by simp at h1; omega) (by simpa using h2)
    simp only [laws_eqActS_l0, laws_eqActS_s0, lt_mid, cond_true, g_mid, if_true, getD_mid, decide_true, Bool.not_true, cond_false, laws_eqAct_eq, Option.bind_some]
    rw [wr_suc A b (by simp at h2; omega), app_mid A b B]
    exact ih
theorem laws_eqActS_eq (k : Nat) (a : (List Deed)) (h1 : a.length ≤ k) (h2 : a.length ≤ 4194304) : laws_eqActS k a a = some true := by
  unfold laws_eqActS laws_eqActS_m
  simp only [decide_true, Bool.not_true, cond_false]
  exact laws_eqActS_lp k k a [] h1 h2
end Go.Proofs.YtdgkohichikpdaaDoorX
