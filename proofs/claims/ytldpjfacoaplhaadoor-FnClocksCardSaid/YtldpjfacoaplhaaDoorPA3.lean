/- Numbers that are all in a range; a byte of the law's code. -/
import Derived.Test.YtldpjfacoaplhaaDoorPA0
namespace Go.Proofs.YtldpjfacoaplhaaDoorX
open Go
set_option linter.unusedVariables false
theorem allIn_1 (k : Nat) (n a b : Int) : impl_allIn_1 k n a b = some (!inR n a b) := by unfold impl_allIn_1; rw [impl_in_eq]; rfl
theorem idxIn_lp (k : Nat) (a b : Int) : ∀ (m : Nat) (B A : List Int), B.length ≤ m → (A ++ B).length ≤ 1000 → ∃ r, slices_IndexFunc_int_int_51_l0 k m (A ++ B) a b (A.length : Int) = some r ∧ decide (0 ≤ r) = !(B.all fun x => inR x a b) := by
  intro m
  induction m with
  | zero =>
    intro B A h1 h2
    have hB : B = [] := List.eq_nil_of_length_eq_zero (by omega)
    subst hB
    unfold slices_IndexFunc_int_int_51_l0 slices_IndexFunc_int_int_51_s0
    rw [lt_end]; exact ⟨-1, rfl, rfl⟩
  | succ m ih =>
    intro B A h1 h2
    cases B with
    | nil =>
      unfold slices_IndexFunc_int_int_51_l0 slices_IndexFunc_int_int_51_s0
      rw [lt_end]; exact ⟨-1, rfl, rfl⟩
    | cons x B =>
      simp only [List.length_append, List.length_cons] at h1 h2
      unfold slices_IndexFunc_int_int_51_l0 slices_IndexFunc_int_int_51_s0
      rw [lt_mid, if_pos ((g_mid A x B).mpr trivial), getD_mid, allIn_1]
      simp only [cond_true, Option.bind_some]
      cases h : inR x a b with
      | true =>
        simp only [Bool.not_true, cond_false]
        rw [wr_suc A x (by omega), app_mid A x B]
        obtain ⟨r, e1, e2⟩ := ih B (A ++ [x]) (by omega) (by simp; omega)
        exact ⟨r, e1, by rw [e2]; simp [h]⟩
      | false =>
        refine ⟨(A.length : Int), rfl, ?_⟩
        simp [h]
theorem allIn_eq (k : Nat) (l : List Int) (a b : Int) (hk : l.length ≤ k) (hl : l.length ≤ 1000) : impl_allIn k l a b = some (l.all fun x => inR x a b) := by
  obtain ⟨r, e1, e2⟩ := idxIn_lp k a b k l [] hk (by simpa using hl)
  unfold impl_allIn slices_ContainsFunc_int_int_51 slices_IndexFunc_int_int_51 slices_IndexFunc_int_int_51_m
  have e1' : slices_IndexFunc_int_int_51_l0 k k l a b 0 = some r := e1
  rw [e1']
  simp only [Option.bind_some]
  rw [e2, Bool.not_not]
theorem at_in (k : Nat) (code : List Int) (hu : ∀ x ∈ code, 0 ≤ x ∧ x ≤ 255) (hl : code.length ≤ 1048576) (i : Int) (h0 : 0 ≤ i) (h1 : i ≤ 1000) : ∃ v, laws_at k code i = some v ∧ 0 ≤ v ∧ v ≤ 255 := by
  unfold laws_at
  by_cases hn : (code.length : Int) = 0
  · rw [decide_eq_true hn]; exact ⟨0, rfl, by decide⟩
  · rw [decide_eq_false hn]
    simp only [cond_false]
    rw [if_pos hn, wr_id (n := i * 5) (by omega) (by omega), wr_id (n := i * 5 + 1) (by omega) (by omega)]
    have a0 : 0 ≤ Int.tmod (i * 5 + 1) (code.length : Int) := Int.tmod_nonneg _ (by omega)
    have a1 : Int.tmod (i * 5 + 1) (code.length : Int) < code.length := Int.tmod_lt_of_pos _ (by omega)
    rw [if_pos ⟨a0, a1⟩]
    have hx : code.getD (Int.toNat (Int.tmod (i * 5 + 1) (code.length : Int))) 0 ∈ code := by
      rw [List.getD_eq_getElem?_getD, List.getElem?_eq_getElem (by omega)]
      exact List.getElem_mem _
    have := hu _ hx
    exact ⟨_, rfl, by rw [wr_id (by omega) (by omega)]; exact this⟩
end Go.Proofs.YtldpjfacoaplhaaDoorX
