/- The drawn places. -/
import Derived.Test.YtfbnbdcjnbgibaaGreatDoorPB5
namespace Go.Proofs.YtfbnbdcjnbgibaaGreatDoorX
open Go
set_option linter.unusedVariables false
theorem places_lp (k : Nat) (code : List Int) (hb : code.length ≤ 1048576) : ∀ (m : Nat) (x i h : Int) (L : List Int), 0 ≤ i → 0 ≤ x → x ≤ 12 → 12 - x ≤ (m : Int) → (L.length : Int) = x → (∀ v ∈ L, 0 ≤ v ∧ v < 10000) → ∃ l, spec_DrawPlaces_l0 k m code x i h L = some l ∧ l.length = 12 ∧ ∀ v ∈ l, 0 ≤ v ∧ v < 10000 := by
  intro m
  induction m with
  | zero =>
    intro x i h L hi hx hx2 hm hL hf
    unfold spec_DrawPlaces_l0 spec_DrawPlaces_s0
    rw [decide_eq_false (by omega)]
    exact ⟨L, rfl, by omega, hf⟩
  | succ m ih =>
    intro x i h L hi hx hx2 hm hL hf
    unfold spec_DrawPlaces_l0 spec_DrawPlaces_s0
    by_cases hlt : x < 12
    · rw [decide_eq_true hlt]
      obtain ⟨a, i', h', e, hi', ha⟩ := l01Below_dr k ⟨code, i, h⟩ 10000 hi hb
      have ha := ha.1 (by decide)
      simp only [cond_true]
      rw [e]
      simp only [Option.bind_some]
      rw [if_pos (by simp [maxRow]; omega), wr_id (n := x + 1) (by omega) (by omega)]
      refine ih (x + 1) i' h' (L ++ [a]) hi' (by omega) (by omega) (by omega) (by simp; omega) ?_
      intro v hv
      rcases List.mem_append.1 hv with hv | hv
      · exact hf v hv
      · rw [List.mem_singleton.1 hv]; exact ha
    · rw [decide_eq_false hlt]
      exact ⟨L, rfl, by omega, hf⟩
theorem DrawPlaces_eq (k : Nat) (hk : 4000 ≤ k) (code : List Int) (hb : code.length ≤ 1048576) : ∃ l, spec_DrawPlaces k code = some l ∧ l.length = 12 ∧ ∀ v ∈ l, 0 ≤ v ∧ v < 10000 := by
  unfold spec_DrawPlaces spec_DrawPlaces_m
  obtain ⟨h, e⟩ := l01New_eq k hk code
  rw [e]
  simp only [Option.bind_some]
  exact places_lp k code hb k 0 0 h [] (Int.le_refl _) (Int.le_refl _) (by decide) (by omega) rfl (by simp)
end Go.Proofs.YtfbnbdcjnbgibaaGreatDoorX
