/- The law of the clocks, on the plain side: times and lengths are read back as they were written, and the ways round the clock add up. -/
import Derived.Test.YtldpjfacoaplhaaDoorTold
import Derived.Test.YtldpjfacoaplhaaDoorPT4
import Derived.Test.YtldpjfacoaplhaaDoorPA3
namespace Go.Proofs.YtldpjfacoaplhaaDoorX.Pure
open Go Go.Proofs
set_option linter.unusedVariables false
def mt (a b : Int) : Int := Int.tmod (b - a + 1440) 1440
theorem mt_is {a b : Int} (ha : 0 ≤ a ∧ a ≤ 1275) (hb : 0 ≤ b ∧ b ≤ 1275) : mt a b = if b < a then b - a + 1440 else b - a := by
  unfold mt
  rw [Int.tmod_eq_emod_of_nonneg (by omega)]
  split <;> omega
theorem minutesTo_eq (k : Nat) {a b : Int} (ha : 0 ≤ a ∧ a ≤ 1275) (hb : 0 ≤ b ∧ b ≤ 1275) : impl_MinutesTo k a b = some (mt a b) := by
  unfold impl_MinutesTo
  rw [impl_in_eq, impl_in_eq, inR_iff.2 ⟨by omega, by omega⟩, inR_iff.2 ⟨by omega, by omega⟩]
  simp only [Option.bind_some, Bool.not_true, cond_false]
  rw [if_pos (by decide), wr_id (n := b - a) (by omega) (by omega), wr_id (by omega) (by omega)]; rfl
theorem isBetween_eq (k : Nat) (hk : 3 ≤ k) {u a b : Int} (hu : 0 ≤ u ∧ u ≤ 1275) (ha : 0 ≤ a ∧ a ≤ 1275) (hb : 0 ≤ b ∧ b ≤ 1275) : impl_IsBetween k u a b = some (decide (mt a u < mt a b)) := by
  unfold impl_IsBetween
  rw [allIn_eq k [u, a, b] 0 1439 hk (by simp)]
  have : ([u, a, b].all fun x => inR x 0 1439) = true := by
    simp only [List.all_cons, List.all_nil, Bool.and_true, inR_iff.2 (show (0 : Int) ≤ u ∧ u ≤ 1439 by omega), inR_iff.2 (show (0 : Int) ≤ a ∧ a ≤ 1439 by omega), inR_iff.2 (show (0 : Int) ≤ b ∧ b ≤ 1439 by omega)]
  rw [this, minutesTo_eq k ha hu, minutesTo_eq k ha hb]; rfl
theorem short_time : RT (ByteArray.mk #[55, 58, 53]) = (0, false) := by
  rcases RT_cases (ByteArray.mk #[55, 58, 53]) with e | ⟨u, hu, e, _⟩
  · exact e
  · have e2 : ([55, 58, 53] : List UInt8) = timeL u := bts_inj e
    have hl := dec_len (u / 60) (by omega)
    have := congrArg List.length e2
    simp only [timeL, padL, List.length_append, List.length_cons, List.length_nil] at this
    omega
theorem long_length : RL [55, 48, 109] = (0, false) := by
  have c : RL [55, 48, 109] = (0, false) ∨ ∃ u : Nat, u ≤ 100000 ∧ bts [55, 48, 109] = bts (lenL u) ∧ RL [55, 48, 109] = ((u : Int), true) := finL_cases _ _
  rcases c with e | ⟨u, hu, e, _⟩
  · exact e
  · have e2 := bts_inj e
    unfold lenL at e2
    split at e2
    · rename_i h
      have e3 : ([55, 48] : List UInt8) ++ [109] = Lib.decDigits u ++ [109] := e2
      have e4 := List.append_cancel_right e3
      have hv := (dec_facts 5 u (by omega)).2.1
      rw [← e4] at hv
      have : valF 0 [55, 48] = 70 := rfl
      omega
    · exfalso
      have hm : (104 : UInt8) ∈ ([55, 48, 109] : List UInt8) := by
        rw [e2]
        split <;> simp
      revert hm; decide
theorem text_307 : TT 307 = ByteArray.mk #[53, 58, 48, 55] := by
  have : timeL 307 = [53, 58, 48, 55] := by
    unfold timeL
    rw [show 307 / 60 = 5 from rfl, Lib.decDigits_one (by decide)]; rfl
  show (if (0 : Int) ≤ 307 ∧ (307 : Int) ≤ 1439 then bts (timeL (Int.toNat 307)) else bts []) = _
  rw [if_pos (by decide), show Int.toNat 307 = 307 from rfl, this]; rfl
theorem text_125 : LT 125 = ByteArray.mk #[50, 104, 32, 53, 109] := by
  have : lenL 125 = [50, 104, 32, 53, 109] := by
    unfold lenL
    rw [if_neg (by decide), if_neg (by decide), show 125 / 60 = 2 from rfl, show 125 % 60 = 5 from rfl, Lib.decDigits_one (by decide), Lib.decDigits_one (by decide)]; rfl
  show (if (0 : Int) ≤ 125 ∧ (125 : Int) ≤ 100000 then bts (lenL (Int.toNat 125)) else bts []) = _
  rw [if_pos (by decide), show Int.toNat 125 = 125 from rfl, this]; rfl
theorem text_0 : LT 0 = ByteArray.mk #[48, 109] := by
  have : lenL 0 = [48, 109] := by
    unfold lenL
    rw [if_pos (by decide), Lib.decDigits_one (by decide)]; rfl
  show (if (0 : Int) ≤ 0 ∧ (0 : Int) ≤ 100000 then bts (lenL (Int.toNat 0)) else bts []) = _
  rw [if_pos (by decide), show Int.toNat 0 = 0 from rfl, this]; rfl
theorem clocks (k : Nat) (hk : 1048600 ≤ k) (code : List Int) (hu : ∀ x ∈ code, 0 ≤ x ∧ x ≤ 255) (hl : code.length ≤ 1048576) : laws_FnClocks k code = some true := by
  obtain ⟨v0, e0, a0⟩ := at_in k code hu hl 0 (by decide) (by decide)
  obtain ⟨v1, e1, a1⟩ := at_in k code hu hl 1 (by decide) (by decide)
  obtain ⟨v2, e2, a2⟩ := at_in k code hu hl 2 (by decide) (by decide)
  obtain ⟨w, hw⟩ : ∃ w : Nat, v0 * 5 = (w : Int) := ⟨(v0 * 5).toNat, by omega⟩
  have hm : 0 ≤ v0 * 5 ∧ v0 * 5 ≤ 1275 := by omega
  have ht : 0 ≤ v1 * 5 ∧ v1 * 5 ≤ 1275 := by omega
  have hq : 0 ≤ v2 * 5 ∧ v2 * 5 ≤ 1275 := by omega
  have b1 : impl_TimeText k (v0 * 5) = some (bts (timeL w)) := by rw [impl_TimeText_eq, hw, TT_nat w (by omega)]
  have b2 : impl_ReadTime k (bts (timeL w)) = some ((w : Int), true) := by
    have hs : (bts (timeL w)).size ≤ 1048576 := by
      have hl := dec_len (w / 60) (by omega)
      rw [bts_size]; simp only [timeL, padL, List.length_append, List.length_cons, List.length_nil]; omega
    rw [impl_ReadTime_eq k _ hs, RT_hit w (by omega)]
  have hw7 : v0 * 5 * 7 = ((w * 7 : Nat) : Int) := by omega
  have b3 : impl_LengthText k (v0 * 5 * 7) = some (bts (lenL (w * 7))) := by rw [impl_LengthText_eq, hw7, LT_nat _ (by omega)]
  have b4 : impl_ReadLength k (bts (lenL (w * 7))) = some (((w * 7 : Nat) : Int), true) := by
    have hs : (lenL (w * 7)).length ≤ 1048576 := by
      have l1 := dec_len (w * 7) (by omega)
      have l2 := dec_len (w * 7 / 60) (by omega)
      have l3 := dec_len (w * 7 % 60) (by omega)
      unfold lenL
      split
      · simp only [List.length_append, List.length_cons, List.length_nil]; omega
      · split <;> simp only [List.length_append, List.length_cons, List.length_nil] <;> omega
    rw [impl_ReadLength_eq k hk _ hs, RL_hit _ (by omega)]
  have b5 : impl_ReadTime k (ByteArray.mk #[55, 58, 53]) = some (0, false) := by rw [impl_ReadTime_eq k _ (by decide), short_time]
  have b6 : impl_ReadLength k (ByteArray.mk #[55, 48, 109]) = some (0, false) := by
    have := impl_ReadLength_eq k hk [55, 48, 109] (by decide)
    rw [long_length] at this
    exact this
  have x1 := mt_is hm ht
  have x2 := mt_is ht hm
  have x3 := mt_is hm hm
  have j0 : laws_FnClocks_j0 k v0 v1 (mt (v0 * 5) (v1 * 5)) (0, false) (0, false) v2 = some true := by
    unfold laws_FnClocks_j0
    have r1 : 0 ≤ mt (v0 * 5) (v1 * 5) ∧ mt (v0 * 5) (v1 * 5) < 1440 := by rw [x1]; split <;> omega
    have r2 : Int.tmod (v0 * 5 + mt (v0 * 5) (v1 * 5)) 1440 = v1 * 5 := by
      rw [Int.tmod_eq_emod_of_nonneg (by omega), x1]
      split <;> omega
    rw [wr_id (n := v0 * 5) (by omega) (by omega), wr_id (n := v1 * 5) (by omega) (by omega), wr_id (n := v2 * 5) (by omega) (by omega), wr_id (n := v0 * 5 + _) (by omega) (by omega), if_pos (by decide), r2, decide_eq_true (rfl : v1 * 5 = v1 * 5)]
    simp only [Bool.not_false, cond_true]
    rw [isBetween_eq k (by omega) hq hm ht, minutesTo_eq k hm hq, isBetween_eq k (by omega) ht hm ht, impl_TimeText_eq, impl_LengthText_eq, impl_LengthText_eq, text_307, text_125, text_0]
    simp
  unfold laws_FnClocks laws_big
  rw [decide_eq_false (show ¬ (1048576 : Int) < (code.length : Int) by omega)]
  simp only [Option.bind_some, cond_false]
  rw [e0, e1, e2]
  simp only [Option.bind_some]
  rw [wr_id (n := v0 * 5) (by omega) (by omega), wr_id (n := v1 * 5) (by omega) (by omega), wr_id (n := v0 * 5 * 7) (by omega) (by omega), b1]
  simp only [Option.bind_some]
  rw [b2, b3]
  simp only [Option.bind_some]
  rw [b4, b5, b6, minutesTo_eq k hm ht, minutesTo_eq k ht hm]
  simp only [Option.bind_some, cond_true]
  rw [← hw7, ← hw, decide_eq_true (rfl : v0 * 5 = v0 * 5), decide_eq_true (rfl : v0 * 5 * 7 = v0 * 5 * 7), j0]
  have r1 : 0 ≤ mt (v0 * 5) (v1 * 5) ∧ mt (v0 * 5) (v1 * 5) < 1440 := by rw [x1]; split <;> omega
  have r2 : 0 ≤ mt (v1 * 5) (v0 * 5) ∧ mt (v1 * 5) (v0 * 5) < 1440 := by rw [x2]; split <;> omega
  rw [decide_eq_true r1.1, decide_eq_true r1.2, wr_id (by omega) (by omega)]
  simp only [cond_true]
  by_cases h : v0 * 5 = v1 * 5
  · have z1 : mt (v0 * 5) (v1 * 5) = 0 := by rw [x1, if_neg (by omega)]; omega
    have z2 : mt (v1 * 5) (v0 * 5) = 0 := by rw [x2, if_neg (by omega)]; omega
    rw [z1, z2, decide_eq_true h]; rfl
  · have z : mt (v0 * 5) (v1 * 5) + mt (v1 * 5) (v0 * 5) = 1440 := by
      rw [x1, x2]
      by_cases q : v1 * 5 < v0 * 5
      · rw [if_pos q, if_neg (by omega)]; omega
      · rw [if_neg q, if_pos (by omega)]; omega
    rw [z]; rfl
theorem FnClocks (y0 : (List Int)) (h0 : (OkL U8) y0) : ∃ k, laws_FnClocks k y0 = some true := by
  obtain ⟨k, hk⟩ : ∃ k, 1048600 ≤ k := ⟨_, Nat.le_refl _⟩
  refine ⟨k, ?_⟩
  by_cases hb : (1048576 : Int) < (y0.length : Int)
  · unfold laws_FnClocks laws_big
    rw [decide_eq_true hb]; rfl
  · exact clocks k hk y0 h0.2 (by omega)
end Go.Proofs.YtldpjfacoaplhaaDoorX.Pure
