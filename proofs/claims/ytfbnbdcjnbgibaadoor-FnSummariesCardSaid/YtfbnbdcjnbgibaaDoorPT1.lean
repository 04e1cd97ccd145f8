/- The lines of a bakery. -/
import Derived.Test.YtfbnbdcjnbgibaaDoorPT0
import Derived.Test.YtfbnbdcjnbgibaaDoorPB4
import Derived.Test.YtfbnbdcjnbgibaaDoorPB2
namespace Go.Proofs.YtfbnbdcjnbgibaaDoorX
open Go Go.Proofs
set_option linter.unusedVariables false
theorem spec_l39Line_lp (k : Nat) (hk : 20 ≤ k) (w : List UInt8) (hw : w.length ≤ 100) : ∀ (m : Nat) (B A : List Int), B.length ≤ m → (A ++ B).length ≤ 1000 → (∀ n ∈ A ++ B, Inr n) → spec_l39Line_l0 k m (A ++ B) (bts (lineL w A)) (A.length : Int) = some (bts (lineL w (A ++ B))) := by
  intro m
  induction m with
  | zero =>
    intro B A h1 h2 h3
    have hB : B = [] := List.eq_nil_of_length_eq_zero (by omega)
    subst hB
    unfold spec_l39Line_l0 spec_l39Line_s0
    rw [lt_end, List.append_nil]; rfl
  | succ m ih =>
    intro B A h1 h2 h3
    cases B with
    | nil =>
      unfold spec_l39Line_l0 spec_l39Line_s0
      rw [lt_end, List.append_nil]; rfl
    | cons b B =>
      simp only [List.length_append, List.length_cons] at h1 h2
      have hb := h3 b (by simp)
      have hl := lineL_len w A (fun n hn => h3 n (by simp [hn]))
      have hi := itoa_len hb
      unfold spec_l39Line_l0 spec_l39Line_s0
      rw [lt_mid]
      simp only [cond_true]
      have e32 : (ByteArray.mk #[32]) = bts [32] := rfl
      rw [e32, bts_app, if_pos (by simp only [bts_size, List.length_append, List.length_singleton]; omega), if_pos ((g_mid A b B).mpr trivial), getD_mid, spec_FormatInt_eq k hk b hb]
      simp only [Option.bind_some]
      unfold itoaB
      rw [bts_app, if_pos (by simp only [bts_size, List.length_append, List.length_singleton]; omega), wr_suc A b (by omega), ← lineL_snoc, app_mid A b B]
      exact ih B (A ++ [b]) (by omega) (by simp; omega) (by rw [← app_mid]; exact h3)
theorem spec_l39Line_eq (k : Nat) (hk : 20 ≤ k) (w : List UInt8) (ns : List Int) (hw : w.length ≤ 100) (h1 : ns.length ≤ k) (hl : ns.length ≤ 1000) (hI : ∀ n ∈ ns, Inr n) : spec_l39Line k (bts w) ns = some (bts (lineL w ns)) := by
  have := spec_l39Line_lp k hk w hw k ns [] h1 (by simpa using hl) (by simpa using hI)
  have e : lineL w [] = w := by simp [lineL]
  rw [e] at this
  exact this
def linesB (b : Bakery) : List ByteArray := [bts (lineL [115, 116, 111, 99, 107] b.Stock.Grams), bts (lineL [114, 97, 99, 107] [b.Book.Rack.Fresh, b.Book.Rack.Day, b.Book.Rack.Old]), bts (lineL [98, 111, 111, 107] [b.Book.Baked, b.Book.Sold, b.Book.Thrown]), bts (lineL [109, 111, 110, 101, 121] [b.Money])]
theorem all_in {b : Bakery} (hb : bakeryOk b = true) : b.Stock.Grams.length = 4 ∧ (∀ n ∈ b.Stock.Grams, Inr n) ∧ Inr b.Book.Rack.Fresh ∧ Inr b.Book.Rack.Day ∧ Inr b.Book.Rack.Old ∧ Inr b.Book.Baked ∧ Inr b.Book.Sold ∧ Inr b.Book.Thrown ∧ Inr b.Money := by
  have hm := money_of hb
  simp only [bakeryOk, Bool.and_eq_true] at hb
  have hs := hb.1
  obtain ⟨hl, hr, h2, h3, h4, h5⟩ := book_led b.Book hb.2.2.2.1
  have hr' := (rackOk_iff _).1 hr
  simp only [storeOk, Bool.and_eq_true, decide_eq_true_eq, List.all_eq_true] at hs
  unfold Inr
  refine ⟨hs.2, fun n hn => ?_, ?_⟩
  · have := inR_iff.1 (hs.1 n hn)
    omega
  · omega
theorem impl_FormatBakery_eq (k : Nat) (hk : 30 ≤ k) (b : Bakery) (h1 : b.Stock.Grams.length ≤ k) (h2 : b.Stock.Grams.length ≤ 4194304) (h3 : b.Book.Events.length ≤ k) (h4 : b.Book.Events.length ≤ 4194304) : impl_FormatBakery k b = some (cond (bakeryOk b) (linesB b) []) := by
  unfold impl_FormatBakery
  rw [impl_BakeryOk_eq k (by omega) b h1 h2 h3 h4]
  simp only [Option.bind_some]
  cases hb : bakeryOk b
  · rfl
  obtain ⟨q0, q1, q2, q3, q4, q5, q6, q7, q8⟩ := all_in hb
  simp only [Bool.not_true, cond_false]
  have t1 := impl_told_eq k [115, 116, 111, 99, 107] b.Stock.Grams (by decide) h1 (by omega) q1
  have t2 := impl_told_eq k [114, 97, 99, 107] [b.Book.Rack.Fresh, b.Book.Rack.Day, b.Book.Rack.Old] (by decide) (by simp; omega) (by simp) (by intro n hn; simp only [List.mem_cons, List.not_mem_nil, or_false] at hn; rcases hn with e | e | e <;> rw [e] <;> assumption)
  have t3 := impl_told_eq k [98, 111, 111, 107] [b.Book.Baked, b.Book.Sold, b.Book.Thrown] (by decide) (by simp; omega) (by simp) (by intro n hn; simp only [List.mem_cons, List.not_mem_nil, or_false] at hn; rcases hn with e | e | e <;> rw [e] <;> assumption)
  have t4 := impl_told_eq k [109, 111, 110, 101, 121] [b.Money] (by decide) (by simp; omega) (by simp) (by intro n hn; simp only [List.mem_cons, List.not_mem_nil, or_false] at hn; rw [hn]; assumption)
  show ((impl_told k (bts [115, 116, 111, 99, 107]) b.Stock.Grams).bind fun y2 => (impl_told k (bts [114, 97, 99, 107]) [b.Book.Rack.Fresh, b.Book.Rack.Day, b.Book.Rack.Old]).bind fun y3 => (impl_told k (bts [98, 111, 111, 107]) [b.Book.Baked, b.Book.Sold, b.Book.Thrown]).bind fun y4 => (impl_told k (bts [109, 111, 110, 101, 121]) [b.Money]).bind fun y5 => some [y2, y3, y4, y5]) = _
  rw [t1, t2, t3, t4]; rfl
theorem spec_FormatBakery_eq (k : Nat) (hk : 30 ≤ k) (b : Bakery) (h1 : b.Stock.Grams.length ≤ k) (h2 : b.Stock.Grams.length ≤ 4194304) (h3 : b.Book.Events.length ≤ k) (h4 : b.Book.Events.length ≤ 4194304) : spec_FormatBakery k b = some (cond (bakeryOk b) (linesB b) []) := by
  unfold spec_FormatBakery
  rw [spec_BakeryOk_eq k b h1 h2 h3 h4]
  simp only [Option.bind_some]
  cases hb : bakeryOk b
  · rfl
  obtain ⟨q0, q1, q2, q3, q4, q5, q6, q7, q8⟩ := all_in hb
  simp only [Bool.not_true, cond_false]
  have t1 := spec_l39Line_eq k (by omega) [115, 116, 111, 99, 107] b.Stock.Grams (by decide) h1 (by omega) q1
  have t2 := spec_l39Line_eq k (by omega) [114, 97, 99, 107] [b.Book.Rack.Fresh, b.Book.Rack.Day, b.Book.Rack.Old] (by decide) (by simp; omega) (by simp) (by intro n hn; simp only [List.mem_cons, List.not_mem_nil, or_false] at hn; rcases hn with e | e | e <;> rw [e] <;> assumption)
  have t3 := spec_l39Line_eq k (by omega) [98, 111, 111, 107] [b.Book.Baked, b.Book.Sold, b.Book.Thrown] (by decide) (by simp; omega) (by simp) (by intro n hn; simp only [List.mem_cons, List.not_mem_nil, or_false] at hn; rcases hn with e | e | e <;> rw [e] <;> assumption)
  have t4 := spec_l39Line_eq k (by omega) [109, 111, 110, 101, 121] [b.Money] (by decide) (by simp; omega) (by simp) (by intro n hn; simp only [List.mem_cons, List.not_mem_nil, or_false] at hn; rw [hn]; assumption)
  show ((spec_l39Line k (bts [115, 116, 111, 99, 107]) b.Stock.Grams).bind fun y2 => (spec_l39Line k (bts [114, 97, 99, 107]) [b.Book.Rack.Fresh, b.Book.Rack.Day, b.Book.Rack.Old]).bind fun y3 => (spec_l39Line k (bts [98, 111, 111, 107]) [b.Book.Baked, b.Book.Sold, b.Book.Thrown]).bind fun y4 => (spec_l39Line k (bts [109, 111, 110, 101, 121]) [b.Money]).bind fun y5 => some [y2, y3, y4, y5]) = _
  rw [t1, t2, t3, t4]; rfl
/-! ### Rows of texts, compared and marked -/
theorem eqStringS_lp (k : Nat) : ∀ (m : Nat) (B A : List ByteArray), B.length ≤ m → (A ++ B).length ≤ 4194304 → laws_eqStringS_l0 k m (A ++ B) (A ++ B) (A.length : Int) = some true
  | 0, [], A, _, _ => by simp only [laws_eqStringS_l0, laws_eqStringS_s0, lt_end, cond_false]
  | m + 1, [], A, _, _ => by simp only [laws_eqStringS_l0, laws_eqStringS_s0, lt_end, cond_false]
  | m + 1, b :: B, A, h1, h2 => by
    have ih := eqStringS_lp k m B (A ++ [b]) (by simp at h1; omega) (by simpa using h2)
    simp only [laws_eqStringS_l0, laws_eqStringS_s0, lt_mid, cond_true, g_mid, if_true, getD_mid, decide_true, Bool.not_true, cond_false]
    rw [wr_suc A b (by simp at h2; omega), app_mid A b B, ih]
theorem eqStringS_self (k : Nat) (l : List ByteArray) (h1 : l.length ≤ k) (h2 : l.length ≤ 4194304) : laws_eqStringS k l l = some true := by
  unfold laws_eqStringS laws_eqStringS_m
  simp only [decide_true, Bool.not_true, cond_false]
  exact eqStringS_lp k k l [] h1 (by simpa using h2)
theorem markText_lp (k : Nat) : ∀ (m : Nat) (u : Nat) (s : List UInt8), u ≤ m → u ≤ 1000000 → s.length + u ≤ 1000000 → ∃ t, laws_markText_l0 k m (u : Int) (bts s) = some t := by
  intro m
  induction m with
  | zero =>
    intro u s hu _ hs
    have : u = 0 := by omega
    subst this
    unfold laws_markText_l0 laws_markText_s0
    rw [decide_eq_false (by decide)]
    simp only [cond_false]
    rw [show (ByteArray.mk #[109]) = bts [109] from rfl, if_pos (by simp only [bts_size, List.length_singleton]; omega)]
    exact ⟨_, rfl⟩
  | succ m ih =>
    intro u s hu h6 hs
    unfold laws_markText_l0 laws_markText_s0
    by_cases h0 : 0 < u
    · rw [decide_eq_true (by omega)]
      simp only [cond_true]
      have e2 : Int.tdiv (u : Int) 10 = ((u / 10 : Nat) : Int) := by rw [Int.tdiv_eq_ediv_of_nonneg (by omega)]; omega
      rw [if_pos (by decide), strOf_one, bts_app, if_pos (by simp only [bts_size, List.length_singleton]; omega), if_pos (by decide), e2, wr_id (by omega) (by omega)]
      exact ih (u / 10) _ (by omega) (by omega) (by simp; omega)
    · have : u = 0 := by omega
      subst this
      rw [decide_eq_false (by decide)]
      simp only [cond_false]
      rw [show (ByteArray.mk #[109]) = bts [109] from rfl, if_pos (by simp only [bts_size, List.length_singleton]; omega)]
      exact ⟨_, rfl⟩
theorem markText_eq (k : Nat) (u : Nat) (hk : u ≤ k) (hu : u ≤ 1000000) : ∃ t, laws_markText k (u : Int) = some t := by
  unfold laws_markText laws_markText_m
  by_cases h0 : (u : Int) ≤ 0
  · rw [decide_eq_true h0]; exact ⟨_, rfl⟩
  · rw [decide_eq_false h0]
    exact markText_lp k k u [] hk hu (by simpa using hu)
theorem markStringS_lp (k : Nat) (hk : 1000 ≤ k) : ∀ (m : Nat) (B A : List ByteArray) (q : Nat), B.length ≤ m → (A ++ B).length ≤ 900 → q + B.length ≤ 950 → (∀ (j : Nat) x, A[j]? = some x → laws_markText k (((q + j : Nat) : Int) - (A.length : Int)) = some x) →
    ∃ R, laws_markStringS_l0 k m (q : Int) (A.length : Int) (A ++ B) = some (((q + B.length : Nat) : Int), R) ∧ R.length = (A ++ B).length ∧ ∀ (j : Nat) x, R[j]? = some x → laws_markText k (((q + j : Nat) : Int) - (A.length : Int)) = some x := by
  intro m
  induction m with
  | zero =>
    intro B A q h1 h2 h3 hA
    have hB : B = [] := List.eq_nil_of_length_eq_zero (by omega)
    subst hB
    unfold laws_markStringS_l0 laws_markStringS_s0
    rw [lt_end, List.append_nil]
    exact ⟨A, rfl, rfl, hA⟩
  | succ m ih =>
    intro B A q h1 h2 h3 hA
    cases B with
    | nil =>
      unfold laws_markStringS_l0 laws_markStringS_s0
      rw [lt_end, List.append_nil]
      exact ⟨A, rfl, rfl, hA⟩
    | cons b B =>
      simp only [List.length_append, List.length_cons] at h1 h2 h3
      obtain ⟨t, ht⟩ := markText_eq k q (by omega) (by omega)
      obtain ⟨R, r1, r2, r3⟩ := ih B (A ++ [t]) (q + 1) (by omega) (by simp; omega) (by omega) (by
        intro j x hx
        rw [List.getElem?_append] at hx
        split at hx
        · have := hA j x hx
          have e : (((q + 1 + j : Nat) : Int) - ((A ++ [t]).length : Int)) = ((q + j : Nat) : Int) - (A.length : Int) := by simp; omega
          rw [e]; exact this
        · rename_i hj
          have hj0 : j - A.length = 0 := by
            have := (List.getElem?_eq_some_iff.1 hx).1
            simp at this; omega
          rw [hj0] at hx
          have hxt : t = x := by simpa using hx
          subst hxt
          have e : (((q + 1 + j : Nat) : Int) - ((A ++ [t]).length : Int)) = (q : Int) := by simp; omega
          rw [e]; exact ht)
      unfold laws_markStringS_l0 laws_markStringS_s0
      rw [lt_mid]
      simp only [cond_true]
      rw [ht]
      simp only [Option.bind_some]
      rw [if_pos ((g_mid A b B).mpr trivial), set_mid, wr_id (n := (q : Int) + 1) (by omega) (by omega), wr_suc A t (by omega), app_mid A t B]
      refine ⟨R, ?_, by rw [r2]; simp, fun j x hx => ?_⟩
      · refine Eq.trans ?_ (r1.trans ?_)
        · rfl
        · rw [List.length_cons]; congr 2; omega
      · have := r3 j x hx
        have e : (((q + 1 + j : Nat) : Int) - ((A ++ [t]).length : Int)) = ((q + j : Nat) : Int) - (A.length : Int) := by simp; omega
        rw [e] at this; exact this
theorem heldStringS_lp (k : Nat) (q0 : Nat) (R : List ByteArray) (hR : ∀ (j : Nat) x, R[j]? = some x → laws_markText k ((q0 + j : Nat) : Int) = some x) : ∀ (m : Nat) (B A : List ByteArray), R = A ++ B → B.length ≤ m → q0 + R.length ≤ 950 → laws_heldStringS_l0 k m (A ++ B) ((q0 + A.length : Nat) : Int) (A.length : Int) = some ((q0 + R.length : Nat) : Int) := by
  intro m
  induction m with
  | zero =>
    intro B A e h1 h2
    have hB : B = [] := List.eq_nil_of_length_eq_zero (by omega)
    subst hB
    unfold laws_heldStringS_l0 laws_heldStringS_s0
    rw [lt_end, e, List.append_nil]; rfl
  | succ m ih =>
    intro B A e h1 h2
    cases B with
    | nil =>
      unfold laws_heldStringS_l0 laws_heldStringS_s0
      rw [lt_end, e, List.append_nil]; rfl
    | cons b B =>
      have hl : R.length = A.length + (B.length + 1) := by rw [e]; simp
      simp only [List.length_cons] at h1
      have hb := hR A.length b (by rw [e]; simp)
      unfold laws_heldStringS_l0 laws_heldStringS_s0
      rw [lt_mid]
      simp only [cond_true]
      rw [if_pos ((g_mid A b B).mpr trivial), hb, getD_mid]
      simp only [Option.bind_some, decide_true, Bool.not_true, cond_false]
      rw [wr_id (n := ((q0 + A.length : Nat) : Int) + 1) (by omega) (by omega), wr_suc A b (by omega), app_mid A b B]
      have := ih B (A ++ [b]) (by rw [e]; simp) (by omega) h2
      refine Eq.trans ?_ this
      congr 1
      simp; omega
theorem marked_texts (k : Nat) (hk : 1000 ≤ k) (l : List ByteArray) (hl : l.length ≤ 900) : ∃ R, laws_markStringS k l 1 = some (((1 + l.length : Nat) : Int), R) ∧ laws_heldStringS k R 1 = some ((1 + l.length : Nat) : Int) := by
  obtain ⟨R, r1, r2, r3⟩ := markStringS_lp k hk k l [] 1 (by omega) (by simpa using hl) (by omega) (fun j x hx => by simp at hx)
  refine ⟨R, r1, ?_⟩
  have hR : R.length = l.length := by simpa using r2
  have := heldStringS_lp k 1 R (fun j x hx => by have := r3 j x hx; simpa using this) k R [] rfl (by omega) (by omega)
  rw [hR] at this
  exact this
end Go.Proofs.YtfbnbdcjnbgibaaDoorX
