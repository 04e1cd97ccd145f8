/- Texts: numerals, and a word with numbers behind it. -/
import Derived.Test.YtdgkohichikpdaaDoorPA0
import Derived.Lib.ItoaLen
import Derived.Lib.Join
namespace Go.Proofs.YtdgkohichikpdaaDoorX
open Go Go.Proofs
set_option linter.unusedVariables false
def bts (l : List UInt8) : ByteArray := ⟨l.toArray⟩
theorem bts_app (a b : List UInt8) : bts a ++ bts b = bts (a ++ b) := by
  apply ByteArray.ext
  simp [bts]
theorem bts_size (a : List UInt8) : (bts a).size = a.length := by simp [bts, ByteArray.size]
theorem bts_data (b : ByteArray) : bts b.data.toList = b := by
  apply ByteArray.ext
  simp [bts]
theorem strOf_one (x : Int) : strOf [x] = bts [UInt8.ofNat x.toNat] := rfl
def itoaB (n : Int) : ByteArray := bts (Lib.itoa n)
def Inr (n : Int) : Prop := 0 ≤ n ∧ n ≤ 9223372036854775807
theorem itoa_len {n : Int} (h : Inr n) : (Lib.itoa n).length ≤ 21 := Lib.itoa_length_le n (by have := h.1; omega) h.2
theorem strconv_Itoa_eq (k : Nat) (n : Int) (h : Inr n) : strconv_Itoa k n = some (itoaB n) := by
  unfold strconv_Itoa
  rw [if_pos ⟨by have := h.1; omega, h.2⟩]; rfl
theorem impl_FormatInt_eq (k : Nat) (n : Int) (h : Inr n) : impl_FormatInt k n = some (itoaB n) := by
  unfold impl_FormatInt
  rw [strconv_Itoa_eq k n h]; rfl
def digs (u : Nat) : List UInt8 := if u = 0 then [] else Lib.decDigits u
theorem digs_step (u : Nat) (h : 0 < u) : digs u = digs (u / 10) ++ [UInt8.ofNat (48 + u % 10)] := by
  unfold digs
  rw [if_neg (by omega)]
  by_cases h10 : u < 10
  · rw [if_pos (by omega), Lib.decDigits_one h10, Nat.mod_eq_of_lt h10]; rfl
  · rw [if_neg (by omega)]
    rw [Lib.decDigits, dif_neg h10]
theorem figure_eq (k : Nat) (x : Nat) (h : x < 10) : spec_l01Figure k (x : Int) = some ((48 + x : Nat) : Int) := by
  unfold spec_l01Figure
  rw [decide_eq_true (by omega), wr_id (n := 48 + (x : Int)) (by omega) (by omega)]
  have : x = 0 ∨ x = 1 ∨ x = 2 ∨ x = 3 ∨ x = 4 ∨ x = 5 ∨ x = 6 ∨ x = 7 ∨ x = 8 ∨ x = 9 := by omega
  rcases this with h | h | h | h | h | h | h | h | h | h <;> subst h <;> rfl
theorem formatInt_lp (k : Nat) (n : Int) (hn : 0 ≤ n) : ∀ (m : Nat) (u : Nat) (s : List UInt8), u < 10 ^ m → u ≤ 9223372036854775807 → s.length + (digs u).length ≤ 1000 → spec_FormatInt_l0 k m n (u : Int) (bts s) = some (bts (digs u ++ s)) := by
  intro m
  induction m with
  | zero =>
    intro u s hu _ hs
    have : u = 0 := by simp at hu; omega
    subst this
    unfold spec_FormatInt_l0 spec_FormatInt_s0
    rw [decide_eq_false (p := n < 0) (by omega)]; rfl
  | succ m ih =>
    intro u s hu h63 hs
    unfold spec_FormatInt_l0 spec_FormatInt_s0
    by_cases h0 : u = 0
    · subst h0
      rw [decide_eq_false (p := n < 0) (by omega)]; rfl
    · rw [decide_eq_false (p := (u : Int) = 0) (by omega)]
      simp only [Bool.not_false, cond_true]
      have e1 : Int.tmod (u : Int) 10 = ((u % 10 : Nat) : Int) := by rw [Int.tmod_eq_emod_of_nonneg (by omega)]; omega
      have e2 : Int.tdiv (u : Int) 10 = ((u / 10 : Nat) : Int) := by rw [Int.tdiv_eq_ediv_of_nonneg (by omega)]; omega
      rw [if_pos (by decide), e1, e2, decide_eq_false (by omega), figure_eq k (u % 10) (by omega)]
      simp only [cond_false, Option.bind_some]
      have hl : (digs u).length = (digs (u / 10)).length + 1 := by rw [digs_step u (by omega)]; simp
      rw [strOf_one, bts_app, if_pos (by rw [bts_size, bts_size]; simp; omega), if_pos (by decide), wr_id (by omega) (by omega)]
      have hd : u / 10 < 10 ^ m := Nat.div_lt_of_lt_mul (by rw [Nat.pow_succ] at hu; omega)
      have := ih (u / 10) (UInt8.ofNat (48 + u % 10) :: s) hd (by omega) (by simp; omega)
      refine Eq.trans ?_ (this.trans ?_)
      · rfl
      · rw [digs_step u (by omega)]; simp
theorem spec_FormatInt_eq (k : Nat) (hk : 20 ≤ k) (n : Int) (h : Inr n) : spec_FormatInt k n = some (itoaB n) := by
  unfold spec_FormatInt spec_FormatInt_m
  obtain ⟨u, rfl⟩ : ∃ u : Nat, n = u := ⟨n.toNat, by have := h.1; omega⟩
  have hu := h.2
  by_cases h0 : u = 0
  · subst h0
    have : itoaB ((0 : Nat) : Int) = bts [48] := by unfold itoaB Lib.itoa; rw [if_neg (by decide)]; show bts (Lib.decDigits 0) = _; rw [Lib.decDigits_one (by decide)]; rfl
    rw [this]; rfl
  · rw [decide_eq_false (by omega)]
    simp only [cond_false]
    have hp : u < 10 ^ k := Nat.lt_of_lt_of_le (show u < 10 ^ 20 by omega) (Nat.pow_le_pow_right (by decide) hk)
    have hdl : (digs u).length ≤ 21 := by
      have := itoa_len h
      unfold Lib.itoa at this
      rw [if_neg (by omega)] at this
      unfold digs
      rw [if_neg h0]
      simpa using this
    have := formatInt_lp k u (by omega) k u [] hp (by omega) (by simp; omega)
    refine this.trans ?_
    unfold itoaB Lib.itoa digs
    rw [if_neg h0, if_neg (by omega)]; simp
/-! ### A word with numbers behind it -/
def lineL (w : List UInt8) (ns : List Int) : List UInt8 := w ++ (ns.map fun n => 32 :: Lib.itoa n).flatten
theorem lineL_snoc (w : List UInt8) (A : List Int) (b : Int) : lineL w (A ++ [b]) = lineL w A ++ [32] ++ Lib.itoa b := by simp [lineL]
theorem lineL_len (w : List UInt8) : ∀ (ns : List Int), (∀ n ∈ ns, Inr n) → (lineL w ns).length ≤ w.length + 22 * ns.length := by
  intro ns h
  have : ∀ ns : List Int, (∀ n ∈ ns, Inr n) → ((ns.map fun n => 32 :: Lib.itoa n).flatten).length ≤ 22 * ns.length := by
    intro ns
    induction ns with
    | nil => intro _; simp
    | cons a r ih =>
      intro h
      have h1 := itoa_len (h a (by simp))
      have h2 := ih (fun n hn => h n (by simp [hn]))
      simp only [List.map_cons, List.flatten_cons, List.length_append, List.length_cons]
      omega
  have := this ns h
  simp only [lineL, List.length_append]
  omega
theorem join_line (w : List UInt8) (A : List Int) : Lib.join ((bts w :: A.map itoaB).map (·.data.toList)) [32] = lineL w A := by
  rw [List.map_cons, Lib.join_cons]
  unfold lineL Lib.joinTail
  congr 1
  · simp [List.map_map, Function.comp_def, itoaB, bts]
theorem told_lp (k : Nat) (w : List UInt8) (hw : w.length ≤ 100) : ∀ (m : Nat) (B A : List Int), B.length ≤ m → (A ++ B).length ≤ 1000 → (∀ n ∈ A ++ B, Inr n) → impl_told_l0 k m (A ++ B) (A.length : Int) (bts w :: A.map itoaB) = some (bts (lineL w (A ++ B))) := by
  have fin : ∀ A : List Int, A.length ≤ 1000 → (∀ n ∈ A, Inr n) → ((strings_Join k (bts w :: A.map itoaB) (ByteArray.mk #[32])).bind fun y4 => some y4.1) = some (bts (lineL w A)) := by
    intro A hA hI
    have hl := lineL_len w A hI
    have e := join_line w A
    unfold strings_Join
    have e' : Lib.join ((bts w :: A.map itoaB).map (·.data.toList)) (ByteArray.mk #[32]).data.toList = lineL w A := e
    rw [e', if_pos ⟨by simp; omega, by omega⟩]
    rfl
  intro m
  induction m with
  | zero =>
    intro B A h1 h2 h3
    have hB : B = [] := List.eq_nil_of_length_eq_zero (by omega)
    subst hB
    unfold impl_told_l0 impl_told_s0
    rw [lt_end]
    simp only [cond_false]
    rw [List.append_nil]
    exact fin A (by simpa using h2) (by simpa using h3)
  | succ m ih =>
    intro B A h1 h2 h3
    cases B with
    | nil =>
      unfold impl_told_l0 impl_told_s0
      rw [lt_end]
      simp only [cond_false]
      rw [List.append_nil]
      exact fin A (by simpa using h2) (by simpa using h3)
    | cons b B =>
      simp only [List.length_append, List.length_cons] at h1 h2
      unfold impl_told_l0 impl_told_s0
      rw [lt_mid, if_pos ((g_mid A b B).mpr trivial), getD_mid, impl_FormatInt_eq k b (h3 b (by simp)), wr_suc A b (by omega)]
      simp only [cond_true, Option.bind_some]
      rw [if_pos (by simp [maxRow]; omega), app_mid A b B]
      have := ih B (A ++ [b]) (by omega) (by simp; omega) (by rw [← app_mid]; exact h3)
      rw [List.map_append] at this
      exact this
theorem impl_told_eq (k : Nat) (w : List UInt8) (ns : List Int) (hw : w.length ≤ 100) (hk : ns.length ≤ k) (hl : ns.length ≤ 1000) (hI : ∀ n ∈ ns, Inr n) : impl_told k (bts w) ns = some (bts (lineL w ns)) := by
  have := told_lp k w hw k ns [] hk (by simpa using hl) (by simpa using hI)
  exact this
end Go.Proofs.YtdgkohichikpdaaDoorX
