/- Texts: numerals, and a word with numbers behind it. The lines of a bakery. Numbers read back: what both programs take for a number, and its value. Texts cut at a byte. The words of a line: as the program's library parts them and as the reference's loop does. Acts in words: the words of an act, and which act they tell. Acts written: what both programs write for an act. Acts read: what both programs take a line's words for. Acts read: the words of a line are taken for the same act by both. Scripts: which acts their lines tell, as both programs read them. Scripts: what comes of their acts. -/
import Derived.Test.YtlenacakmmikiaaGreatDoorPB
import Derived.Lib.ItoaLen
import Derived.Lib.Join
import Derived.Lib.ItoaMem
import Derived.Lib.Split
import Derived.Lib.FieldsP
import Derived.Laws.RangeString
namespace Go.Proofs.YtlenacakmmikiaaGreatDoorX
open Go Go.Proofs
set_option linter.unusedVariables false
def bts (l : List UInt8) : ByteArray := ⟨l.toArray⟩
theorem bts_app (a b : List UInt8) : bts a ++ bts b = bts (a ++ b) := by
  apply ByteArray.ext
  simp [bts]
theorem bts_size (a : List UInt8) : (bts a).size = a.length := by simp [bts, ByteArray.size]
theorem bts_data (b : ByteArray) : bts b.data.toList = b := by
  apply ByteArray.ext
  simp [bts]
theorem strOf_one (x : Int) : strOf [x] = bts [UInt8.ofNat x.toNat] := rfl
def itoaB (n : Int) : ByteArray := bts (Lib.itoa n)
def Inr (n : Int) : Prop := 0 ≤ n ∧ n ≤ 9223372036854775807
theorem itoa_len {n : Int} (h : Inr n) : (Lib.itoa n).length ≤ 21 := Lib.itoa_length_le n (by have := h.1; omega) h.2
theorem strconv_Itoa_eq (k : Nat) (n : Int) (h : Inr n) : strconv_Itoa k n = some (itoaB n) := by
  unfold strconv_Itoa
  rw [if_pos ⟨by have := h.1; omega, h.2⟩]; rfl
theorem impl_FormatInt_eq (k : Nat) (n : Int) (h : Inr n) : impl_FormatInt k n = some (itoaB n) := by
  unfold impl_FormatInt
  rw [strconv_Itoa_eq k n h]; rfl
def digs (u : Nat) : List UInt8 := if u = 0 then [] else Lib.decDigits u
theorem digs_step (u : Nat) (h : 0 < u) : digs u = digs (u / 10) ++ [UInt8.ofNat (48 + u % 10)] := by
  unfold digs
  rw [if_neg (by omega)]
  by_cases h10 : u < 10
  · rw [if_pos (by omega), Lib.decDigits_one h10, Nat.mod_eq_of_lt h10]; rfl
  · rw [if_neg (by omega)]
    rw [Lib.decDigits, dif_neg h10]
theorem figure_eq (k : Nat) (x : Nat) (h : x < 10) : spec_l01Figure k (x : Int) = some ((48 + x : Nat) : Int) := by
  unfold spec_l01Figure
  rw [decide_eq_true (by omega), wr_id (n := 48 + (x : Int)) (by omega) (by omega)]
  have : x = 0 ∨ x = 1 ∨ x = 2 ∨ x = 3 ∨ x = 4 ∨ x = 5 ∨ x = 6 ∨ x = 7 ∨ x = 8 ∨ x = 9 := by omega
  rcases this with h | h | h | h | h | h | h | h | h | h <;> subst h <;> rfl
theorem formatInt_lp (k : Nat) (n : Int) (hn : 0 ≤ n) : ∀ (m : Nat) (u : Nat) (s : List UInt8), u < 10 ^ m → u ≤ 9223372036854775807 → s.length + (digs u).length ≤ 1000 → spec_FormatInt_l0 k m n (u : Int) (bts s) = some (bts (digs u ++ s)) := by
  intro m
  induction m with
  | zero =>
    intro u s hu _ hs
    have : u = 0 := by simp at hu; omega
    subst this
    unfold spec_FormatInt_l0 spec_FormatInt_s0
    rw [decide_eq_false (p := n < 0) (by omega)]; rfl
  | succ m ih =>
    intro u s hu h63 hs
    unfold spec_FormatInt_l0 spec_FormatInt_s0
    by_cases h0 : u = 0
    · subst h0
      rw [decide_eq_false (p := n < 0) (by omega)]; rfl
    · rw [decide_eq_false (p := (u : Int) = 0) (by omega)]
      simp only [Bool.not_false, cond_true]
      have e1 : Int.tmod (u : Int) 10 = ((u % 10 : Nat) : Int) := by rw [Int.tmod_eq_emod_of_nonneg (by omega)]; omega
      have e2 : Int.tdiv (u : Int) 10 = ((u / 10 : Nat) : Int) := by rw [Int.tdiv_eq_ediv_of_nonneg (by omega)]; omega
      rw [if_pos (by decide), e1, e2, decide_eq_false (by omega), figure_eq k (u % 10) (by omega)]
      simp only [cond_false, Option.bind_some]
      have hl : (digs u).length = (digs (u / 10)).length + 1 := by rw [digs_step u (by omega)]; simp
      rw [strOf_one, bts_app, if_pos (by rw [bts_size, bts_size]; simp; omega), if_pos (by decide), wr_id (by omega) (by omega)]
      have hd : u / 10 < 10 ^ m := Nat.div_lt_of_lt_mul (by rw [Nat.pow_succ] at hu; omega)
      have := ih (u / 10) (UInt8.ofNat (48 + u % 10) :: s) hd (by omega) (by simp; omega)
      refine Eq.trans ?_ (this.trans ?_)
      · rfl
      · rw [digs_step u (by omega)]; simp
theorem spec_FormatInt_eq (k : Nat) (hk : 20 ≤ k) (n : Int) (h : Inr n) : spec_FormatInt k n = some (itoaB n) := by
  unfold spec_FormatInt spec_FormatInt_m
  obtain ⟨u, rfl⟩ : ∃ u : Nat, n = u := ⟨n.toNat, by have := h.1; omega⟩
  have hu := h.2
  by_cases h0 : u = 0
  · subst h0
    have : itoaB ((0 : Nat) : Int) = bts [48] := by unfold itoaB Lib.itoa; rw [if_neg (by decide)]; show bts (Lib.decDigits 0) = _; rw [Lib.decDigits_one (by decide)]; rfl
    rw [this]; rfl
  · rw [decide_eq_false (by omega)]
    simp only [cond_false]
    have hp : u < 10 ^ k := Nat.lt_of_lt_of_le (show u < 10 ^ 20 by omega) (Nat.pow_le_pow_right (by decide) hk)
    have hdl : (digs u).length ≤ 21 := by
      have := itoa_len h
      unfold Lib.itoa at this
      rw [if_neg (by omega)] at this
      unfold digs
      rw [if_neg h0]
      simpa using this
    have := formatInt_lp k u (by omega) k u [] hp (by omega) (by simp; omega)
    refine this.trans ?_
    unfold itoaB Lib.itoa digs
    rw [if_neg h0, if_neg (by omega)]; simp
/-! ### A word with numbers behind it -/
def lineL (w : List UInt8) (ns : List Int) : List UInt8 := w ++ (ns.map fun n => 32 :: Lib.itoa n).flatten
theorem lineL_snoc (w : List UInt8) (A : List Int) (b : Int) : lineL w (A ++ [b]) = lineL w A ++ [32] ++ Lib.itoa b := by simp [lineL]
theorem lineL_len (w : List UInt8) : ∀ (ns : List Int), (∀ n ∈ ns, Inr n) → (lineL w ns).length ≤ w.length + 22 * ns.length := by
  intro ns h
  have : ∀ ns : List Int, (∀ n ∈ ns, Inr n) → ((ns.map fun n => 32 :: Lib.itoa n).flatten).length ≤ 22 * ns.length := by
    intro ns
    induction ns with
    | nil => intro _; simp
    | cons a r ih =>
      intro h
      have h1 := itoa_len (h a (by simp))
      have h2 := ih (fun n hn => h n (by simp [hn]))
      simp only [List.map_cons, List.flatten_cons, List.length_append, List.length_cons]
      omega
  have := this ns h
  simp only [lineL, List.length_append]
  omega
theorem join_line (w : List UInt8) (A : List Int) : Lib.join ((bts w :: A.map itoaB).map (·.data.toList)) [32] = lineL w A := by
  rw [List.map_cons, Lib.join_cons]
  unfold lineL Lib.joinTail
  congr 1
  · simp [List.map_map, Function.comp_def, itoaB, bts]
theorem told_lp (k : Nat) (w : List UInt8) (hw : w.length ≤ 100) : ∀ (m : Nat) (B A : List Int), B.length ≤ m → (A ++ B).length ≤ 1000 → (∀ n ∈ A ++ B, Inr n) → impl_told_l0 k m (A ++ B) (A.length : Int) (bts w :: A.map itoaB) = some (bts (lineL w (A ++ B))) := by
  have fin : ∀ A : List Int, A.length ≤ 1000 → (∀ n ∈ A, Inr n) → ((strings_Join k (bts w :: A.map itoaB) (ByteArray.mk #[32])).bind fun y4 => some y4.1) = some (bts (lineL w A)) := by
    intro A hA hI
    have hl := lineL_len w A hI
    have e := join_line w A
    unfold strings_Join
    have e' : Lib.join ((bts w :: A.map itoaB).map (·.data.toList)) (ByteArray.mk #[32]).data.toList = lineL w A := e
    rw [e', if_pos ⟨by simp; omega, by omega⟩]
    rfl
  intro m
  induction m with
  | zero =>
    intro B A h1 h2 h3
    have hB : B = [] := List.eq_nil_of_length_eq_zero (by omega)
    subst hB
    unfold impl_told_l0 impl_told_s0
    rw [lt_end]
    simp only [cond_false]
    rw [List.append_nil]
    exact fin A (by simpa using h2) (by simpa using h3)
  | succ m ih =>
    intro B A h1 h2 h3
    cases B with
    | nil =>
      unfold impl_told_l0 impl_told_s0
      rw [lt_end]
      simp only [cond_false]
      rw [List.append_nil]
      exact fin A (by simpa using h2) (by simpa using h3)
    | cons b B =>
      simp only [List.length_append, List.length_cons] at h1 h2
      unfold impl_told_l0 impl_told_s0
      rw [lt_mid, if_pos ((g_mid A b B).mpr trivial), getD_mid, impl_FormatInt_eq k b (h3 b (by simp)), wr_suc A b (by omega)]
      simp only [cond_true, Option.bind_some]
      rw [if_pos (by simp [maxRow]; omega), app_mid A b B]
      have := ih B (A ++ [b]) (by omega) (by simp; omega) (by rw [← app_mid]; exact h3)
      rw [List.map_append] at this
      exact this
theorem impl_told_eq (k : Nat) (w : List UInt8) (ns : List Int) (hw : w.length ≤ 100) (hk : ns.length ≤ k) (hl : ns.length ≤ 1000) (hI : ∀ n ∈ ns, Inr n) : impl_told k (bts w) ns = some (bts (lineL w ns)) := by
  have := told_lp k w hw k ns [] hk (by simpa using hl) (by simpa using hI)
  exact this
end Go.Proofs.YtlenacakmmikiaaGreatDoorX
namespace Go.Proofs.YtlenacakmmikiaaGreatDoorX
open Go Go.Proofs
set_option linter.unusedVariables false
theorem spec_l39Line_lp (k : Nat) (hk : 20 ≤ k) (w : List UInt8) (hw : w.length ≤ 100) : ∀ (m : Nat) (B A : List Int), B.length ≤ m → (A ++ B).length ≤ 1000 → (∀ n ∈ A ++ B, Inr n) → spec_l39Line_l0 k m (A ++ B) (bts (lineL w A)) (A.length : Int) = some (bts (lineL w (A ++ B))) := by
  intro m
  induction m with
  | zero =>
    intro B A h1 h2 h3
    have hB : B = [] := List.eq_nil_of_length_eq_zero (by omega)
    subst hB
    unfold spec_l39Line_l0 spec_l39Line_s0
    rw [lt_end, List.append_nil]; rfl
  | succ m ih =>
    intro B A h1 h2 h3
    cases B with
    | nil =>
      unfold spec_l39Line_l0 spec_l39Line_s0
      rw [lt_end, List.append_nil]; rfl
    | cons b B =>
      simp only [List.length_append, List.length_cons] at h1 h2
      have hb := h3 b (by simp)
      have hl := lineL_len w A (fun n hn => h3 n (by simp [hn]))
      have hi := itoa_len hb
      unfold spec_l39Line_l0 spec_l39Line_s0
      rw [lt_mid]
      simp only [cond_true]
      have e32 : (ByteArray.mk #[32]) = bts [32] := rfl
      rw [e32, bts_app, if_pos (by simp only [bts_size, List.length_append, List.length_singleton]; omega), if_pos ((g_mid A b B).mpr trivial), getD_mid, spec_FormatInt_eq k hk b hb]
      simp only [Option.bind_some]
      unfold itoaB
      rw [bts_app, if_pos (by simp only [bts_size, List.length_append, List.length_singleton]; omega), wr_suc A b (by omega), ← lineL_snoc, app_mid A b B]
      exact ih B (A ++ [b]) (by omega) (by simp; omega) (by rw [← app_mid]; exact h3)
theorem spec_l39Line_eq (k : Nat) (hk : 20 ≤ k) (w : List UInt8) (ns : List Int) (hw : w.length ≤ 100) (h1 : ns.length ≤ k) (hl : ns.length ≤ 1000) (hI : ∀ n ∈ ns, Inr n) : spec_l39Line k (bts w) ns = some (bts (lineL w ns)) := by
  have := spec_l39Line_lp k hk w hw k ns [] h1 (by simpa using hl) (by simpa using hI)
  have e : lineL w [] = w := by simp [lineL]
  rw [e] at this
  exact this
def linesB (b : Bakery) : List ByteArray := [bts (lineL [115, 116, 111, 99, 107] b.Stock.Grams), bts (lineL [114, 97, 99, 107] [b.Book.Rack.Fresh, b.Book.Rack.Day, b.Book.Rack.Old]), bts (lineL [98, 111, 111, 107] [b.Book.Baked, b.Book.Sold, b.Book.Thrown]), bts (lineL [109, 111, 110, 101, 121] [b.Money])]
theorem all_in {b : Bakery} (hb : bakeryOk b = true) : b.Stock.Grams.length = 4 ∧ (∀ n ∈ b.Stock.Grams, Inr n) ∧ Inr b.Book.Rack.Fresh ∧ Inr b.Book.Rack.Day ∧ Inr b.Book.Rack.Old ∧ Inr b.Book.Baked ∧ Inr b.Book.Sold ∧ Inr b.Book.Thrown ∧ Inr b.Money := by
  have hm := money_of hb
  simp only [bakeryOk, Bool.and_eq_true] at hb
  have hs := hb.1
  obtain ⟨hl, hr, h2, h3, h4, h5⟩ := book_led b.Book hb.2.2.2.1
  have hr' := (rackOk_iff _).1 hr
  simp only [storeOk, Bool.and_eq_true, decide_eq_true_eq, List.all_eq_true] at hs
  unfold Inr
  refine ⟨hs.2, fun n hn => ?_, ?_⟩
  · have := inR_iff.1 (hs.1 n hn)
    omega
  · omega
theorem impl_FormatBakery_eq (k : Nat) (hk : 30 ≤ k) (b : Bakery) (h1 : b.Stock.Grams.length ≤ k) (h2 : b.Stock.Grams.length ≤ 4194304) (h3 : b.Book.Events.length ≤ k) (h4 : b.Book.Events.length ≤ 4194304) : impl_FormatBakery k b = some (cond (bakeryOk b) (linesB b) []) := by
  unfold impl_FormatBakery
  rw [impl_BakeryOk_eq k (by omega) b h1 h2 h3 h4]
  simp only [Option.bind_some]
  cases hb : bakeryOk b
  · rfl
  obtain ⟨q0, q1, q2, q3, q4, q5, q6, q7, q8⟩ := all_in hb
  simp only [Bool.not_true, cond_false]
  have t1 := impl_told_eq k [115, 116, 111, 99, 107] b.Stock.Grams (by decide) h1 (by omega) q1
  have t2 := impl_told_eq k [114, 97, 99, 107] [b.Book.Rack.Fresh, b.Book.Rack.Day, b.Book.Rack.Old] (by decide) (by simp; omega) (by simp) (by intro n hn; simp only [List.mem_cons, List.not_mem_nil, or_false] at hn; rcases hn with e | e | e <;> rw [e] <;> assumption)
  have t3 := impl_told_eq k [98, 111, 111, 107] [b.Book.Baked, b.Book.Sold, b.Book.Thrown] (by decide) (by simp; omega) (by simp) (by intro n hn; simp only [List.mem_cons, List.not_mem_nil, or_false] at hn; rcases hn with e | e | e <;> rw [e] <;> assumption)
  have t4 := impl_told_eq k [109, 111, 110, 101, 121] [b.Money] (by decide) (by simp; omega) (by simp) (by intro n hn; simp only [List.mem_cons, List.not_mem_nil, or_false] at hn; rw [hn]; assumption)
  show ((impl_told k (bts [115, 116, 111, 99, 107]) b.Stock.Grams).bind fun y2 => (impl_told k (bts [114, 97, 99, 107]) [b.Book.Rack.Fresh, b.Book.Rack.Day, b.Book.Rack.Old]).bind fun y3 => (impl_told k (bts [98, 111, 111, 107]) [b.Book.Baked, b.Book.Sold, b.Book.Thrown]).bind fun y4 => (impl_told k (bts [109, 111, 110, 101, 121]) [b.Money]).bind fun y5 => some [y2, y3, y4, y5]) = _
  rw [t1, t2, t3, t4]; rfl
theorem spec_FormatBakery_eq (k : Nat) (hk : 30 ≤ k) (b : Bakery) (h1 : b.Stock.Grams.length ≤ k) (h2 : b.Stock.Grams.length ≤ 4194304) (h3 : b.Book.Events.length ≤ k) (h4 : b.Book.Events.length ≤ 4194304) : spec_FormatBakery k b = some (cond (bakeryOk b) (linesB b) []) := by
  unfold spec_FormatBakery
  rw [spec_BakeryOk_eq k b h1 h2 h3 h4]
  simp only [Option.bind_some]
  cases hb : bakeryOk b
  · rfl
  obtain ⟨q0, q1, q2, q3, q4, q5, q6, q7, q8⟩ := all_in hb
  simp only [Bool.not_true, cond_false]
  have t1 := spec_l39Line_eq k (by omega) [115, 116, 111, 99, 107] b.Stock.Grams (by decide) h1 (by omega) q1
  have t2 := spec_l39Line_eq k (by omega) [114, 97, 99, 107] [b.Book.Rack.Fresh, b.Book.Rack.Day, b.Book.Rack.Old] (by decide) (by simp; omega) (by simp) (by intro n hn; simp only [List.mem_cons, List.not_mem_nil, or_false] at hn; rcases hn with e | e | e <;> rw [e] <;> assumption)
  have t3 := spec_l39Line_eq k (by omega) [98, 111, 111, 107] [b.Book.Baked, b.Book.Sold, b.Book.Thrown] (by decide) (by simp; omega) (by simp) (by intro n hn; simp only [List.mem_cons, List.not_mem_nil, or_false] at hn; rcases hn with e | e | e <;> rw [e] <;> assumption)
  have t4 := spec_l39Line_eq k (by omega) [109, 111, 110, 101, 121] [b.Money] (by decide) (by simp; omega) (by simp) (by intro n hn; simp only [List.mem_cons, List.not_mem_nil, or_false] at hn; rw [hn]; assumption)
  show ((spec_l39Line k (bts [115, 116, 111, 99, 107]) b.Stock.Grams).bind fun y2 => (spec_l39Line k (bts [114, 97, 99, 107]) [b.Book.Rack.Fresh, b.Book.Rack.Day, b.Book.Rack.Old]).bind fun y3 => (spec_l39Line k (bts [98, 111, 111, 107]) [b.Book.Baked, b.Book.Sold, b.Book.Thrown]).bind fun y4 => (spec_l39Line k (bts [109, 111, 110, 101, 121]) [b.Money]).bind fun y5 => some [y2, y3, y4, y5]) = _
  rw [t1, t2, t3, t4]; rfl
/-! ### Rows of texts, compared and marked -/
theorem eqStringS_lp (k : Nat) : ∀ (m : Nat) (B A : List ByteArray), B.length ≤ m → (A ++ B).length ≤ 4194304 → laws_eqStringS_l0 k m (A ++ B) (A ++ B) (A.length : Int) = some true
  | 0, [], A, _, _ => by simp only [laws_eqStringS_l0, laws_eqStringS_s0, lt_end, cond_false]
  | m + 1, [], A, _, _ => by simp only [laws_eqStringS_l0, laws_eqStringS_s0, lt_end, cond_false]
  | m + 1, b :: B, A, h1, h2 => by
    have ih := eqStringS_lp k m B (A ++ [b]) (by simp at h1; omega) (by simpa using h2)
    simp only [laws_eqStringS_l0, laws_eqStringS_s0, lt_mid, cond_true, g_mid, if_true, getD_mid, decide_true, Bool.not_true, cond_false]
    rw [wr_suc A b (by simp at h2; omega), app_mid A b B, ih]
theorem eqStringS_self (k : Nat) (l : List ByteArray) (h1 : l.length ≤ k) (h2 : l.length ≤ 4194304) : laws_eqStringS k l l = some true := by
  unfold laws_eqStringS laws_eqStringS_m
  simp only [decide_true, Bool.not_true, cond_false]
  exact eqStringS_lp k k l [] h1 (by simpa using h2)
theorem markText_lp (k : Nat) : ∀ (m : Nat) (u : Nat) (s : List UInt8), u ≤ m → u ≤ 1000000 → s.length + u ≤ 1000000 → ∃ t, laws_markText_l0 k m (u : Int) (bts s) = some t := by
  intro m
  induction m with
  | zero =>
    intro u s hu _ hs
    have : u = 0 := by omega
    subst this
    unfold laws_markText_l0 laws_markText_s0
    rw [decide_eq_false (by decide)]
    simp only [cond_false]
    rw [show (ByteArray.mk #[109]) = bts [109] from rfl, if_pos (by simp only [bts_size, List.length_singleton]; omega)]
    exact ⟨_, rfl⟩
  | succ m ih =>
    intro u s hu h6 hs
    unfold laws_markText_l0 laws_markText_s0
    by_cases h0 : 0 < u
    · rw [decide_eq_true (by omega)]
      simp only [cond_true]
      have e2 : Int.tdiv (u : Int) 10 = ((u / 10 : Nat) : Int) := by rw [Int.tdiv_eq_ediv_of_nonneg (by omega)]; omega
      rw [if_pos (by decide), strOf_one, bts_app, if_pos (by simp only [bts_size, List.length_singleton]; omega), if_pos (by decide), e2, wr_id (by omega) (by omega)]
      exact ih (u / 10) _ (by omega) (by omega) (by simp; omega)
    · have : u = 0 := by omega
      subst this
      rw [decide_eq_false (by decide)]
      simp only [cond_false]
      rw [show (ByteArray.mk #[109]) = bts [109] from rfl, if_pos (by simp only [bts_size, List.length_singleton]; omega)]
      exact ⟨_, rfl⟩
theorem markText_eq (k : Nat) (u : Nat) (hk : u ≤ k) (hu : u ≤ 1000000) : ∃ t, laws_markText k (u : Int) = some t := by
  unfold laws_markText laws_markText_m
  by_cases h0 : (u : Int) ≤ 0
  · rw [decide_eq_true h0]; exact ⟨_, rfl⟩
  · rw [decide_eq_false h0]
    exact markText_lp k k u [] hk hu (by simpa using hu)
theorem markStringS_lp (k : Nat) (hk : 1000 ≤ k) : ∀ (m : Nat) (B A : List ByteArray) (q : Nat), B.length ≤ m → (A ++ B).length ≤ 900 → q + B.length ≤ 950 → (∀ (j : Nat) x, A[j]? = some x → laws_markText k (((q + j : Nat) : Int) - (A.length : Int)) = some x) →
    ∃ R, laws_markStringS_l0 k m (q : Int) (A.length : Int) (A ++ B) = some (((q + B.length : Nat) : Int), R) ∧ R.length = (A ++ B).length ∧ ∀ (j : Nat) x, R[j]? = some x → laws_markText k (((q + j : Nat) : Int) - (A.length : Int)) = some x := by
  intro m
  induction m with
  | zero =>
    intro B A q h1 h2 h3 hA
    have hB : B = [] := List.eq_nil_of_length_eq_zero (by omega)
    subst hB
    unfold laws_markStringS_l0 laws_markStringS_s0
    rw [lt_end, List.append_nil]
    exact ⟨A, rfl, rfl, hA⟩
  | succ m ih =>
    intro B A q h1 h2 h3 hA
    cases B with
    | nil =>
      unfold laws_markStringS_l0 laws_markStringS_s0
      rw [lt_end, List.append_nil]
      exact ⟨A, rfl, rfl, hA⟩
    | cons b B =>
      simp only [List.length_append, List.length_cons] at h1 h2 h3
      obtain ⟨t, ht⟩ := markText_eq k q (by omega) (by omega)
      obtain ⟨R, r1, r2, r3⟩ := ih B (A ++ [t]) (q + 1) (by omega) (by simp; omega) (by omega) (by
        intro j x hx
        rw [List.getElem?_append] at hx
        split at hx
        · have := hA j x hx
          have e : (((q + 1 + j : Nat) : Int) - ((A ++ [t]).length : Int)) = ((q + j : Nat) : Int) - (A.length : Int) := by simp; omega
          rw [e]; exact this
        · rename_i hj
          have hj0 : j - A.length = 0 := by
            have := (List.getElem?_eq_some_iff.1 hx).1
            simp at this; omega
          rw [hj0] at hx
          have hxt : t = x := by simpa using hx
          subst hxt
          have e : (((q + 1 + j : Nat) : Int) - ((A ++ [t]).length : Int)) = (q : Int) := by simp; omega
          rw [e]; exact ht)
      unfold laws_markStringS_l0 laws_markStringS_s0
      rw [lt_mid]
      simp only [cond_true]
      rw [ht]
      simp only [Option.bind_some]
      rw [if_pos ((g_mid A b B).mpr trivial), set_mid, wr_id (n := (q : Int) + 1) (by omega) (by omega), wr_suc A t (by omega), app_mid A t B]
      refine ⟨R, ?_, by rw [r2]; simp, fun j x hx => ?_⟩
      · refine Eq.trans ?_ (r1.trans ?_)
        · rfl
        · rw [List.length_cons]; congr 2; omega
      · have := r3 j x hx
        have e : (((q + 1 + j : Nat) : Int) - ((A ++ [t]).length : Int)) = ((q + j : Nat) : Int) - (A.length : Int) := by simp; omega
        rw [e] at this; exact this
theorem heldStringS_lp (k : Nat) (q0 : Nat) (R : List ByteArray) (hR : ∀ (j : Nat) x, R[j]? = some x → laws_markText k ((q0 + j : Nat) : Int) = some x) : ∀ (m : Nat) (B A : List ByteArray), R = A ++ B → B.length ≤ m → q0 + R.length ≤ 950 → laws_heldStringS_l0 k m (A ++ B) ((q0 + A.length : Nat) : Int) (A.length : Int) = some ((q0 + R.length : Nat) : Int) := by
  intro m
  induction m with
  | zero =>
    intro B A e h1 h2
    have hB : B = [] := List.eq_nil_of_length_eq_zero (by omega)
    subst hB
    unfold laws_heldStringS_l0 laws_heldStringS_s0
    rw [lt_end, e, List.append_nil]; rfl
  | succ m ih =>
    intro B A e h1 h2
    cases B with
    | nil =>
      unfold laws_heldStringS_l0 laws_heldStringS_s0
      rw [lt_end, e, List.append_nil]; rfl
    | cons b B =>
      have hl : R.length = A.length + (B.length + 1) := by rw [e]; simp
      simp only [List.length_cons] at h1
      have hb := hR A.length b (by rw [e]; simp)
      unfold laws_heldStringS_l0 laws_heldStringS_s0
      rw [lt_mid]
      simp only [cond_true]
      rw [if_pos ((g_mid A b B).mpr trivial), hb, getD_mid]
      simp only [Option.bind_some, decide_true, Bool.not_true, cond_false]
      rw [wr_id (n := ((q0 + A.length : Nat) : Int) + 1) (by omega) (by omega), wr_suc A b (by omega), app_mid A b B]
      have := ih B (A ++ [b]) (by rw [e]; simp) (by omega) h2
      refine Eq.trans ?_ this
      congr 1
      simp; omega
theorem marked_texts (k : Nat) (hk : 1000 ≤ k) (l : List ByteArray) (hl : l.length ≤ 900) : ∃ R, laws_markStringS k l 1 = some (((1 + l.length : Nat) : Int), R) ∧ laws_heldStringS k R 1 = some ((1 + l.length : Nat) : Int) := by
  obtain ⟨R, r1, r2, r3⟩ := markStringS_lp k hk k l [] 1 (by omega) (by simpa using hl) (by omega) (fun j x hx => by simp at hx)
  refine ⟨R, r1, ?_⟩
  have hR : R.length = l.length := by simpa using r2
  have := heldStringS_lp k 1 R (fun j x hx => by have := r3 j x hx; simpa using this) k R [] rfl (by omega) (by omega)
  rw [hR] at this
  exact this
end Go.Proofs.YtlenacakmmikiaaGreatDoorX
namespace Go.Proofs.YtlenacakmmikiaaGreatDoorX
open Go Go.Proofs
set_option linter.unusedVariables false
theorem byteAt_bts (A : List UInt8) (b : UInt8) (B : List UInt8) : byteAt (bts (A ++ b :: B)) (Int.toNat (A.length : Int)) = (b.toNat : Int) := by
  have hlt : A.length < (bts (A ++ b :: B)).size := by rw [bts_size]; simp
  have e : Int.toNat (A.length : Int) = A.length := by simp
  unfold byteAt
  rw [e, getElem?_pos (bts (A ++ b :: B)) A.length hlt]
  show (((bts (A ++ b :: B))[A.length]).toNat : Int) = _
  rw [ByteArray.getElem_eq_getElem_data]
  simp [bts]
/-- A byte that is a figure. -/
def Dig (b : UInt8) : Prop := 48 ≤ b.toNat ∧ b.toNat ≤ 57
instance (b : UInt8) : Decidable (Dig b) := by unfold Dig; infer_instance
def valF (n : Nat) (l : List UInt8) : Nat := l.foldl (fun n b => 10 * n + (b.toNat - 48)) n
theorem valF_app (n : Nat) (a b : List UInt8) : valF n (a ++ b) = valF (valF n a) b := by simp [valF]
theorem dig_of (x : Nat) (h : x < 10) : (UInt8.ofNat (48 + x)).toNat = 48 + x := by simp; omega
theorem decDigits_step (u : Nat) (h : ¬ u < 10) : Lib.decDigits u = Lib.decDigits (u / 10) ++ [UInt8.ofNat (48 + u % 10)] := by rw [Lib.decDigits, dif_neg h]
theorem dec_facts : ∀ (m u : Nat), u < 10 ^ m → (∀ b ∈ Lib.decDigits u, Dig b) ∧ valF 0 (Lib.decDigits u) = u ∧ (Lib.decDigits u).length ≤ max m 1 ∧ 1 ≤ (Lib.decDigits u).length := by
  intro m
  induction m with
  | zero =>
    intro u hu
    have : u = 0 := by simp at hu; omega
    subst this
    rw [Lib.decDigits_one (by decide)]
    exact ⟨by simp [Dig], by simp [valF], by simp, by simp⟩
  | succ m ih =>
    intro u hu
    by_cases h : u < 10
    · rw [Lib.decDigits_one h]
      refine ⟨fun b hb => ?_, ?_, by simp, by simp⟩
      · simp only [List.mem_singleton] at hb; subst hb; unfold Dig; rw [dig_of u h]; omega
      · unfold valF; rw [List.foldl_cons, dig_of u h]; simp
    · rw [decDigits_step u h]
      have hd : u / 10 < 10 ^ m := Nat.div_lt_of_lt_mul (by rw [Nat.pow_succ] at hu; omega)
      obtain ⟨h1, h2, h3, h4⟩ := ih (u / 10) hd
      have hm : 1 ≤ m := by cases m with | zero => simp at hd; omega | succ m => omega
      refine ⟨fun b hb => ?_, ?_, by rw [List.length_append]; simp; omega, by simp⟩
      · rcases List.mem_append.1 hb with hb | hb
        · exact h1 b hb
        · simp only [List.mem_singleton] at hb; subst hb; unfold Dig; rw [dig_of _ (by omega)]; omega
      · rw [valF_app, h2]; unfold valF; rw [List.foldl_cons, dig_of _ (by omega)]; simp only [List.foldl_nil]; omega
def Num (n : Int) : Prop := 0 ≤ n ∧ n ≤ 1000000000
theorem itoa_nat (u : Nat) : Lib.itoa (u : Int) = Lib.decDigits u := Lib.itoa_nonneg u
theorem parseUint10_val : ∀ (l : List UInt8) (acc : Nat), (∀ b ∈ l, Dig b) → l.length ≤ 19 → acc < 10 ^ (19 - l.length) → Lib.parseUint10 acc l = .ok (valF acc l) := by
  intro l
  induction l with
  | nil => intro acc _ _ _; rfl
  | cons b r ih =>
    intro acc hd hl ha
    have hb := hd b (by simp)
    unfold Lib.parseUint10
    simp only [List.length_cons] at hl ha
    have e : 10 ^ (19 - r.length) = 10 * 10 ^ (19 - (r.length + 1)) := by rw [← Nat.pow_succ']; congr 1; omega
    have hle : (10 : Nat) ^ (19 - (r.length + 1)) ≤ 10 ^ 18 := Nat.pow_le_pow_right (by decide) (by omega)
    unfold Dig at hb
    rw [if_pos hb, if_neg (by omega), if_neg (by omega), ih _ (fun b hb => hd b (by simp [hb])) (by omega) (by omega)]
    unfold valF; rw [List.foldl_cons, Nat.mul_comm]
theorem pu_itoa (n : Int) (h : Num n) : pu (itoaB n) = (n, true) := by
  obtain ⟨u, rfl⟩ : ∃ u : Nat, n = u := ⟨n.toNat, by have := h.1; omega⟩
  have hu : u < 10 ^ 10 := by have := h.2; omega
  obtain ⟨h1, h2, h3, h4⟩ := dec_facts 10 u hu
  have e : Lib.atoiAll (itoaB (u : Int)).data.toList = .ok (u : Int) := by
    have e0 : (itoaB (u : Int)).data.toList = Lib.decDigits u := by simp [itoaB, bts, itoa_nat]
    rw [e0]
    have hp := parseUint10_val (Lib.decDigits u) 0 h1 (by omega) (by have : 0 < 10 ^ (19 - (Lib.decDigits u).length) := Nat.pow_pos (by decide); omega)
    rw [h2] at hp
    cases hc : Lib.decDigits u with
    | nil => rw [hc] at h4; simp at h4
    | cons c r =>
      have hd := h1 c (by rw [hc]; simp)
      unfold Dig at hd
      rw [hc] at hp
      unfold Lib.atoiAll
      simp only
      rw [if_neg (by omega)]
      unfold Lib.parseMag
      rw [if_neg (by simp), hp]
      simp only
      rw [if_neg (by omega), if_neg (by omega), if_neg (by omega)]
  unfold pu
  rw [e]
  simp only
  rw [if_pos ⟨rfl, by omega, h.2⟩]
theorem pu_cases (s : ByteArray) : pu s = (0, false) ∨ ∃ n, Num n ∧ s = itoaB n ∧ pu s = (n, true) := by
  unfold pu
  split
  · rename_i v hv
    split
    · rename_i h; exact .inr ⟨v, ⟨h.2.1, h.2.2⟩, h.1.symm, rfl⟩
    · exact .inl rfl
  · exact .inl rfl
theorem impl_ParseUint_eq (k : Nat) (s : ByteArray) (h : s.size ≤ 1048576) : impl_ParseUint k s = some (pu s) := by
  unfold impl_ParseUint; rw [if_pos (by omega)]
/-- The reference's loop, from any place of the text on. -/
theorem spec_pu_lp (k : Nat) (hk : 20 ≤ k) : ∀ (m : Nat) (B A : List UInt8) (n : Nat), B.length ≤ m → (A ++ B).length ≤ 10 → n < 10 ^ A.length →
    (∀ b ∈ B, Dig b) ∧ spec_ParseUint_l0 k m (bts (A ++ B)) (n : Int) (A.length : Int) = some (if (valF n B : Int) ≤ 1000000000 ∧ itoaB (valF n B) = bts (A ++ B) then ((valF n B : Int), true) else (0, false)) ∨
    ¬ (∀ b ∈ B, Dig b) ∧ spec_ParseUint_l0 k m (bts (A ++ B)) (n : Int) (A.length : Int) = some (0, false) := by
  have fin : ∀ (J : Int → Int → Option (Int × Bool)) (A : List UInt8) (n : Nat), A.length ≤ 10 → n < 10 ^ A.length → spec_ParseUint_s0 k (bts A) J (n : Int) (A.length : Int) = some (if (n : Int) ≤ 1000000000 ∧ itoaB n = bts A then ((n : Int), true) else (0, false)) := by
    intro J A n hA hn
    have h1 : n < 10 ^ 10 := Nat.lt_of_lt_of_le hn (Nat.pow_le_pow_right (by decide) hA)
    unfold spec_ParseUint_s0
    rw [bts_size, decide_eq_false (by omega)]
    simp only [cond_false]
    by_cases h2 : (1000000000 : Int) < n
    · rw [decide_eq_true h2, if_neg (by omega)]; rfl
    · rw [decide_eq_false h2, spec_FormatInt_eq k hk n ⟨by omega, by omega⟩]
      simp only [cond_false, Option.bind_some]
      by_cases h3 : itoaB n = bts A
      · rw [decide_eq_true h3, if_pos ⟨by omega, h3⟩]; rfl
      · rw [decide_eq_false h3, if_neg (fun q => h3 q.2)]; rfl
  intro m
  induction m with
  | zero =>
    intro B A n h1 h2 h3
    have hB : B = [] := List.eq_nil_of_length_eq_zero (by omega)
    subst hB
    refine .inl ⟨by simp, ?_⟩
    unfold spec_ParseUint_l0
    rw [List.append_nil]
    exact fin _ A n (by simpa using h2) h3
  | succ m ih =>
    intro B A n h1 h2 h3
    cases B with
    | nil =>
      refine .inl ⟨by simp, ?_⟩
      unfold spec_ParseUint_l0
      rw [List.append_nil]
      exact fin _ A n (by simpa using h2) h3
    | cons b B =>
      simp only [List.length_append, List.length_cons] at h1 h2
      have hn : n < 10 ^ 10 := Nat.lt_of_lt_of_le h3 (Nat.pow_le_pow_right (by decide) (by omega))
      unfold spec_ParseUint_l0 spec_ParseUint_s0
      have hlt : (A.length : Int) < ((bts (A ++ b :: B)).size : Int) := by rw [bts_size]; simp; omega
      have hb8 := b.toNat_lt
      rw [decide_eq_true hlt, byteAt_bts, if_pos ⟨by omega, hlt⟩, if_pos ⟨by omega, hlt⟩, if_pos ⟨by omega, hlt⟩]
      simp only [cond_true]
      by_cases hd : Dig b
      · have hd' := hd
        unfold Dig at hd'
        rw [decide_eq_false (by omega), decide_eq_false (by omega)]
        simp only [cond_false]
        rw [wr_id (n := (10 : Int) * n) (by omega) (by omega), wr_id (n := (b.toNat : Int)) (by omega) (by omega), wr_id (n := 10 * (n : Int) + b.toNat) (by omega) (by omega), wr_id (n := 10 * (n : Int) + b.toNat - 48) (by omega) (by omega), wr_suc A b (by omega)]
        have e : (10 * (n : Int) + b.toNat - 48) = ((10 * n + (b.toNat - 48) : Nat) : Int) := by omega
        rw [e, app_mid A b B]
        have h4 : 10 * n + (b.toNat - 48) < 10 ^ (A ++ [b]).length := by
          rw [List.length_append, List.length_singleton, Nat.pow_succ]; omega
        have hv : valF (10 * n + (b.toNat - 48)) B = valF n (b :: B) := rfl
        rcases ih B (A ++ [b]) _ (by omega) (by simp; omega) h4 with ⟨q1, q2⟩ | ⟨q1, q2⟩
        · refine .inl ⟨fun c hc => ?_, by rw [← hv]; exact q2⟩
          rcases List.mem_cons.1 hc with rfl | hc
          · exact hd
          · exact q1 c hc
        · exact .inr ⟨fun q => q1 fun c hc => q c (by simp [hc]), q2⟩
      · refine .inr ⟨fun q => hd (q b (by simp)), ?_⟩
        unfold Dig at hd
        by_cases h5 : (b.toNat : Int) < 48
        · rw [decide_eq_true h5]; rfl
        · rw [decide_eq_false h5, decide_eq_true (by omega)]; rfl
/-- Both read the same number out of a text. -/
theorem spec_ParseUint_eq (k : Nat) (hk : 20 ≤ k) (s : ByteArray) (h : s.size ≤ 1048576) : spec_ParseUint k s = some (pu s) := by
  obtain ⟨l, rfl⟩ : ∃ l, s = bts l := ⟨s.data.toList, (bts_data s).symm⟩
  rw [bts_size] at h
  have hcase : pu (bts l) = (0, false) ∨ ∃ n, Num n ∧ bts l = itoaB n ∧ pu (bts l) = (n, true) := pu_cases _
  have hit : ∀ n, Num n → bts l = itoaB n → l.length ≤ 10 ∧ (∀ b ∈ l, Dig b) ∧ (valF 0 l : Int) = n := by
    intro n hn e
    obtain ⟨u, rfl⟩ : ∃ u : Nat, n = u := ⟨n.toNat, by have := hn.1; omega⟩
    obtain ⟨q1, q2, q3, q4⟩ := dec_facts 10 u (by have := hn.2; omega)
    have el : l = Lib.decDigits u := by
      have := congrArg (·.data.toList) e
      simpa [bts, itoaB, itoa_nat] using this
    rw [el]
    exact ⟨by omega, q1, by rw [q2]⟩
  unfold spec_ParseUint spec_ParseUint_m
  rw [bts_size]
  by_cases h10 : (10 : Int) < l.length
  · rw [decide_eq_true h10]
    simp only [cond_true]
    rcases hcase with e | ⟨n, hn, e, _⟩
    · rw [e]
    · have := (hit n hn e).1; omega
  · rw [decide_eq_false h10]
    simp only [cond_false]
    have := spec_pu_lp k hk k l [] 0 (by omega) (by simp; omega) (by simp)
    rcases this with ⟨q1, q2⟩ | ⟨q1, q2⟩
    · refine q2.trans ?_
      congr 1
      rcases hcase with e | ⟨n, hn, e, e2⟩
      · rw [e]
        split
        · rename_i hv
          have hnum : Num (valF 0 l : Int) := ⟨by omega, hv.1⟩
          have := pu_itoa _ hnum
          rw [hv.2] at this
          have e3 : pu (bts l) = ((valF 0 l : Int), true) := this
          rw [e] at e3; exact absurd (congrArg Prod.snd e3) (by simp)
        · rfl
      · obtain ⟨_, _, hv⟩ := hit n hn e
        rw [e2, hv, if_pos ⟨hn.2, by rw [← e]; rfl⟩]
    · refine q2.trans ?_
      rcases hcase with e | ⟨n, hn, e, _⟩
      · rw [e]
      · exact absurd (hit n hn e).2.1 q1
theorem pu_range (s : ByteArray) : Num (pu s).1 := by
  rcases pu_cases s with e | ⟨n, hn, _, e⟩
  · rw [e]; exact ⟨by decide, by decide⟩
  · rw [e]; exact hn
end Go.Proofs.YtlenacakmmikiaaGreatDoorX
namespace Go.Proofs.YtlenacakmmikiaaGreatDoorX
open Go Go.Proofs
set_option linter.unusedVariables false
theorem bts_inj {a b : List UInt8} (e : bts a = bts b) : a = b := by simpa [bts] using congrArg (·.data.toList) e
theorem data_bts (l : List UInt8) : (bts l).data.toList = l := by simp [bts]
/-! ### A text cut at each place of a byte -/
def sp (c : UInt8) : List UInt8 → List (List UInt8)
  | [] => [[]]
  | b :: l => if b = c then [] :: sp c l else match sp c l with | x :: r => (b :: x) :: r | [] => [[b]]
theorem sp_cons (c b : UInt8) (l : List UInt8) : sp c (b :: l) = if b = c then [] :: sp c l else match sp c l with | x :: r => (b :: x) :: r | [] => [[b]] := rfl
theorem sp_no (c : UInt8) : ∀ a : List UInt8, c ∉ a → sp c a = [a]
  | [], _ => rfl
  | b :: a, h => by
    rw [sp_cons, if_neg (fun e => h (by simp [e])), sp_no c a (fun q => h (by simp [q]))]
theorem sp_at (c : UInt8) (r : List UInt8) : ∀ a : List UInt8, c ∉ a → sp c (a ++ c :: r) = a :: sp c r
  | [], _ => by show sp c (c :: r) = _; rw [sp_cons, if_pos rfl]
  | b :: a, h => by
    show sp c (b :: (a ++ c :: r)) = _
    rw [sp_cons, if_neg (fun e => h (by simp [e])), sp_at c r a (fun q => h (by simp [q]))]
theorem sp_len (c : UInt8) : ∀ l : List UInt8, (sp c l).length ≤ l.length + 1
  | [] => by simp [sp]
  | b :: l => by
    have := sp_len c l
    rw [sp_cons]
    split
    · simp; omega
    · split
      · rename_i x r e; rw [e] at this; simp at this ⊢; omega
      · simp
theorem sp_word (c : UInt8) : ∀ l w, w ∈ sp c l → w.length ≤ l.length
  | [], w, h => by simp [sp] at h; simp [h]
  | b :: l, w, h => by
    have ih := sp_word c l
    rw [sp_cons] at h
    split at h
    · rcases List.mem_cons.1 h with rfl | h
      · simp
      · have := ih w h; simp; omega
    · split at h
      · rename_i x r e
        rw [e] at ih
        rcases List.mem_cons.1 h with rfl | h
        · have := ih x (by simp); simp; omega
        · have := ih w (by simp [h]); simp; omega
      · simp at h; simp [h]
theorem index_at (c : UInt8) (r : List UInt8) : ∀ a : List UInt8, c ∉ a → Lib.index (a ++ c :: r) [c] = a.length := by
  intro a
  induction a with
  | nil => intro _; simp [Lib.index]
  | cons b a ih =>
    intro h
    have h1 : c ≠ b := fun e => h (by simp [e])
    have h2 := ih (fun q => h (by simp [q]))
    show Lib.index (b :: (a ++ c :: r)) [c] = _
    unfold Lib.index
    have e : [c].isPrefixOf (b :: (a ++ c :: r)) = false := by
      show (c == b && _) = false
      rw [beq_eq_false_iff_ne.2 h1]; rfl
    rw [e, h2]
    have : ((a.length : Int) == -1) = false := by rw [beq_eq_false_iff_ne]; omega
    rw [this]; simp
theorem index_no (c : UInt8) : ∀ a : List UInt8, c ∉ a → Lib.index a [c] = -1
  | [], _ => rfl
  | b :: a, h => by
    have h1 : c ≠ b := fun e => h (by simp [e])
    unfold Lib.index
    have e : [c].isPrefixOf (b :: a) = false := by
      show (c == b && _) = false
      rw [beq_eq_false_iff_ne.2 h1]; rfl
    rw [e, index_no c a (fun q => h (by simp [q]))]; rfl
theorem extract_bts (l : List UInt8) (a b : Nat) : (bts l).extract a b = bts ((l.drop a).take (b - a)) := by
  rw [← bts_data ((bts l).extract a b), Lib.extract_data, data_bts]
theorem splitB_eq (c : UInt8) : ∀ (n : Nat) (l : List UInt8), l.length ≤ n → Lib.splitB (bts [c]) 0 (Lib.countB (bts l) (bts [c])) (bts l) = (sp c l).map bts := by
  intro n
  induction n with
  | zero =>
    intro l h
    have : l = [] := List.eq_nil_of_length_eq_zero (by omega)
    subst this
    rw [Lib.splitB_miss _ _ _ _ (show Lib.indexB (bts []) (bts [c]) = -1 from index_no c [] (by simp))]; rfl
  | succ n ih =>
    intro l h
    by_cases hc : c ∈ l
    · obtain ⟨a, r, e, ha⟩ := List.eq_append_cons_of_mem hc
      subst e
      have hi : Lib.indexB (bts (a ++ c :: r)) (bts [c]) = (a.length : Int) := by
        show Lib.index (bts (a ++ c :: r)).data.toList (bts [c]).data.toList = _
        rw [data_bts, data_bts]; exact index_at c r a ha
      have e1 : (bts (a ++ c :: r)).extract (a.length + (bts [c]).size) (bts (a ++ c :: r)).size = bts r := by
        rw [bts_size, bts_size, extract_bts]
        congr 1
        simp only [List.length_append, List.length_cons, List.length_nil, Nat.zero_add]
        have : (a ++ c :: r).drop (a.length + 1) = r := by rw [app_mid]; exact List.drop_left' (by simp)
        rw [this]; exact List.take_of_length_le (by omega)
      have e2 : (bts (a ++ c :: r)).extract 0 (a.length + 0) = bts a := by rw [extract_bts]; simp
      rw [Lib.countB_hit _ _ _ (by rw [bts_size]; simp) hi, Nat.add_comm 1, Lib.splitB_hit _ _ _ _ _ hi, e1, e2, sp_at c r a ha]
      rw [ih r (by simp at h; omega)]; rfl
    · have hi : Lib.indexB (bts l) (bts [c]) = -1 := by
        show Lib.index (bts l).data.toList (bts [c]).data.toList = _
        rw [data_bts, data_bts]; exact index_no c l hc
      rw [Lib.splitB_miss _ _ _ _ hi, sp_no c l hc]; rfl
end Go.Proofs.YtlenacakmmikiaaGreatDoorX
namespace Go.Proofs.YtlenacakmmikiaaGreatDoorX
open Go Go.Proofs
set_option linter.unusedVariables false
/-- The words from a place on, where a word is under way. -/
def fw : List UInt8 → List UInt8 → List (List UInt8)
  | c, [] => if c = [] then [] else [c]
  | c, b :: B => if b = 32 then (if c = [] then fw [] B else c :: fw [] B) else fw (c ++ [b]) B
def wds (l : List UInt8) : List (List UInt8) := fw [] l
/-- A word: some bytes, none of them a space. -/
def Wd (w : List UInt8) : Prop := w ≠ [] ∧ (32 : UInt8) ∉ w
theorem fw_run (B : List UInt8) : ∀ (w c : List UInt8), (32 : UInt8) ∉ w → fw c (w ++ B) = fw (c ++ w) B := by
  intro w
  induction w with
  | nil => intro c _; simp
  | cons b w ih =>
    intro c h
    have h1 : b ≠ 32 := fun e => h (by simp [e])
    show (if b = 32 then _ else fw (c ++ [b]) (w ++ B)) = _
    rw [if_neg h1, ih _ (fun q => h (by simp [q]))]
    simp
theorem fw_space (c B : List UInt8) (h : c ≠ []) : fw c (32 :: B) = c :: fw [] B := by
  show (if (32 : UInt8) = 32 then (if c = [] then fw [] B else c :: fw [] B) else _) = _
  rw [if_pos rfl, if_neg h]
theorem fw_space0 (B : List UInt8) : fw [] (32 :: B) = fw [] B := by
  show (if (32 : UInt8) = 32 then (if ([] : List UInt8) = [] then fw [] B else _) else _) = _
  rw [if_pos rfl, if_pos rfl]
/-- Words side by side, a space between each two. -/
def lineW : List (List UInt8) → List UInt8
  | [] => []
  | w :: r => w ++ (r.map (32 :: ·)).flatten
theorem wds_line : ∀ (r : List (List UInt8)) (w E : List UInt8), Wd w → (∀ x ∈ r, Wd x) → (E = [] ∨ E = [32]) → wds (w ++ (r.map (32 :: ·)).flatten ++ E) = w :: r := by
  intro r
  induction r with
  | nil =>
    intro w E hw _ hE
    unfold wds
    rw [List.map_nil, List.flatten_nil, List.append_nil, fw_run E w [] hw.2, List.nil_append]
    rcases hE with rfl | rfl
    · show (if w = [] then [] else [w]) = _; rw [if_neg hw.1]
    · rw [fw_space _ _ hw.1]; rfl
  | cons x r ih =>
    intro w E hw hr hE
    have e : w ++ ((x :: r).map (32 :: ·)).flatten ++ E = w ++ (32 :: (x ++ (r.map (32 :: ·)).flatten ++ E)) := by simp
    unfold wds
    rw [e, fw_run _ w [] hw.2, List.nil_append, fw_space _ _ hw.1]
    have := ih x E (hr x (by simp)) (fun y hy => hr y (by simp [hy])) hE
    unfold wds at this
    rw [this]
theorem wds_lineW (w : List UInt8) (r : List (List UInt8)) (hw : Wd w) (hr : ∀ x ∈ r, Wd x) : wds (lineW (w :: r)) = w :: r := by
  have := wds_line r w [] hw hr (.inl rfl)
  rw [List.append_nil] at this
  exact this
theorem fw_wd : ∀ (B c : List UInt8), (32 : UInt8) ∉ c → ∀ x ∈ fw c B, Wd x := by
  intro B
  induction B with
  | nil =>
    intro c hc x hx
    unfold fw at hx
    split at hx
    · cases hx
    · rename_i h
      simp only [List.mem_singleton] at hx
      subst hx; exact ⟨h, hc⟩
  | cons b B ih =>
    intro c hc x hx
    unfold fw at hx
    split at hx
    · split at hx
      · exact ih [] (by simp) x hx
      · rename_i h
        rcases List.mem_cons.1 hx with rfl | hx
        · exact ⟨h, hc⟩
        · exact ih [] (by simp) x hx
    · rename_i h
      refine ih (c ++ [b]) (fun q => ?_) x hx
      rcases List.mem_append.1 q with q | q
      · exact hc q
      · simp only [List.mem_singleton] at q; exact h q.symm
theorem wds_wd (l : List UInt8) : ∀ x ∈ wds l, Wd x := fw_wd l [] (by simp)
theorem fw_len : ∀ (B c : List UInt8), (fw c B).length ≤ B.length + 1 := by
  intro B
  induction B with
  | nil => intro c; unfold fw; split <;> simp
  | cons b B ih =>
    intro c
    unfold fw
    split
    · split
      · have := ih []; simp; omega
      · have := ih []; simp; omega
    · have := ih (c ++ [b]); simp; omega
theorem fw_size : ∀ (B c : List UInt8), ∀ x ∈ fw c B, x.length ≤ c.length + B.length := by
  intro B
  induction B with
  | nil =>
    intro c x hx
    unfold fw at hx
    split at hx
    · cases hx
    · simp only [List.mem_singleton] at hx; subst hx; simp
  | cons b B ih =>
    intro c x hx
    unfold fw at hx
    split at hx
    · split at hx
      · have := ih [] x hx; simp at this ⊢; omega
      · rcases List.mem_cons.1 hx with rfl | hx
        · simp
        · have := ih [] x hx; simp at this ⊢; omega
    · have := ih (c ++ [b]) x hx; simp at this ⊢; omega
/-! ### The library's way -/
theorem isSp_iff (b : UInt8) : isSp b.toNat = true ↔ b = 32 := by
  unfold isSp
  rw [decide_eq_true_iff]
  constructor
  · intro h; exact UInt8.toNat_inj.1 (by rw [h]; rfl)
  · intro h; subst h; rfl
theorem at_mid (A : List UInt8) (b : UInt8) (B : List UInt8) (h : A.length < (bts (A ++ b :: B)).size) : (bts (A ++ b :: B))[A.length]'h = b := by
  rw [ByteArray.getElem_eq_getElem_data]
  simp [bts]
theorem cut_word (P c B : List UInt8) : (bts (P ++ c ++ B)).extract P.length (P ++ c).length = bts c := by
  rw [extract_bts]
  congr 1
  rw [List.append_assoc, List.drop_left]
  have : (P ++ c).length - P.length = c.length := by simp
  rw [this, List.take_left]
theorem spans_fw (s : ByteArray) : ∀ (B P c : List UInt8) (f : Nat) (acc : List (Nat × Nat)), s = bts (P ++ c ++ B) → (∀ b ∈ B, b.toNat < 128) → B.length ≤ f →
    (Lib.closeSpans s (Lib.spansFromP isSp s f (P ++ c).length (if c = [] then none else some P.length) acc)).map (fun x => s.extract x.1 x.2) = acc.map (fun x => s.extract x.1 x.2) ++ (fw c B).map bts := by
  intro B
  induction B with
  | nil =>
    intro P c f acc hs _ _
    have hsz : s.size = (P ++ c).length := by rw [hs, bts_size, List.append_nil]
    rw [Lib.spansFromP_end _ _ _ _ _ _ (by omega)]
    unfold fw Lib.closeSpans
    by_cases hc : c = []
    · rw [if_pos hc, if_pos hc]; simp
    · rw [if_neg hc, if_neg hc]
      simp only [List.map_append, List.map_cons, List.map_nil]
      have := cut_word P c []
      rw [hsz, hs, this]
  | cons b B ih =>
    intro P c f acc hs hb hf
    cases f with
    | zero => simp at hf
    | succ f =>
      have hlt : (P ++ c).length < s.size := by rw [hs, bts_size]; simp
      have hdec : Utf8.decode s (P ++ c).length = (b.toNat, 1) := by
        have hat : s[(P ++ c).length]'hlt = b := by subst hs; exact at_mid (P ++ c) b B hlt
        rw [decode_ascii s _ hlt (by rw [hat]; exact hb b (by simp)), hat]
      have hs2 : s = bts ((P ++ c ++ [b]) ++ [] ++ B) := by rw [hs]; simp
      have hf2 : B.length ≤ f := by simpa using hf
      have hb2 : ∀ x ∈ B, x.toNat < 128 := fun x hx => hb x (by simp [hx])
      unfold Lib.spansFromP fw
      rw [if_pos hlt, hdec]
      by_cases h : b = 32
      · rw [if_pos ((isSp_iff b).2 h), if_pos h]
        by_cases hc : c = []
        · rw [if_pos hc, if_pos hc]
          have := ih (P ++ c ++ [b]) [] f acc hs2 hb2 hf2
          simp only [if_pos] at this
          have e : (P ++ c ++ [b] ++ []).length = (P ++ c).length + 1 := by simp; omega
          rw [e] at this
          exact this
        · rw [if_neg hc, if_neg hc]
          have := ih (P ++ c ++ [b]) [] f (acc ++ [(P.length, (P ++ c).length)]) hs2 hb2 hf2
          simp only [if_pos] at this
          have e : (P ++ c ++ [b] ++ []).length = (P ++ c).length + 1 := by simp; omega
          rw [e] at this
          refine this.trans ?_
          have e2 : s.extract P.length (P ++ c).length = bts c := by rw [hs]; exact cut_word P c (b :: B)
          simp only [List.map_append, List.map_cons, List.map_nil, e2]
          simp
      · rw [if_neg (fun q => h ((isSp_iff b).1 q)), if_neg h]
        have hs3 : s = bts (P ++ (c ++ [b]) ++ B) := by rw [hs]; simp
        have := ih P (c ++ [b]) f acc hs3 hb2 hf2
        rw [if_neg (by simp)] at this
        have e : (P ++ (c ++ [b])).length = (P ++ c).length + 1 := by simp; omega
        rw [e] at this
        by_cases hc : c = []
        · rw [if_pos hc]
          subst hc
          simpa using this
        · rw [if_neg hc]; exact this
theorem goFields_eq (l : List UInt8) (h : ∀ b ∈ l, b.toNat < 128) : Lib.goFieldsP isSp (bts l) = (wds l).map bts := by
  have := spans_fw (bts l) l [] [] (bts l).size [] rfl h (by rw [bts_size]; exact Nat.le_refl _)
  exact this
end Go.Proofs.YtlenacakmmikiaaGreatDoorX
namespace Go.Proofs.YtlenacakmmikiaaGreatDoorX
open Go Go.Proofs
set_option linter.unusedVariables false
def actW (k : Int) : List UInt8 := ([[], [98, 97, 107, 101], [115, 101, 108, 108], [99, 104, 101, 97, 112], [109, 111, 114, 110, 105, 110, 103], [98, 117, 121], [102, 108, 111, 117, 114]] : List (List UInt8)).getD k.toNat []
def actN (k : Int) : Nat := ([0, 1, 1, 1, 0, 2, 1] : List Nat).getD k.toNat 0
/-- The words of an act. -/
def TF (a : Deed) : List (List UInt8) := actW a.Kind :: ([a.A, a.B].take (actN a.Kind)).map Lib.itoa
theorem act_kinds {a : Deed} (h : actOk a = true) : a.Kind = 1 ∨ a.Kind = 2 ∨ a.Kind = 3 ∨ a.Kind = 4 ∨ a.Kind = 5 ∨ a.Kind = 6 := by
  by_cases k1 : a.Kind = 1
  · exact .inl k1
  by_cases k2 : a.Kind = 2
  · exact .inr (.inl k2)
  by_cases k3 : a.Kind = 3
  · exact .inr (.inr (.inl k3))
  by_cases k4 : a.Kind = 4
  · exact .inr (.inr (.inr (.inl k4)))
  by_cases k5 : a.Kind = 5
  · exact .inr (.inr (.inr (.inr (.inl k5))))
  · exact .inr (.inr (.inr (.inr (.inr (actOk_kind h k1 k2 k3 k4 k5)))))
/-- The numbers of an act that is right: those that its words do not tell are 0. -/
theorem act_nums {a : Deed} (h : actOk a = true) : (0 ≤ a.A ∧ a.A ≤ 100000) ∧ (0 ≤ a.B ∧ a.B ≤ 100000) ∧ (actN a.Kind ≤ 1 → a.B = 0) ∧ (actN a.Kind = 0 → a.A = 0) := by
  rcases act_kinds h with e | e | e | e | e | e <;> (unfold actOk at h; rw [e] at h ⊢; simp [inR, actN] at h ⊢; omega)
theorem dig_ne (b : UInt8) (h : Dig b) (c : UInt8) (hc : c.toNat < 48) : b ≠ c := fun e => by unfold Dig at h; rw [e] at h; omega
theorem itoa_facts (n : Int) (h : Num n) : (∀ b ∈ Lib.itoa n, Dig b) ∧ Lib.itoa n ≠ [] ∧ (Lib.itoa n).length ≤ 10 := by
  obtain ⟨u, rfl⟩ : ∃ u : Nat, n = u := ⟨n.toNat, by have := h.1; omega⟩
  obtain ⟨q1, q2, q3, q4⟩ := dec_facts 10 u (by have := h.2; omega)
  rw [itoa_nat]
  exact ⟨q1, fun e => by rw [e] at q4; simp at q4, by omega⟩
theorem itoa_wd (n : Int) (h : Num n) : Wd (Lib.itoa n) := by
  obtain ⟨h1, h2, _⟩ := itoa_facts n h
  exact ⟨h2, fun q => dig_ne _ (h1 _ q) 32 (by decide) rfl⟩
theorem itoa_inj {n m : Int} (h : Num n) (h2 : Num m) (e : Lib.itoa n = Lib.itoa m) : n = m := by
  have a := pu_itoa n h
  have b := pu_itoa m h2
  unfold itoaB at a b
  rw [e, b] at a
  exact (congrArg Prod.fst a).symm
theorem act_num {a : Deed} (h : actOk a = true) : Num a.A ∧ Num a.B := by
  obtain ⟨h1, h2, _⟩ := act_nums h
  unfold Num; omega
theorem TF_wd {a : Deed} (h : actOk a = true) : Wd (actW a.Kind) ∧ ∀ x ∈ ([a.A, a.B].take (actN a.Kind)).map Lib.itoa, Wd x := by
  constructor
  · rcases act_kinds h with e | e | e | e | e | e <;> rw [e] <;> unfold Wd <;> decide
  · intro x hx
    obtain ⟨n, hn, rfl⟩ := List.mem_map.1 hx
    have := List.mem_of_mem_take hn
    obtain ⟨q1, q2⟩ := act_num h
    simp only [List.mem_cons, List.not_mem_nil, or_false] at this
    rcases this with e | e <;> rw [e] <;> exact itoa_wd _ (by assumption)
theorem actW_inj {a b : Deed} (ha : actOk a = true) (hb : actOk b = true) (e : actW a.Kind = actW b.Kind) : a.Kind = b.Kind := by
  rcases act_kinds ha with x | x | x | x | x | x <;> rcases act_kinds hb with y | y | y | y | y | y <;> rw [x, y] at e ⊢ <;> exact absurd e (by decide)
theorem TF_inj {a b : Deed} (ha : actOk a = true) (hb : actOk b = true) (e : TF a = TF b) : a = b := by
  unfold TF at e
  have hk := actW_inj ha hb (List.cons.inj e).1
  have hn := (List.cons.inj e).2
  obtain ⟨a1, a2, a3, a4⟩ := act_nums ha
  obtain ⟨b1, b2, b3, b4⟩ := act_nums hb
  obtain ⟨na1, na2⟩ := act_num ha
  obtain ⟨nb1, nb2⟩ := act_num hb
  rw [hk] at hn a3 a4
  have hc : actN b.Kind = 0 ∨ actN b.Kind = 1 ∨ actN b.Kind = 2 := by
    rcases act_kinds hb with y | y | y | y | y | y <;> rw [y] <;> simp [actN]
  have hAB : a.A = b.A ∧ a.B = b.B := by
    rcases hc with c | c | c
    · exact ⟨by rw [a4 c, b4 c], by rw [a3 (by omega), b3 (by omega)]⟩
    · rw [c] at hn
      have : Lib.itoa a.A = Lib.itoa b.A := by simpa using hn
      exact ⟨itoa_inj na1 nb1 this, by rw [a3 (by omega), b3 (by omega)]⟩
    · rw [c] at hn
      have : Lib.itoa a.A = Lib.itoa b.A ∧ Lib.itoa a.B = Lib.itoa b.B := by simpa using hn
      exact ⟨itoa_inj na1 nb1 this.1, itoa_inj na2 nb2 this.2⟩
  obtain ⟨x1, x2, x3⟩ := a
  obtain ⟨y1, y2, y3⟩ := b
  simp only at hk hAB
  rw [hk, hAB.1, hAB.2]
/-- Words tell an act. -/
def Tells (p : List (List UInt8)) (a : Deed) : Prop := actOk a = true ∧ TF a = p
/-- What both answer where the words are p. -/
def Reads (p : List (List UInt8)) (r : Deed × Bool) : Prop := (r.2 = true ∧ Tells p r.1) ∨ (r = (⟨0, 0, 0⟩, false) ∧ ∀ a, ¬ Tells p a)
theorem reads_uniq {p : List (List UInt8)} {r s : Deed × Bool} (h : Reads p r) (h2 : Reads p s) : r = s := by
  rcases h with ⟨h, t⟩ | ⟨h, t⟩ <;> rcases h2 with ⟨h2, t2⟩ | ⟨h2, t2⟩
  · have : r.1 = s.1 := TF_inj t.1 t2.1 (t.2.trans t2.2.symm)
    obtain ⟨r1, r2⟩ := r; obtain ⟨s1, s2⟩ := s
    simp only at this h h2
    rw [this, h, h2]
  · exact absurd t (t2 _)
  · exact absurd t2 (t _)
  · rw [h, h2]
theorem TF_len {a : Deed} (h : actOk a = true) : (TF a).length = actN a.Kind + 1 ∧ actN a.Kind ≤ 2 := by
  rcases act_kinds h with e | e | e | e | e | e <;> unfold TF <;> rw [e] <;> simp [actN]
theorem lineL_TF (a : Deed) : lineL (actW a.Kind) ([a.A, a.B].take (actN a.Kind)) = lineW (TF a) := by
  unfold lineL TF
  show _ = actW a.Kind ++ ((([a.A, a.B].take (actN a.Kind)).map Lib.itoa).map (32 :: ·)).flatten
  rw [List.map_map]; rfl
theorem lineW_inj {a : Deed} (h : actOk a = true) {w : List UInt8} {r : List (List UInt8)} (hw : Wd w) (hr : ∀ x ∈ r, Wd x) (e : lineW (TF a) = lineW (w :: r)) : TF a = w :: r := by
  have h1 := wds_lineW w r hw hr
  obtain ⟨t1, t2⟩ := TF_wd h
  have h2 := wds_lineW (actW a.Kind) _ t1 t2
  have h3 : wds (lineW (TF a)) = TF a := h2
  rw [← h3, e, h1]
end Go.Proofs.YtlenacakmmikiaaGreatDoorX
namespace Go.Proofs.YtlenacakmmikiaaGreatDoorX
open Go Go.Proofs
set_option linter.unusedVariables false
theorem formatAct_lp (k : Nat) (hk : 20 ≤ k) (a : Deed) (w : List UInt8) (N : Nat) (hN : ([0, 1, 1, 1, 0, 2, 1] : List Int).getD (Int.toNat a.Kind) 0 = (N : Int)) (hN2 : N ≤ 2) (hA : Inr a.A) (hB : Inr a.B) (hw : w.length ≤ 100) :
    ∀ (m : Nat) (i : Nat), N ≤ i + m → i ≤ N → spec_FormatAct_l0 k m a (bts (lineL w ([a.A, a.B].take i))) (i : Int) = some (bts (lineL w ([a.A, a.B].take N)), true) := by
  have key : ∀ i : Nat, i < 2 → Inr ([a.A, a.B].getD i 0) := fun i hi => by
    have : i = 0 ∨ i = 1 := by omega
    rcases this with h | h <;> subst h
    · exact hA
    · exact hB
  intro m
  induction m with
  | zero =>
    intro i h1 h2
    have : i = N := by omega
    subst this
    unfold spec_FormatAct_l0 spec_FormatAct_s0
    rw [hN, decide_eq_false (by omega)]; rfl
  | succ m ih =>
    intro i h1 h2
    unfold spec_FormatAct_l0 spec_FormatAct_s0
    rw [hN]
    by_cases h : i < N
    · have hi := key i (by omega)
      have hlen : (lineL w ([a.A, a.B].take i)).length ≤ 100 + 44 := by
        have := lineL_len w ([a.A, a.B].take i) (fun n hn => by
          have := List.mem_of_mem_take hn
          simp only [List.mem_cons, List.not_mem_nil, or_false] at this
          rcases this with e | e <;> rw [e] <;> assumption)
        have : ([a.A, a.B].take i).length ≤ 2 := by simp; omega
        omega
      have hil := itoa_len hi
      rw [decide_eq_true (by omega)]
      simp only [cond_true]
      have e32 : (ByteArray.mk #[32]) = bts [32] := rfl
      rw [e32, bts_app, if_pos (by simp only [bts_size, List.length_append, List.length_singleton]; omega), if_pos ⟨by omega, by simp; omega⟩, Int.toNat_natCast, spec_FormatInt_eq k hk _ hi]
      simp only [Option.bind_some]
      unfold itoaB
      rw [bts_app, if_pos (by simp only [bts_size, List.length_append, List.length_singleton]; omega), wr_id (by omega) (by omega)]
      have := ih (i + 1) (by omega) (by omega)
      refine Eq.trans ?_ this
      congr 1
      · have : i = 0 ∨ i = 1 := by omega
        rcases this with e | e <;> subst e <;> simp [lineL]
    · have : i = N := by omega
      subst this
      rw [decide_eq_false (by omega)]; rfl
theorem act_inr {a : Deed} (h : actOk a = true) : Inr a.A ∧ Inr a.B := by
  obtain ⟨h1, h2, _⟩ := act_nums h
  unfold Inr; omega
/-- What is written for an act. -/
def fmtA (a : Deed) : ByteArray × Bool := if actOk a = true then (bts (lineW (TF a)), true) else (bts [], false)
theorem spec_FormatAct_is (k : Nat) (hk : 30 ≤ k) (a : Deed) : spec_FormatAct k a = some (fmtA a) := by
  unfold spec_FormatAct spec_FormatAct_m fmtA
  rw [spec_ActOk_eq]
  simp only [Option.bind_some]
  cases ha : actOk a
  · rfl
  obtain ⟨hA, hB⟩ := act_inr ha
  simp only [Bool.not_true, cond_false]
  rw [if_pos trivial, ← lineL_TF]
  have go : ∀ (w : List UInt8) (N : Nat), w.length ≤ 100 → N ≤ 2 → ([0, 1, 1, 1, 0, 2, 1] : List Int).getD (Int.toNat a.Kind) 0 = (N : Int) →
      spec_FormatAct_l0 k k a (bts w) 0 = some (bts (lineL w ([a.A, a.B].take N)), true) := by
    intro w N hw hN2 hN
    have := formatAct_lp k (by omega) a w N hN hN2 hA hB hw k 0 (by omega) (by omega)
    have e0 : lineL w ([a.A, a.B].take 0) = w := by simp [lineL]
    rw [e0] at this
    exact this
  rcases act_kinds ha with e | e | e | e | e | e
  · have := go [98, 97, 107, 101] 1 (by decide) (by decide) (by rw [e]; rfl)
    rw [e]; exact this
  · have := go [115, 101, 108, 108] 1 (by decide) (by decide) (by rw [e]; rfl)
    rw [e]; exact this
  · have := go [99, 104, 101, 97, 112] 1 (by decide) (by decide) (by rw [e]; rfl)
    rw [e]; exact this
  · have := go [109, 111, 114, 110, 105, 110, 103] 0 (by decide) (by decide) (by rw [e]; rfl)
    rw [e]; exact this
  · have := go [98, 117, 121] 2 (by decide) (by decide) (by rw [e]; rfl)
    rw [e]; exact this
  · have := go [102, 108, 111, 117, 114] 1 (by decide) (by decide) (by rw [e]; rfl)
    rw [e]; exact this
end Go.Proofs.YtlenacakmmikiaaGreatDoorX
namespace Go.Proofs.YtlenacakmmikiaaGreatDoorX
open Go Go.Proofs
set_option linter.unusedVariables false
/-! ### A line parted -/
def Plain (b : UInt8) : Prop := 32 ≤ b.toNat ∧ b.toNat ≤ 126
instance (b : UInt8) : Decidable (Plain b) := by unfold Plain; infer_instance
/-- The words of a line, as both have them. -/
def SF (l : List UInt8) : List (List UInt8) × Bool := if l.length ≤ 600 ∧ (∀ b ∈ l, Plain b) ∧ (wds l).length ≤ 24 then (wds l, true) else ([], false)
def sfB (r : List (List UInt8) × Bool) : List ByteArray × Bool := (r.1.map bts, r.2)
theorem plain_cases (b : UInt8) (h : ¬ Plain b) : (b.toNat : Int) < 32 ∨ ¬ (b.toNat : Int) < 32 ∧ (126 : Int) < b.toNat := by unfold Plain at h; omega
theorem impl_sf_lp (k : Nat) (l : List UInt8) (hl : l.length ≤ 600) : ∀ (m : Nat) (B A : List UInt8), l = A ++ B → B.length ≤ m → (∀ b ∈ A, Plain b) → impl_SplitFields_l0 k m (bts l) (A.length : Int) = some (sfB (SF l)) := by
  have fin : ∀ J, (∀ b ∈ l, Plain b) → impl_SplitFields_s0 k (bts l) J (l.length : Int) = some (sfB (SF l)) := by
    intro J hp
    unfold impl_SplitFields_s0 strings_FieldsFunc
    rw [bts_size, decide_eq_false (by omega), cond_false, if_pos (by omega), goFields_eq l (fun b hb => by have := (hp b hb).2; omega), Option.bind_some, List.length_map]
    unfold SF
    by_cases h : (wds l).length ≤ 24
    · rw [decide_eq_false (by omega), if_pos ⟨hl, hp, h⟩]; rfl
    · rw [decide_eq_true (by omega), if_neg (fun q => h q.2.2)]; rfl
  intro m
  induction m with
  | zero =>
    intro B A e h1 hp
    have hB : B = [] := List.eq_nil_of_length_eq_zero (by omega)
    subst hB
    rw [List.append_nil] at e
    subst e
    unfold impl_SplitFields_l0
    exact fin _ hp
  | succ m ih =>
    intro B A e h1 hp
    cases B with
    | nil =>
      rw [List.append_nil] at e
      subst e
      unfold impl_SplitFields_l0
      exact fin _ hp
    | cons b B =>
      have hlt : (A.length : Int) < ((bts l).size : Int) := by rw [bts_size, e]; simp; omega
      have hbyte : byteAt (bts l) (Int.toNat (A.length : Int)) = (b.toNat : Int) := by rw [e]; exact byteAt_bts A b B
      have hAl : A.length ≤ 600 := by rw [e] at hl; simp at hl; omega
      unfold impl_SplitFields_l0 impl_SplitFields_s0
      rw [decide_eq_true hlt, if_pos ⟨by omega, hlt⟩, if_pos ⟨by omega, hlt⟩, hbyte, cond_true]
      by_cases hb : Plain b
      · have hb' := hb
        unfold Plain at hb'
        rw [decide_eq_false (by omega), decide_eq_false (by omega), cond_false, cond_false, wr_suc A b (by omega)]
        refine ih B (A ++ [b]) (by rw [e]; simp) (by simpa using h1) (fun c hc => ?_)
        rcases List.mem_append.1 hc with hc | hc
        · exact hp c hc
        · rw [List.mem_singleton.1 hc]; exact hb
      · have hno : SF l = ([], false) := by
          unfold SF
          rw [if_neg (fun q => hb (q.2.1 b (by rw [e]; simp)))]
        rw [hno]
        rcases plain_cases b hb with h | ⟨h, h2⟩
        · rw [decide_eq_true h]; rfl
        · rw [decide_eq_false h, decide_eq_true h2]; rfl
theorem impl_SplitFields_eq (k : Nat) (hk : 600 ≤ k) (l : List UInt8) : impl_SplitFields k (bts l) = some (sfB (SF l)) := by
  unfold impl_SplitFields impl_SplitFields_m
  rw [bts_size]
  by_cases h : l.length ≤ 600
  · rw [decide_eq_false (by omega), cond_false]
    exact impl_sf_lp k l h k l [] rfl (by omega) (by simp)
  · rw [decide_eq_true (by omega), cond_true]
    unfold SF
    rw [if_neg (fun q => h q.1)]; rfl
theorem spec_sf_lp (k : Nat) (l : List UInt8) (hl : l.length ≤ 600) : ∀ (m : Nat) (B P c : List UInt8) (W : List (List UInt8)), l = P ++ c ++ B → B.length < m → (∀ b ∈ P ++ c, Plain b) → W ++ fw c B = wds l → W.length ≤ (P ++ c).length →
    spec_SplitFields_l0 k m (bts l) (P.length : Int) ((P ++ c).length : Int) (W.map bts) = some (sfB (SF l)) := by
  have fin : ∀ J (x : Int), (∀ b ∈ l, Plain b) → spec_SplitFields_s0 k (bts l) J x ((l.length : Int) + 1) ((wds l).map bts) = some (sfB (SF l)) := by
    intro J x hp
    unfold spec_SplitFields_s0
    rw [bts_size, decide_eq_false (by omega), cond_false, List.length_map]
    unfold SF
    by_cases h : (wds l).length ≤ 24
    · rw [decide_eq_false (by omega), if_pos ⟨hl, hp, h⟩]; rfl
    · rw [decide_eq_true (by omega), if_neg (fun q => h q.2.2)]; rfl
  have finl : ∀ (m : Nat) (x : Int), (∀ b ∈ l, Plain b) → spec_SplitFields_l0 k m (bts l) x ((l.length : Int) + 1) ((wds l).map bts) = some (sfB (SF l)) := by
    intro m x hp
    cases m <;> exact fin _ x hp
  intro m
  induction m with
  | zero => intro B P c W e h1 hp hW hWl; omega
  | succ m ih =>
    intro B P c W e h1 hp hW hWl
    have hPl : (P ++ c).length ≤ 600 := by rw [e] at hl; simp at hl ⊢; omega
    have hle : ((P ++ c).length : Int) ≤ ((bts l).size : Int) := by rw [bts_size, e]; simp; omega
    have hmax : ∀ w : ByteArray, (W.map bts).length + ([w] : List ByteArray).length ≤ maxRow := by intro w; rw [List.length_map]; unfold maxRow; simp; omega
    have hex : ((bts l).extract (Int.toNat (P.length : Int)) (Int.toNat ((P ++ c).length : Int))) = bts c := by rw [e, Int.toNat_natCast, Int.toNat_natCast]; exact cut_word P c B
    have hg : (0 : Int) ≤ (P.length : Int) ∧ (P.length : Int) ≤ ((P ++ c).length : Int) ∧ ((P ++ c).length : Int) ≤ ((bts l).size : Int) := ⟨by omega, by simp; omega, hle⟩
    unfold spec_SplitFields_l0 spec_SplitFields_s0
    rw [decide_eq_true hle, cond_true, if_pos hg, if_pos (hmax _), hex]
    have hsuc : wr (((P ++ c).length : Int) + 1) = ((P ++ c).length : Int) + 1 := wr_id (by omega) (by omega)
    rw [hsuc]
    cases B with
    | nil =>
      rw [List.append_nil] at e
      have hsz : ((bts l).size : Int) = ((P ++ c).length : Int) := by rw [bts_size, e]
      rw [hsz, decide_eq_false (by omega : ¬ ((P ++ c).length : Int) < ((P ++ c).length : Int)), cond_false, cond_false]
      have hp' : ∀ b ∈ l, Plain b := by rw [e]; exact hp
      have hle2 : (l.length : Int) = ((P ++ c).length : Int) := by rw [e]
      by_cases hc : c = []
      · have : fw c [] = [] := by unfold fw; rw [if_pos hc]
        rw [this, List.append_nil] at hW
        rw [decide_eq_false (by rw [hc]; simp), cond_false, hW, ← hle2]
        exact finl m _ hp'
      · have : fw c [] = [c] := by unfold fw; rw [if_neg hc]
        rw [this] at hW
        have hpos : 0 < c.length := List.length_pos_iff.2 hc
        rw [decide_eq_true (by simp; omega), cond_true, ← hle2]
        have hm : W.map bts ++ [bts c] = (wds l).map bts := by rw [← hW]; simp
        rw [hm]
        exact finl m _ hp'
    | cons b B =>
      have hlt : ((P ++ c).length : Int) < ((bts l).size : Int) := by rw [bts_size, e]; simp; omega
      have hbyte : byteAt (bts l) (Int.toNat ((P ++ c).length : Int)) = (b.toNat : Int) := by rw [e]; exact byteAt_bts (P ++ c) b B
      rw [decide_eq_true hlt, hbyte]
      simp only [if_pos (show 0 ≤ ((P ++ c).length : Int) ∧ ((P ++ c).length : Int) < ((bts l).size : Int) from ⟨by omega, hlt⟩)]
      rw [cond_true]
      by_cases hb : Plain b
      · have hb' := hb
        unfold Plain at hb'
        rw [decide_eq_false (by omega), decide_eq_false (by omega), cond_false, cond_false, cond_true]
        have hp2 : ∀ x ∈ P ++ c ++ [b], Plain x := fun x hx => by
          rcases List.mem_append.1 hx with hx | hx
          · exact hp x hx
          · rw [List.mem_singleton.1 hx]; exact hb
        simp only [List.length_cons] at h1
        have hl1 : ((P ++ c).length : Int) + 1 = ((P ++ c ++ [b]).length : Int) := by simp; omega
        by_cases h32 : b = 32
        · have hi : (b.toNat : Int) = 32 := by rw [h32]; rfl
          rw [decide_eq_true hi, Bool.not_true, cond_false, hl1]
          have hl2 : ((P ++ c ++ [b]).length : Int) = (((P ++ c ++ [b]) ++ []).length : Int) := by rw [List.append_nil]
          by_cases hc : c = []
          · have hf : fw c (b :: B) = fw [] B := by rw [hc, h32]; exact fw_space0 B
            rw [hf] at hW
            rw [decide_eq_false (by rw [hc]; simp), cond_false]
            have := ih B (P ++ c ++ [b]) [] W (by rw [e]; simp) (by omega) (by rw [List.append_nil]; exact hp2) hW (by simp at hWl ⊢; omega)
            rw [← hl2] at this
            exact this
          · have hf : fw c (b :: B) = c :: fw [] B := by rw [h32]; exact fw_space c B hc
            rw [hf] at hW
            have hpos : 0 < c.length := List.length_pos_iff.2 hc
            rw [decide_eq_true (by simp; omega), cond_true]
            have hm : W.map bts ++ [bts c] = (W ++ [c]).map bts := by simp
            rw [hm]
            have := ih B (P ++ c ++ [b]) [] (W ++ [c]) (by rw [e]; simp) (by omega) (by rw [List.append_nil]; exact hp2) (by rw [← hW]; simp) (by simp at hWl ⊢; omega)
            rw [← hl2] at this
            exact this
        · have hi : ¬ (b.toNat : Int) = 32 := fun q => by
            have q2 : b.toNat = 32 := by omega
            exact h32 (UInt8.toNat_inj.1 (by rw [q2]; rfl))
          rw [decide_eq_false hi, Bool.not_false, cond_true, hl1]
          have hf : fw c (b :: B) = fw (c ++ [b]) B := by
            show (if b = 32 then _ else fw (c ++ [b]) B) = _
            rw [if_neg h32]
          rw [hf] at hW
          have := ih B P (c ++ [b]) W (by rw [e]; simp) (by omega) (by rw [← List.append_assoc]; exact hp2) hW (by simp at hWl ⊢; omega)
          rw [← List.append_assoc] at this
          exact this
      · have hno : SF l = ([], false) := by
          unfold SF
          rw [if_neg (fun q => hb (q.2.1 b (by rw [e]; simp)))]
        rw [hno]
        rcases plain_cases b hb with h | ⟨h, h2⟩
        · rw [decide_eq_true h]; rfl
        · rw [decide_eq_false h, decide_eq_true h2]; rfl
theorem spec_SplitFields_eq (k : Nat) (hk : 601 ≤ k) (l : List UInt8) : spec_SplitFields k (bts l) = some (sfB (SF l)) := by
  unfold spec_SplitFields spec_SplitFields_m
  rw [bts_size]
  by_cases h : l.length ≤ 600
  · rw [decide_eq_false (by omega), cond_false]
    exact spec_sf_lp k l h k l [] [] [] rfl (by omega) (by simp) rfl (by simp)
  · rw [decide_eq_true (by omega), cond_true]
    unfold SF
    rw [if_neg (fun q => h q.1)]; rfl
theorem SF_cases (l : List UInt8) : SF l = ([], false) ∨ (SF l = (wds l, true) ∧ l.length ≤ 600 ∧ (wds l).length ≤ 24) := by
  unfold SF
  split
  · rename_i h; exact .inr ⟨rfl, h.1, h.2.2⟩
  · exact .inl rfl
theorem wds_small (l : List UInt8) (h : l.length ≤ 600) : ∀ w ∈ wds l, w.length ≤ 600 := fun w hw => by
  have := fw_size l [] w hw
  simp at this; omega
end Go.Proofs.YtlenacakmmikiaaGreatDoorX
namespace Go.Proofs.YtlenacakmmikiaaGreatDoorX
open Go Go.Proofs
set_option linter.unusedVariables false
def zrA : Deed × Bool := (⟨0, 0, 0⟩, false)
def finA (a : Deed) : Deed × Bool := if actOk a = true then (a, true) else zrA
theorem finA_cases (a : Deed) : finA a = zrA ∨ (finA a = (a, true) ∧ actOk a = true) := by
  unfold finA
  split
  · rename_i h; exact .inr ⟨rfl, h⟩
  · exact .inl rfl
/-- What both answer: nothing, or an act that the words tell; and if they tell one, then that. -/
def Sound (p : List (List UInt8)) (r : Deed × Bool) : Prop := r = zrA ∨ (r.2 = true ∧ Tells p r.1)
theorem reads_of {p : List (List UInt8)} {r : Deed × Bool} (h1 : Sound p r) (h2 : ∀ a, Tells p a → r = (a, true)) : Reads p r := by
  rcases h1 with h | h
  · refine .inr ⟨h, fun a ha => ?_⟩
    have := h2 a ha
    rw [h] at this
    exact absurd (congrArg Prod.snd this) (by simp [zrA])
  · exact .inl h
/-! ### The program's reading -/
def wsB : List ByteArray := [(ByteArray.mk #[98, 97, 107, 101]), (ByteArray.mk #[115, 101, 108, 108]), (ByteArray.mk #[99, 104, 101, 97, 112]), (ByteArray.mk #[109, 111, 114, 110, 105, 110, 103]), (ByteArray.mk #[98, 117, 121]), (ByteArray.mk #[102, 108, 111, 117, 114])]
theorem idx_words (w : List UInt8) : (∃ k : Nat, 1 ≤ k ∧ k ≤ 6 ∧ w = actW (k : Int) ∧ Lib.idxOfS wsB (bts w) = (k : Int) - 1) ∨ (Lib.idxOfS wsB (bts w) = -1 ∧ ∀ k : Nat, 1 ≤ k → k ≤ 6 → w ≠ actW (k : Int)) := by
  have e : wsB = [bts (actW 1), bts (actW 2), bts (actW 3), bts (actW 4), bts (actW 5), bts (actW 6)] := rfl
  have ne : ∀ {a : List UInt8}, w ≠ a → ¬ bts a = bts w := fun h q => h (bts_inj q).symm
  rw [e]
  unfold Lib.idxOfS
  simp only [Lib.idxFromS]
  by_cases h1 : w = actW 1
  · exact .inl ⟨1, by decide, by decide, h1, by rw [if_pos (by rw [h1])]; rfl⟩
  rw [if_neg (ne h1)]
  by_cases h2 : w = actW 2
  · exact .inl ⟨2, by decide, by decide, h2, by rw [if_pos (by rw [h2])]; rfl⟩
  rw [if_neg (ne h2)]
  by_cases h3 : w = actW 3
  · exact .inl ⟨3, by decide, by decide, h3, by rw [if_pos (by rw [h3])]; rfl⟩
  rw [if_neg (ne h3)]
  by_cases h4 : w = actW 4
  · exact .inl ⟨4, by decide, by decide, h4, by rw [if_pos (by rw [h4])]; rfl⟩
  rw [if_neg (ne h4)]
  by_cases h5 : w = actW 5
  · exact .inl ⟨5, by decide, by decide, h5, by rw [if_pos (by rw [h5])]; rfl⟩
  rw [if_neg (ne h5)]
  by_cases h6 : w = actW 6
  · exact .inl ⟨6, by decide, by decide, h6, by rw [if_pos (by rw [h6])]; rfl⟩
  rw [if_neg (ne h6)]
  refine .inr ⟨rfl, fun k a b => ?_⟩
  have : k = 1 ∨ k = 2 ∨ k = 3 ∨ k = 4 ∨ k = 5 ∨ k = 6 := by omega
  rcases this with q | q | q | q | q | q <;> subst q <;> assumption
theorem actN_le (k : Nat) (h1 : 1 ≤ k) (h6 : k ≤ 6) : actN (k : Int) ≤ 2 ∧ ([1, 1, 1, 0, 2, 1] : List Int).getD (Int.toNat ((k : Int) - 1)) 0 = ((actN (k : Int) : Nat) : Int) := by
  have : k = 1 ∨ k = 2 ∨ k = 3 ∨ k = 4 ∨ k = 5 ∨ k = 6 := by omega
  rcases this with q | q | q | q | q | q <;> subst q <;> exact ⟨by decide, by decide⟩
theorem tell_word {w : List UInt8} {ps : List (List UInt8)} {a : Deed} {k : Nat} (h1 : 1 ≤ k) (h6 : k ≤ 6) (hw : w = actW (k : Int)) (h : Tells (w :: ps) a) : a.Kind = (k : Int) ∧ ps = ([a.A, a.B].take (actN (k : Int))).map Lib.itoa := by
  obtain ⟨ha, ht⟩ := h
  unfold TF at ht
  have e1 := (List.cons.inj ht).1
  have e2 := (List.cons.inj ht).2
  have hk : a.Kind = (k : Int) := by
    rw [hw] at e1
    have : k = 1 ∨ k = 2 ∨ k = 3 ∨ k = 4 ∨ k = 5 ∨ k = 6 := by omega
    rcases act_kinds ha with x | x | x | x | x | x <;> rcases this with y | y | y | y | y | y <;> rw [x, y] at e1 <;> first
      | exact absurd e1 (by decide)
      | (rw [x, y]; rfl)
  exact ⟨hk, by rw [← hk]; exact e2.symm⟩
theorem told_word {k : Nat} {n0 n1 : Int} {ps : List (List UInt8)} (h : actOk ⟨(k : Int), n0, n1⟩ = true) (hp : ps = ([n0, n1].take (actN (k : Int))).map Lib.itoa) : Tells (actW (k : Int) :: ps) ⟨(k : Int), n0, n1⟩ := ⟨h, by rw [hp]; rfl⟩
noncomputable def numsA (k : Nat) (ps : List (List UInt8)) : Deed × Bool := match ps with
  | [] => finA ⟨(k : Int), 0, 0⟩
  | [x] => if (pu (bts x)).2 = true then finA ⟨(k : Int), (pu (bts x)).1, 0⟩ else zrA
  | [x, y] => if (pu (bts x)).2 = true then (if (pu (bts y)).2 = true then finA ⟨(k : Int), (pu (bts x)).1, (pu (bts y)).1⟩ else zrA) else zrA
  | _ => zrA
theorem numsA_1 (k : Nat) (x : List UInt8) : numsA k [x] = if (pu (bts x)).2 = true then finA ⟨(k : Int), (pu (bts x)).1, 0⟩ else zrA := rfl
theorem numsA_2 (k : Nat) (x y : List UInt8) : numsA k [x, y] = if (pu (bts x)).2 = true then (if (pu (bts y)).2 = true then finA ⟨(k : Int), (pu (bts x)).1, (pu (bts y)).1⟩ else zrA) else zrA := rfl
theorem pu_true {x : List UInt8} (h : (pu (bts x)).2 = true) : x = Lib.itoa (pu (bts x)).1 := by
  rcases pu_cases (bts x) with e | ⟨n, hn, e, e2⟩
  · rw [e] at h; cases h
  · rw [e2]; exact bts_inj e
theorem numsA_reads (k : Nat) (h1 : 1 ≤ k) (h6 : k ≤ 6) (ps : List (List UInt8)) (hl : ps.length = actN (k : Int)) : Reads (actW (k : Int) :: ps) (numsA k ps) := by
  have hN := (actN_le k h1 h6).1
  have puI : ∀ {n : Int}, Num n → pu (bts (Lib.itoa n)) = (n, true) := fun h => pu_itoa _ h
  refine reads_of ?_ fun a ha => ?_
  · match ps, hl with
    | [], hl =>
      rcases finA_cases ⟨(k : Int), 0, 0⟩ with e | ⟨e, h⟩
      · exact .inl e
      · exact .inr ⟨by show (finA _).2 = true; rw [e], by show Tells _ (finA _).1; rw [e]; exact told_word h (by rw [← hl]; rfl)⟩
    | [x], hl =>
      show Sound _ (if _ then _ else _)
      split
      · rename_i hx
        rcases finA_cases ⟨(k : Int), (pu (bts x)).1, 0⟩ with e | ⟨e, h⟩
        · exact .inl e
        · refine .inr ⟨by rw [e], ?_⟩
          rw [e]
          refine told_word h ?_
          rw [← hl]
          show [x] = [Lib.itoa (pu (bts x)).1]
          rw [← pu_true hx]
      · exact .inl rfl
    | [x, y], hl =>
      show Sound _ (if _ then _ else _)
      split
      · rename_i hx
        split
        · rename_i hy
          rcases finA_cases ⟨(k : Int), (pu (bts x)).1, (pu (bts y)).1⟩ with e | ⟨e, h⟩
          · exact .inl e
          · refine .inr ⟨by rw [e], ?_⟩
            rw [e]
            refine told_word h ?_
            rw [← hl]
            show [x, y] = [Lib.itoa (pu (bts x)).1, Lib.itoa (pu (bts y)).1]
            rw [← pu_true hx, ← pu_true hy]
        · exact .inl rfl
      · exact .inl rfl
    | x :: y :: z :: r, hl => simp at hl; omega
  · obtain ⟨hk, hps⟩ := tell_word h1 h6 rfl ha
    have hok := ha.1
    obtain ⟨nA, nB⟩ := act_num hok
    obtain ⟨_, _, b1, b2⟩ := act_nums hok
    rw [hk] at b1 b2
    have hc : actN (k : Int) = 0 ∨ actN (k : Int) = 1 ∨ actN (k : Int) = 2 := by omega
    have hfin : finA a = (a, true) := by unfold finA; rw [if_pos hok]
    obtain ⟨ak, aA, aB⟩ := a
    simp only at hk b1 b2 hps nA nB
    subst hk
    rcases hc with c | c | c
    · rw [c] at hps
      rw [hps]
      have z1 := b2 c
      have z2 := b1 (by omega)
      subst z1; subst z2
      exact hfin
    · rw [c] at hps
      rw [hps]
      have z2 := b1 (by omega)
      subst z2
      show (if (pu (bts (Lib.itoa aA))).2 = true then finA ⟨(k : Int), (pu (bts (Lib.itoa aA))).1, 0⟩ else zrA) = _
      rw [puI nA, if_pos rfl]
      exact hfin
    · rw [c] at hps
      rw [hps]
      show (if (pu (bts (Lib.itoa aA))).2 = true then (if (pu (bts (Lib.itoa aB))).2 = true then finA ⟨(k : Int), (pu (bts (Lib.itoa aA))).1, (pu (bts (Lib.itoa aB))).1⟩ else zrA) else zrA) = _
      rw [puI nA, puI nB, if_pos rfl, if_pos rfl]
      exact hfin
theorem impl_pa_end (k : Nat) (y1 : List ByteArray × Bool) (y3 : Int × List ByteArray) (R : List ByteArray) (hR : (y1.1.take (Int.toNat ((y1.1).length : Int))).drop 1 = R) (J : Int → Int → Int → Option (Deed × Bool)) (κ : Nat) (hκ : y3.1 = (κ : Int) - 1) (h6 : κ ≤ 6) (n0 n1 : Int) :
    impl_ParseAct_s0 k y1 y3 J (R.length : Int) n0 n1 = some (finA ⟨(κ : Int), n0, n1⟩) := by
  unfold impl_ParseAct_s0 finA
  rw [hR, decide_eq_false (by omega), cond_false, if_pos (by decide), if_pos (by decide), hκ, wr_id (by omega) (by omega), impl_ActOk_eq]
  have e : (κ : Int) - 1 + 1 = (κ : Int) := by omega
  rw [e, Option.bind_some, cond_not]
  cases actOk ⟨(κ : Int), n0, n1⟩ <;> rfl
theorem impl_pa_step (k : Nat) (y1 : List ByteArray × Bool) (y3 : Int × List ByteArray) (A : List ByteArray) (x : List UInt8) (B : List ByteArray) (hR : (y1.1.take (Int.toNat ((y1.1).length : Int))).drop 1 = A ++ bts x :: B) (hA : A.length ≤ 1) (hx : x.length ≤ 1048576) (J : Int → Int → Int → Option (Deed × Bool)) (n0 n1 : Int) :
    impl_ParseAct_s0 k y1 y3 J (A.length : Int) n0 n1 = if (pu (bts x)).2 = true then J ((A ++ [bts x]).length : Int) (if A.length = 0 then (pu (bts x)).1 else n0) (if A.length = 0 then n1 else (pu (bts x)).1) else some zrA := by
  unfold impl_ParseAct_s0
  rw [hR, lt_mid, if_pos ((g_mid A (bts x) B).mpr trivial), getD_mid, impl_ParseUint_eq k _ (by rw [bts_size]; exact hx), cond_true, Option.bind_some, cond_not]
  cases hp : (pu (bts x)).2 with
  | false => rfl
  | true =>
    rw [cond_true, if_pos rfl, if_pos ⟨by omega, by omega⟩, wr_suc A (bts x) (by omega)]
    by_cases h0 : A.length = 0
    · rw [if_pos h0, if_pos h0, decide_eq_true (by omega), cond_true]
    · rw [if_neg h0, if_neg h0, decide_eq_false (by omega), decide_eq_true (by omega), cond_false, cond_true]
theorem impl_pa_lp (k : Nat) (hk : 3 ≤ k) (y1 : List ByteArray × Bool) (y3 : Int × List ByteArray) (ps : List (List UInt8)) (hR : (y1.1.take (Int.toNat ((y1.1).length : Int))).drop 1 = ps.map bts) (hl : ps.length ≤ 2) (hx : ∀ x ∈ ps, x.length ≤ 1048576) (κ : Nat) (hκ : y3.1 = (κ : Int) - 1) (h6 : κ ≤ 6) :
    impl_ParseAct_l0 k k y1 y3 0 0 0 = some (numsA κ ps) := by
  obtain ⟨m, rfl⟩ : ∃ m, k = m + 3 := ⟨k - 3, by omega⟩
  match ps, hl with
  | [], _ => exact impl_pa_end (m + 3) y1 y3 [] hR _ κ hκ h6 0 0
  | [x], _ =>
    have s1 := impl_pa_step (m + 3) y1 y3 [] x [] hR (by decide) (hx x (by simp)) (impl_ParseAct_l0 (m + 3) (m + 2) y1 y3) 0 0
    refine s1.trans ?_
    rw [numsA_1]
    by_cases hx1 : (pu (bts x)).2 = true
    · rw [if_pos hx1, if_pos hx1]
      exact impl_pa_end (m + 3) y1 y3 [bts x] hR (impl_ParseAct_l0 (m + 3) (m + 1) y1 y3) κ hκ h6 _ _
    · rw [if_neg hx1, if_neg hx1]
  | [x, y], _ =>
    have s1 := impl_pa_step (m + 3) y1 y3 [] x [bts y] hR (by decide) (hx x (by simp)) (impl_ParseAct_l0 (m + 3) (m + 2) y1 y3) 0 0
    refine s1.trans ?_
    rw [numsA_2]
    by_cases hx1 : (pu (bts x)).2 = true
    · rw [if_pos hx1, if_pos hx1]
      have s2 := impl_pa_step (m + 3) y1 y3 [bts x] y [] hR (by simp) (hx y (by simp)) (impl_ParseAct_l0 (m + 3) (m + 1) y1 y3) (pu (bts x)).1 0
      refine s2.trans ?_
      by_cases hy1 : (pu (bts y)).2 = true
      · rw [if_pos hy1, if_pos hy1]
        exact impl_pa_end (m + 3) y1 y3 [bts x, bts y] hR (impl_ParseAct_l0 (m + 3) m y1 y3) κ hκ h6 _ _
      · rw [if_neg hy1, if_neg hy1]
    · rw [if_neg hx1, if_neg hx1]
  | x :: y :: z :: r, hl => simp at hl
/-- What either answers at a line. -/
def Answers (l : List UInt8) (r : Deed × Bool) : Prop := ((SF l).2 = true ∧ Reads (SF l).1 r) ∨ ((SF l).2 = false ∧ r = zrA)
theorem answers_uniq {l : List UInt8} {r s : Deed × Bool} (h : Answers l r) (h2 : Answers l s) : r = s := by
  rcases h with ⟨h, a⟩ | ⟨h, a⟩ <;> rcases h2 with ⟨h2, b⟩ | ⟨h2, b⟩
  · exact reads_uniq a b
  · rw [h] at h2; cases h2
  · rw [h] at h2; cases h2
  · rw [a, b]
theorem no_words (r : Deed × Bool) (h : r = zrA) : Reads [] r := .inr ⟨h, fun a q => by have := q.2; unfold TF at this; cases this⟩
theorem no_tells {p : List (List UInt8)} (h : ∀ a, ¬ Tells p a) : Reads p zrA := .inr ⟨rfl, h⟩
theorem impl_ParseAct_eq (k : Nat) (hk : 601 ≤ k) (l : List UInt8) : ∃ r, impl_ParseAct k (bts l) = some r ∧ Answers l r := by
  unfold impl_ParseAct impl_ParseAct_m
  rw [impl_SplitFields_eq k (by omega) l, Option.bind_some]
  rcases SF_cases l with e | ⟨e, h600, h24⟩
  · refine ⟨zrA, ?_, .inr ⟨by rw [e], rfl⟩⟩
    rw [e]; rfl
  · have small := wds_small l h600
    rw [e]
    suffices h : ∀ p : List (List UInt8), p.length ≤ 24 → (∀ w ∈ p, w.length ≤ 600) → ∃ r, (cond (!(sfB (p, true)).2) (some ((⟨0, 0, 0⟩ : Deed), false)) (cond (decide (((sfB (p, true)).1.length : Int) = 0)) (some ((⟨0, 0, 0⟩ : Deed), false))
        ((impl_actWords k).bind fun y2 => if 0 ≤ (0 : Int) ∧ (0 : Int) < ((sfB (p, true)).1.length : Int) then
          (slices_Index_string_string k y2 ((sfB (p, true)).1.getD 0 (ByteArray.mk #[]))).bind fun y3 => cond (decide ((y3.1 : Int) < 0)) (some ((⟨0, 0, 0⟩ : Deed), false))
            ((impl_actNumbers k).bind fun y4 => if 0 ≤ (y3.1 : Int) ∧ (y3.1 : Int) < ((y4).length : Int) then
              cond (!(decide (((sfB (p, true)).1.length : Int) = (wr ((y4.getD (Int.toNat y3.1) 0) + 1))))) (some ((⟨0, 0, 0⟩ : Deed), false))
                (if (0 : Int) ≤ 1 ∧ 1 ≤ ((sfB (p, true)).1.length : Int) ∧ ((sfB (p, true)).1.length : Int) ≤ ((sfB (p, true)).1.length : Int) then impl_ParseAct_l0 k k (sfB (p, true)) y3 0 0 0 else none) else none) else none))) = some r ∧ Reads p r by
      obtain ⟨r, h1, h2⟩ := h (wds l) h24 small
      exact ⟨r, h1, .inl ⟨by rw [e], by rw [e]; exact h2⟩⟩
    intro p hp hps
    cases p with
    | nil => exact ⟨zrA, rfl, no_words _ rfl⟩
    | cons w ps =>
      have hlen : ((sfB (w :: ps, true)).1.length : Int) = (ps.length : Int) + 1 := by simp [sfB]
      have hg0 : (sfB (w :: ps, true)).1.getD 0 (ByteArray.mk #[]) = bts w := rfl
      rw [hlen, hg0]
      have hnot : (!(sfB (w :: ps, true)).2) = false := rfl
      rw [hnot, cond_false, decide_eq_false (by omega), cond_false]
      unfold impl_actWords impl_actNumbers slices_Index_string_string
      rw [Option.bind_some, if_pos ⟨by omega, by omega⟩, if_pos (by decide), Option.bind_some, Option.bind_some]
      simp only
      rcases idx_words w with ⟨κ, k1, k6, hw, hi⟩ | ⟨hi, hno⟩
      · have hi' : Lib.idxOfS [(ByteArray.mk #[98, 97, 107, 101]), (ByteArray.mk #[115, 101, 108, 108]), (ByteArray.mk #[99, 104, 101, 97, 112]), (ByteArray.mk #[109, 111, 114, 110, 105, 110, 103]), (ByteArray.mk #[98, 117, 121]), (ByteArray.mk #[102, 108, 111, 117, 114])] (bts w) = (κ : Int) - 1 := hi
        obtain ⟨n2, nn⟩ := actN_le κ k1 k6
        rw [hi', decide_eq_false (by omega), cond_false, if_pos ⟨by omega, by simp; omega⟩, nn, wr_id (by omega) (by omega)]
        by_cases hl : ps.length = actN (κ : Int)
        · rw [decide_eq_true (by omega), if_pos ⟨by omega, by omega, by omega⟩]
          have hR : ((sfB (w :: ps, true)).1.take (Int.toNat ((sfB (w :: ps, true)).1.length : Int))).drop 1 = ps.map bts := by
            have : Int.toNat ((sfB (w :: ps, true)).1.length : Int) = (sfB (w :: ps, true)).1.length := by omega
            rw [this, List.take_length]; rfl
          refine ⟨numsA κ ps, ?_, ?_⟩
          · exact impl_pa_lp k (by omega) _ _ ps hR (by omega) (fun x hx => by have := hps x (by simp [hx]); omega) κ rfl k6
          · rw [hw]; exact numsA_reads κ k1 k6 ps hl
        · rw [decide_eq_false (by omega)]
          refine ⟨zrA, rfl, no_tells fun a ha => hl ?_⟩
          have := (tell_word k1 k6 hw ha).2
          rw [this]
          rw [List.length_map, List.length_take]
          simp; omega
      · have hi' : Lib.idxOfS [(ByteArray.mk #[98, 97, 107, 101]), (ByteArray.mk #[115, 101, 108, 108]), (ByteArray.mk #[99, 104, 101, 97, 112]), (ByteArray.mk #[109, 111, 114, 110, 105, 110, 103]), (ByteArray.mk #[98, 117, 121]), (ByteArray.mk #[102, 108, 111, 117, 114])] (bts w) = -1 := hi
        rw [hi', decide_eq_true (by omega), cond_true]
        refine ⟨zrA, rfl, no_tells fun a ha => ?_⟩
        have h1 := (List.cons.inj ha.2).1
        rcases act_kinds ha.1 with x | x | x | x | x | x
        · exact hno 1 (by decide) (by decide) (by rw [← h1, x]; rfl)
        · exact hno 2 (by decide) (by decide) (by rw [← h1, x]; rfl)
        · exact hno 3 (by decide) (by decide) (by rw [← h1, x]; rfl)
        · exact hno 4 (by decide) (by decide) (by rw [← h1, x]; rfl)
        · exact hno 5 (by decide) (by decide) (by rw [← h1, x]; rfl)
        · exact hno 6 (by decide) (by decide) (by rw [← h1, x]; rfl)
/-! ### The reference's reading -/
noncomputable def numV (x : List UInt8) : Int := match x with
  | [] => (pu (bts [])).1
  | b :: r => if 1 < (b :: r).length ∧ b.toNat = 45 then 0 - (pu (bts r)).1 else (pu (bts (b :: r))).1
theorem numV_cons (b : UInt8) (r : List UInt8) : numV (b :: r) = if 1 < (b :: r).length ∧ b.toNat = 45 then 0 - (pu (bts r)).1 else (pu (bts (b :: r))).1 := rfl
theorem l40Number_eq (k : Nat) (hk : 20 ≤ k) (x : List UInt8) (hx : x.length ≤ 1048576) : spec_l40Number k (bts x) = some (numV x) := by
  unfold spec_l40Number
  rw [bts_size, spec_ParseUint_eq k hk (bts x) (by rw [bts_size]; exact hx)]
  cases x with
  | nil => rw [decide_eq_false (by simp)]; rfl
  | cons b r =>
    have hbyte : byteAt (bts (b :: r)) 0 = (b.toNat : Int) := byteAt_bts [] b r
    rw [numV_cons]
    by_cases h1 : 1 < (b :: r).length
    · rw [decide_eq_true (by omega), cond_true, if_pos ⟨by omega, by omega⟩, hbyte, if_pos ⟨by omega, by omega, by omega⟩]
      by_cases h45 : b.toNat = 45
      · rw [decide_eq_true (by omega), cond_true, if_pos ⟨h1, h45⟩]
        have ex : (bts (b :: r)).extract 1 (Int.toNat (((b :: r).length : Nat) : Int)) = bts r := by
          rw [extract_bts, Int.toNat_natCast]
          congr 1
          show (r).take ((b :: r).length - 1) = r
          exact List.take_of_length_le (by simp)
        rw [ex, spec_ParseUint_eq k hk (bts r) (by rw [bts_size]; simp at hx; omega), Option.bind_some]
        have := pu_range (bts r)
        unfold Num at this
        rw [wr_id (by omega) (by omega)]
      · rw [decide_eq_false (by omega), cond_false, if_neg (fun q => h45 q.2)]; rfl
    · rw [decide_eq_false (by omega), cond_false, if_neg (fun q => h1 q.1)]; rfl
theorem numV_itoa {n : Int} (h : Num n) : numV (Lib.itoa n) = n := by
  have h1 := (itoa_facts n h).1
  have h2 := pu_itoa n h
  unfold itoaB at h2
  cases hx : Lib.itoa n with
  | nil => exact absurd hx (itoa_facts n h).2.1
  | cons b r =>
    rw [hx] at h1 h2
    rw [numV_cons]
    have := h1 b (by simp)
    unfold Dig at this
    rw [if_neg (fun q => by omega), h2]
/-- The first kind whose act is right and has the text T. -/
def pick (n0 n1 : Int) (T : ByteArray) : Nat → Nat → Deed × Bool
  | 0, _ => zrA
  | d + 1, κ => if actOk ⟨(κ : Int), n0, n1⟩ = true ∧ bts (lineW (TF ⟨(κ : Int), n0, n1⟩)) = T then (⟨(κ : Int), n0, n1⟩, true) else pick n0 n1 T d (κ + 1)
theorem pick_succ (n0 n1 : Int) (T : ByteArray) (d κ : Nat) : pick n0 n1 T (d + 1) κ = if actOk ⟨(κ : Int), n0, n1⟩ = true ∧ bts (lineW (TF ⟨(κ : Int), n0, n1⟩)) = T then (⟨(κ : Int), n0, n1⟩, true) else pick n0 n1 T d (κ + 1) := rfl
theorem spec_pa_l1 (k : Nat) (hk : 30 ≤ k) (T : ByteArray) (L : List Int) (n0 n1 : Int) (hL : 2 ≤ (L ++ [0, 0]).length) (e0 : (L ++ [0, 0]).getD 0 0 = n0) (e1 : (L ++ [0, 0]).getD 1 0 = n1) : ∀ (m κ d : Nat), κ + d = 7 → d ≤ m → spec_ParseAct_l1 k m T L (κ : Int) = some (pick n0 n1 T d κ) := by
  intro m
  induction m with
  | zero =>
    intro κ d h1 h2
    have : d = 0 := by omega
    subst this
    unfold spec_ParseAct_l1 spec_ParseAct_s1
    rw [decide_eq_false (by omega)]; rfl
  | succ m ih =>
    intro κ d h1 h2
    unfold spec_ParseAct_l1 spec_ParseAct_s1
    cases d with
    | zero => rw [decide_eq_false (by omega)]; rfl
    | succ d =>
      rw [decide_eq_true (by omega), if_pos ⟨by omega, by omega⟩, if_pos ⟨by omega, by omega⟩, e0, e1, spec_FormatAct_is k hk, cond_true, Option.bind_some, wr_id (by omega) (by omega)]
      have hih := ih (κ + 1) d (by omega) (by omega)
      have ec : ((κ + 1 : Nat) : Int) = (κ : Int) + 1 := by omega
      rw [ec] at hih
      rw [hih]
      unfold fmtA
      rw [pick_succ]
      by_cases ho : actOk ⟨(κ : Int), n0, n1⟩ = true
      · rw [if_pos ho, cond_true]
        by_cases ht : bts (lineW (TF ⟨(κ : Int), n0, n1⟩)) = T
        · rw [decide_eq_true ht, if_pos ⟨ho, ht⟩]; rfl
        · rw [decide_eq_false ht, if_neg (fun q => ht q.2)]; rfl
      · rw [if_neg ho, if_neg (fun q => ho q.1)]; rfl
theorem pick_sound (n0 n1 : Int) (T : ByteArray) : ∀ (d κ : Nat), pick n0 n1 T d κ = zrA ∨ ∃ a, pick n0 n1 T d κ = (a, true) ∧ actOk a = true ∧ bts (lineW (TF a)) = T := by
  intro d
  induction d with
  | zero => intro κ; exact .inl rfl
  | succ d ih =>
    intro κ
    unfold pick
    split
    · rename_i h; exact .inr ⟨_, rfl, h.1, h.2⟩
    · exact ih (κ + 1)
theorem pick_hit (a : Deed) (T : ByteArray) (ha : actOk a = true) (hT : bts (lineW (TF a)) = T) (hu : ∀ b, actOk b = true → bts (lineW (TF b)) = T → b = a) : ∀ (d κ : Nat), (κ : Int) ≤ a.Kind → a.Kind < (κ : Int) + d → pick a.A a.B T d κ = (a, true) := by
  intro d
  induction d with
  | zero => intro κ h1 h2; omega
  | succ d ih =>
    intro κ h1 h2
    unfold pick
    split
    · rename_i h
      rw [hu _ h.1 h.2]
    · rename_i h
      refine ih (κ + 1) ?_ (by omega)
      have : (κ : Int) ≠ a.Kind := fun q => h (by rw [q]; exact ⟨ha, hT⟩)
      omega
theorem lineW_snoc (w : List UInt8) (A : List (List UInt8)) (x : List UInt8) : lineW (w :: (A ++ [x])) = lineW (w :: A) ++ [32] ++ x := by simp [lineW]
theorem lineW_len (w : List UInt8) (hw : w.length ≤ 600) : ∀ (A : List (List UInt8)), (∀ x ∈ A, x.length ≤ 600) → (lineW (w :: A)).length ≤ 600 + 601 * A.length := by
  intro A h
  have : ((A.map (32 :: ·)).flatten).length ≤ 601 * A.length := by
    induction A with
    | nil => simp
    | cons a r ih =>
      have h1 := h a (by simp)
      have h2 := ih (fun x hx => h x (by simp [hx]))
      simp only [List.map_cons, List.flatten_cons, List.length_append, List.length_cons]
      omega
  simp only [lineW, List.length_append]
  omega
theorem spec_pa_lp (k : Nat) (hk : 30 ≤ k) (y1 : List ByteArray × Bool) (w : List UInt8) (hw : w.length ≤ 600) (n0 n1 : Int) : ∀ (m : Nat) (B A : List (List UInt8)), y1.1 = (bts w :: A.map bts) ++ B.map bts → B.length ≤ m → (A ++ B).length ≤ 24 → (∀ x ∈ A ++ B, x.length ≤ 600) →
    ((A ++ B).map numV ++ [0, 0]).getD 0 0 = n0 → ((A ++ B).map numV ++ [0, 0]).getD 1 0 = n1 →
    spec_ParseAct_l0 k m y1 (bts (lineW (w :: A))) ((A.length : Int) + 1) (A.map numV) = some (pick n0 n1 (bts (lineW (w :: (A ++ B)))) 6 1) := by
  have fin : ∀ (J : ByteArray → Int → List Int → Option (Deed × Bool)) (A : List (List UInt8)), y1.1 = (bts w :: A.map bts) → A.length ≤ 24 → (A.map numV ++ [0, 0]).getD 0 0 = n0 → (A.map numV ++ [0, 0]).getD 1 0 = n1 →
      spec_ParseAct_s0 k (spec_ParseAct_l1 k k) y1 J (bts (lineW (w :: A))) ((A.length : Int) + 1) (A.map numV) = some (pick n0 n1 (bts (lineW (w :: A))) 6 1) := by
    intro J A e hA g0 g1
    unfold spec_ParseAct_s0
    rw [e, decide_eq_false (by simp), cond_false, if_pos (by rw [List.length_map]; unfold maxRow; simp; omega)]
    exact spec_pa_l1 k hk _ _ n0 n1 (by simp) g0 g1 k 1 6 (by omega) (by omega)
  intro m
  induction m with
  | zero =>
    intro B A e h1 h2 h3 g0 g1
    have hB : B = [] := List.eq_nil_of_length_eq_zero (by omega)
    subst hB
    rw [List.append_nil] at h2 g0 g1 ⊢
    rw [List.map_nil, List.append_nil] at e
    unfold spec_ParseAct_l0
    exact fin _ A e h2 g0 g1
  | succ m ih =>
    intro B A e h1 h2 h3 g0 g1
    cases B with
    | nil =>
      rw [List.append_nil] at h2 g0 g1 ⊢
      rw [List.map_nil, List.append_nil] at e
      unfold spec_ParseAct_l0
      exact fin _ A e h2 g0 g1
    | cons x B =>
      have hx := h3 x (by simp)
      have hlw := lineW_len w hw A (fun y hy => h3 y (by simp [hy]))
      simp only [List.length_append, List.length_cons] at h1 h2
      have e' : y1.1 = (bts w :: A.map bts) ++ bts x :: B.map bts := e
      have hAl : ((bts w :: A.map bts).length : Int) = (A.length : Int) + 1 := by simp
      unfold spec_ParseAct_l0 spec_ParseAct_s0
      rw [e', ← hAl, lt_mid, getD_mid]
      simp only [if_pos ((g_mid (bts w :: A.map bts) (bts x) (B.map bts)).mpr trivial)]
      have e32 : (ByteArray.mk #[32]) = bts [32] := rfl
      rw [e32, cond_true, if_pos (by rw [bts_size, bts_size]; simp; omega), bts_app, if_pos (by rw [bts_size, bts_size]; simp; omega), l40Number_eq k (by omega) x (by omega), Option.bind_some, if_pos (by rw [List.length_map]; unfold maxRow; simp; omega), bts_app]
      have ew : wr (((bts w :: A.map bts).length : Int) + 1) = (((A ++ [x]).length : Nat) : Int) + 1 := by
        rw [wr_id (by simp; omega) (by simp; omega)]; simp
      have em : A.map numV ++ [numV x] = (A ++ [x]).map numV := by simp
      rw [ew, em, ← lineW_snoc, app_mid A x B]
      exact ih B (A ++ [x]) (by rw [e]; simp) (by omega) (by simp; omega) (by rw [← app_mid]; exact h3) (by rw [← app_mid]; exact g0) (by rw [← app_mid]; exact g1)
theorem pick_reads (w : List UInt8) (ps : List (List UInt8)) (hw : Wd w) (hps : ∀ x ∈ ps, Wd x) : Reads (w :: ps) (pick ((ps.map numV ++ [0, 0]).getD 0 0) ((ps.map numV ++ [0, 0]).getD 1 0) (bts (lineW (w :: ps))) 6 1) := by
  have uniq : ∀ b, actOk b = true → bts (lineW (TF b)) = bts (lineW (w :: ps)) → TF b = w :: ps := fun b hb e => lineW_inj hb hw hps (bts_inj e)
  refine reads_of ?_ fun a ha => ?_
  · rcases pick_sound ((ps.map numV ++ [0, 0]).getD 0 0) ((ps.map numV ++ [0, 0]).getD 1 0) (bts (lineW (w :: ps))) 6 1 with e | ⟨a, e, ho, ht⟩
    · exact .inl e
    · exact .inr ⟨by rw [e], by rw [e]; exact ⟨ho, uniq a ho ht⟩⟩
  · obtain ⟨ho, ht⟩ := ha
    have hps2 : ps = ([a.A, a.B].take (actN a.Kind)).map Lib.itoa := (List.cons.inj ht).2.symm
    obtain ⟨nA, nB⟩ := act_num ho
    obtain ⟨_, _, b1, b2⟩ := act_nums ho
    have hn : (ps.map numV ++ [0, 0]).getD 0 0 = a.A ∧ (ps.map numV ++ [0, 0]).getD 1 0 = a.B := by
      have hc : actN a.Kind = 0 ∨ actN a.Kind = 1 ∨ actN a.Kind = 2 := by have := (TF_len ho).2; omega
      rcases hc with c | c | c
      · rw [hps2, c]; exact ⟨(b2 c).symm, (b1 (by omega)).symm⟩
      · rw [hps2, c]; exact ⟨numV_itoa nA, (b1 (by omega)).symm⟩
      · rw [hps2, c]; exact ⟨numV_itoa nA, numV_itoa nB⟩
    rw [hn.1, hn.2]
    refine pick_hit a _ ho (by rw [ht]) (fun b hb e => TF_inj hb ho ((uniq b hb e).trans ht.symm)) 6 1 ?_ ?_
    · rcases act_kinds ho with x | x | x | x | x | x <;> rw [x] <;> decide
    · rcases act_kinds ho with x | x | x | x | x | x <;> rw [x] <;> decide
theorem spec_ParseAct_eq (k : Nat) (hk : 601 ≤ k) (l : List UInt8) : ∃ r, spec_ParseAct k (bts l) = some r ∧ Answers l r := by
  unfold spec_ParseAct spec_ParseAct_m
  rw [spec_SplitFields_eq k hk l, Option.bind_some]
  rcases SF_cases l with e | ⟨e, h600, h24⟩
  · refine ⟨zrA, ?_, .inr ⟨by rw [e], rfl⟩⟩
    rw [e]; rfl
  · have small := wds_small l h600
    have hwd := wds_wd l
    rw [e]
    suffices h : ∀ p : List (List UInt8), p.length ≤ 24 → (∀ w ∈ p, w.length ≤ 600) → (∀ w ∈ p, Wd w) → ∃ r, (cond (!(sfB (p, true)).2) (some ((⟨0, 0, 0⟩ : Deed), false)) ((spec_l01In k (((sfB (p, true)).1.length : Int)) 1 3).bind fun y2 =>
        cond (!y2) (some ((⟨0, 0, 0⟩ : Deed), false)) (if 0 ≤ (0 : Int) ∧ (0 : Int) < ((sfB (p, true)).1.length : Int) then spec_ParseAct_l0 k k (sfB (p, true)) ((sfB (p, true)).1.getD 0 (ByteArray.mk #[])) 1 [] else none))) = some r ∧ Reads p r by
      obtain ⟨r, h1, h2⟩ := h (wds l) h24 small hwd
      exact ⟨r, h1, .inl ⟨by rw [e], by rw [e]; exact h2⟩⟩
    intro p hp hps hpw
    rw [spec_l01In_eq, Option.bind_some]
    cases p with
    | nil => exact ⟨zrA, rfl, no_words _ rfl⟩
    | cons w ps =>
      have hlen : ((sfB (w :: ps, true)).1.length : Int) = (ps.length : Int) + 1 := by simp [sfB]
      have hg0 : (sfB (w :: ps, true)).1.getD 0 (ByteArray.mk #[]) = bts w := rfl
      have hnot : (!(sfB (w :: ps, true)).2) = false := rfl
      rw [hlen, hg0, hnot, cond_false, cond_not]
      by_cases h3 : ps.length ≤ 2
      · rw [inR_iff.2 ⟨by omega, by omega⟩, cond_true, if_pos ⟨by omega, by omega⟩]
        have hlp := spec_pa_lp k (by omega) (sfB (w :: ps, true)) w (hps w (by simp)) _ _ k ps [] rfl (by omega) (by simp; omega) (fun x hx => hps x (by simp at hx; simp [hx])) rfl rfl
        have ew : lineW [w] = w := by simp [lineW]
        rw [ew] at hlp
        refine ⟨_, hlp, ?_⟩
        exact pick_reads w ps (hpw w (by simp)) (fun x hx => hpw x (by simp [hx]))
      · have : inR ((ps.length : Int) + 1) 1 3 = false := by rw [← Bool.not_eq_true]; exact fun q => h3 (by have := inR_iff.1 q; omega)
        rw [this, cond_false]
        refine ⟨zrA, rfl, no_tells fun a ha => h3 ?_⟩
        have := (TF_len ha.1)
        rw [ha.2] at this
        simp at this
        omega
end Go.Proofs.YtlenacakmmikiaaGreatDoorX
namespace Go.Proofs.YtlenacakmmikiaaGreatDoorX
open Go Go.Proofs
set_option linter.unusedVariables false
theorem answer_is (l : List UInt8) : ∃ r, Answers l r := by
  obtain ⟨r, _, h⟩ := impl_ParseAct_eq 601 (Nat.le_refl _) l
  exact ⟨r, h⟩
/-- The act that a line tells. -/
noncomputable def PA (l : List UInt8) : Deed × Bool := Classical.choose (answer_is l)
theorem PA_is (l : List UInt8) : Answers l (PA l) := Classical.choose_spec (answer_is l)
theorem impl_PA (k : Nat) (hk : 601 ≤ k) (l : List UInt8) : impl_ParseAct k (bts l) = some (PA l) := by
  obtain ⟨r, e, h⟩ := impl_ParseAct_eq k hk l
  rw [e, answers_uniq h (PA_is l)]
theorem spec_PA (k : Nat) (hk : 601 ≤ k) (l : List UInt8) : spec_ParseAct k (bts l) = some (PA l) := by
  obtain ⟨r, e, h⟩ := spec_ParseAct_eq k hk l
  rw [e, answers_uniq h (PA_is l)]
/-- The acts of lines: empty lines tell none; a line that tells no act spoils all. -/
noncomputable def actsOf : List (List UInt8) → Option (List Deed)
  | [] => some []
  | x :: r => if SF x = ([], true) then actsOf r else if (PA x).2 = true then (actsOf r).map ((PA x).1 :: ·) else none
abbrev Out := Option (List ByteArray × Bool)
noncomputable def after (I : List Deed → Out) (L : List Deed) : Option (List Deed) → Out
  | none => some ([], false)
  | some acts => I (L ++ acts)
theorem after_map (I : List Deed → Out) (L : List Deed) (a : Deed) (o : Option (List Deed)) : after I L (o.map (a :: ·)) = after I (L ++ [a]) o := by
  cases o with
  | none => rfl
  | some acts => show I (L ++ a :: acts) = I (L ++ [a] ++ acts); rw [app_mid L a acts]
/-- What is done at one line. -/
theorem line_step (x : List UInt8) (L : List Deed) (hL : L.length ≤ 4194304) (sf : Option (List ByteArray × Bool)) (pa : Option (Deed × Bool)) (hs : sf = some (sfB (SF x))) (hp : pa = some (PA x)) (skip : Out) (J : Deed → Out) :
    (sf.bind fun y => cond y.2 (cond (decide ((((y.1).length : Int) : Int) = 0)) skip (pa.bind fun q => cond (!q.2) (some ([], false)) (if (L : List Deed).length + ([q.1] : List Deed).length ≤ maxRow then J q.1 else none)))
      (pa.bind fun q => cond (!q.2) (some ([], false)) (if (L : List Deed).length + ([q.1] : List Deed).length ≤ maxRow then J q.1 else none))) =
    if SF x = ([], true) then skip else if (PA x).2 = true then J (PA x).1 else some ([], false) := by
  subst hs; subst hp
  have tail : ((some (PA x)).bind fun q => cond (!q.2) (some ([], false)) (if (L : List Deed).length + ([q.1] : List Deed).length ≤ maxRow then J q.1 else none)) = if (PA x).2 = true then J (PA x).1 else some ([], false) := by
    rw [Option.bind_some, if_pos (by unfold maxRow; simp; omega)]
    cases (PA x).2 <;> rfl
  rw [Option.bind_some, tail]
  rcases h : SF x with ⟨ws, b⟩
  cases b with
  | false => rw [if_neg (show ¬ ((ws, false) : List (List UInt8) × Bool) = ([], true) by simp)]; rfl
  | true =>
    cases ws with
    | nil => rw [if_pos rfl]; rfl
    | cons w r =>
      rw [if_neg (show ¬ ((w :: r, true) : List (List UInt8) × Bool) = ([], true) by simp)]
      have hd : decide ((((sfB (w :: r, true)).1.length : Int) : Int) = 0) = false := decide_eq_false (by simp [sfB]; omega)
      rw [show (sfB (w :: r, true)).2 = true from rfl, cond_true, hd, cond_false]
theorem actsOf_cons (I : List Deed → Out) (L : List Deed) (x : List UInt8) (r : List (List UInt8)) (skip : Out) (J : Deed → Out) (h1 : skip = after I L (actsOf r)) (h2 : ∀ a, J a = after I (L ++ [a]) (actsOf r)) :
    (if SF x = ([], true) then skip else if (PA x).2 = true then J (PA x).1 else some ([], false)) = after I L (actsOf (x :: r)) := by
  show _ = after I L (if SF x = ([], true) then actsOf r else if (PA x).2 = true then (actsOf r).map ((PA x).1 :: ·) else none)
  by_cases h : SF x = ([], true)
  · rw [if_pos h, if_pos h, h1]
  · rw [if_neg h, if_neg h]
    by_cases hp : (PA x).2 = true
    · rw [if_pos hp, if_pos hp, h2, after_map]
    · rw [if_neg hp, if_neg hp]; rfl
/-! ### The program's loop -/
noncomputable def tailI (k : Nat) (L : List Deed) : Out := cond (decide ((40 : Int) < ((L).length : Int))) (some ([], false)) ((impl_SampleBakery k).bind fun y14 => (impl_RunActs k y14 L).bind fun y15 => impl_RunScript_l1 k k y15 0 [])
theorem impl_rs_lp (k : Nat) (hk : 601 ≤ k) : ∀ (m : Nat) (B A : List (List UInt8)) (L : List Deed), B.length ≤ m → (A ++ B).length ≤ 20001 → L.length ≤ A.length → impl_RunScript_l0 k m ((A ++ B).map bts) (A.length : Int) L = after (tailI k) L (actsOf B) := by
  have fin : ∀ J (A : List (List UInt8)) (L : List Deed), impl_RunScript_s0 k (impl_RunScript_l1 k k) (A.map bts) J (A.length : Int) L = after (tailI k) L (some []) := by
    intro J A L
    unfold impl_RunScript_s0
    rw [List.length_map, decide_eq_false (by omega), cond_false]
    show _ = tailI k (L ++ [])
    rw [List.append_nil]; rfl
  intro m
  induction m with
  | zero =>
    intro B A L h1 _ _
    have hB : B = [] := List.eq_nil_of_length_eq_zero (by omega)
    subst hB
    rw [List.append_nil]
    unfold impl_RunScript_l0
    exact fin _ A L
  | succ m ih =>
    intro B A L h1 h2 h3
    cases B with
    | nil =>
      rw [List.append_nil]
      unfold impl_RunScript_l0
      exact fin _ A L
    | cons x B =>
      simp only [List.length_append, List.length_cons] at h1 h2
      unfold impl_RunScript_l0 impl_RunScript_s0
      have em : (A ++ x :: B).map bts = A.map bts ++ bts x :: B.map bts := by simp
      have hAl : (A.length : Int) = ((A.map bts).length : Int) := by simp
      rw [em, hAl, lt_mid, if_pos ((g_mid (A.map bts) (bts x) (B.map bts)).mpr trivial), getD_mid, cond_true]
      refine (line_step x L (by omega) _ _ (impl_SplitFields_eq k (by omega) x) (impl_PA k hk x) _ (fun a => impl_RunScript_l0 k m (A.map bts ++ bts x :: B.map bts) (wr (((A.map bts).length : Int) + 1)) (L ++ [a]))).trans ?_
      have ew : wr (((A.map bts).length : Int) + 1) = ((A ++ [x]).length : Int) := by rw [wr_id (by simp; omega) (by simp; omega)]; simp
      have em2 : A.map bts ++ bts x :: B.map bts = ((A ++ [x]) ++ B).map bts := by simp
      rw [ew, em2]
      exact actsOf_cons (tailI k) L x B _ _ (ih B (A ++ [x]) L (by omega) (by simp; omega) (by simp; omega)) (fun a => ih B (A ++ [x]) (L ++ [a]) (by omega) (by simp; omega) (by simp; omega))
theorem impl_rs_start (k : Nat) (hk : 20002 ≤ k) (l : List UInt8) (hl : l.length ≤ 20000) : impl_RunScript k (bts l) = after (tailI k) [] (actsOf (sp 10 l)) := by
  have hs := sp_len 10 l
  have e10 : (ByteArray.mk #[10] : ByteArray) = bts [10] := rfl
  unfold impl_RunScript impl_RunScript_m strings_Split
  rw [bts_size, decide_eq_false (by omega), cond_false, e10, if_pos ⟨by omega, by rw [bts_size]; simp⟩, Option.bind_some, splitB_eq 10 l.length l (Nat.le_refl _)]
  exact impl_rs_lp k (by omega) k (sp 10 l) [] [] (by omega) (by simp; omega) (by simp)
/-! ### The reference's loop -/
noncomputable def tailS (k : Nat) (L : List Deed) : Out := cond (decide ((40 : Int) < ((L).length : Int))) (some ([], false)) ((spec_SampleBakery k).bind fun y19 => (spec_RunActs k y19 L).bind fun y20 => spec_RunScript_l1 k k y20 0 [])
theorem spec_rs_lp (k : Nat) (hk : 601 ≤ k) (l : List UInt8) (hl : l.length ≤ 20000) : ∀ (m : Nat) (B P c : List UInt8) (L : List Deed), l = P ++ c ++ B → (10 : UInt8) ∉ c → B.length < m → L.length ≤ P.length →
    spec_RunScript_l0 k m (bts l) (P.length : Int) ((P ++ c).length : Int) L = after (tailS k) L (actsOf (sp 10 (c ++ B))) := by
  have fin : ∀ J (x : Int) (L : List Deed), spec_RunScript_s0 k (spec_RunScript_l1 k k) (bts l) J x ((l.length : Int) + 1) L = after (tailS k) L (some []) := by
    intro J x L
    unfold spec_RunScript_s0
    rw [bts_size, decide_eq_false (by omega), cond_false]
    show _ = tailS k (L ++ [])
    rw [List.append_nil]; rfl
  have finl : ∀ (m : Nat) (x : Int) (L : List Deed), spec_RunScript_l0 k m (bts l) x ((l.length : Int) + 1) L = after (tailS k) L (some []) := by
    intro m x L
    cases m <;> exact fin _ x L
  intro m
  induction m with
  | zero => intro B P c L _ _ h; omega
  | succ m ih =>
    intro B P c L e hc h1 hL
    have hPl : (P ++ c).length + B.length ≤ 20000 := by rw [e] at hl; simp at hl ⊢; omega
    have hPc : P.length ≤ (P ++ c).length := by simp
    have hle : ((P ++ c).length : Int) ≤ ((bts l).size : Int) := by rw [bts_size, e]; simp; omega
    have hex : ((bts l).extract (Int.toNat (P.length : Int)) (Int.toNat ((P ++ c).length : Int))) = bts c := by rw [e, Int.toNat_natCast, Int.toNat_natCast]; exact cut_word P c B
    have hg : (0 : Int) ≤ (P.length : Int) ∧ (P.length : Int) ≤ ((P ++ c).length : Int) ∧ ((P ++ c).length : Int) ≤ ((bts l).size : Int) := ⟨by omega, by omega, hle⟩
    have hsuc : wr (((P ++ c).length : Int) + 1) = ((P ++ c).length : Int) + 1 := wr_id (by omega) (by omega)
    unfold spec_RunScript_l0 spec_RunScript_s0
    rw [decide_eq_true hle, cond_true, hsuc, hex, if_pos hg]
    cases B with
    | nil =>
      rw [List.append_nil] at e
      have hle2 : (l.length : Int) = ((P ++ c).length : Int) := by rw [e]
      rw [bts_size, decide_eq_false (show ¬ ((P ++ c).length : Int) < (l.length : Int) by omega), cond_false]
      refine (line_step c L (by omega) _ _ (spec_SplitFields_eq k (by omega) c) (spec_PA k hk c) _ (fun a => spec_RunScript_l0 k m (bts l) (((P ++ c).length : Int) + 1) (((P ++ c).length : Int) + 1) (L ++ [a]))).trans ?_
      rw [← hle2, List.append_nil, sp_no 10 c hc]
      exact actsOf_cons (tailS k) L c [] _ _ (finl m _ L) (fun a => finl m _ (L ++ [a]))
    | cons b B =>
      have hlt : ((P ++ c).length : Int) < ((bts l).size : Int) := by rw [bts_size, e]; simp; omega
      have hbyte : byteAt (bts l) (Int.toNat ((P ++ c).length : Int)) = (b.toNat : Int) := by rw [e]; exact byteAt_bts (P ++ c) b B
      simp only [List.length_cons] at h1 hPl
      have hl1 : ((P ++ c).length : Int) + 1 = ((P ++ c ++ [b]).length : Int) := by simp; omega
      rw [decide_eq_true hlt, cond_true, if_pos ⟨by omega, hlt⟩, hbyte, hl1]
      by_cases h10 : b = 10
      · have hi : (b.toNat : Int) = 10 := by rw [h10]; rfl
        rw [decide_eq_true hi, Bool.not_true, cond_false]
        refine (line_step c L (by omega) _ _ (spec_SplitFields_eq k (by omega) c) (spec_PA k hk c) _ (fun a => spec_RunScript_l0 k m (bts l) ((P ++ c ++ [b]).length : Int) ((P ++ c ++ [b]).length : Int) (L ++ [a]))).trans ?_
        have hsp : sp 10 (c ++ b :: B) = c :: sp 10 B := by rw [h10]; exact sp_at 10 B c hc
        rw [hsp]
        have hn : ∀ L' : List Deed, L'.length ≤ (P ++ c ++ [b]).length → spec_RunScript_l0 k m (bts l) ((P ++ c ++ [b]).length : Int) ((P ++ c ++ [b]).length : Int) L' = after (tailS k) L' (actsOf (sp 10 B)) := by
          intro L' hL'
          have := ih B (P ++ c ++ [b]) [] L' (by rw [e]; simp) (by simp) (by omega) hL'
          rw [List.append_nil] at this
          exact this
        exact actsOf_cons (tailS k) L c (sp 10 B) _ _ (hn L (by simp; omega)) (fun a => hn (L ++ [a]) (by simp; omega))
      · have hi : ¬ (b.toNat : Int) = 10 := fun q => by
          have q2 : b.toNat = 10 := by omega
          exact h10 (UInt8.toNat_inj.1 (by rw [q2]; rfl))
        rw [decide_eq_false hi, Bool.not_false, cond_true]
        have := ih B P (c ++ [b]) L (by rw [e]; simp) (fun q => by
          rcases List.mem_append.1 q with q | q
          · exact hc q
          · simp only [List.mem_singleton] at q; exact h10 q.symm) (by omega) hL
        rw [← List.append_assoc, List.append_assoc c [b] B] at this
        exact this
theorem spec_rs_start (k : Nat) (hk : 20002 ≤ k) (l : List UInt8) (hl : l.length ≤ 20000) : spec_RunScript k (bts l) = after (tailS k) [] (actsOf (sp 10 l)) := by
  unfold spec_RunScript spec_RunScript_m
  rw [bts_size, decide_eq_false (by omega), cond_false]
  exact spec_rs_lp k (by omega) l hl k l [] [] [] rfl (by simp) (by omega) (by simp)
end Go.Proofs.YtlenacakmmikiaaGreatDoorX
namespace Go.Proofs.YtlenacakmmikiaaGreatDoorX
open Go Go.Proofs
set_option linter.unusedVariables false
theorem impl_FormatInt_all (k : Nat) (n : Int) (h : -1 ≤ n ∧ n ≤ 1000000) : impl_FormatInt k n = some (itoaB n) := by
  unfold impl_FormatInt strconv_Itoa
  rw [if_pos ⟨by omega, by omega⟩]; rfl
theorem itoa_m1 : Lib.itoa (-1) = [45, 49] := by
  unfold Lib.itoa
  rw [if_pos (by decide)]
  show 45 :: Lib.decDigits 1 = _
  rw [Lib.decDigits_one (by decide)]; rfl
theorem spec_FormatInt_all (k : Nat) (hk : 20 ≤ k) (n : Int) (h : -1 ≤ n ∧ n ≤ 1000000) : spec_FormatInt k n = some (itoaB n) := by
  by_cases h0 : 0 ≤ n
  · exact spec_FormatInt_eq k hk n ⟨h0, by omega⟩
  · have : n = -1 := by omega
    subst this
    obtain ⟨m, rfl⟩ : ∃ m, k = m + 2 := ⟨k - 2, by omega⟩
    unfold itoaB
    rw [itoa_m1]
    have hf := figure_eq (m + 2) 1 (by decide)
    unfold spec_FormatInt spec_FormatInt_m
    rw [decide_eq_false (by decide), cond_false]
    show spec_FormatInt_s0 (m + 2) (-1) (spec_FormatInt_l0 (m + 2) (m + 1) (-1)) (-1) (bts []) = _
    unfold spec_FormatInt_s0
    have e1 : Int.tmod (-1) 10 = -1 := by decide
    have e2 : Int.tdiv (-1) 10 = 0 := by decide
    rw [decide_eq_false (by decide), Bool.not_false, cond_true, if_pos (by decide), e1, e2, decide_eq_true (by decide), cond_true]
    have e3 : wr (0 - (-1)) = ((1 : Nat) : Int) := wr_id (by decide) (by decide)
    rw [e3, hf, Option.bind_some, strOf_one, bts_app, if_pos (by rw [bts_size, bts_size]; decide), if_pos (by decide), wr_id (by decide) (by decide)]
    show spec_FormatInt_s0 (m + 2) (-1) (spec_FormatInt_l0 (m + 2) m (-1)) 0 _ = _
    unfold spec_FormatInt_s0
    rw [decide_eq_true (by decide), Bool.not_true, cond_false, decide_eq_true (by decide), cond_true]
    have e45 : (ByteArray.mk #[45] : ByteArray) = bts [45] := rfl
    rw [e45, if_pos (by rw [bts_size, bts_size]; decide), bts_app]; rfl
theorem impl_nums_lp (k : Nat) (y : Bakery × List Int) (F : List ByteArray) (hF : impl_FormatBakery k y.1 = some F) (hF2 : F.length ≤ 4) : ∀ (m : Nat) (B A : List Int), y.2 = A ++ B → B.length ≤ m → y.2.length ≤ 1000 → (∀ n ∈ B, -1 ≤ n ∧ n ≤ 1000000) →
    impl_RunScript_l1 k m y (A.length : Int) (A.map itoaB) = some (y.2.map itoaB ++ F, true) := by
  have fin : ∀ J (A : List Int), y.2 = A → A.length ≤ 1000 → impl_RunScript_s1 k y J (A.length : Int) (A.map itoaB) = some (y.2.map itoaB ++ F, true) := by
    intro J A e hA
    unfold impl_RunScript_s1
    rw [e, decide_eq_false (by omega), cond_false, hF, Option.bind_some, if_pos (by rw [List.length_map]; unfold maxRow; omega)]
  intro m
  induction m with
  | zero =>
    intro B A e h1 h2 _
    have hB : B = [] := List.eq_nil_of_length_eq_zero (by omega)
    subst hB
    rw [List.append_nil] at e
    unfold impl_RunScript_l1
    exact fin _ A e (by rw [← e]; exact h2)
  | succ m ih =>
    intro B A e h1 h2 hn
    cases B with
    | nil =>
      rw [List.append_nil] at e
      unfold impl_RunScript_l1
      exact fin _ A e (by rw [← e]; exact h2)
    | cons x B =>
      have h2' : (A ++ x :: B).length ≤ 1000 := by rw [← e]; exact h2
      simp only [List.length_append, List.length_cons] at h1 h2'
      unfold impl_RunScript_l1 impl_RunScript_s1
      rw [e, lt_mid, if_pos ((g_mid A x B).mpr trivial), getD_mid, impl_FormatInt_all k x (hn x (by simp)), cond_true, Option.bind_some, if_pos (by rw [List.length_map]; unfold maxRow; simp; omega), wr_suc A x (by omega), ← e]
      have em : A.map itoaB ++ [itoaB x] = (A ++ [x]).map itoaB := by simp
      rw [em]
      exact ih B (A ++ [x]) (by rw [e]; simp) (by omega) h2 (fun n hn' => hn n (by simp [hn']))
theorem spec_nums_lp (k : Nat) (hk : 20 ≤ k) (y : Bakery × List Int) (F : List ByteArray) (hF : spec_FormatBakery k y.1 = some F) (hF2 : F.length ≤ 4) : ∀ (m : Nat) (B A : List Int), y.2 = A ++ B → B.length ≤ m → y.2.length ≤ 1000 → (∀ n ∈ B, -1 ≤ n ∧ n ≤ 1000000) →
    spec_RunScript_l1 k m y (A.length : Int) (A.map itoaB) = some (y.2.map itoaB ++ F, true) := by
  have fin : ∀ J (A : List Int), y.2 = A → A.length ≤ 1000 → spec_RunScript_s1 k y J (A.length : Int) (A.map itoaB) = some (y.2.map itoaB ++ F, true) := by
    intro J A e hA
    unfold spec_RunScript_s1
    rw [e, decide_eq_false (by omega), cond_false, hF, Option.bind_some, if_pos (by rw [List.length_map]; unfold maxRow; omega)]
  intro m
  induction m with
  | zero =>
    intro B A e h1 h2 _
    have hB : B = [] := List.eq_nil_of_length_eq_zero (by omega)
    subst hB
    rw [List.append_nil] at e
    unfold spec_RunScript_l1
    exact fin _ A e (by rw [← e]; exact h2)
  | succ m ih =>
    intro B A e h1 h2 hn
    cases B with
    | nil =>
      rw [List.append_nil] at e
      unfold spec_RunScript_l1
      exact fin _ A e (by rw [← e]; exact h2)
    | cons x B =>
      have h2' : (A ++ x :: B).length ≤ 1000 := by rw [← e]; exact h2
      simp only [List.length_append, List.length_cons] at h1 h2'
      unfold spec_RunScript_l1 spec_RunScript_s1
      rw [e, lt_mid, if_pos ((g_mid A x B).mpr trivial), getD_mid, spec_FormatInt_all k hk x (hn x (by simp)), cond_true, Option.bind_some, if_pos (by rw [List.length_map]; unfold maxRow; simp; omega), wr_suc A x (by omega), ← e]
      have em : A.map itoaB ++ [itoaB x] = (A ++ [x]).map itoaB := by simp
      rw [em]
      exact ih B (A ++ [x]) (by rw [e]; simp) (by omega) h2 (fun n hn' => hn n (by simp [hn']))
/-- What is told of the acts: their numbers, then the bakery. -/
theorem tails (k : Nat) (hk : 9100 ≤ k) (L : List Deed) : ∃ r, tailI k L = some r ∧ tailS k L = some r ∧ r.1.length ≤ 44 := by
  unfold tailI tailS
  by_cases h40 : (40 : Int) < (L.length : Int)
  · rw [decide_eq_true h40]; exact ⟨([], false), rfl, rfl, by simp⟩
  rw [decide_eq_false h40, cond_false, cond_false, impl_SampleBakery_eq k (by omega), spec_SampleBakery_eq k (by omega), Option.bind_some, Option.bind_some]
  obtain ⟨r, e1, e2, _, _, _⟩ := runActs_eq k (by omega) sampleB L (by simp [sampleB]; omega) (by simp [sampleB]) (by simp [sampleB]; omega) (by simp [sampleB]) (by omega) (by omega)
  obtain ⟨s, e3, hok, hl, hg, he, hn⟩ := runActs_stand k (by omega) sampleB L sampleB_ok rfl (by simp [sampleB]) (by omega)
  have : s = r := Option.some.inj (e3.symm.trans e2)
  subst this
  have he' : s.1.Book.Events.length ≤ L.length := by simpa [sampleB] using he
  have f1 := impl_FormatBakery_eq k (by omega) s.1 (by omega) (by omega) (by omega) (by omega)
  have f2 := spec_FormatBakery_eq k (by omega) s.1 (by omega) (by omega) (by omega) (by omega)
  rw [hok] at f1 f2
  rw [e2, e1, Option.bind_some, Option.bind_some]
  have hF : (linesB s.1).length = 4 := rfl
  refine ⟨(s.2.map itoaB ++ linesB s.1, true), ?_, ?_, ?_⟩
  · exact impl_nums_lp k s _ f1 (by show (linesB s.1).length ≤ 4; omega) k s.2 [] rfl (by omega) (by omega) hn
  · exact spec_nums_lp k (by omega) s _ f2 (by show (linesB s.1).length ≤ 4; omega) k s.2 [] rfl (by omega) (by omega) hn
  · simp only [List.length_append, List.length_map]; omega
theorem runScript_eq (k : Nat) (hk : 20100 ≤ k) (l : List UInt8) : ∃ r, impl_RunScript k (bts l) = some r ∧ spec_RunScript k (bts l) = some r ∧ r.1.length ≤ 44 := by
  by_cases hl : l.length ≤ 20000
  · rw [impl_rs_start k (by omega) l hl, spec_rs_start k (by omega) l hl]
    cases actsOf (sp 10 l) with
    | none => exact ⟨([], false), rfl, rfl, by simp⟩
    | some acts => exact tails k (by omega) _
  · unfold impl_RunScript impl_RunScript_m spec_RunScript spec_RunScript_m
    rw [bts_size, decide_eq_true (by omega)]
    exact ⟨([], false), rfl, rfl, by simp⟩
end Go.Proofs.YtlenacakmmikiaaGreatDoorX
