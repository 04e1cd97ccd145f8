/- Texts: numerals, and a word with numbers behind it. The lines of a bakery. Numbers read back: what both programs take for a number, and its value. Texts cut at a byte. The words of a line: as the program's library parts them and as the reference's loop does. Acts in words: the words of an act, and which act they tell. Acts written: what both programs write for an act. Acts read: what both programs take a line's words for. Acts read: the words of a line are taken for the same act by both. Scripts: which acts their lines tell, as both programs read them. The bytes of an act's text. Scripts: what comes of their acts. Scripts written: their lines tell the acts again. Scripts written: what both programs write for acts. -/
import Derived.Test.YtlenacakmmikiaaGreatDoorPB
import Derived.Lib.ItoaLen
import Derived.Lib.Join
import Derived.Lib.ItoaMem
import Derived.Lib.Split
import Derived.Lib.FieldsP
import Derived.Laws.RangeString
namespace Go.Proofs.YtlenacakmmikiaaGreatDoorX
open Go Go.Proofs
set_option linter.unusedVariables false
def bts (l : List UInt8) : ByteArray := ⟨l.toArray⟩
theorem bts_app (a b : List UInt8) : bts a ++ bts b = bts (a ++ b) := by
  apply ByteArray.ext
  simp [bts]
theorem bts_size (a : List UInt8) : (bts a).size = a.length := by simp [bts, ByteArray.size]
theorem bts_data (b : ByteArray) : bts b.data.toList = b := by
  apply ByteArray.ext
  simp [bts]
theorem strOf_one (x : Int) : strOf [x] = bts [UInt8.ofNat x.toNat] := rfl
def itoaB (n : Int) : ByteArray := bts (Lib.itoa n)
def Inr (n : Int) : Prop := 0 ≤ n ∧ n ≤ 9223372036854775807
theorem itoa_len {n : Int} (h : Inr n) : (Lib.itoa n).length ≤ 21 := Lib.itoa_length_le n (by have := h.1; omega) h.2
theorem strconv_Itoa_eq (k : Nat) (n : Int) (h : Inr n) : strconv_Itoa k n = some (itoaB n) := by
  unfold strconv_Itoa
  rw [if_pos ⟨by have := h.1; omega, h.2⟩]; rfl
theorem impl_FormatInt_eq (k : Nat) (n : Int) (h : Inr n) : impl_FormatInt k n = some (itoaB n) := by
  unfold impl_FormatInt
  rw [strconv_Itoa_eq k n h]; rfl
def digs (u : Nat) : List UInt8 := if u = 0 then [] else Lib.decDigits u
theorem digs_step (u : Nat) (h : 0 < u) : digs u = digs (u / 10) ++ [UInt8.ofNat (48 + u % 10)] := by
  unfold digs
  rw [if_neg (by omega)]
  by_cases h10 : u < 10
  · rw [if_pos (by omega), Lib.decDigits_one h10, Nat.mod_eq_of_lt h10]; rfl
  · rw [if_neg (by omega)]
    rw [Lib.decDigits, dif_neg h10]
/-! ### A word with numbers behind it -/
def lineL (w : List UInt8) (ns : List Int) : List UInt8 := w ++ (ns.map fun n => 32 :: Lib.itoa n).flatten
theorem lineL_snoc (w : List UInt8) (A : List Int) (b : Int) : lineL w (A ++ [b]) = lineL w A ++ [32] ++ Lib.itoa b := by simp [lineL]
theorem lineL_len (w : List UInt8) : ∀ (ns : List Int), (∀ n ∈ ns, Inr n) → (lineL w ns).length ≤ w.length + 22 * ns.length := by
  intro ns h
  have : ∀ ns : List Int, (∀ n ∈ ns, Inr n) → ((ns.map fun n => 32 :: Lib.itoa n).flatten).length ≤ 22 * ns.length := by
    intro ns
    induction ns with
    | nil => intro _; simp
    | cons a r ih =>
      intro h
      have h1 := itoa_len (h a (by simp))
      have h2 := ih (fun n hn => h n (by simp [hn]))
      simp only [List.map_cons, List.flatten_cons, List.length_append, List.length_cons]
      omega
  have := this ns h
  simp only [lineL, List.length_append]
  omega
theorem join_line (w : List UInt8) (A : List Int) : Lib.join ((bts w :: A.map itoaB).map (·.data.toList)) [32] = lineL w A := by
  rw [List.map_cons, Lib.join_cons]
  unfold lineL Lib.joinTail
  congr 1
  · simp [List.map_map, Function.comp_def, itoaB, bts]
theorem told_lp (k : Nat) (w : List UInt8) (hw : w.length ≤ 100) : ∀ (m : Nat) (B A : List Int), B.length ≤ m → (A ++ B).length ≤ 1000 → (∀ n ∈ A ++ B, Inr n) → impl_told_l0 k m (A ++ B) (A.length : Int) (bts w :: A.map itoaB) = some (bts (lineL w (A ++ B))) := by
  have fin : ∀ A : List Int, A.length ≤ 1000 → (∀ n ∈ A, Inr n) → ((strings_Join k (bts w :: A.map itoaB) (ByteArray.mk #[32])).bind fun y4 => some y4.1) = some (bts (lineL w A)) := by
    intro A hA hI
    have hl := lineL_len w A hI
    have e := join_line w A
    unfold strings_Join
    have e' : Lib.join ((bts w :: A.map itoaB).map (·.data.toList)) (ByteArray.mk #[32]).data.toList = lineL w A := e
    rw [e', if_pos ⟨by simp; omega, by omega⟩]
    rfl
  intro m
  induction m with
  | zero =>
    intro B A h1 h2 h3
    have hB : B = [] := List.eq_nil_of_length_eq_zero (by omega)
    subst hB
    unfold impl_told_l0 impl_told_s0
    rw [lt_end]
    simp only [cond_false]
    rw [List.append_nil]
    exact fin A (by simpa using h2) (by simpa using h3)
  | succ m ih =>
    intro B A h1 h2 h3
    cases B with
    | nil =>
      unfold impl_told_l0 impl_told_s0
      rw [lt_end]
      simp only [cond_false]
      rw [List.append_nil]
      exact fin A (by simpa using h2) (by simpa using h3)
    | cons b B =>
      simp only [List.length_append, List.length_cons] at h1 h2
      unfold impl_told_l0 impl_told_s0
      rw [lt_mid, if_pos ((g_mid A b B).mpr trivial), getD_mid, impl_FormatInt_eq k b (h3 b (by simp)), wr_suc A b (by omega)]
      simp only [cond_true, Option.bind_some]
      rw [if_pos (by simp [maxRow]; omega), app_mid A b B]
      have := ih B (A ++ [b]) (by omega) (by simp; omega) (by rw [← app_mid]; exact h3)
      rw [List.map_append] at this
      exact this
theorem impl_told_eq (k : Nat) (w : List UInt8) (ns : List Int) (hw : w.length ≤ 100) (hk : ns.length ≤ k) (hl : ns.length ≤ 1000) (hI : ∀ n ∈ ns, Inr n) : impl_told k (bts w) ns = some (bts (lineL w ns)) := by
  have := told_lp k w hw k ns [] hk (by simpa using hl) (by simpa using hI)
  exact this
end Go.Proofs.YtlenacakmmikiaaGreatDoorX
namespace Go.Proofs.YtlenacakmmikiaaGreatDoorX
open Go Go.Proofs
set_option linter.unusedVariables false
def linesB (b : Bakery) : List ByteArray := [bts (lineL [115, 116, 111, 99, 107] b.Stock.Grams), bts (lineL [114, 97, 99, 107] [b.Book.Rack.Fresh, b.Book.Rack.Day, b.Book.Rack.Old]), bts (lineL [98, 111, 111, 107] [b.Book.Baked, b.Book.Sold, b.Book.Thrown]), bts (lineL [109, 111, 110, 101, 121] [b.Money])]
theorem all_in {b : Bakery} (hb : bakeryOk b = true) : b.Stock.Grams.length = 4 ∧ (∀ n ∈ b.Stock.Grams, Inr n) ∧ Inr b.Book.Rack.Fresh ∧ Inr b.Book.Rack.Day ∧ Inr b.Book.Rack.Old ∧ Inr b.Book.Baked ∧ Inr b.Book.Sold ∧ Inr b.Book.Thrown ∧ Inr b.Money := by
  have hm := money_of hb
  simp only [bakeryOk, Bool.and_eq_true] at hb
  have hs := hb.1
  obtain ⟨hl, hr, h2, h3, h4, h5⟩ := book_led b.Book hb.2.2.2.1
  have hr' := (rackOk_iff _).1 hr
  simp only [storeOk, Bool.and_eq_true, decide_eq_true_eq, List.all_eq_true] at hs
  unfold Inr
  refine ⟨hs.2, fun n hn => ?_, ?_⟩
  · have := inR_iff.1 (hs.1 n hn)
    omega
  · omega
theorem impl_FormatBakery_eq (k : Nat) (hk : 30 ≤ k) (b : Bakery) (h1 : b.Stock.Grams.length ≤ k) (h2 : b.Stock.Grams.length ≤ 4194304) (h3 : b.Book.Events.length ≤ k) (h4 : b.Book.Events.length ≤ 4194304) : impl_FormatBakery k b = some (cond (bakeryOk b) (linesB b) []) := by
  unfold impl_FormatBakery
  rw [impl_BakeryOk_eq k (by omega) b h1 h2 h3 h4]
  simp only [Option.bind_some]
  cases hb : bakeryOk b
  · rfl
  obtain ⟨q0, q1, q2, q3, q4, q5, q6, q7, q8⟩ := all_in hb
  simp only [Bool.not_true, cond_false]
  have t1 := impl_told_eq k [115, 116, 111, 99, 107] b.Stock.Grams (by decide) h1 (by omega) q1
  have t2 := impl_told_eq k [114, 97, 99, 107] [b.Book.Rack.Fresh, b.Book.Rack.Day, b.Book.Rack.Old] (by decide) (by simp; omega) (by simp) (by intro n hn; simp only [List.mem_cons, List.not_mem_nil, or_false] at hn; rcases hn with e | e | e <;> rw [e] <;> assumption)
  have t3 := impl_told_eq k [98, 111, 111, 107] [b.Book.Baked, b.Book.Sold, b.Book.Thrown] (by decide) (by simp; omega) (by simp) (by intro n hn; simp only [List.mem_cons, List.not_mem_nil, or_false] at hn; rcases hn with e | e | e <;> rw [e] <;> assumption)
  have t4 := impl_told_eq k [109, 111, 110, 101, 121] [b.Money] (by decide) (by simp; omega) (by simp) (by intro n hn; simp only [List.mem_cons, List.not_mem_nil, or_false] at hn; rw [hn]; assumption)
  show ((impl_told k (bts [115, 116, 111, 99, 107]) b.Stock.Grams).bind fun y2 => (impl_told k (bts [114, 97, 99, 107]) [b.Book.Rack.Fresh, b.Book.Rack.Day, b.Book.Rack.Old]).bind fun y3 => (impl_told k (bts [98, 111, 111, 107]) [b.Book.Baked, b.Book.Sold, b.Book.Thrown]).bind fun y4 => (impl_told k (bts [109, 111, 110, 101, 121]) [b.Money]).bind fun y5 => some [y2, y3, y4, y5]) = _
  rw [t1, t2, t3, t4]; rfl
/-! ### Rows of texts, compared and marked -/
end Go.Proofs.YtlenacakmmikiaaGreatDoorX
namespace Go.Proofs.YtlenacakmmikiaaGreatDoorX
open Go Go.Proofs
set_option linter.unusedVariables false
theorem byteAt_bts (A : List UInt8) (b : UInt8) (B : List UInt8) : byteAt (bts (A ++ b :: B)) (Int.toNat (A.length : Int)) = (b.toNat : Int) := by
  have hlt : A.length < (bts (A ++ b :: B)).size := by rw [bts_size]; simp
  have e : Int.toNat (A.length : Int) = A.length := by simp
  unfold byteAt
  rw [e, getElem?_pos (bts (A ++ b :: B)) A.length hlt]
  show (((bts (A ++ b :: B))[A.length]).toNat : Int) = _
  rw [ByteArray.getElem_eq_getElem_data]
  simp [bts]
/-- A byte that is a figure. -/
def Dig (b : UInt8) : Prop := 48 ≤ b.toNat ∧ b.toNat ≤ 57
instance (b : UInt8) : Decidable (Dig b) := by unfold Dig; infer_instance
def valF (n : Nat) (l : List UInt8) : Nat := l.foldl (fun n b => 10 * n + (b.toNat - 48)) n
theorem valF_app (n : Nat) (a b : List UInt8) : valF n (a ++ b) = valF (valF n a) b := by simp [valF]
theorem dig_of (x : Nat) (h : x < 10) : (UInt8.ofNat (48 + x)).toNat = 48 + x := by simp; omega
theorem decDigits_step (u : Nat) (h : ¬ u < 10) : Lib.decDigits u = Lib.decDigits (u / 10) ++ [UInt8.ofNat (48 + u % 10)] := by rw [Lib.decDigits, dif_neg h]
theorem dec_facts : ∀ (m u : Nat), u < 10 ^ m → (∀ b ∈ Lib.decDigits u, Dig b) ∧ valF 0 (Lib.decDigits u) = u ∧ (Lib.decDigits u).length ≤ max m 1 ∧ 1 ≤ (Lib.decDigits u).length := by
  intro m
  induction m with
  | zero =>
    intro u hu
    have : u = 0 := by simp at hu; omega
    subst this
    rw [Lib.decDigits_one (by decide)]
    exact ⟨by simp [Dig], by simp [valF], by simp, by simp⟩
  | succ m ih =>
    intro u hu
    by_cases h : u < 10
    · rw [Lib.decDigits_one h]
      refine ⟨fun b hb => ?_, ?_, by simp, by simp⟩
      · simp only [List.mem_singleton] at hb; subst hb; unfold Dig; rw [dig_of u h]; omega
      · unfold valF; rw [List.foldl_cons, dig_of u h]; simp
    · rw [decDigits_step u h]
      have hd : u / 10 < 10 ^ m := Nat.div_lt_of_lt_mul (by rw [Nat.pow_succ] at hu; omega)
      obtain ⟨h1, h2, h3, h4⟩ := ih (u / 10) hd
      have hm : 1 ≤ m := by cases m with | zero => simp at hd; omega | succ m => omega
      refine ⟨fun b hb => ?_, ?_, by rw [List.length_append]; simp; omega, by simp⟩
      · rcases List.mem_append.1 hb with hb | hb
        · exact h1 b hb
        · simp only [List.mem_singleton] at hb; subst hb; unfold Dig; rw [dig_of _ (by omega)]; omega
      · rw [valF_app, h2]; unfold valF; rw [List.foldl_cons, dig_of _ (by omega)]; simp only [List.foldl_nil]; omega
def Num (n : Int) : Prop := 0 ≤ n ∧ n ≤ 1000000000
theorem itoa_nat (u : Nat) : Lib.itoa (u : Int) = Lib.decDigits u := Lib.itoa_nonneg u
theorem parseUint10_val : ∀ (l : List UInt8) (acc : Nat), (∀ b ∈ l, Dig b) → l.length ≤ 19 → acc < 10 ^ (19 - l.length) → Lib.parseUint10 acc l = .ok (valF acc l) := by
  intro l
  induction l with
  | nil => intro acc _ _ _; rfl
  | cons b r ih =>
    intro acc hd hl ha
    have hb := hd b (by simp)
    unfold Lib.parseUint10
    simp only [List.length_cons] at hl ha
    have e : 10 ^ (19 - r.length) = 10 * 10 ^ (19 - (r.length + 1)) := by rw [← Nat.pow_succ']; congr 1; omega
    have hle : (10 : Nat) ^ (19 - (r.length + 1)) ≤ 10 ^ 18 := Nat.pow_le_pow_right (by decide) (by omega)
    unfold Dig at hb
    rw [if_pos hb, if_neg (by omega), if_neg (by omega), ih _ (fun b hb => hd b (by simp [hb])) (by omega) (by omega)]
    unfold valF; rw [List.foldl_cons, Nat.mul_comm]
theorem pu_itoa (n : Int) (h : Num n) : pu (itoaB n) = (n, true) := by
  obtain ⟨u, rfl⟩ : ∃ u : Nat, n = u := ⟨n.toNat, by have := h.1; omega⟩
  have hu : u < 10 ^ 10 := by have := h.2; omega
  obtain ⟨h1, h2, h3, h4⟩ := dec_facts 10 u hu
  have e : Lib.atoiAll (itoaB (u : Int)).data.toList = .ok (u : Int) := by
    have e0 : (itoaB (u : Int)).data.toList = Lib.decDigits u := by simp [itoaB, bts, itoa_nat]
    rw [e0]
    have hp := parseUint10_val (Lib.decDigits u) 0 h1 (by omega) (by have : 0 < 10 ^ (19 - (Lib.decDigits u).length) := Nat.pow_pos (by decide); omega)
    rw [h2] at hp
    cases hc : Lib.decDigits u with
    | nil => rw [hc] at h4; simp at h4
    | cons c r =>
      have hd := h1 c (by rw [hc]; simp)
      unfold Dig at hd
      rw [hc] at hp
      unfold Lib.atoiAll
      simp only
      rw [if_neg (by omega)]
      unfold Lib.parseMag
      rw [if_neg (by simp), hp]
      simp only
      rw [if_neg (by omega), if_neg (by omega), if_neg (by omega)]
  unfold pu
  rw [e]
  simp only
  rw [if_pos ⟨rfl, by omega, h.2⟩]
theorem pu_cases (s : ByteArray) : pu s = (0, false) ∨ ∃ n, Num n ∧ s = itoaB n ∧ pu s = (n, true) := by
  unfold pu
  split
  · rename_i v hv
    split
    · rename_i h; exact .inr ⟨v, ⟨h.2.1, h.2.2⟩, h.1.symm, rfl⟩
    · exact .inl rfl
  · exact .inl rfl
theorem impl_ParseUint_eq (k : Nat) (s : ByteArray) (h : s.size ≤ 1048576) : impl_ParseUint k s = some (pu s) := by
  unfold impl_ParseUint; rw [if_pos (by omega)]
theorem pu_range (s : ByteArray) : Num (pu s).1 := by
  rcases pu_cases s with e | ⟨n, hn, _, e⟩
  · rw [e]; exact ⟨by decide, by decide⟩
  · rw [e]; exact hn
end Go.Proofs.YtlenacakmmikiaaGreatDoorX
namespace Go.Proofs.YtlenacakmmikiaaGreatDoorX
open Go Go.Proofs
set_option linter.unusedVariables false
theorem bts_inj {a b : List UInt8} (e : bts a = bts b) : a = b := by simpa [bts] using congrArg (·.data.toList) e
theorem data_bts (l : List UInt8) : (bts l).data.toList = l := by simp [bts]
/-! ### A text cut at each place of a byte -/
def sp (c : UInt8) : List UInt8 → List (List UInt8)
  | [] => [[]]
  | b :: l => if b = c then [] :: sp c l else match sp c l with | x :: r => (b :: x) :: r | [] => [[b]]
theorem sp_cons (c b : UInt8) (l : List UInt8) : sp c (b :: l) = if b = c then [] :: sp c l else match sp c l with | x :: r => (b :: x) :: r | [] => [[b]] := rfl
theorem sp_no (c : UInt8) : ∀ a : List UInt8, c ∉ a → sp c a = [a]
  | [], _ => rfl
  | b :: a, h => by
    rw [sp_cons, if_neg (fun e => h (by simp [e])), sp_no c a (fun q => h (by simp [q]))]
theorem sp_at (c : UInt8) (r : List UInt8) : ∀ a : List UInt8, c ∉ a → sp c (a ++ c :: r) = a :: sp c r
  | [], _ => by show sp c (c :: r) = _; rw [sp_cons, if_pos rfl]
  | b :: a, h => by
    show sp c (b :: (a ++ c :: r)) = _
    rw [sp_cons, if_neg (fun e => h (by simp [e])), sp_at c r a (fun q => h (by simp [q]))]
theorem sp_len (c : UInt8) : ∀ l : List UInt8, (sp c l).length ≤ l.length + 1
  | [] => by simp [sp]
  | b :: l => by
    have := sp_len c l
    rw [sp_cons]
    split
    · simp; omega
    · split
      · rename_i x r e; rw [e] at this; simp at this ⊢; omega
      · simp
theorem sp_word (c : UInt8) : ∀ l w, w ∈ sp c l → w.length ≤ l.length
  | [], w, h => by simp [sp] at h; simp [h]
  | b :: l, w, h => by
    have ih := sp_word c l
    rw [sp_cons] at h
    split at h
    · rcases List.mem_cons.1 h with rfl | h
      · simp
      · have := ih w h; simp; omega
    · split at h
      · rename_i x r e
        rw [e] at ih
        rcases List.mem_cons.1 h with rfl | h
        · have := ih x (by simp); simp; omega
        · have := ih w (by simp [h]); simp; omega
      · simp at h; simp [h]
theorem index_at (c : UInt8) (r : List UInt8) : ∀ a : List UInt8, c ∉ a → Lib.index (a ++ c :: r) [c] = a.length := by
  intro a
  induction a with
  | nil => intro _; simp [Lib.index]
  | cons b a ih =>
    intro h
    have h1 : c ≠ b := fun e => h (by simp [e])
    have h2 := ih (fun q => h (by simp [q]))
    show Lib.index (b :: (a ++ c :: r)) [c] = _
    unfold Lib.index
    have e : [c].isPrefixOf (b :: (a ++ c :: r)) = false := by
      show (c == b && _) = false
      rw [beq_eq_false_iff_ne.2 h1]; rfl
    rw [e, h2]
    have : ((a.length : Int) == -1) = false := by rw [beq_eq_false_iff_ne]; omega
    rw [this]; simp
theorem index_no (c : UInt8) : ∀ a : List UInt8, c ∉ a → Lib.index a [c] = -1
  | [], _ => rfl
  | b :: a, h => by
    have h1 : c ≠ b := fun e => h (by simp [e])
    unfold Lib.index
    have e : [c].isPrefixOf (b :: a) = false := by
      show (c == b && _) = false
      rw [beq_eq_false_iff_ne.2 h1]; rfl
    rw [e, index_no c a (fun q => h (by simp [q]))]; rfl
theorem extract_bts (l : List UInt8) (a b : Nat) : (bts l).extract a b = bts ((l.drop a).take (b - a)) := by
  rw [← bts_data ((bts l).extract a b), Lib.extract_data, data_bts]
theorem splitB_eq (c : UInt8) : ∀ (n : Nat) (l : List UInt8), l.length ≤ n → Lib.splitB (bts [c]) 0 (Lib.countB (bts l) (bts [c])) (bts l) = (sp c l).map bts := by
  intro n
  induction n with
  | zero =>
    intro l h
    have : l = [] := List.eq_nil_of_length_eq_zero (by omega)
    subst this
    rw [Lib.splitB_miss _ _ _ _ (show Lib.indexB (bts []) (bts [c]) = -1 from index_no c [] (by simp))]; rfl
  | succ n ih =>
    intro l h
    by_cases hc : c ∈ l
    · obtain ⟨a, r, e, ha⟩ := List.eq_append_cons_of_mem hc
      subst e
      have hi : Lib.indexB (bts (a ++ c :: r)) (bts [c]) = (a.length : Int) := by
        show Lib.index (bts (a ++ c :: r)).data.toList (bts [c]).data.toList = _
        rw [data_bts, data_bts]; exact index_at c r a ha
      have e1 : (bts (a ++ c :: r)).extract (a.length + (bts [c]).size) (bts (a ++ c :: r)).size = bts r := by
        rw [bts_size, bts_size, extract_bts]
        congr 1
        simp only [List.length_append, List.length_cons, List.length_nil, Nat.zero_add]
        have : (a ++ c :: r).drop (a.length + 1) = r := by rw [app_mid]; exact List.drop_left' (by simp)
        rw [this]; exact List.take_of_length_le (by omega)
      have e2 : (bts (a ++ c :: r)).extract 0 (a.length + 0) = bts a := by rw [extract_bts]; simp
      rw [Lib.countB_hit _ _ _ (by rw [bts_size]; simp) hi, Nat.add_comm 1, Lib.splitB_hit _ _ _ _ _ hi, e1, e2, sp_at c r a ha]
      rw [ih r (by simp at h; omega)]; rfl
    · have hi : Lib.indexB (bts l) (bts [c]) = -1 := by
        show Lib.index (bts l).data.toList (bts [c]).data.toList = _
        rw [data_bts, data_bts]; exact index_no c l hc
      rw [Lib.splitB_miss _ _ _ _ hi, sp_no c l hc]; rfl
end Go.Proofs.YtlenacakmmikiaaGreatDoorX
namespace Go.Proofs.YtlenacakmmikiaaGreatDoorX
open Go Go.Proofs
set_option linter.unusedVariables false
/-- The words from a place on, where a word is under way. -/
def fw : List UInt8 → List UInt8 → List (List UInt8)
  | c, [] => if c = [] then [] else [c]
  | c, b :: B => if b = 32 then (if c = [] then fw [] B else c :: fw [] B) else fw (c ++ [b]) B
def wds (l : List UInt8) : List (List UInt8) := fw [] l
/-- A word: some bytes, none of them a space. -/
def Wd (w : List UInt8) : Prop := w ≠ [] ∧ (32 : UInt8) ∉ w
theorem fw_run (B : List UInt8) : ∀ (w c : List UInt8), (32 : UInt8) ∉ w → fw c (w ++ B) = fw (c ++ w) B := by
  intro w
  induction w with
  | nil => intro c _; simp
  | cons b w ih =>
    intro c h
    have h1 : b ≠ 32 := fun e => h (by simp [e])
    show (if b = 32 then _ else fw (c ++ [b]) (w ++ B)) = _
    rw [if_neg h1, ih _ (fun q => h (by simp [q]))]
    simp
theorem fw_space (c B : List UInt8) (h : c ≠ []) : fw c (32 :: B) = c :: fw [] B := by
  show (if (32 : UInt8) = 32 then (if c = [] then fw [] B else c :: fw [] B) else _) = _
  rw [if_pos rfl, if_neg h]
theorem fw_space0 (B : List UInt8) : fw [] (32 :: B) = fw [] B := by
  show (if (32 : UInt8) = 32 then (if ([] : List UInt8) = [] then fw [] B else _) else _) = _
  rw [if_pos rfl, if_pos rfl]
/-- Words side by side, a space between each two. -/
def lineW : List (List UInt8) → List UInt8
  | [] => []
  | w :: r => w ++ (r.map (32 :: ·)).flatten
theorem wds_line : ∀ (r : List (List UInt8)) (w E : List UInt8), Wd w → (∀ x ∈ r, Wd x) → (E = [] ∨ E = [32]) → wds (w ++ (r.map (32 :: ·)).flatten ++ E) = w :: r := by
  intro r
  induction r with
  | nil =>
    intro w E hw _ hE
    unfold wds
    rw [List.map_nil, List.flatten_nil, List.append_nil, fw_run E w [] hw.2, List.nil_append]
    rcases hE with rfl | rfl
    · show (if w = [] then [] else [w]) = _; rw [if_neg hw.1]
    · rw [fw_space _ _ hw.1]; rfl
  | cons x r ih =>
    intro w E hw hr hE
    have e : w ++ ((x :: r).map (32 :: ·)).flatten ++ E = w ++ (32 :: (x ++ (r.map (32 :: ·)).flatten ++ E)) := by simp
    unfold wds
    rw [e, fw_run _ w [] hw.2, List.nil_append, fw_space _ _ hw.1]
    have := ih x E (hr x (by simp)) (fun y hy => hr y (by simp [hy])) hE
    unfold wds at this
    rw [this]
theorem wds_lineW (w : List UInt8) (r : List (List UInt8)) (hw : Wd w) (hr : ∀ x ∈ r, Wd x) : wds (lineW (w :: r)) = w :: r := by
  have := wds_line r w [] hw hr (.inl rfl)
  rw [List.append_nil] at this
  exact this
theorem fw_wd : ∀ (B c : List UInt8), (32 : UInt8) ∉ c → ∀ x ∈ fw c B, Wd x := by
  intro B
  induction B with
  | nil =>
    intro c hc x hx
    unfold fw at hx
    split at hx
    · cases hx
    · rename_i h
      simp only [List.mem_singleton] at hx
      subst hx; exact ⟨h, hc⟩
  | cons b B ih =>
    intro c hc x hx
    unfold fw at hx
    split at hx
    · split at hx
      · exact ih [] (by simp) x hx
      · rename_i h
        rcases List.mem_cons.1 hx with rfl | hx
        · exact ⟨h, hc⟩
        · exact ih [] (by simp) x hx
    · rename_i h
      refine ih (c ++ [b]) (fun q => ?_) x hx
      rcases List.mem_append.1 q with q | q
      · exact hc q
      · simp only [List.mem_singleton] at q; exact h q.symm
theorem wds_wd (l : List UInt8) : ∀ x ∈ wds l, Wd x := fw_wd l [] (by simp)
theorem fw_len : ∀ (B c : List UInt8), (fw c B).length ≤ B.length + 1 := by
  intro B
  induction B with
  | nil => intro c; unfold fw; split <;> simp
  | cons b B ih =>
    intro c
    unfold fw
    split
    · split
      · have := ih []; simp; omega
      · have := ih []; simp; omega
    · have := ih (c ++ [b]); simp; omega
theorem fw_size : ∀ (B c : List UInt8), ∀ x ∈ fw c B, x.length ≤ c.length + B.length := by
  intro B
  induction B with
  | nil =>
    intro c x hx
    unfold fw at hx
    split at hx
    · cases hx
    · simp only [List.mem_singleton] at hx; subst hx; simp
  | cons b B ih =>
    intro c x hx
    unfold fw at hx
    split at hx
    · split at hx
      · have := ih [] x hx; simp at this ⊢; omega
      · rcases List.mem_cons.1 hx with rfl | hx
        · simp
        · have := ih [] x hx; simp at this ⊢; omega
    · have := ih (c ++ [b]) x hx; simp at this ⊢; omega
/-! ### The library's way -/
theorem isSp_iff (b : UInt8) : isSp b.toNat = true ↔ b = 32 := by
  unfold isSp
  rw [decide_eq_true_iff]
  constructor
  · intro h; exact UInt8.toNat_inj.1 (by rw [h]; rfl)
  · intro h; subst h; rfl
theorem at_mid (A : List UInt8) (b : UInt8) (B : List UInt8) (h : A.length < (bts (A ++ b :: B)).size) : (bts (A ++ b :: B))[A.length]'h = b := by
  rw [ByteArray.getElem_eq_getElem_data]
  simp [bts]
theorem cut_word (P c B : List UInt8) : (bts (P ++ c ++ B)).extract P.length (P ++ c).length = bts c := by
  rw [extract_bts]
  congr 1
  rw [List.append_assoc, List.drop_left]
  have : (P ++ c).length - P.length = c.length := by simp
  rw [this, List.take_left]
theorem spans_fw (s : ByteArray) : ∀ (B P c : List UInt8) (f : Nat) (acc : List (Nat × Nat)), s = bts (P ++ c ++ B) → (∀ b ∈ B, b.toNat < 128) → B.length ≤ f →
    (Lib.closeSpans s (Lib.spansFromP isSp s f (P ++ c).length (if c = [] then none else some P.length) acc)).map (fun x => s.extract x.1 x.2) = acc.map (fun x => s.extract x.1 x.2) ++ (fw c B).map bts := by
  intro B
  induction B with
  | nil =>
    intro P c f acc hs _ _
    have hsz : s.size = (P ++ c).length := by rw [hs, bts_size, List.append_nil]
    rw [Lib.spansFromP_end _ _ _ _ _ _ (by omega)]
    unfold fw Lib.closeSpans
    by_cases hc : c = []
    · rw [if_pos hc, if_pos hc]; simp
    · rw [if_neg hc, if_neg hc]
      simp only [List.map_append, List.map_cons, List.map_nil]
      have := cut_word P c []
      rw [hsz, hs, this]
  | cons b B ih =>
    intro P c f acc hs hb hf
    cases f with
    | zero => simp at hf
    | succ f =>
      have hlt : (P ++ c).length < s.size := by rw [hs, bts_size]; simp
      have hdec : Utf8.decode s (P ++ c).length = (b.toNat, 1) := by
        have hat : s[(P ++ c).length]'hlt = b := by subst hs; exact at_mid (P ++ c) b B hlt
        rw [decode_ascii s _ hlt (by rw [hat]; exact hb b (by simp)), hat]
      have hs2 : s = bts ((P ++ c ++ [b]) ++ [] ++ B) := by rw [hs]; simp
      have hf2 : B.length ≤ f := by simpa using hf
      have hb2 : ∀ x ∈ B, x.toNat < 128 := fun x hx => hb x (by simp [hx])
      unfold Lib.spansFromP fw
      rw [if_pos hlt, hdec]
      by_cases h : b = 32
      · rw [if_pos ((isSp_iff b).2 h), if_pos h]
        by_cases hc : c = []
        · rw [if_pos hc, if_pos hc]
          have := ih (P ++ c ++ [b]) [] f acc hs2 hb2 hf2
          simp only [if_pos] at this
          have e : (P ++ c ++ [b] ++ []).length = (P ++ c).length + 1 := by simp; omega
          rw [e] at this
          exact this
        · rw [if_neg hc, if_neg hc]
          have := ih (P ++ c ++ [b]) [] f (acc ++ [(P.length, (P ++ c).length)]) hs2 hb2 hf2
          simp only [if_pos] at this
          have e : (P ++ c ++ [b] ++ []).length = (P ++ c).length + 1 := by simp; omega
          rw [e] at this
          refine this.trans ?_
          have e2 : s.extract P.length (P ++ c).length = bts c := by rw [hs]; exact cut_word P c (b :: B)
          simp only [List.map_append, List.map_cons, List.map_nil, e2]
          simp
      · rw [if_neg (fun q => h ((isSp_iff b).1 q)), if_neg h]
        have hs3 : s = bts (P ++ (c ++ [b]) ++ B) := by rw [hs]; simp
        have := ih P (c ++ [b]) f acc hs3 hb2 hf2
        rw [if_neg (by simp)] at this
        have e : (P ++ (c ++ [b])).length = (P ++ c).length + 1 := by simp; omega
        rw [e] at this
        by_cases hc : c = []
        · rw [if_pos hc]
          subst hc
          simpa using this
        · rw [if_neg hc]; exact this
theorem goFields_eq (l : List UInt8) (h : ∀ b ∈ l, b.toNat < 128) : Lib.goFieldsP isSp (bts l) = (wds l).map bts := by
  have := spans_fw (bts l) l [] [] (bts l).size [] rfl h (by rw [bts_size]; exact Nat.le_refl _)
  exact this
end Go.Proofs.YtlenacakmmikiaaGreatDoorX
namespace Go.Proofs.YtlenacakmmikiaaGreatDoorX
open Go Go.Proofs
set_option linter.unusedVariables false
def actW (k : Int) : List UInt8 := ([[], [98, 97, 107, 101], [115, 101, 108, 108], [99, 104, 101, 97, 112], [109, 111, 114, 110, 105, 110, 103], [98, 117, 121], [102, 108, 111, 117, 114]] : List (List UInt8)).getD k.toNat []
def actN (k : Int) : Nat := ([0, 1, 1, 1, 0, 2, 1] : List Nat).getD k.toNat 0
/-- The words of an act. -/
def TF (a : Deed) : List (List UInt8) := actW a.Kind :: ([a.A, a.B].take (actN a.Kind)).map Lib.itoa
theorem act_kinds {a : Deed} (h : actOk a = true) : a.Kind = 1 ∨ a.Kind = 2 ∨ a.Kind = 3 ∨ a.Kind = 4 ∨ a.Kind = 5 ∨ a.Kind = 6 := by
  by_cases k1 : a.Kind = 1
  · exact .inl k1
  by_cases k2 : a.Kind = 2
  · exact .inr (.inl k2)
  by_cases k3 : a.Kind = 3
  · exact .inr (.inr (.inl k3))
  by_cases k4 : a.Kind = 4
  · exact .inr (.inr (.inr (.inl k4)))
  by_cases k5 : a.Kind = 5
  · exact .inr (.inr (.inr (.inr (.inl k5))))
  · exact .inr (.inr (.inr (.inr (.inr (actOk_kind h k1 k2 k3 k4 k5)))))
/-- The numbers of an act that is right: those that its words do not tell are 0. -/
theorem act_nums {a : Deed} (h : actOk a = true) : (0 ≤ a.A ∧ a.A ≤ 100000) ∧ (0 ≤ a.B ∧ a.B ≤ 100000) ∧ (actN a.Kind ≤ 1 → a.B = 0) ∧ (actN a.Kind = 0 → a.A = 0) := by
  rcases act_kinds h with e | e | e | e | e | e <;> (unfold actOk at h; rw [e] at h ⊢; simp [inR, actN] at h ⊢; omega)
theorem dig_ne (b : UInt8) (h : Dig b) (c : UInt8) (hc : c.toNat < 48) : b ≠ c := fun e => by unfold Dig at h; rw [e] at h; omega
theorem itoa_facts (n : Int) (h : Num n) : (∀ b ∈ Lib.itoa n, Dig b) ∧ Lib.itoa n ≠ [] ∧ (Lib.itoa n).length ≤ 10 := by
  obtain ⟨u, rfl⟩ : ∃ u : Nat, n = u := ⟨n.toNat, by have := h.1; omega⟩
  obtain ⟨q1, q2, q3, q4⟩ := dec_facts 10 u (by have := h.2; omega)
  rw [itoa_nat]
  exact ⟨q1, fun e => by rw [e] at q4; simp at q4, by omega⟩
theorem itoa_wd (n : Int) (h : Num n) : Wd (Lib.itoa n) := by
  obtain ⟨h1, h2, _⟩ := itoa_facts n h
  exact ⟨h2, fun q => dig_ne _ (h1 _ q) 32 (by decide) rfl⟩
theorem itoa_inj {n m : Int} (h : Num n) (h2 : Num m) (e : Lib.itoa n = Lib.itoa m) : n = m := by
  have a := pu_itoa n h
  have b := pu_itoa m h2
  unfold itoaB at a b
  rw [e, b] at a
  exact (congrArg Prod.fst a).symm
theorem act_num {a : Deed} (h : actOk a = true) : Num a.A ∧ Num a.B := by
  obtain ⟨h1, h2, _⟩ := act_nums h
  unfold Num; omega
theorem TF_wd {a : Deed} (h : actOk a = true) : Wd (actW a.Kind) ∧ ∀ x ∈ ([a.A, a.B].take (actN a.Kind)).map Lib.itoa, Wd x := by
  constructor
  · rcases act_kinds h with e | e | e | e | e | e <;> rw [e] <;> unfold Wd <;> decide
  · intro x hx
    obtain ⟨n, hn, rfl⟩ := List.mem_map.1 hx
    have := List.mem_of_mem_take hn
    obtain ⟨q1, q2⟩ := act_num h
    simp only [List.mem_cons, List.not_mem_nil, or_false] at this
    rcases this with e | e <;> rw [e] <;> exact itoa_wd _ (by assumption)
theorem actW_inj {a b : Deed} (ha : actOk a = true) (hb : actOk b = true) (e : actW a.Kind = actW b.Kind) : a.Kind = b.Kind := by
  rcases act_kinds ha with x | x | x | x | x | x <;> rcases act_kinds hb with y | y | y | y | y | y <;> rw [x, y] at e ⊢ <;> exact absurd e (by decide)
theorem TF_inj {a b : Deed} (ha : actOk a = true) (hb : actOk b = true) (e : TF a = TF b) : a = b := by
  unfold TF at e
  have hk := actW_inj ha hb (List.cons.inj e).1
  have hn := (List.cons.inj e).2
  obtain ⟨a1, a2, a3, a4⟩ := act_nums ha
  obtain ⟨b1, b2, b3, b4⟩ := act_nums hb
  obtain ⟨na1, na2⟩ := act_num ha
  obtain ⟨nb1, nb2⟩ := act_num hb
  rw [hk] at hn a3 a4
  have hc : actN b.Kind = 0 ∨ actN b.Kind = 1 ∨ actN b.Kind = 2 := by
    rcases act_kinds hb with y | y | y | y | y | y <;> rw [y] <;> simp [actN]
  have hAB : a.A = b.A ∧ a.B = b.B := by
    rcases hc with c | c | c
    · exact ⟨by rw [a4 c, b4 c], by rw [a3 (by omega), b3 (by omega)]⟩
    · rw [c] at hn
      have : Lib.itoa a.A = Lib.itoa b.A := by simpa using hn
      exact ⟨itoa_inj na1 nb1 this, by rw [a3 (by omega), b3 (by omega)]⟩
    · rw [c] at hn
      have : Lib.itoa a.A = Lib.itoa b.A ∧ Lib.itoa a.B = Lib.itoa b.B := by simpa using hn
      exact ⟨itoa_inj na1 nb1 this.1, itoa_inj na2 nb2 this.2⟩
  obtain ⟨x1, x2, x3⟩ := a
  obtain ⟨y1, y2, y3⟩ := b
  simp only at hk hAB
  rw [hk, hAB.1, hAB.2]
/-- Words tell an act. -/
def Tells (p : List (List UInt8)) (a : Deed) : Prop := actOk a = true ∧ TF a = p
/-- What both answer where the words are p. -/
def Reads (p : List (List UInt8)) (r : Deed × Bool) : Prop := (r.2 = true ∧ Tells p r.1) ∨ (r = (⟨0, 0, 0⟩, false) ∧ ∀ a, ¬ Tells p a)
theorem reads_uniq {p : List (List UInt8)} {r s : Deed × Bool} (h : Reads p r) (h2 : Reads p s) : r = s := by
  rcases h with ⟨h, t⟩ | ⟨h, t⟩ <;> rcases h2 with ⟨h2, t2⟩ | ⟨h2, t2⟩
  · have : r.1 = s.1 := TF_inj t.1 t2.1 (t.2.trans t2.2.symm)
    obtain ⟨r1, r2⟩ := r; obtain ⟨s1, s2⟩ := s
    simp only at this h h2
    rw [this, h, h2]
  · exact absurd t (t2 _)
  · exact absurd t2 (t _)
  · rw [h, h2]
theorem TF_len {a : Deed} (h : actOk a = true) : (TF a).length = actN a.Kind + 1 ∧ actN a.Kind ≤ 2 := by
  rcases act_kinds h with e | e | e | e | e | e <;> unfold TF <;> rw [e] <;> simp [actN]
theorem lineL_TF (a : Deed) : lineL (actW a.Kind) ([a.A, a.B].take (actN a.Kind)) = lineW (TF a) := by
  unfold lineL TF
  show _ = actW a.Kind ++ ((([a.A, a.B].take (actN a.Kind)).map Lib.itoa).map (32 :: ·)).flatten
  rw [List.map_map]; rfl
theorem lineW_inj {a : Deed} (h : actOk a = true) {w : List UInt8} {r : List (List UInt8)} (hw : Wd w) (hr : ∀ x ∈ r, Wd x) (e : lineW (TF a) = lineW (w :: r)) : TF a = w :: r := by
  have h1 := wds_lineW w r hw hr
  obtain ⟨t1, t2⟩ := TF_wd h
  have h2 := wds_lineW (actW a.Kind) _ t1 t2
  have h3 : wds (lineW (TF a)) = TF a := h2
  rw [← h3, e, h1]
end Go.Proofs.YtlenacakmmikiaaGreatDoorX
namespace Go.Proofs.YtlenacakmmikiaaGreatDoorX
open Go Go.Proofs
set_option linter.unusedVariables false
theorem act_inr {a : Deed} (h : actOk a = true) : Inr a.A ∧ Inr a.B := by
  obtain ⟨h1, h2, _⟩ := act_nums h
  unfold Inr; omega
/-- What is written for an act. -/
def fmtA (a : Deed) : ByteArray × Bool := if actOk a = true then (bts (lineW (TF a)), true) else (bts [], false)
theorem impl_FormatAct_is (k : Nat) (hk : 30 ≤ k) (a : Deed) : impl_FormatAct k a = some (fmtA a) := by
  unfold impl_FormatAct fmtA
  rw [impl_ActOk_eq]
  simp only [Option.bind_some]
  cases ha : actOk a
  · rfl
  obtain ⟨hA, hB⟩ := act_inr ha
  simp only [Bool.not_true, cond_false]
  rw [if_pos trivial, ← lineL_TF]
  have go : ∀ (w : List UInt8) (N : Nat), w.length ≤ 100 → N ≤ 2 → ((impl_told k (bts w) ([a.A, a.B].take N)).bind fun y4 => some (y4, true)) = some (bts (lineL w ([a.A, a.B].take N)), true) := by
    intro w N hw hN2
    rw [impl_told_eq k w _ hw (by simp; omega) (by simp; omega) (fun n hn => by
        have := List.mem_of_mem_take hn
        simp only [List.mem_cons, List.not_mem_nil, or_false] at this
        rcases this with e | e <;> rw [e]
        · exact hA
        · exact hB)]
    rfl
  unfold impl_actWords impl_actNumbers
  simp only [Option.bind_some]
  rcases act_kinds ha with e | e | e | e | e | e
  · have := go [98, 97, 107, 101] 1 (by decide) (by decide)
    rw [e]; exact this
  · have := go [115, 101, 108, 108] 1 (by decide) (by decide)
    rw [e]; exact this
  · have := go [99, 104, 101, 97, 112] 1 (by decide) (by decide)
    rw [e]; exact this
  · have := go [109, 111, 114, 110, 105, 110, 103] 0 (by decide) (by decide)
    rw [e]; exact this
  · have := go [98, 117, 121] 2 (by decide) (by decide)
    rw [e]; exact this
  · have := go [102, 108, 111, 117, 114] 1 (by decide) (by decide)
    rw [e]; exact this
end Go.Proofs.YtlenacakmmikiaaGreatDoorX
namespace Go.Proofs.YtlenacakmmikiaaGreatDoorX
open Go Go.Proofs
set_option linter.unusedVariables false
/-! ### A line parted -/
def Plain (b : UInt8) : Prop := 32 ≤ b.toNat ∧ b.toNat ≤ 126
instance (b : UInt8) : Decidable (Plain b) := by unfold Plain; infer_instance
/-- The words of a line, as both have them. -/
def SF (l : List UInt8) : List (List UInt8) × Bool := if l.length ≤ 600 ∧ (∀ b ∈ l, Plain b) ∧ (wds l).length ≤ 24 then (wds l, true) else ([], false)
def sfB (r : List (List UInt8) × Bool) : List ByteArray × Bool := (r.1.map bts, r.2)
theorem plain_cases (b : UInt8) (h : ¬ Plain b) : (b.toNat : Int) < 32 ∨ ¬ (b.toNat : Int) < 32 ∧ (126 : Int) < b.toNat := by unfold Plain at h; omega
theorem impl_sf_lp (k : Nat) (l : List UInt8) (hl : l.length ≤ 600) : ∀ (m : Nat) (B A : List UInt8), l = A ++ B → B.length ≤ m → (∀ b ∈ A, Plain b) → impl_SplitFields_l0 k m (bts l) (A.length : Int) = some (sfB (SF l)) := by
  have fin : ∀ J, (∀ b ∈ l, Plain b) → impl_SplitFields_s0 k (bts l) J (l.length : Int) = some (sfB (SF l)) := by
    intro J hp
    unfold impl_SplitFields_s0 strings_FieldsFunc
    rw [bts_size, decide_eq_false (by omega), cond_false, if_pos (by omega), goFields_eq l (fun b hb => by have := (hp b hb).2; omega), Option.bind_some, List.length_map]
    unfold SF
    by_cases h : (wds l).length ≤ 24
    · rw [decide_eq_false (by omega), if_pos ⟨hl, hp, h⟩]; rfl
    · rw [decide_eq_true (by omega), if_neg (fun q => h q.2.2)]; rfl
  intro m
  induction m with
  | zero =>
    intro B A e h1 hp
    have hB : B = [] := List.eq_nil_of_length_eq_zero (by omega)
    subst hB
    rw [List.append_nil] at e
    subst e
    unfold impl_SplitFields_l0
    exact fin _ hp
  | succ m ih =>
    intro B A e h1 hp
    cases B with
    | nil =>
      rw [List.append_nil] at e
      subst e
      unfold impl_SplitFields_l0
      exact fin _ hp
    | cons b B =>
      have hlt : (A.length : Int) < ((bts l).size : Int) := by rw [bts_size, e]; simp; omega
      have hbyte : byteAt (bts l) (Int.toNat (A.length : Int)) = (b.toNat : Int) := by rw [e]; exact byteAt_bts A b B
      have hAl : A.length ≤ 600 := by rw [e] at hl; simp at hl; omega
      unfold impl_SplitFields_l0 impl_SplitFields_s0
      rw [decide_eq_true hlt, if_pos ⟨by omega, hlt⟩, if_pos ⟨by omega, hlt⟩, hbyte, cond_true]
      by_cases hb : Plain b
      · have hb' := hb
        unfold Plain at hb'
        rw [decide_eq_false (by omega), decide_eq_false (by omega), cond_false, cond_false, wr_suc A b (by omega)]
        refine ih B (A ++ [b]) (by rw [e]; simp) (by simpa using h1) (fun c hc => ?_)
        rcases List.mem_append.1 hc with hc | hc
        · exact hp c hc
        · rw [List.mem_singleton.1 hc]; exact hb
      · have hno : SF l = ([], false) := by
          unfold SF
          rw [if_neg (fun q => hb (q.2.1 b (by rw [e]; simp)))]
        rw [hno]
        rcases plain_cases b hb with h | ⟨h, h2⟩
        · rw [decide_eq_true h]; rfl
        · rw [decide_eq_false h, decide_eq_true h2]; rfl
theorem impl_SplitFields_eq (k : Nat) (hk : 600 ≤ k) (l : List UInt8) : impl_SplitFields k (bts l) = some (sfB (SF l)) := by
  unfold impl_SplitFields impl_SplitFields_m
  rw [bts_size]
  by_cases h : l.length ≤ 600
  · rw [decide_eq_false (by omega), cond_false]
    exact impl_sf_lp k l h k l [] rfl (by omega) (by simp)
  · rw [decide_eq_true (by omega), cond_true]
    unfold SF
    rw [if_neg (fun q => h q.1)]; rfl
theorem SF_cases (l : List UInt8) : SF l = ([], false) ∨ (SF l = (wds l, true) ∧ l.length ≤ 600 ∧ (wds l).length ≤ 24) := by
  unfold SF
  split
  · rename_i h; exact .inr ⟨rfl, h.1, h.2.2⟩
  · exact .inl rfl
theorem wds_small (l : List UInt8) (h : l.length ≤ 600) : ∀ w ∈ wds l, w.length ≤ 600 := fun w hw => by
  have := fw_size l [] w hw
  simp at this; omega
end Go.Proofs.YtlenacakmmikiaaGreatDoorX
namespace Go.Proofs.YtlenacakmmikiaaGreatDoorX
open Go Go.Proofs
set_option linter.unusedVariables false
def zrA : Deed × Bool := (⟨0, 0, 0⟩, false)
def finA (a : Deed) : Deed × Bool := if actOk a = true then (a, true) else zrA
theorem finA_cases (a : Deed) : finA a = zrA ∨ (finA a = (a, true) ∧ actOk a = true) := by
  unfold finA
  split
  · rename_i h; exact .inr ⟨rfl, h⟩
  · exact .inl rfl
/-- What both answer: nothing, or an act that the words tell; and if they tell one, then that. -/
def Sound (p : List (List UInt8)) (r : Deed × Bool) : Prop := r = zrA ∨ (r.2 = true ∧ Tells p r.1)
theorem reads_of {p : List (List UInt8)} {r : Deed × Bool} (h1 : Sound p r) (h2 : ∀ a, Tells p a → r = (a, true)) : Reads p r := by
  rcases h1 with h | h
  · refine .inr ⟨h, fun a ha => ?_⟩
    have := h2 a ha
    rw [h] at this
    exact absurd (congrArg Prod.snd this) (by simp [zrA])
  · exact .inl h
/-! ### The program's reading -/
def wsB : List ByteArray := [(ByteArray.mk #[98, 97, 107, 101]), (ByteArray.mk #[115, 101, 108, 108]), (ByteArray.mk #[99, 104, 101, 97, 112]), (ByteArray.mk #[109, 111, 114, 110, 105, 110, 103]), (ByteArray.mk #[98, 117, 121]), (ByteArray.mk #[102, 108, 111, 117, 114])]
theorem idx_words (w : List UInt8) : (∃ k : Nat, 1 ≤ k ∧ k ≤ 6 ∧ w = actW (k : Int) ∧ Lib.idxOfS wsB (bts w) = (k : Int) - 1) ∨ (Lib.idxOfS wsB (bts w) = -1 ∧ ∀ k : Nat, 1 ≤ k → k ≤ 6 → w ≠ actW (k : Int)) := by
  have e : wsB = [bts (actW 1), bts (actW 2), bts (actW 3), bts (actW 4), bts (actW 5), bts (actW 6)] := rfl
  have ne : ∀ {a : List UInt8}, w ≠ a → ¬ bts a = bts w := fun h q => h (bts_inj q).symm
  rw [e]
  unfold Lib.idxOfS
  simp only [Lib.idxFromS]
  by_cases h1 : w = actW 1
  · exact .inl ⟨1, by decide, by decide, h1, by rw [if_pos (by rw [h1])]; rfl⟩
  rw [if_neg (ne h1)]
  by_cases h2 : w = actW 2
  · exact .inl ⟨2, by decide, by decide, h2, by rw [if_pos (by rw [h2])]; rfl⟩
  rw [if_neg (ne h2)]
  by_cases h3 : w = actW 3
  · exact .inl ⟨3, by decide, by decide, h3, by rw [if_pos (by rw [h3])]; rfl⟩
  rw [if_neg (ne h3)]
  by_cases h4 : w = actW 4
  · exact .inl ⟨4, by decide, by decide, h4, by rw [if_pos (by rw [h4])]; rfl⟩
  rw [if_neg (ne h4)]
  by_cases h5 : w = actW 5
  · exact .inl ⟨5, by decide, by decide, h5, by rw [if_pos (by rw [h5])]; rfl⟩
  rw [if_neg (ne h5)]
  by_cases h6 : w = actW 6
  · exact .inl ⟨6, by decide, by decide, h6, by rw [if_pos (by rw [h6])]; rfl⟩
  rw [if_neg (ne h6)]
  refine .inr ⟨rfl, fun k a b => ?_⟩
  have : k = 1 ∨ k = 2 ∨ k = 3 ∨ k = 4 ∨ k = 5 ∨ k = 6 := by omega
  rcases this with q | q | q | q | q | q <;> subst q <;> assumption
theorem actN_le (k : Nat) (h1 : 1 ≤ k) (h6 : k ≤ 6) : actN (k : Int) ≤ 2 ∧ ([1, 1, 1, 0, 2, 1] : List Int).getD (Int.toNat ((k : Int) - 1)) 0 = ((actN (k : Int) : Nat) : Int) := by
  have : k = 1 ∨ k = 2 ∨ k = 3 ∨ k = 4 ∨ k = 5 ∨ k = 6 := by omega
  rcases this with q | q | q | q | q | q <;> subst q <;> exact ⟨by decide, by decide⟩
theorem tell_word {w : List UInt8} {ps : List (List UInt8)} {a : Deed} {k : Nat} (h1 : 1 ≤ k) (h6 : k ≤ 6) (hw : w = actW (k : Int)) (h : Tells (w :: ps) a) : a.Kind = (k : Int) ∧ ps = ([a.A, a.B].take (actN (k : Int))).map Lib.itoa := by
  obtain ⟨ha, ht⟩ := h
  unfold TF at ht
  have e1 := (List.cons.inj ht).1
  have e2 := (List.cons.inj ht).2
  have hk : a.Kind = (k : Int) := by
    rw [hw] at e1
    have : k = 1 ∨ k = 2 ∨ k = 3 ∨ k = 4 ∨ k = 5 ∨ k = 6 := by omega
    rcases act_kinds ha with x | x | x | x | x | x <;> rcases this with y | y | y | y | y | y <;> rw [x, y] at e1 <;> first
      | exact absurd e1 (by decide)
      | (rw [x, y]; rfl)
  exact ⟨hk, by rw [← hk]; exact e2.symm⟩
theorem told_word {k : Nat} {n0 n1 : Int} {ps : List (List UInt8)} (h : actOk ⟨(k : Int), n0, n1⟩ = true) (hp : ps = ([n0, n1].take (actN (k : Int))).map Lib.itoa) : Tells (actW (k : Int) :: ps) ⟨(k : Int), n0, n1⟩ := ⟨h, by rw [hp]; rfl⟩
noncomputable def numsA (k : Nat) (ps : List (List UInt8)) : Deed × Bool := match ps with
  | [] => finA ⟨(k : Int), 0, 0⟩
  | [x] => if (pu (bts x)).2 = true then finA ⟨(k : Int), (pu (bts x)).1, 0⟩ else zrA
  | [x, y] => if (pu (bts x)).2 = true then (if (pu (bts y)).2 = true then finA ⟨(k : Int), (pu (bts x)).1, (pu (bts y)).1⟩ else zrA) else zrA
  | _ => zrA
theorem numsA_1 (k : Nat) (x : List UInt8) : numsA k [x] = if (pu (bts x)).2 = true then finA ⟨(k : Int), (pu (bts x)).1, 0⟩ else zrA := rfl
theorem numsA_2 (k : Nat) (x y : List UInt8) : numsA k [x, y] = if (pu (bts x)).2 = true then (if (pu (bts y)).2 = true then finA ⟨(k : Int), (pu (bts x)).1, (pu (bts y)).1⟩ else zrA) else zrA := rfl
theorem pu_true {x : List UInt8} (h : (pu (bts x)).2 = true) : x = Lib.itoa (pu (bts x)).1 := by
  rcases pu_cases (bts x) with e | ⟨n, hn, e, e2⟩
  · rw [e] at h; cases h
  · rw [e2]; exact bts_inj e
theorem numsA_reads (k : Nat) (h1 : 1 ≤ k) (h6 : k ≤ 6) (ps : List (List UInt8)) (hl : ps.length = actN (k : Int)) : Reads (actW (k : Int) :: ps) (numsA k ps) := by
  have hN := (actN_le k h1 h6).1
  have puI : ∀ {n : Int}, Num n → pu (bts (Lib.itoa n)) = (n, true) := fun h => pu_itoa _ h
  refine reads_of ?_ fun a ha => ?_
  · match ps, hl with
    | [], hl =>
      rcases finA_cases ⟨(k : Int), 0, 0⟩ with e | ⟨e, h⟩
      · exact .inl e
      · exact .inr ⟨by show (finA _).2 = true; rw [e], by show Tells _ (finA _).1; rw [e]; exact told_word h (by rw [← hl]; rfl)⟩
    | [x], hl =>
      show Sound _ (if _ then _ else _)
      split
      · rename_i hx
        rcases finA_cases ⟨(k : Int), (pu (bts x)).1, 0⟩ with e | ⟨e, h⟩
        · exact .inl e
        · refine .inr ⟨by rw [e], ?_⟩
          rw [e]
          refine told_word h ?_
          rw [← hl]
          show [x] = [Lib.itoa (pu (bts x)).1]
          rw [← pu_true hx]
      · exact .inl rfl
    | [x, y], hl =>
      show Sound _ (if _ then _ else _)
      split
      · rename_i hx
        split
        · rename_i hy
          rcases finA_cases ⟨(k : Int), (pu (bts x)).1, (pu (bts y)).1⟩ with e | ⟨e, h⟩
          · exact .inl e
          · refine .inr ⟨by rw [e], ?_⟩
            rw [e]
            refine told_word h ?_
            rw [← hl]
            show [x, y] = [Lib.itoa (pu (bts x)).1, Lib.itoa (pu (bts y)).1]
            rw [← pu_true hx, ← pu_true hy]
        · exact .inl rfl
      · exact .inl rfl
    | x :: y :: z :: r, hl => simp at hl; omega
  · obtain ⟨hk, hps⟩ := tell_word h1 h6 rfl ha
    have hok := ha.1
    obtain ⟨nA, nB⟩ := act_num hok
    obtain ⟨_, _, b1, b2⟩ := act_nums hok
    rw [hk] at b1 b2
    have hc : actN (k : Int) = 0 ∨ actN (k : Int) = 1 ∨ actN (k : Int) = 2 := by omega
    have hfin : finA a = (a, true) := by unfold finA; rw [if_pos hok]
    obtain ⟨ak, aA, aB⟩ := a
    simp only at hk b1 b2 hps nA nB
    subst hk
    rcases hc with c | c | c
    · rw [c] at hps
      rw [hps]
      have z1 := b2 c
      have z2 := b1 (by omega)
      subst z1; subst z2
      exact hfin
    · rw [c] at hps
      rw [hps]
      have z2 := b1 (by omega)
      subst z2
      show (if (pu (bts (Lib.itoa aA))).2 = true then finA ⟨(k : Int), (pu (bts (Lib.itoa aA))).1, 0⟩ else zrA) = _
      rw [puI nA, if_pos rfl]
      exact hfin
    · rw [c] at hps
      rw [hps]
      show (if (pu (bts (Lib.itoa aA))).2 = true then (if (pu (bts (Lib.itoa aB))).2 = true then finA ⟨(k : Int), (pu (bts (Lib.itoa aA))).1, (pu (bts (Lib.itoa aB))).1⟩ else zrA) else zrA) = _
      rw [puI nA, puI nB, if_pos rfl, if_pos rfl]
      exact hfin
theorem impl_pa_end (k : Nat) (y1 : List ByteArray × Bool) (y3 : Int × List ByteArray) (R : List ByteArray) (hR : (y1.1.take (Int.toNat ((y1.1).length : Int))).drop 1 = R) (J : Int → Int → Int → Option (Deed × Bool)) (κ : Nat) (hκ : y3.1 = (κ : Int) - 1) (h6 : κ ≤ 6) (n0 n1 : Int) :
    impl_ParseAct_s0 k y1 y3 J (R.length : Int) n0 n1 = some (finA ⟨(κ : Int), n0, n1⟩) := by
  unfold impl_ParseAct_s0 finA
  rw [hR, decide_eq_false (by omega), cond_false, if_pos (by decide), if_pos (by decide), hκ, wr_id (by omega) (by omega), impl_ActOk_eq]
  have e : (κ : Int) - 1 + 1 = (κ : Int) := by omega
  rw [e, Option.bind_some, cond_not]
  cases actOk ⟨(κ : Int), n0, n1⟩ <;> rfl
theorem impl_pa_step (k : Nat) (y1 : List ByteArray × Bool) (y3 : Int × List ByteArray) (A : List ByteArray) (x : List UInt8) (B : List ByteArray) (hR : (y1.1.take (Int.toNat ((y1.1).length : Int))).drop 1 = A ++ bts x :: B) (hA : A.length ≤ 1) (hx : x.length ≤ 1048576) (J : Int → Int → Int → Option (Deed × Bool)) (n0 n1 : Int) :
    impl_ParseAct_s0 k y1 y3 J (A.length : Int) n0 n1 = if (pu (bts x)).2 = true then J ((A ++ [bts x]).length : Int) (if A.length = 0 then (pu (bts x)).1 else n0) (if A.length = 0 then n1 else (pu (bts x)).1) else some zrA := by
  unfold impl_ParseAct_s0
  rw [hR, lt_mid, if_pos ((g_mid A (bts x) B).mpr trivial), getD_mid, impl_ParseUint_eq k _ (by rw [bts_size]; exact hx), cond_true, Option.bind_some, cond_not]
  cases hp : (pu (bts x)).2 with
  | false => rfl
  | true =>
    rw [cond_true, if_pos rfl, if_pos ⟨by omega, by omega⟩, wr_suc A (bts x) (by omega)]
    by_cases h0 : A.length = 0
    · rw [if_pos h0, if_pos h0, decide_eq_true (by omega), cond_true]
    · rw [if_neg h0, if_neg h0, decide_eq_false (by omega), decide_eq_true (by omega), cond_false, cond_true]
theorem impl_pa_lp (k : Nat) (hk : 3 ≤ k) (y1 : List ByteArray × Bool) (y3 : Int × List ByteArray) (ps : List (List UInt8)) (hR : (y1.1.take (Int.toNat ((y1.1).length : Int))).drop 1 = ps.map bts) (hl : ps.length ≤ 2) (hx : ∀ x ∈ ps, x.length ≤ 1048576) (κ : Nat) (hκ : y3.1 = (κ : Int) - 1) (h6 : κ ≤ 6) :
    impl_ParseAct_l0 k k y1 y3 0 0 0 = some (numsA κ ps) := by
  obtain ⟨m, rfl⟩ : ∃ m, k = m + 3 := ⟨k - 3, by omega⟩
  match ps, hl with
  | [], _ => exact impl_pa_end (m + 3) y1 y3 [] hR _ κ hκ h6 0 0
  | [x], _ =>
    have s1 := impl_pa_step (m + 3) y1 y3 [] x [] hR (by decide) (hx x (by simp)) (impl_ParseAct_l0 (m + 3) (m + 2) y1 y3) 0 0
    refine s1.trans ?_
    rw [numsA_1]
    by_cases hx1 : (pu (bts x)).2 = true
    · rw [if_pos hx1, if_pos hx1]
      exact impl_pa_end (m + 3) y1 y3 [bts x] hR (impl_ParseAct_l0 (m + 3) (m + 1) y1 y3) κ hκ h6 _ _
    · rw [if_neg hx1, if_neg hx1]
  | [x, y], _ =>
    have s1 := impl_pa_step (m + 3) y1 y3 [] x [bts y] hR (by decide) (hx x (by simp)) (impl_ParseAct_l0 (m + 3) (m + 2) y1 y3) 0 0
    refine s1.trans ?_
    rw [numsA_2]
    by_cases hx1 : (pu (bts x)).2 = true
    · rw [if_pos hx1, if_pos hx1]
      have s2 := impl_pa_step (m + 3) y1 y3 [bts x] y [] hR (by simp) (hx y (by simp)) (impl_ParseAct_l0 (m + 3) (m + 1) y1 y3) (pu (bts x)).1 0
      refine s2.trans ?_
      by_cases hy1 : (pu (bts y)).2 = true
      · rw [if_pos hy1, if_pos hy1]
        exact impl_pa_end (m + 3) y1 y3 [bts x, bts y] hR (impl_ParseAct_l0 (m + 3) m y1 y3) κ hκ h6 _ _
      · rw [if_neg hy1, if_neg hy1]
    · rw [if_neg hx1, if_neg hx1]
  | x :: y :: z :: r, hl => simp at hl
/-- What either answers at a line. -/
def Answers (l : List UInt8) (r : Deed × Bool) : Prop := ((SF l).2 = true ∧ Reads (SF l).1 r) ∨ ((SF l).2 = false ∧ r = zrA)
theorem answers_uniq {l : List UInt8} {r s : Deed × Bool} (h : Answers l r) (h2 : Answers l s) : r = s := by
  rcases h with ⟨h, a⟩ | ⟨h, a⟩ <;> rcases h2 with ⟨h2, b⟩ | ⟨h2, b⟩
  · exact reads_uniq a b
  · rw [h] at h2; cases h2
  · rw [h] at h2; cases h2
  · rw [a, b]
theorem no_words (r : Deed × Bool) (h : r = zrA) : Reads [] r := .inr ⟨h, fun a q => by have := q.2; unfold TF at this; cases this⟩
theorem no_tells {p : List (List UInt8)} (h : ∀ a, ¬ Tells p a) : Reads p zrA := .inr ⟨rfl, h⟩
theorem impl_ParseAct_eq (k : Nat) (hk : 601 ≤ k) (l : List UInt8) : ∃ r, impl_ParseAct k (bts l) = some r ∧ Answers l r := by
  unfold impl_ParseAct impl_ParseAct_m
  rw [impl_SplitFields_eq k (by omega) l, Option.bind_some]
  rcases SF_cases l with e | ⟨e, h600, h24⟩
  · refine ⟨zrA, ?_, .inr ⟨by rw [e], rfl⟩⟩
    rw [e]; rfl
  · have small := wds_small l h600
    rw [e]
    suffices h : ∀ p : List (List UInt8), p.length ≤ 24 → (∀ w ∈ p, w.length ≤ 600) → ∃ r, (cond (!(sfB (p, true)).2) (some ((⟨0, 0, 0⟩ : Deed), false)) (cond (decide (((sfB (p, true)).1.length : Int) = 0)) (some ((⟨0, 0, 0⟩ : Deed), false))
        ((impl_actWords k).bind fun y2 => if 0 ≤ (0 : Int) ∧ (0 : Int) < ((sfB (p, true)).1.length : Int) then
          (slices_Index_string_string k y2 ((sfB (p, true)).1.getD 0 (ByteArray.mk #[]))).bind fun y3 => cond (decide ((y3.1 : Int) < 0)) (some ((⟨0, 0, 0⟩ : Deed), false))
            ((impl_actNumbers k).bind fun y4 => if 0 ≤ (y3.1 : Int) ∧ (y3.1 : Int) < ((y4).length : Int) then
              cond (!(decide (((sfB (p, true)).1.length : Int) = (wr ((y4.getD (Int.toNat y3.1) 0) + 1))))) (some ((⟨0, 0, 0⟩ : Deed), false))
                (if (0 : Int) ≤ 1 ∧ 1 ≤ ((sfB (p, true)).1.length : Int) ∧ ((sfB (p, true)).1.length : Int) ≤ ((sfB (p, true)).1.length : Int) then impl_ParseAct_l0 k k (sfB (p, true)) y3 0 0 0 else none) else none) else none))) = some r ∧ Reads p r by
      obtain ⟨r, h1, h2⟩ := h (wds l) h24 small
      exact ⟨r, h1, .inl ⟨by rw [e], by rw [e]; exact h2⟩⟩
    intro p hp hps
    cases p with
    | nil => exact ⟨zrA, rfl, no_words _ rfl⟩
    | cons w ps =>
      have hlen : ((sfB (w :: ps, true)).1.length : Int) = (ps.length : Int) + 1 := by simp [sfB]
      have hg0 : (sfB (w :: ps, true)).1.getD 0 (ByteArray.mk #[]) = bts w := rfl
      rw [hlen, hg0]
      have hnot : (!(sfB (w :: ps, true)).2) = false := rfl
      rw [hnot, cond_false, decide_eq_false (by omega), cond_false]
      unfold impl_actWords impl_actNumbers slices_Index_string_string
      rw [Option.bind_some, if_pos ⟨by omega, by omega⟩, if_pos (by decide), Option.bind_some, Option.bind_some]
      simp only
      rcases idx_words w with ⟨κ, k1, k6, hw, hi⟩ | ⟨hi, hno⟩
      · have hi' : Lib.idxOfS [(ByteArray.mk #[98, 97, 107, 101]), (ByteArray.mk #[115, 101, 108, 108]), (ByteArray.mk #[99, 104, 101, 97, 112]), (ByteArray.mk #[109, 111, 114, 110, 105, 110, 103]), (ByteArray.mk #[98, 117, 121]), (ByteArray.mk #[102, 108, 111, 117, 114])] (bts w) = (κ : Int) - 1 := hi
        obtain ⟨n2, nn⟩ := actN_le κ k1 k6
        rw [hi', decide_eq_false (by omega), cond_false, if_pos ⟨by omega, by simp; omega⟩, nn, wr_id (by omega) (by omega)]
        by_cases hl : ps.length = actN (κ : Int)
        · rw [decide_eq_true (by omega), if_pos ⟨by omega, by omega, by omega⟩]
          have hR : ((sfB (w :: ps, true)).1.take (Int.toNat ((sfB (w :: ps, true)).1.length : Int))).drop 1 = ps.map bts := by
            have : Int.toNat ((sfB (w :: ps, true)).1.length : Int) = (sfB (w :: ps, true)).1.length := by omega
            rw [this, List.take_length]; rfl
          refine ⟨numsA κ ps, ?_, ?_⟩
          · exact impl_pa_lp k (by omega) _ _ ps hR (by omega) (fun x hx => by have := hps x (by simp [hx]); omega) κ rfl k6
          · rw [hw]; exact numsA_reads κ k1 k6 ps hl
        · rw [decide_eq_false (by omega)]
          refine ⟨zrA, rfl, no_tells fun a ha => hl ?_⟩
          have := (tell_word k1 k6 hw ha).2
          rw [this]
          rw [List.length_map, List.length_take]
          simp; omega
      · have hi' : Lib.idxOfS [(ByteArray.mk #[98, 97, 107, 101]), (ByteArray.mk #[115, 101, 108, 108]), (ByteArray.mk #[99, 104, 101, 97, 112]), (ByteArray.mk #[109, 111, 114, 110, 105, 110, 103]), (ByteArray.mk #[98, 117, 121]), (ByteArray.mk #[102, 108, 111, 117, 114])] (bts w) = -1 := hi
        rw [hi', decide_eq_true (by omega), cond_true]
        refine ⟨zrA, rfl, no_tells fun a ha => ?_⟩
        have h1 := (List.cons.inj ha.2).1
        rcases act_kinds ha.1 with x | x | x | x | x | x
        · exact hno 1 (by decide) (by decide) (by rw [← h1, x]; rfl)
        · exact hno 2 (by decide) (by decide) (by rw [← h1, x]; rfl)
        · exact hno 3 (by decide) (by decide) (by rw [← h1, x]; rfl)
        · exact hno 4 (by decide) (by decide) (by rw [← h1, x]; rfl)
        · exact hno 5 (by decide) (by decide) (by rw [← h1, x]; rfl)
        · exact hno 6 (by decide) (by decide) (by rw [← h1, x]; rfl)
/-! ### The reference's reading -/
noncomputable def numV (x : List UInt8) : Int := match x with
  | [] => (pu (bts [])).1
  | b :: r => if 1 < (b :: r).length ∧ b.toNat = 45 then 0 - (pu (bts r)).1 else (pu (bts (b :: r))).1
theorem numV_cons (b : UInt8) (r : List UInt8) : numV (b :: r) = if 1 < (b :: r).length ∧ b.toNat = 45 then 0 - (pu (bts r)).1 else (pu (bts (b :: r))).1 := rfl
theorem numV_itoa {n : Int} (h : Num n) : numV (Lib.itoa n) = n := by
  have h1 := (itoa_facts n h).1
  have h2 := pu_itoa n h
  unfold itoaB at h2
  cases hx : Lib.itoa n with
  | nil => exact absurd hx (itoa_facts n h).2.1
  | cons b r =>
    rw [hx] at h1 h2
    rw [numV_cons]
    have := h1 b (by simp)
    unfold Dig at this
    rw [if_neg (fun q => by omega), h2]
/-- The first kind whose act is right and has the text T. -/
def pick (n0 n1 : Int) (T : ByteArray) : Nat → Nat → Deed × Bool
  | 0, _ => zrA
  | d + 1, κ => if actOk ⟨(κ : Int), n0, n1⟩ = true ∧ bts (lineW (TF ⟨(κ : Int), n0, n1⟩)) = T then (⟨(κ : Int), n0, n1⟩, true) else pick n0 n1 T d (κ + 1)
theorem pick_succ (n0 n1 : Int) (T : ByteArray) (d κ : Nat) : pick n0 n1 T (d + 1) κ = if actOk ⟨(κ : Int), n0, n1⟩ = true ∧ bts (lineW (TF ⟨(κ : Int), n0, n1⟩)) = T then (⟨(κ : Int), n0, n1⟩, true) else pick n0 n1 T d (κ + 1) := rfl
theorem pick_sound (n0 n1 : Int) (T : ByteArray) : ∀ (d κ : Nat), pick n0 n1 T d κ = zrA ∨ ∃ a, pick n0 n1 T d κ = (a, true) ∧ actOk a = true ∧ bts (lineW (TF a)) = T := by
  intro d
  induction d with
  | zero => intro κ; exact .inl rfl
  | succ d ih =>
    intro κ
    unfold pick
    split
    · rename_i h; exact .inr ⟨_, rfl, h.1, h.2⟩
    · exact ih (κ + 1)
theorem pick_hit (a : Deed) (T : ByteArray) (ha : actOk a = true) (hT : bts (lineW (TF a)) = T) (hu : ∀ b, actOk b = true → bts (lineW (TF b)) = T → b = a) : ∀ (d κ : Nat), (κ : Int) ≤ a.Kind → a.Kind < (κ : Int) + d → pick a.A a.B T d κ = (a, true) := by
  intro d
  induction d with
  | zero => intro κ h1 h2; omega
  | succ d ih =>
    intro κ h1 h2
    unfold pick
    split
    · rename_i h
      rw [hu _ h.1 h.2]
    · rename_i h
      refine ih (κ + 1) ?_ (by omega)
      have : (κ : Int) ≠ a.Kind := fun q => h (by rw [q]; exact ⟨ha, hT⟩)
      omega
theorem lineW_snoc (w : List UInt8) (A : List (List UInt8)) (x : List UInt8) : lineW (w :: (A ++ [x])) = lineW (w :: A) ++ [32] ++ x := by simp [lineW]
theorem lineW_len (w : List UInt8) (hw : w.length ≤ 600) : ∀ (A : List (List UInt8)), (∀ x ∈ A, x.length ≤ 600) → (lineW (w :: A)).length ≤ 600 + 601 * A.length := by
  intro A h
  have : ((A.map (32 :: ·)).flatten).length ≤ 601 * A.length := by
    induction A with
    | nil => simp
    | cons a r ih =>
      have h1 := h a (by simp)
      have h2 := ih (fun x hx => h x (by simp [hx]))
      simp only [List.map_cons, List.flatten_cons, List.length_append, List.length_cons]
      omega
  simp only [lineW, List.length_append]
  omega
theorem pick_reads (w : List UInt8) (ps : List (List UInt8)) (hw : Wd w) (hps : ∀ x ∈ ps, Wd x) : Reads (w :: ps) (pick ((ps.map numV ++ [0, 0]).getD 0 0) ((ps.map numV ++ [0, 0]).getD 1 0) (bts (lineW (w :: ps))) 6 1) := by
  have uniq : ∀ b, actOk b = true → bts (lineW (TF b)) = bts (lineW (w :: ps)) → TF b = w :: ps := fun b hb e => lineW_inj hb hw hps (bts_inj e)
  refine reads_of ?_ fun a ha => ?_
  · rcases pick_sound ((ps.map numV ++ [0, 0]).getD 0 0) ((ps.map numV ++ [0, 0]).getD 1 0) (bts (lineW (w :: ps))) 6 1 with e | ⟨a, e, ho, ht⟩
    · exact .inl e
    · exact .inr ⟨by rw [e], by rw [e]; exact ⟨ho, uniq a ho ht⟩⟩
  · obtain ⟨ho, ht⟩ := ha
    have hps2 : ps = ([a.A, a.B].take (actN a.Kind)).map Lib.itoa := (List.cons.inj ht).2.symm
    obtain ⟨nA, nB⟩ := act_num ho
    obtain ⟨_, _, b1, b2⟩ := act_nums ho
    have hn : (ps.map numV ++ [0, 0]).getD 0 0 = a.A ∧ (ps.map numV ++ [0, 0]).getD 1 0 = a.B := by
      have hc : actN a.Kind = 0 ∨ actN a.Kind = 1 ∨ actN a.Kind = 2 := by have := (TF_len ho).2; omega
      rcases hc with c | c | c
      · rw [hps2, c]; exact ⟨(b2 c).symm, (b1 (by omega)).symm⟩
      · rw [hps2, c]; exact ⟨numV_itoa nA, (b1 (by omega)).symm⟩
      · rw [hps2, c]; exact ⟨numV_itoa nA, numV_itoa nB⟩
    rw [hn.1, hn.2]
    refine pick_hit a _ ho (by rw [ht]) (fun b hb e => TF_inj hb ho ((uniq b hb e).trans ht.symm)) 6 1 ?_ ?_
    · rcases act_kinds ho with x | x | x | x | x | x <;> rw [x] <;> decide
    · rcases act_kinds ho with x | x | x | x | x | x <;> rw [x] <;> decide
end Go.Proofs.YtlenacakmmikiaaGreatDoorX
namespace Go.Proofs.YtlenacakmmikiaaGreatDoorX
open Go Go.Proofs
set_option linter.unusedVariables false
theorem answer_is (l : List UInt8) : ∃ r, Answers l r := by
  obtain ⟨r, _, h⟩ := impl_ParseAct_eq 601 (Nat.le_refl _) l
  exact ⟨r, h⟩
/-- The act that a line tells. -/
noncomputable def PA (l : List UInt8) : Deed × Bool := Classical.choose (answer_is l)
theorem PA_is (l : List UInt8) : Answers l (PA l) := Classical.choose_spec (answer_is l)
theorem impl_PA (k : Nat) (hk : 601 ≤ k) (l : List UInt8) : impl_ParseAct k (bts l) = some (PA l) := by
  obtain ⟨r, e, h⟩ := impl_ParseAct_eq k hk l
  rw [e, answers_uniq h (PA_is l)]
/-- The acts of lines: empty lines tell none; a line that tells no act spoils all. -/
noncomputable def actsOf : List (List UInt8) → Option (List Deed)
  | [] => some []
  | x :: r => if SF x = ([], true) then actsOf r else if (PA x).2 = true then (actsOf r).map ((PA x).1 :: ·) else none
abbrev Out := Option (List ByteArray × Bool)
noncomputable def after (I : List Deed → Out) (L : List Deed) : Option (List Deed) → Out
  | none => some ([], false)
  | some acts => I (L ++ acts)
theorem after_map (I : List Deed → Out) (L : List Deed) (a : Deed) (o : Option (List Deed)) : after I L (o.map (a :: ·)) = after I (L ++ [a]) o := by
  cases o with
  | none => rfl
  | some acts => show I (L ++ a :: acts) = I (L ++ [a] ++ acts); rw [app_mid L a acts]
/-- What is done at one line. -/
theorem line_step (x : List UInt8) (L : List Deed) (hL : L.length ≤ 4194304) (sf : Option (List ByteArray × Bool)) (pa : Option (Deed × Bool)) (hs : sf = some (sfB (SF x))) (hp : pa = some (PA x)) (skip : Out) (J : Deed → Out) :
    (sf.bind fun y => cond y.2 (cond (decide ((((y.1).length : Int) : Int) = 0)) skip (pa.bind fun q => cond (!q.2) (some ([], false)) (if (L : List Deed).length + ([q.1] : List Deed).length ≤ maxRow then J q.1 else none)))
      (pa.bind fun q => cond (!q.2) (some ([], false)) (if (L : List Deed).length + ([q.1] : List Deed).length ≤ maxRow then J q.1 else none))) =
    if SF x = ([], true) then skip else if (PA x).2 = true then J (PA x).1 else some ([], false) := by
  subst hs; subst hp
  have tail : ((some (PA x)).bind fun q => cond (!q.2) (some ([], false)) (if (L : List Deed).length + ([q.1] : List Deed).length ≤ maxRow then J q.1 else none)) = if (PA x).2 = true then J (PA x).1 else some ([], false) := by
    rw [Option.bind_some, if_pos (by unfold maxRow; simp; omega)]
    cases (PA x).2 <;> rfl
  rw [Option.bind_some, tail]
  rcases h : SF x with ⟨ws, b⟩
  cases b with
  | false => rw [if_neg (show ¬ ((ws, false) : List (List UInt8) × Bool) = ([], true) by simp)]; rfl
  | true =>
    cases ws with
    | nil => rw [if_pos rfl]; rfl
    | cons w r =>
      rw [if_neg (show ¬ ((w :: r, true) : List (List UInt8) × Bool) = ([], true) by simp)]
      have hd : decide ((((sfB (w :: r, true)).1.length : Int) : Int) = 0) = false := decide_eq_false (by simp [sfB]; omega)
      rw [show (sfB (w :: r, true)).2 = true from rfl, cond_true, hd, cond_false]
theorem actsOf_cons (I : List Deed → Out) (L : List Deed) (x : List UInt8) (r : List (List UInt8)) (skip : Out) (J : Deed → Out) (h1 : skip = after I L (actsOf r)) (h2 : ∀ a, J a = after I (L ++ [a]) (actsOf r)) :
    (if SF x = ([], true) then skip else if (PA x).2 = true then J (PA x).1 else some ([], false)) = after I L (actsOf (x :: r)) := by
  show _ = after I L (if SF x = ([], true) then actsOf r else if (PA x).2 = true then (actsOf r).map ((PA x).1 :: ·) else none)
  by_cases h : SF x = ([], true)
  · rw [if_pos h, if_pos h, h1]
  · rw [if_neg h, if_neg h]
    by_cases hp : (PA x).2 = true
    · rw [if_pos hp, if_pos hp, h2, after_map]
    · rw [if_neg hp, if_neg hp]; rfl
/-! ### The program's loop -/
noncomputable def tailI (k : Nat) (L : List Deed) : Out := cond (decide ((40 : Int) < ((L).length : Int))) (some ([], false)) ((impl_SampleBakery k).bind fun y14 => (impl_RunActs k y14 L).bind fun y15 => impl_RunScript_l1 k k y15 0 [])
theorem impl_rs_lp (k : Nat) (hk : 601 ≤ k) : ∀ (m : Nat) (B A : List (List UInt8)) (L : List Deed), B.length ≤ m → (A ++ B).length ≤ 20001 → L.length ≤ A.length → impl_RunScript_l0 k m ((A ++ B).map bts) (A.length : Int) L = after (tailI k) L (actsOf B) := by
  have fin : ∀ J (A : List (List UInt8)) (L : List Deed), impl_RunScript_s0 k (impl_RunScript_l1 k k) (A.map bts) J (A.length : Int) L = after (tailI k) L (some []) := by
    intro J A L
    unfold impl_RunScript_s0
    rw [List.length_map, decide_eq_false (by omega), cond_false]
    show _ = tailI k (L ++ [])
    rw [List.append_nil]; rfl
  intro m
  induction m with
  | zero =>
    intro B A L h1 _ _
    have hB : B = [] := List.eq_nil_of_length_eq_zero (by omega)
    subst hB
    rw [List.append_nil]
    unfold impl_RunScript_l0
    exact fin _ A L
  | succ m ih =>
    intro B A L h1 h2 h3
    cases B with
    | nil =>
      rw [List.append_nil]
      unfold impl_RunScript_l0
      exact fin _ A L
    | cons x B =>
      simp only [List.length_append, List.length_cons] at h1 h2
      unfold impl_RunScript_l0 impl_RunScript_s0
      have em : (A ++ x :: B).map bts = A.map bts ++ bts x :: B.map bts := by simp
      have hAl : (A.length : Int) = ((A.map bts).length : Int) := by simp
      rw [em, hAl, lt_mid, if_pos ((g_mid (A.map bts) (bts x) (B.map bts)).mpr trivial), getD_mid, cond_true]
      refine (line_step x L (by omega) _ _ (impl_SplitFields_eq k (by omega) x) (impl_PA k hk x) _ (fun a => impl_RunScript_l0 k m (A.map bts ++ bts x :: B.map bts) (wr (((A.map bts).length : Int) + 1)) (L ++ [a]))).trans ?_
      have ew : wr (((A.map bts).length : Int) + 1) = ((A ++ [x]).length : Int) := by rw [wr_id (by simp; omega) (by simp; omega)]; simp
      have em2 : A.map bts ++ bts x :: B.map bts = ((A ++ [x]) ++ B).map bts := by simp
      rw [ew, em2]
      exact actsOf_cons (tailI k) L x B _ _ (ih B (A ++ [x]) L (by omega) (by simp; omega) (by simp; omega)) (fun a => ih B (A ++ [x]) (L ++ [a]) (by omega) (by simp; omega) (by simp; omega))
theorem impl_rs_start (k : Nat) (hk : 20002 ≤ k) (l : List UInt8) (hl : l.length ≤ 20000) : impl_RunScript k (bts l) = after (tailI k) [] (actsOf (sp 10 l)) := by
  have hs := sp_len 10 l
  have e10 : (ByteArray.mk #[10] : ByteArray) = bts [10] := rfl
  unfold impl_RunScript impl_RunScript_m strings_Split
  rw [bts_size, decide_eq_false (by omega), cond_false, e10, if_pos ⟨by omega, by rw [bts_size]; simp⟩, Option.bind_some, splitB_eq 10 l.length l (Nat.le_refl _)]
  exact impl_rs_lp k (by omega) k (sp 10 l) [] [] (by omega) (by simp; omega) (by simp)
/-! ### The reference's loop -/
end Go.Proofs.YtlenacakmmikiaaGreatDoorX
namespace Go.Proofs.YtlenacakmmikiaaGreatDoorX
open Go Go.Proofs
set_option linter.unusedVariables false
theorem word_plain {w : List UInt8} (k : Int) (h : k = 1 ∨ k = 2 ∨ k = 3 ∨ k = 4 ∨ k = 5 ∨ k = 6) : ∀ b ∈ actW k, Plain b := by
  rcases h with e | e | e | e | e | e <;> rw [e] <;> decide
theorem text_facts {a : Deed} (h : actOk a = true) : (∀ b ∈ lineW (TF a), Plain b) ∧ (lineW (TF a)).length ≤ 100 := by
  obtain ⟨nA, nB⟩ := act_num h
  have hl : ∀ x ∈ ([a.A, a.B].take (actN a.Kind)).map Lib.itoa, (∀ b ∈ x, Plain b) ∧ x.length ≤ 10 := by
    intro x hx
    obtain ⟨n, hn, rfl⟩ := List.mem_map.1 hx
    have := List.mem_of_mem_take hn
    have hN : Num n := by
      simp only [List.mem_cons, List.not_mem_nil, or_false] at this
      rcases this with e | e <;> rw [e] <;> assumption
    obtain ⟨q1, _, q3⟩ := itoa_facts n hN
    exact ⟨fun b hb => by have := q1 b hb; unfold Dig at this; unfold Plain; omega, q3⟩
  have hw := word_plain (w := []) a.Kind (act_kinds h)
  have hw2 : (actW a.Kind).length ≤ 7 := by rcases act_kinds h with e | e | e | e | e | e <;> rw [e] <;> decide
  have hc : (([a.A, a.B].take (actN a.Kind)).map Lib.itoa).length ≤ 2 := by simp; omega
  generalize hp : ([a.A, a.B].take (actN a.Kind)).map Lib.itoa = ps at hl hc
  have e : lineW (TF a) = actW a.Kind ++ (ps.map (32 :: ·)).flatten := by rw [← hp]; rfl
  rw [e]
  have p32 : Plain 32 := by decide
  match ps, hl, hc with
  | [], hl, _ => exact ⟨fun b hb => by simp at hb; exact hw b hb, by simp; omega⟩
  | [x], hl, _ =>
    have h1 := hl x (by simp)
    refine ⟨fun b hb => ?_, by simp; omega⟩
    simp at hb
    rcases hb with hb | hb | hb
    · exact hw b hb
    · rw [hb]; exact p32
    · exact h1.1 b hb
  | [x, y], hl, _ =>
    have h1 := hl x (by simp)
    have h2 := hl y (by simp)
    refine ⟨fun b hb => ?_, by simp; omega⟩
    simp at hb
    rcases hb with hb | hb | hb | hb | hb
    · exact hw b hb
    · rw [hb]; exact p32
    · exact h1.1 b hb
    · rw [hb]; exact p32
    · exact h2.1 b hb
  | x :: y :: z :: r, _, hc => simp at hc
end Go.Proofs.YtlenacakmmikiaaGreatDoorX
namespace Go.Proofs.YtlenacakmmikiaaGreatDoorX
open Go Go.Proofs
set_option linter.unusedVariables false
theorem impl_FormatInt_all (k : Nat) (n : Int) (h : -1 ≤ n ∧ n ≤ 1000000) : impl_FormatInt k n = some (itoaB n) := by
  unfold impl_FormatInt strconv_Itoa
  rw [if_pos ⟨by omega, by omega⟩]; rfl
theorem itoa_m1 : Lib.itoa (-1) = [45, 49] := by
  unfold Lib.itoa
  rw [if_pos (by decide)]
  show 45 :: Lib.decDigits 1 = _
  rw [Lib.decDigits_one (by decide)]; rfl
theorem impl_nums_lp (k : Nat) (y : Bakery × List Int) (F : List ByteArray) (hF : impl_FormatBakery k y.1 = some F) (hF2 : F.length ≤ 4) : ∀ (m : Nat) (B A : List Int), y.2 = A ++ B → B.length ≤ m → y.2.length ≤ 1000 → (∀ n ∈ B, -1 ≤ n ∧ n ≤ 1000000) →
    impl_RunScript_l1 k m y (A.length : Int) (A.map itoaB) = some (y.2.map itoaB ++ F, true) := by
  have fin : ∀ J (A : List Int), y.2 = A → A.length ≤ 1000 → impl_RunScript_s1 k y J (A.length : Int) (A.map itoaB) = some (y.2.map itoaB ++ F, true) := by
    intro J A e hA
    unfold impl_RunScript_s1
    rw [e, decide_eq_false (by omega), cond_false, hF, Option.bind_some, if_pos (by rw [List.length_map]; unfold maxRow; omega)]
  intro m
  induction m with
  | zero =>
    intro B A e h1 h2 _
    have hB : B = [] := List.eq_nil_of_length_eq_zero (by omega)
    subst hB
    rw [List.append_nil] at e
    unfold impl_RunScript_l1
    exact fin _ A e (by rw [← e]; exact h2)
  | succ m ih =>
    intro B A e h1 h2 hn
    cases B with
    | nil =>
      rw [List.append_nil] at e
      unfold impl_RunScript_l1
      exact fin _ A e (by rw [← e]; exact h2)
    | cons x B =>
      have h2' : (A ++ x :: B).length ≤ 1000 := by rw [← e]; exact h2
      simp only [List.length_append, List.length_cons] at h1 h2'
      unfold impl_RunScript_l1 impl_RunScript_s1
      rw [e, lt_mid, if_pos ((g_mid A x B).mpr trivial), getD_mid, impl_FormatInt_all k x (hn x (by simp)), cond_true, Option.bind_some, if_pos (by rw [List.length_map]; unfold maxRow; simp; omega), wr_suc A x (by omega), ← e]
      have em : A.map itoaB ++ [itoaB x] = (A ++ [x]).map itoaB := by simp
      rw [em]
      exact ih B (A ++ [x]) (by rw [e]; simp) (by omega) h2 (fun n hn' => hn n (by simp [hn']))
end Go.Proofs.YtlenacakmmikiaaGreatDoorX
namespace Go.Proofs.YtlenacakmmikiaaGreatDoorX
open Go Go.Proofs
set_option linter.unusedVariables false
theorem SF_text {a : Deed} (h : actOk a = true) : SF (lineW (TF a)) = (TF a, true) := by
  obtain ⟨f1, f2⟩ := text_facts h
  obtain ⟨t1, t2⟩ := TF_wd h
  have hw : wds (lineW (TF a)) = TF a := wds_lineW _ _ t1 t2
  have hl := TF_len h
  unfold SF
  rw [hw, if_pos ⟨by omega, f1, by omega⟩]
theorem PA_text {a : Deed} (h : actOk a = true) : PA (lineW (TF a)) = (a, true) := by
  have hs := SF_text h
  rcases PA_is (lineW (TF a)) with ⟨_, hr⟩ | ⟨hr, _⟩
  · rw [hs] at hr
    exact reads_uniq hr (.inl ⟨rfl, h, rfl⟩ : Reads (TF a) (a, true))
  · rw [hs] at hr; cases hr
/-- The text of a script. -/
def textOf (acts : List Deed) : List UInt8 := (acts.map fun a => lineW (TF a) ++ [10]).flatten
theorem sp_text : ∀ acts : List Deed, (∀ a ∈ acts, actOk a = true) → sp 10 (textOf acts) = acts.map (fun a => lineW (TF a)) ++ [[]] := by
  intro acts
  induction acts with
  | nil => intro _; rfl
  | cons a r ih =>
    intro h
    obtain ⟨f1, f2⟩ := text_facts (h a (by simp))
    have hno : (10 : UInt8) ∉ lineW (TF a) := fun q => by
      have := f1 10 q
      revert this; decide
    have e : textOf (a :: r) = lineW (TF a) ++ 10 :: textOf r := by simp [textOf]
    rw [e, sp_at 10 _ _ hno, ih (fun b hb => h b (by simp [hb]))]; rfl
theorem actsOf_text : ∀ acts : List Deed, (∀ a ∈ acts, actOk a = true) → actsOf (acts.map (fun a => lineW (TF a)) ++ [[]]) = some acts := by
  intro acts
  induction acts with
  | nil =>
    intro _
    have : SF [] = ([], true) := by unfold SF; rw [if_pos ⟨by simp, by simp, by simp [wds, fw]⟩]; rfl
    show (if SF [] = ([], true) then some [] else _) = _
    rw [if_pos this]
  | cons a r ih =>
    intro h
    have ha := h a (by simp)
    show (if SF (lineW (TF a)) = ([], true) then _ else if (PA (lineW (TF a))).2 = true then (actsOf (r.map (fun a => lineW (TF a)) ++ [[]])).map ((PA (lineW (TF a))).1 :: ·) else none) = _
    rw [SF_text ha, PA_text ha, if_neg (by unfold TF; simp), if_pos rfl, ih (fun b hb => h b (by simp [hb]))]; rfl
theorem textOf_len : ∀ acts : List Deed, (∀ a ∈ acts, actOk a = true) → (textOf acts).length ≤ 101 * acts.length := by
  intro acts
  induction acts with
  | nil => intro _; simp [textOf]
  | cons a r ih =>
    intro h
    have f2 := (text_facts (h a (by simp))).2
    have h2 := ih (fun b hb => h b (by simp [hb]))
    have e : textOf (a :: r) = lineW (TF a) ++ [10] ++ textOf r := by simp [textOf]
    rw [e]
    simp only [List.length_append, List.length_cons, List.length_nil]
    omega
theorem run_text (k : Nat) (hk : 20002 ≤ k) (acts : List Deed) (h : ∀ a ∈ acts, actOk a = true) (hl : acts.length ≤ 40) : impl_RunScript k (bts (textOf acts)) = tailI k acts := by
  have := textOf_len acts h
  rw [impl_rs_start k hk _ (by omega), sp_text acts h, actsOf_text acts h]; rfl
end Go.Proofs.YtlenacakmmikiaaGreatDoorX
namespace Go.Proofs.YtlenacakmmikiaaGreatDoorX
open Go Go.Proofs
set_option linter.unusedVariables false
theorem data_bts' (l : List UInt8) : (bts l).data.toList = l := by simp [bts]
/-- What is written for acts, behind what is written already. -/
def scr : List Deed → List UInt8 → ByteArray × Bool
  | [], acc => (bts acc, true)
  | a :: r, acc => if actOk a = true then scr r (acc ++ (lineW (TF a) ++ [10])) else (bts [], false)
theorem scrD_eq (k : Nat) (hk : 30 ≤ k) : ∀ (acts : List Deed) (acc : List UInt8), acc.length + 101 * acts.length ≤ 1000000000 → scrD k acts acc = some (scr acts acc) := by
  intro acts
  induction acts with
  | nil => intro acc _; rfl
  | cons a r ih =>
    intro acc h
    show ((impl_FormatAct k a).bind fun y => cond y.2 (if acc.length + y.1.size + 1 ≤ 1000000000 then scrD k r (acc ++ (y.1.data.toList ++ [10])) else none) (some (ByteArray.mk #[], false))) = some (if actOk a = true then scr r (acc ++ (lineW (TF a) ++ [10])) else (bts [], false))
    rw [impl_FormatAct_is k hk a, Option.bind_some]
    simp only [List.length_cons] at h
    unfold fmtA
    by_cases ha : actOk a = true
    · have hl := (text_facts ha).2
      rw [if_pos ha, if_pos ha]
      simp only [cond_true]
      rw [bts_size, if_pos (by omega), data_bts']
      exact ih _ (by simp; omega)
    · rw [if_neg ha, if_neg ha]; rfl
theorem impl_ScriptText_eq (k : Nat) (hk : 30 ≤ k) (acts : List Deed) : impl_ScriptText k acts = some (if (40 : Int) < (acts.length : Int) then (bts [], false, acts) else ((scr acts []).1, (scr acts []).2, acts)) := by
  unfold impl_ScriptText scrT
  by_cases h : (40 : Int) < (acts.length : Int)
  · rw [if_pos h, if_pos h]; rfl
  · rw [if_neg h, if_neg h, scrD_eq k hk acts [] (by simp; omega)]; rfl
def ints (c : List UInt8) : List Int := c.map fun b => (b.toNat : Int)
theorem push_bts (d : List UInt8) (b : UInt8) : (bts d).push b = bts (d ++ [b]) := by
  apply ByteArray.ext
  simp [bts, ByteArray.push]
theorem strOf_ints (c : List UInt8) : strOf (ints c) = bts c := by
  have : ∀ (c d : List UInt8), (ints c).foldl (fun r n => r.push (UInt8.ofNat n.toNat)) (bts d) = bts (d ++ c) := by
    intro c
    induction c with
    | nil => intro d; simp [ints]
    | cons b c ih =>
      intro d
      show (ints c).foldl _ ((bts d).push (UInt8.ofNat ((b.toNat : Int)).toNat)) = _
      rw [Int.toNat_natCast, UInt8.ofNat_toNat, push_bts, ih]
      simp
  have := this c []
  rw [List.nil_append] at this
  exact this
theorem bytesOf_bts (u : List UInt8) : bytesOf (bts u) = ints u := by unfold bytesOf ints; rw [data_bts']
end Go.Proofs.YtlenacakmmikiaaGreatDoorX
