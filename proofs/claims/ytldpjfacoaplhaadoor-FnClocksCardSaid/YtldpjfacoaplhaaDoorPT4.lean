/- Lengths of time: written and read back; texts cut at a byte. -/
import Derived.Test.YtldpjfacoaplhaaDoorPT3
import Derived.Lib.Split
namespace Go.Proofs.YtldpjfacoaplhaaDoorX
open Go Go.Proofs
set_option linter.unusedVariables false
theorem bts_inj {a b : List UInt8} (e : bts a = bts b) : a = b := by simpa [bts] using congrArg (·.data.toList) e
theorem data_bts (l : List UInt8) : (bts l).data.toList = l := by simp [bts]
/-! ### A text cut at each place of a byte -/
def sp (c : UInt8) : List UInt8 → List (List UInt8)
  | [] => [[]]
  | b :: l => if b = c then [] :: sp c l else match sp c l with | x :: r => (b :: x) :: r | [] => [[b]]
theorem sp_cons (c b : UInt8) (l : List UInt8) : sp c (b :: l) = if b = c then [] :: sp c l else match sp c l with | x :: r => (b :: x) :: r | [] => [[b]] := rfl
theorem sp_no (c : UInt8) : ∀ a : List UInt8, c ∉ a → sp c a = [a]
  | [], _ => rfl
  | b :: a, h => by
    rw [sp_cons, if_neg (fun e => h (by simp [e])), sp_no c a (fun q => h (by simp [q]))]
theorem sp_at (c : UInt8) (r : List UInt8) : ∀ a : List UInt8, c ∉ a → sp c (a ++ c :: r) = a :: sp c r
  | [], _ => by show sp c (c :: r) = _; rw [sp_cons, if_pos rfl]
  | b :: a, h => by
    show sp c (b :: (a ++ c :: r)) = _
    rw [sp_cons, if_neg (fun e => h (by simp [e])), sp_at c r a (fun q => h (by simp [q]))]
theorem sp_len (c : UInt8) : ∀ l : List UInt8, (sp c l).length ≤ l.length + 1
  | [] => by simp [sp]
  | b :: l => by
    have := sp_len c l
    rw [sp_cons]
    split
    · simp; omega
    · split
      · rename_i x r e; rw [e] at this; simp at this ⊢; omega
      · simp
theorem sp_word (c : UInt8) : ∀ l w, w ∈ sp c l → w.length ≤ l.length
  | [], w, h => by simp [sp] at h; simp [h]
  | b :: l, w, h => by
    have ih := sp_word c l
    rw [sp_cons] at h
    split at h
    · rcases List.mem_cons.1 h with rfl | h
      · simp
      · have := ih w h; simp; omega
    · split at h
      · rename_i x r e
        rw [e] at ih
        rcases List.mem_cons.1 h with rfl | h
        · have := ih x (by simp); simp; omega
        · have := ih w (by simp [h]); simp; omega
      · simp at h; simp [h]
theorem index_no (c : UInt8) : ∀ a : List UInt8, c ∉ a → Lib.index a [c] = -1
  | [], _ => rfl
  | b :: a, h => by
    have h1 : c ≠ b := fun e => h (by simp [e])
    unfold Lib.index
    have e : [c].isPrefixOf (b :: a) = false := by
      show (c == b && _) = false
      rw [beq_eq_false_iff_ne.2 h1]; rfl
    rw [e, index_no c a (fun q => h (by simp [q]))]; rfl
theorem extract_bts (l : List UInt8) (a b : Nat) : (bts l).extract a b = bts ((l.drop a).take (b - a)) := by
  rw [← bts_data ((bts l).extract a b), Lib.extract_data, data_bts]
theorem splitB_eq (c : UInt8) : ∀ (n : Nat) (l : List UInt8), l.length ≤ n → Lib.splitB (bts [c]) 0 (Lib.countB (bts l) (bts [c])) (bts l) = (sp c l).map bts := by
  intro n
  induction n with
  | zero =>
    intro l h
    have : l = [] := List.eq_nil_of_length_eq_zero (by omega)
    subst this
    rw [Lib.splitB_miss _ _ _ _ (show Lib.indexB (bts []) (bts [c]) = -1 from index_no c [] (by simp))]; rfl
  | succ n ih =>
    intro l h
    by_cases hc : c ∈ l
    · obtain ⟨a, r, e, ha⟩ := List.eq_append_cons_of_mem hc
      subst e
      have hi : Lib.indexB (bts (a ++ c :: r)) (bts [c]) = (a.length : Int) := by
        show Lib.index (bts (a ++ c :: r)).data.toList (bts [c]).data.toList = _
        rw [data_bts, data_bts]; exact index_at c r a ha
      have e1 : (bts (a ++ c :: r)).extract (a.length + (bts [c]).size) (bts (a ++ c :: r)).size = bts r := by
        rw [bts_size, bts_size, extract_bts]
        congr 1
        simp only [List.length_append, List.length_cons, List.length_nil, Nat.zero_add]
        have : (a ++ c :: r).drop (a.length + 1) = r := by rw [app_mid]; exact List.drop_left' (by simp)
        rw [this]; exact List.take_of_length_le (by omega)
      have e2 : (bts (a ++ c :: r)).extract 0 (a.length + 0) = bts a := by rw [extract_bts]; simp
      rw [Lib.countB_hit _ _ _ (by rw [bts_size]; simp) hi, Nat.add_comm 1, Lib.splitB_hit _ _ _ _ _ hi, e1, e2, sp_at c r a ha]
      rw [ih r (by simp at h; omega)]; rfl
    · have hi : Lib.indexB (bts l) (bts [c]) = -1 := by
        show Lib.index (bts l).data.toList (bts [c]).data.toList = _
        rw [data_bts, data_bts]; exact index_no c l hc
      rw [Lib.splitB_miss _ _ _ _ hi, sp_no c l hc]; rfl
/-! ### Lengths written -/
def lenL (u : Nat) : List UInt8 := if u < 60 then Lib.decDigits u ++ [109] else if u % 60 = 0 then Lib.decDigits (u / 60) ++ [104] else Lib.decDigits (u / 60) ++ [104] ++ [32] ++ (Lib.decDigits (u % 60) ++ [109])
def LT (n : Int) : ByteArray := if 0 ≤ n ∧ n ≤ 100000 then bts (lenL n.toNat) else bts []
theorem LT_nat (u : Nat) (h : u ≤ 100000) : LT u = bts (lenL u) := by unfold LT; rw [if_pos (by omega)]; rfl
theorem lenL_ne (u : Nat) : lenL u ≠ [] := by unfold lenL; split <;> (try split) <;> simp
theorem LT_in {n : Int} {l : List UInt8} (hl : l ≠ []) (h : LT n = bts l) : (0 ≤ n ∧ n ≤ 100000) ∧ l = lenL n.toNat := by
  unfold LT at h
  split at h
  · rename_i hn; exact ⟨hn, (bts_inj h).symm⟩
  · exact absurd (bts_inj h).symm hl
theorem fmt_nat (k : Nat) (n : Nat) (h : n ≤ 100000) : impl_FormatInt k n = some (bts (Lib.decDigits n)) := by rw [impl_FormatInt_eq k n ⟨by omega, by omega⟩, itoaB_nat]
theorem fmt_nat_s (k : Nat) (hk : 20 ≤ k) (n : Nat) (h : n ≤ 100000) : spec_FormatInt k n = some (bts (Lib.decDigits n)) := by rw [spec_FormatInt_eq k hk n ⟨by omega, by omega⟩, itoaB_nat]
theorem impl_LengthText_eq (k : Nat) (n : Int) : impl_LengthText k n = some (LT n) := by
  unfold impl_LengthText LT
  rw [impl_in_eq, Option.bind_some, cond_not]
  by_cases h : 0 ≤ n ∧ n ≤ 100000
  · rw [inR_iff.2 h, if_pos h, cond_true]
    obtain ⟨u, rfl⟩ : ∃ u : Nat, n = u := ⟨n.toNat, by omega⟩
    have hl := dec_len (u / 60) (by omega)
    have hm := dec_len (u % 60) (by omega)
    have e1 : (ByteArray.mk #[109] : ByteArray) = bts [109] := rfl
    have e2 : (ByteArray.mk #[104] : ByteArray) = bts [104] := rfl
    have e3 : (ByteArray.mk #[104, 32] : ByteArray) = bts [104, 32] := rfl
    rw [if_pos (by decide), if_pos (by decide), mod60, div60, wr_id (by omega) (by omega), fmt_nat k _ (by omega), fmt_nat k _ (by omega), e1, e2, e3]
    simp only [Option.bind_some, bts_app, bts_size, List.length_append, List.length_singleton, List.length_cons, List.length_nil]
    unfold lenL
    rw [Int.toNat_natCast]
    by_cases h0 : u < 60
    · rw [decide_eq_true (by omega), cond_true, if_pos (by omega), if_pos h0, Nat.mod_eq_of_lt h0]
    · rw [decide_eq_false (by omega), cond_false, if_neg h0]
      by_cases hz : u % 60 = 0
      · rw [decide_eq_true (by omega), cond_true, if_pos (by omega), if_pos hz]
      · rw [decide_eq_false (by omega), cond_false, if_pos (by omega), if_pos (by omega), if_pos (by omega), if_neg hz]
        simp
  · rw [if_neg h]
    have : inR n 0 100000 = false := by rw [← Bool.not_eq_true]; exact fun q => h (inR_iff.1 q)
    rw [this, cond_false]; rfl
theorem spec_LengthText_eq (k : Nat) (hk : 20 ≤ k) (n : Int) : spec_LengthText k n = some (LT n) := by
  unfold spec_LengthText LT
  rw [spec_l01In_eq, Option.bind_some, cond_not]
  by_cases h : 0 ≤ n ∧ n ≤ 100000
  · rw [inR_iff.2 h, if_pos h, cond_true]
    obtain ⟨u, rfl⟩ : ∃ u : Nat, n = u := ⟨n.toNat, by omega⟩
    have hl := dec_len (u / 60) (by omega)
    have hm := dec_len (u % 60) (by omega)
    have e1 : (ByteArray.mk #[109] : ByteArray) = bts [109] := rfl
    have e2 : (ByteArray.mk #[104] : ByteArray) = bts [104] := rfl
    have e3 : (ByteArray.mk #[32] : ByteArray) = bts [32] := rfl
    rw [if_pos (by decide), mod60, div60, wr_id (by omega) (by omega), fmt_nat_s k hk _ (by omega), fmt_nat_s k hk _ (by omega), e1, e2, e3]
    simp only [Option.bind_some, bts_app, bts_size, List.length_append, List.length_singleton]
    rw [if_pos (by omega), if_pos (by decide), if_pos (by omega)]
    unfold lenL
    rw [Int.toNat_natCast]
    by_cases h0 : u < 60
    · rw [decide_eq_true (by omega), cond_true, if_pos h0, Nat.mod_eq_of_lt h0]
    · rw [decide_eq_false (by omega), cond_false, if_neg h0, if_pos (by decide)]
      by_cases hz : u % 60 = 0
      · rw [decide_eq_true (by omega), cond_true, if_pos hz]
      · rw [decide_eq_false (by omega), cond_false, if_pos (by omega), if_pos (by omega), if_neg hz]
  · rw [if_neg h]
    have : inR n 0 100000 = false := by rw [← Bool.not_eq_true]; exact fun q => h (inR_iff.1 q)
    rw [this, cond_false]; rfl
/-- What both answer in the end. -/
def finL (t : ByteArray) (n : Int) : Int × Bool := if t ≠ bts [] ∧ LT n = t then (n, true) else (0, false)
theorem finL_cases (t : ByteArray) (n : Int) : finL t n = (0, false) ∨ ∃ u : Nat, u ≤ 100000 ∧ t = bts (lenL u) ∧ finL t n = ((u : Int), true) := by
  unfold finL
  split
  · rename_i h
    obtain ⟨l, rfl⟩ : ∃ l, t = bts l := ⟨t.data.toList, (bts_data t).symm⟩
    obtain ⟨hn, hl⟩ := LT_in (fun q => h.1 (by rw [q])) h.2
    exact .inr ⟨n.toNat, by omega, by rw [← hl], by rw [Int.toNat_of_nonneg hn.1]⟩
  · exact .inl rfl
theorem finL_hit (u : Nat) (h : u ≤ 100000) : finL (bts (lenL u)) u = ((u : Int), true) := by
  unfold finL
  rw [if_pos ⟨fun q => lenL_ne u (bts_inj q), LT_nat u h⟩]
/-! ### The program's reading -/
noncomputable def wordV (w : ByteArray) : Int := if Lib.hasSuffix w.data.toList [104] then 60 * (pu ⟨(Lib.trimSuffix w.data.toList [104]).toArray⟩).1 else (pu ⟨(Lib.trimSuffix w.data.toList [109]).toArray⟩).1
noncomputable def sumV : List ByteArray → Int
  | [] => 0
  | w :: r => wordV w + sumV r
theorem wordV_range (w : ByteArray) : 0 ≤ wordV w ∧ wordV w ≤ 60000000000 := by
  have r1 := pu_range ⟨(Lib.trimSuffix w.data.toList [104]).toArray⟩
  have r2 := pu_range ⟨(Lib.trimSuffix w.data.toList [109]).toArray⟩
  unfold Num at r1 r2
  unfold wordV
  split <;> omega
theorem trimSuffix_len (a p : List UInt8) : (Lib.trimSuffix a p).length ≤ a.length := by unfold Lib.trimSuffix; split <;> simp
theorem impl_rl_lp (k : Nat) (t : ByteArray) : ∀ (m : Nat) (B A : List ByteArray) (n : Int), B.length ≤ m → (A ++ B).length ≤ 1048577 → (∀ w ∈ A ++ B, w.size ≤ 1048576) → 0 ≤ n → n ≤ A.length * 60000000000 →
    impl_ReadLength_l0 k m t (A ++ B) n (A.length : Int) = some (finL t (n + sumV B)) := by
  have fin : ∀ (J : Int → Int → Option (Int × Bool)) (A : List ByteArray) (n : Int), impl_ReadLength_s0 k t (A ++ []) J n (A.length : Int) = some (finL t n) := by
    intro J A n
    unfold impl_ReadLength_s0 finL
    rw [lt_end, cond_false, cond_not]
    by_cases h1 : t = bts []
    · rw [decide_eq_true (show t = ByteArray.mk #[] from h1), if_neg (fun q => q.1 h1)]; rfl
    · rw [decide_eq_false (show ¬ t = ByteArray.mk #[] from h1), impl_LengthText_eq, Option.bind_some, cond_false]
      by_cases h2 : LT n = t
      · rw [decide_eq_true h2, if_pos ⟨h1, h2⟩]; rfl
      · rw [decide_eq_false h2, if_neg (fun q => h2 q.2)]; rfl
  intro m
  induction m with
  | zero =>
    intro B A n h1 _ _ _ _
    have hB : B = [] := List.eq_nil_of_length_eq_zero (by omega)
    subst hB
    unfold impl_ReadLength_l0
    rw [fin]; simp [sumV]
  | succ m ih =>
    intro B A n h1 h2 h3 h4 h5
    cases B with
    | nil => unfold impl_ReadLength_l0; rw [fin]; simp [sumV]
    | cons w B =>
      have hw := h3 w (by simp)
      simp only [List.length_append, List.length_cons] at h1 h2
      have r := wordV_range w
      have hs : w.size = w.data.toList.length := Lib.size_eq w
      have l1 := trimSuffix_len w.data.toList [104]
      have l2 := trimSuffix_len w.data.toList [109]
      have r1 := pu_range ⟨(Lib.trimSuffix w.data.toList [104]).toArray⟩
      have r2 := pu_range ⟨(Lib.trimSuffix w.data.toList [109]).toArray⟩
      unfold Num at r1 r2
      have e104 : (ByteArray.mk #[104] : ByteArray).data.toList = [104] := rfl
      have e109 : (ByteArray.mk #[109] : ByteArray).data.toList = [109] := rfl
      unfold impl_ReadLength_l0 impl_ReadLength_s0
      rw [lt_mid, if_pos ((g_mid A w B).mpr trivial), getD_mid]
      unfold strings_CutSuffix strings_TrimSuffix
      rw [if_pos (by omega), if_pos (by omega), e104, e109]
      simp only [cond_true, Option.bind_some]
      rw [impl_ParseUint_eq k _ (by simp only [ByteArray.size, List.size_toArray]; omega), impl_ParseUint_eq k _ (by simp only [ByteArray.size, List.size_toArray]; omega)]
      simp only [Option.bind_some]
      have key : ∀ v : Int, v = wordV w → impl_ReadLength_l0 k m t (A ++ w :: B) (wr (n + v)) (wr ((A.length : Int) + 1)) = some (finL t (n + sumV (w :: B))) := by
        intro v hv
        rw [hv, wr_id (by omega) (by omega), wr_suc A w (by omega), app_mid A w B]
        have := ih B (A ++ [w]) (n + wordV w) (by omega) (by simp; omega) (by rw [← app_mid]; exact h3) (by omega) (by rw [List.length_append, List.length_singleton]; push_cast; omega)
        rw [this]
        simp only [sumV]
        rw [Int.add_assoc]
      by_cases hh : Lib.hasSuffix w.data.toList [104] = true
      · rw [hh, cond_true, wr_id (n := (60 : Int) * _) (by omega) (by omega)]
        exact key _ (by unfold wordV; rw [if_pos hh])
      · rw [Bool.not_eq_true] at hh
        rw [hh, cond_false]
        exact key _ (by unfold wordV; rw [hh]; rfl)
noncomputable def RL (l : List UInt8) : Int × Bool := finL (bts l) (sumV ((sp 32 l).map bts))
theorem impl_ReadLength_eq (k : Nat) (hk : 1048600 ≤ k) (l : List UInt8) (h : l.length ≤ 1048576) : impl_ReadLength k (bts l) = some (RL l) := by
  have hl := sp_len 32 l
  have e32 : (ByteArray.mk #[32] : ByteArray) = bts [32] := rfl
  unfold impl_ReadLength impl_ReadLength_m strings_Split
  rw [e32, if_pos ⟨by rw [bts_size]; omega, by rw [bts_size]; simp⟩, Option.bind_some, splitB_eq 32 l.length l (Nat.le_refl _)]
  have := impl_rl_lp k (bts l) k ((sp 32 l).map bts) [] 0 (by rw [List.length_map]; omega) (by rw [List.nil_append, List.length_map]; omega) (fun w hw => by
    obtain ⟨x, hx, rfl⟩ := List.mem_map.1 (show w ∈ (sp 32 l).map bts from hw)
    have := sp_word 32 l x hx
    rw [bts_size]; omega) (by omega) (by simp)
  rw [Int.zero_add] at this
  exact this
theorem suffix_at (D : List UInt8) (c : UInt8) : Lib.hasSuffix (D ++ [c]) [c] = true ∧ Lib.trimSuffix (D ++ [c]) [c] = D := by
  have h : Lib.hasSuffix (D ++ [c]) [c] = true := by unfold Lib.hasSuffix; exact List.isSuffixOf_iff_suffix.2 ⟨D, rfl⟩
  refine ⟨h, ?_⟩
  unfold Lib.trimSuffix
  rw [h, if_pos rfl]; simp
theorem suffix_no (D : List UInt8) (c d : UInt8) (h : c ≠ d) : Lib.hasSuffix (D ++ [d]) [c] = false := by
  rw [← Bool.not_eq_true]
  intro q
  unfold Lib.hasSuffix at q
  obtain ⟨X, e⟩ := List.isSuffixOf_iff_suffix.1 q
  have := congrArg List.getLast? e
  simp at this
  exact h this
theorem pu_dec (u : Nat) (h : u ≤ 100000) : pu ⟨(Lib.decDigits u).toArray⟩ = ((u : Int), true) := by
  have := pu_itoa (u : Int) ⟨by omega, by omega⟩
  rwa [itoaB_nat] at this
theorem wordV_h (u : Nat) (h : u ≤ 100000) : wordV (bts (Lib.decDigits u ++ [104])) = 60 * u := by
  unfold wordV
  rw [data_bts, (suffix_at _ 104).1, if_pos rfl, (suffix_at _ 104).2, pu_dec u h]
theorem wordV_m (u : Nat) (h : u ≤ 100000) : wordV (bts (Lib.decDigits u ++ [109])) = u := by
  unfold wordV
  rw [data_bts, suffix_no _ 104 109 (by decide), if_neg (by decide), (suffix_at _ 109).2, pu_dec u h]
theorem no32 (u : Nat) (h : u < 100000) (c : UInt8) (hc : c ≠ 32) : (32 : UInt8) ∉ Lib.decDigits u ++ [c] := by
  intro q
  rcases List.mem_append.1 q with q | q
  · exact dec_no58 u h 32 (by decide) q
  · simp only [List.mem_singleton] at q; exact hc q.symm
theorem RL_hit (u : Nat) (h : u ≤ 100000) : RL (lenL u) = ((u : Int), true) := by
  have key : sumV ((sp 32 (lenL u)).map bts) = u := by
    unfold lenL
    split
    · rw [sp_no 32 _ (no32 u (by omega) 109 (by decide))]
      show wordV _ + 0 = _
      rw [wordV_m u h]; omega
    · split
      · rename_i h0 hz
        rw [sp_no 32 _ (no32 (u / 60) (by omega) 104 (by decide))]
        show wordV _ + 0 = _
        rw [wordV_h (u / 60) (by omega)]; omega
      · have e : Lib.decDigits (u / 60) ++ [104] ++ [32] ++ (Lib.decDigits (u % 60) ++ [109]) = (Lib.decDigits (u / 60) ++ [104]) ++ 32 :: (Lib.decDigits (u % 60) ++ [109]) := by simp
        rw [e, sp_at 32 _ _ (no32 (u / 60) (by omega) 104 (by decide)), sp_no 32 _ (no32 (u % 60) (by omega) 109 (by decide))]
        show wordV _ + (wordV _ + 0) = _
        rw [wordV_h (u / 60) (by omega), wordV_m (u % 60) (by omega)]; omega
  unfold RL
  rw [key]; exact finL_hit u h
/-! ### The reference's reading -/
def stepL (p : Nat × Nat) (b : UInt8) : Nat × Nat := if Dig b then (p.1, 10 * p.2 + (b.toNat - 48)) else if b.toNat = 104 then (p.1 + 60 * p.2, 0) else if b.toNat = 109 then (p.1 + p.2, 0) else p
theorem spec_rl_lp (k : Nat) (hk : 20 ≤ k) : ∀ (m : Nat) (B A : List UInt8) (p : Nat × Nat), B.length ≤ m → (A ++ B).length ≤ 9 → p.2 < 10 ^ A.length → p.1 ≤ 60000000000 * A.length →
    spec_ReadLength_l0 k m (bts (A ++ B)) (p.1 : Int) (p.2 : Int) (A.length : Int) = some (finL (bts (A ++ B)) ((B.foldl stepL p).1 : Int)) := by
  have fin : ∀ (J : Int → Int → Int → Option (Int × Bool)) (A : List UInt8) (p : Nat × Nat), spec_ReadLength_s0 k (bts A) J (p.1 : Int) (p.2 : Int) (A.length : Int) = some (finL (bts A) (p.1 : Int)) := by
    intro J A p
    unfold spec_ReadLength_s0 finL
    rw [bts_size, decide_eq_false (by omega), cond_false]
    by_cases h1 : bts A = bts []
    · rw [decide_eq_true (show bts A = ByteArray.mk #[] from h1), if_neg (fun q => q.1 h1)]; rfl
    · rw [decide_eq_false (show ¬ bts A = ByteArray.mk #[] from h1), spec_LengthText_eq k hk, Option.bind_some, cond_false, cond_not]
      by_cases h2 : LT p.1 = bts A
      · rw [decide_eq_true h2, if_pos ⟨h1, h2⟩]; rfl
      · rw [decide_eq_false h2, if_neg (fun q => h2 q.2)]; rfl
  intro m
  induction m with
  | zero =>
    intro B A p h1 _ _ _
    have hB : B = [] := List.eq_nil_of_length_eq_zero (by omega)
    subst hB
    unfold spec_ReadLength_l0
    rw [List.append_nil, fin]; rfl
  | succ m ih =>
    intro B A p h1 h2 h3 h4
    cases B with
    | nil => unfold spec_ReadLength_l0; rw [List.append_nil, fin]; rfl
    | cons b B =>
      simp only [List.length_append, List.length_cons] at h1 h2
      have hp : 10 ^ A.length ≤ 10 ^ 8 := Nat.pow_le_pow_right (by decide) (by omega)
      have hlt : (A.length : Int) < ((bts (A ++ b :: B)).size : Int) := by rw [bts_size]; simp; omega
      have hb8 := b.toNat_lt
      have hl : (A ++ [b]).length = A.length + 1 := by simp
      have hpw : 10 ^ (A ++ [b]).length = 10 ^ A.length * 10 := by rw [hl, Nat.pow_succ]
      have hpos : 0 < 10 ^ A.length := Nat.pow_pos (by decide)
      unfold spec_ReadLength_l0 spec_ReadLength_s0
      rw [decide_eq_true hlt, byteAt_bts]
      simp only [if_pos (show 0 ≤ (A.length : Int) ∧ (A.length : Int) < ((bts (A ++ b :: B)).size : Int) from ⟨by omega, hlt⟩)]
      rw [wr_suc A b (by omega), app_mid A b B, cond_true]
      have key : ∀ (q : Nat × Nat) (x y : Int), x = q.1 → y = q.2 → stepL p b = q → q.2 < 10 ^ (A ++ [b]).length → q.1 ≤ 60000000000 * (A ++ [b]).length →
          spec_ReadLength_l0 k m (bts ((A ++ [b]) ++ B)) x y ((A ++ [b]).length : Int) = some (finL (bts ((A ++ [b]) ++ B)) (((b :: B).foldl stepL p).1 : Int)) := by
        intro q x y e1 e2 e3 e4 e5
        rw [e1, e2, ih B (A ++ [b]) q (by omega) (by simp; omega) e4 e5, List.foldl_cons, e3]
      by_cases hd : Dig b
      · have hd' := hd
        unfold Dig at hd'
        rw [decide_eq_true (by omega), decide_eq_true (by omega), cond_true, cond_true, u8_id (by omega) (by omega), wr_id (n := (10 : Int) * p.2) (by omega) (by omega), wr_id (n := (b.toNat : Int) - 48) (by omega) (by omega), wr_id (n := (10 : Int) * p.2 + _) (by omega) (by omega)]
        exact key (p.1, 10 * p.2 + (b.toNat - 48)) _ _ rfl (by simp only; omega) (by unfold stepL; rw [if_pos hd]) (by simp only; omega) (by rw [hl]; simp only; omega)
      · have tail : (cond (decide ((b.toNat : Int) = 104)) (spec_ReadLength_l0 k m (bts ((A ++ [b]) ++ B)) (wr ((p.1 : Int) + wr (60 * (p.2 : Int)))) 0 ((A ++ [b]).length : Int))
            (cond (decide ((b.toNat : Int) = 109)) (spec_ReadLength_l0 k m (bts ((A ++ [b]) ++ B)) (wr ((p.1 : Int) + (p.2 : Int))) 0 ((A ++ [b]).length : Int)) (spec_ReadLength_l0 k m (bts ((A ++ [b]) ++ B)) (p.1 : Int) (p.2 : Int) ((A ++ [b]).length : Int)))) =
            some (finL (bts ((A ++ [b]) ++ B)) (((b :: B).foldl stepL p).1 : Int)) := by
          rw [wr_id (n := (60 : Int) * p.2) (by omega) (by omega), wr_id (n := (p.1 : Int) + 60 * p.2) (by omega) (by omega), wr_id (n := (p.1 : Int) + p.2) (by omega) (by omega)]
          by_cases c1 : b.toNat = 104
          · rw [decide_eq_true (by omega), cond_true]
            exact key (p.1 + 60 * p.2, 0) _ _ (by simp only; omega) rfl (by unfold stepL; rw [if_neg hd, if_pos c1]) (by simp only; omega) (by rw [hl]; simp only; omega)
          · rw [decide_eq_false (by omega), cond_false]
            by_cases c2 : b.toNat = 109
            · rw [decide_eq_true (by omega), cond_true]
              exact key (p.1 + p.2, 0) _ _ (by simp only; omega) rfl (by unfold stepL; rw [if_neg hd, if_neg c1, if_pos c2]) (by simp only; omega) (by rw [hl]; simp only; omega)
            · rw [decide_eq_false (by omega), cond_false]
              exact key p _ _ rfl rfl (by unfold stepL; rw [if_neg hd, if_neg c1, if_neg c2]) (by omega) (by rw [hl]; omega)
        by_cases c0 : (48 : Int) ≤ b.toNat
        · unfold Dig at hd
          rw [decide_eq_true c0, cond_true, decide_eq_false (by omega), cond_false]
          exact tail
        · rw [decide_eq_false c0, cond_false]
          exact tail
def SL (l : List UInt8) : Int × Bool := if l.length ≤ 9 then finL (bts l) ((l.foldl stepL (0, 0)).1 : Int) else (0, false)
theorem spec_ReadLength_eq (k : Nat) (hk : 20 ≤ k) (l : List UInt8) : spec_ReadLength k (bts l) = some (SL l) := by
  unfold spec_ReadLength spec_ReadLength_m SL
  rw [bts_size]
  by_cases h : l.length ≤ 9
  · rw [if_pos h, decide_eq_false (by omega), cond_false]
    exact spec_rl_lp k hk k l [] (0, 0) (by omega) (by simpa using h) (by simp) (by simp)
  · rw [if_neg h, decide_eq_true (by omega)]; rfl
theorem fold_dig : ∀ (D : List UInt8) (p : Nat × Nat), (∀ b ∈ D, Dig b) → D.foldl stepL p = (p.1, valF p.2 D)
  | [], p, _ => rfl
  | b :: D, p, h => by
    rw [List.foldl_cons, fold_dig D _ (fun c hc => h c (by simp [hc]))]
    unfold stepL
    rw [if_pos (h b (by simp))]; rfl
theorem fold_dec (u : Nat) (h : u ≤ 100000) (n : Nat) : (Lib.decDigits u).foldl stepL (n, 0) = (n, u) := by
  obtain ⟨q1, q2, _⟩ := dec_facts 6 u (by omega)
  rw [fold_dig _ _ q1]
  show (n, valF 0 (Lib.decDigits u)) = _
  rw [q2]
theorem SL_hit (u : Nat) (h : u ≤ 100000) : SL (lenL u) = ((u : Int), true) := by
  have s104 : ∀ n p, stepL (n, p) 104 = (n + 60 * p, 0) := fun n p => rfl
  have s109 : ∀ n p, stepL (n, p) 109 = (n + p, 0) := fun n p => rfl
  have s32 : ∀ n p, stepL (n, p) 32 = (n, p) := fun n p => rfl
  have key : ((lenL u).foldl stepL (0, 0)).1 = u ∧ (lenL u).length ≤ 9 := by
    have l1 : (Lib.decDigits (u / 60)).length ≤ 4 := by obtain ⟨_, _, q, _⟩ := dec_facts 4 (u / 60) (by omega); omega
    have l2 : (Lib.decDigits (u % 60)).length ≤ 2 := by obtain ⟨_, _, q, _⟩ := dec_facts 2 (u % 60) (by omega); omega
    have l3 : (Lib.decDigits u).length ≤ 6 := by obtain ⟨_, _, q, _⟩ := dec_facts 6 u (by omega); omega
    unfold lenL
    split
    · rw [List.foldl_append, fold_dec u h]
      refine ⟨?_, by simp; omega⟩
      show (stepL (0, u) 109).1 = _
      rw [s109]; simp
    · split
      · rename_i h0 hz
        rw [List.foldl_append, fold_dec (u / 60) (by omega)]
        refine ⟨?_, by simp; omega⟩
        show (stepL (0, u / 60) 104).1 = _
        rw [s104]; simp only; omega
      · rw [List.foldl_append, List.foldl_append, List.foldl_append, List.foldl_append, fold_dec (u / 60) (by omega)]
        refine ⟨?_, by simp; omega⟩
        have e1 : List.foldl stepL (0, u / 60) [104] = (0 + 60 * (u / 60), 0) := rfl
        rw [e1]
        have e2 : List.foldl stepL (0 + 60 * (u / 60), 0) [32] = (0 + 60 * (u / 60), 0) := rfl
        rw [e2, fold_dec (u % 60) (by omega)]
        show (stepL (0 + 60 * (u / 60), u % 60) 109).1 = _
        rw [s109]; simp only; omega
  unfold SL
  rw [if_pos key.2, key.1]; exact finL_hit u h
/-- Both read the same length out of a text. -/
theorem readLength_same (l : List UInt8) : SL l = RL l := by
  have c1 : SL l = (0, false) ∨ ∃ u : Nat, u ≤ 100000 ∧ bts l = bts (lenL u) ∧ SL l = ((u : Int), true) := by
    unfold SL
    split
    · exact finL_cases _ _
    · exact .inl rfl
  have c2 : RL l = (0, false) ∨ ∃ u : Nat, u ≤ 100000 ∧ bts l = bts (lenL u) ∧ RL l = ((u : Int), true) := finL_cases _ _
  rcases c1 with e | ⟨u, hu, e, e1⟩
  · rcases c2 with e2 | ⟨u, hu, e2, e3⟩
    · rw [e, e2]
    · have := SL_hit u hu
      rw [← bts_inj e2, e] at this
      exact absurd (congrArg Prod.snd this) (by simp)
  · have := RL_hit u hu
    rw [← bts_inj e] at this
    rw [e1, this]
end Go.Proofs.YtldpjfacoaplhaaDoorX
