/- Times of day: written and read back. -/
import Derived.Test.YtldpjfacoaplhaaDoorPT2
namespace Go.Proofs.YtldpjfacoaplhaaDoorX
open Go Go.Proofs
set_option linter.unusedVariables false
def padL (m : Nat) : List UInt8 := [UInt8.ofNat (48 + m / 10), UInt8.ofNat (48 + m % 10)]
def timeL (u : Nat) : List UInt8 := (Lib.decDigits (u / 60) ++ [58]) ++ padL (u % 60)
def TT (n : Int) : ByteArray := if 0 ≤ n ∧ n ≤ 1439 then bts (timeL n.toNat) else bts []
theorem pad_one (m : Nat) (h : m < 10) : [48] ++ Lib.decDigits m = padL m := by
  rw [Lib.decDigits_one h]; unfold padL
  rw [Nat.div_eq_of_lt h, Nat.mod_eq_of_lt h]; rfl
theorem pad_two (m : Nat) (h : ¬ m < 10) (h2 : m < 100) : Lib.decDigits m = padL m := by rw [Lib.decDigits_two h h2]; rfl
theorem ofNat_toNat (x : Nat) (h : x ≤ 255) : (UInt8.ofNat x).toNat = x := by simp; omega
theorem div60 (u : Nat) : Int.tdiv (u : Int) 60 = ((u / 60 : Nat) : Int) := by rw [Int.tdiv_eq_ediv_of_nonneg (by omega)]; omega
theorem mod60 (u : Nat) : Int.tmod (u : Int) 60 = ((u % 60 : Nat) : Int) := by rw [Int.tmod_eq_emod_of_nonneg (by omega)]; omega
theorem bts_nil : (ByteArray.mk #[] : ByteArray) = bts [] := rfl
theorem dec_len (u : Nat) (h : u < 100000) : 1 ≤ (Lib.decDigits u).length ∧ (Lib.decDigits u).length ≤ 5 := by
  obtain ⟨_, _, q3, q4⟩ := dec_facts 5 u (by omega)
  exact ⟨q4, by omega⟩
theorem time_end (u : Nat) (h : u ≤ 1439) (F : Int → Option ByteArray) (hF : ∀ n : Nat, n ≤ 1439 → F n = some (bts (Lib.decDigits n))) :
    (if (60 : Int) ≠ 0 then
   (F (Int.tmod (u : Int) 60)).bind fun y2 =>
    cond (decide ((((y2).size : Int) : Int) = 1))
     (if ((ByteArray.mk #[48])).size + (y2).size ≤ 9223372036854775807 then
      if (60 : Int) ≠ 0 then
       (F (wr (Int.tdiv (u : Int) 60))).bind fun y3 =>
        if (y3).size + ((ByteArray.mk #[58])).size ≤ 9223372036854775807 then
        if ((y3 ++ (ByteArray.mk #[58]))).size + (((ByteArray.mk #[48]) ++ y2)).size ≤ 9223372036854775807 then
        some ((y3 ++ (ByteArray.mk #[58])) ++ ((ByteArray.mk #[48]) ++ y2)) else none else none else none else none)
     (if (60 : Int) ≠ 0 then
      (F (wr (Int.tdiv (u : Int) 60))).bind fun y4 =>
       if (y4).size + ((ByteArray.mk #[58])).size ≤ 9223372036854775807 then
        if ((y4 ++ (ByteArray.mk #[58]))).size + (y2).size ≤ 9223372036854775807 then
        some ((y4 ++ (ByteArray.mk #[58])) ++ y2) else none else none else none) else none) = some (bts (timeL u)) := by
  have hl := dec_len (u / 60) (by omega)
  have hm := dec_len (u % 60) (by omega)
  have e48 : (ByteArray.mk #[48] : ByteArray) = bts [48] := rfl
  have e58 : (ByteArray.mk #[58] : ByteArray) = bts [58] := rfl
  rw [if_pos (by decide), mod60, div60, wr_id (by omega) (by omega), hF _ (by omega), hF _ (by omega), e48, e58]
  simp only [Option.bind_some, bts_app, bts_size, List.length_append, List.length_singleton]
  by_cases h10 : u % 60 < 10
  · have e1 : (Lib.decDigits (u % 60)).length = 1 := by rw [Lib.decDigits_one h10]; rfl
    rw [decide_eq_true (by omega), cond_true, if_pos (by omega), if_pos (by decide), if_pos (by omega), if_pos (by omega), pad_one _ h10]; rfl
  · have e1 : (Lib.decDigits (u % 60)).length = 2 := by rw [Lib.decDigits_two h10 (by omega)]; rfl
    rw [decide_eq_false (by omega), cond_false, if_pos (by decide), if_pos (by omega), if_pos (by omega), pad_two _ h10 (by omega)]; rfl
theorem itoaB_nat (u : Nat) : itoaB (u : Int) = bts (Lib.decDigits u) := by unfold itoaB; rw [itoa_nat]
theorem impl_TimeText_eq (k : Nat) (n : Int) : impl_TimeText k n = some (TT n) := by
  unfold impl_TimeText TT
  rw [impl_in_eq, Option.bind_some, cond_not]
  by_cases h : 0 ≤ n ∧ n ≤ 1439
  · rw [inR_iff.2 h, if_pos h, cond_true]
    obtain ⟨u, rfl⟩ : ∃ u : Nat, n = u := ⟨n.toNat, by omega⟩
    exact time_end u (by omega) (impl_FormatInt k) (fun n hn => by rw [impl_FormatInt_eq k n ⟨by omega, by omega⟩, itoaB_nat])
  · rw [if_neg h]
    have : inR n 0 1439 = false := by rw [← Bool.not_eq_true]; exact fun q => h (inR_iff.1 q)
    rw [this, cond_false]; rfl
theorem spec_TimeText_eq (k : Nat) (hk : 20 ≤ k) (n : Int) : spec_TimeText k n = some (TT n) := by
  unfold spec_TimeText spec_l34Ok TT
  rw [spec_l01In_eq, Option.bind_some, Option.bind_some, cond_not]
  by_cases h : 0 ≤ n ∧ n ≤ 1439
  · rw [inR_iff.2 h, if_pos h, cond_true]
    obtain ⟨u, rfl⟩ : ∃ u : Nat, n = u := ⟨n.toNat, by omega⟩
    exact time_end u (by omega) (spec_FormatInt k) (fun n hn => by rw [spec_FormatInt_eq k hk n ⟨by omega, by omega⟩, itoaB_nat])
  · rw [if_neg h]
    have : inR n 0 1439 = false := by rw [← Bool.not_eq_true]; exact fun q => h (inR_iff.1 q)
    rw [this, cond_false]; rfl
theorem TT_in {n : Int} {l : List UInt8} (hl : l ≠ []) (h : TT n = bts l) : (0 ≤ n ∧ n ≤ 1439) ∧ l = timeL n.toNat := by
  unfold TT at h
  have inj : ∀ a b : List UInt8, bts a = bts b → a = b := fun a b e => by simpa [bts] using congrArg (·.data.toList) e
  split at h
  · rename_i hn; exact ⟨hn, (inj _ _ h).symm⟩
  · exact absurd (inj _ _ h).symm hl
theorem TT_nat (u : Nat) (h : u ≤ 1439) : TT u = bts (timeL u) := by unfold TT; rw [if_pos (by omega)]; rfl
/-! ### The program's reading -/
theorem index_at (c : UInt8) (r : List UInt8) : ∀ a : List UInt8, c ∉ a → Lib.index (a ++ c :: r) [c] = a.length := by
  intro a
  induction a with
  | nil => intro _; simp [Lib.index]
  | cons b a ih =>
    intro h
    have h1 : c ≠ b := fun e => h (by simp [e])
    have h2 := ih (fun q => h (by simp [q]))
    show Lib.index (b :: (a ++ c :: r)) [c] = _
    unfold Lib.index
    have e : [c].isPrefixOf (b :: (a ++ c :: r)) = false := by
      show (c == b && _) = false
      rw [beq_eq_false_iff_ne.2 h1]; rfl
    rw [e, h2]
    have : ((a.length : Int) == -1) = false := by rw [beq_eq_false_iff_ne]; omega
    rw [this]; simp
theorem cut_at (c : UInt8) (a r : List UInt8) (h : c ∉ a) : Lib.cut (a ++ c :: r) [c] = (a, r, true) := by
  unfold Lib.cut
  rw [index_at c r a h, if_pos (by omega)]
  simp
noncomputable def RT (t : ByteArray) : Int × Bool :=
  if t ≠ bts [] ∧ TT (60 * (pu ⟨(Lib.cut t.data.toList [58]).1.toArray⟩).1 + (pu ⟨(Lib.trimPrefix (Lib.cut t.data.toList [58]).2.1 [48]).toArray⟩).1) = t
  then (60 * (pu ⟨(Lib.cut t.data.toList [58]).1.toArray⟩).1 + (pu ⟨(Lib.trimPrefix (Lib.cut t.data.toList [58]).2.1 [48]).toArray⟩).1, true) else (0, false)
theorem cut_size (t : ByteArray) (c : UInt8) : (Lib.cut t.data.toList [c]).1.length ≤ t.size ∧ (Lib.cut t.data.toList [c]).2.1.length ≤ t.size := by
  have e : t.size = t.data.toList.length := Lib.size_eq t
  unfold Lib.cut
  split <;> simp <;> omega
theorem trimPrefix_len (a p : List UInt8) : (Lib.trimPrefix a p).length ≤ a.length := by unfold Lib.trimPrefix; split <;> simp
theorem impl_ReadTime_eq (k : Nat) (t : ByteArray) (h : t.size ≤ 1048576) : impl_ReadTime k t = some (RT t) := by
  have hc := cut_size t 58
  have htp := trimPrefix_len (Lib.cut t.data.toList [58]).2.1 [48]
  have e58 : (ByteArray.mk #[58] : ByteArray).data.toList = [58] := rfl
  have e48 : (ByteArray.mk #[48] : ByteArray).data.toList = [48] := rfl
  unfold impl_ReadTime strings_Cut
  rw [if_pos (by omega), e58]
  simp only [Option.bind_some]
  unfold strings_TrimPrefix
  rw [impl_ParseUint_eq k _ (by simp only [ByteArray.size, List.size_toArray]; omega), if_pos trivial, e48]
  simp only [Option.bind_some]
  rw [impl_ParseUint_eq k _ (by simp only [ByteArray.size, List.size_toArray]; omega)]
  simp only [Option.bind_some]
  have r1 := pu_range (⟨(Lib.cut t.data.toList [58]).1.toArray⟩ : ByteArray)
  have r2 := pu_range (⟨(Lib.trimPrefix (Lib.cut t.data.toList [58]).2.1 [48]).toArray⟩ : ByteArray)
  unfold Num at r1 r2
  rw [wr_id (n := (60 : Int) * _) (by omega) (by omega), wr_id (by omega) (by omega), impl_TimeText_eq]
  unfold RT
  by_cases h1 : t = bts []
  · rw [decide_eq_true (show t = ByteArray.mk #[] from h1), if_neg (fun q => q.1 h1)]; rfl
  · rw [decide_eq_false (show ¬ t = ByteArray.mk #[] from h1)]
    simp only [Bool.not_false, cond_true, Option.bind_some]
    split
    · rename_i h2; rw [decide_eq_true h2.2]; rfl
    · rename_i h2; rw [decide_eq_false (fun q => h2 ⟨h1, q⟩)]; rfl
theorem RT_cases (t : ByteArray) : RT t = (0, false) ∨ ∃ u : Nat, u ≤ 1439 ∧ t = bts (timeL u) ∧ RT t = ((u : Int), true) := by
  unfold RT
  split
  · rename_i h
    obtain ⟨l, rfl⟩ : ∃ l, t = bts l := ⟨t.data.toList, (bts_data t).symm⟩
    obtain ⟨hn, hl⟩ := TT_in (fun q => h.1 (by rw [q])) h.2
    generalize 60 * (pu _).1 + (pu _).1 = n at hn hl h
    exact .inr ⟨n.toNat, by omega, by rw [← hl], by rw [Int.toNat_of_nonneg hn.1]⟩
  · exact .inl rfl
theorem dec_no58 (u : Nat) (h : u < 100000) : ∀ c : UInt8, ¬ Dig c → c ∉ Lib.decDigits u := fun c hc hm => hc ((dec_facts 5 u (by omega)).1 c hm)
theorem trim_pad (m : Nat) (h : m < 60) : Lib.trimPrefix (padL m) [48] = Lib.decDigits m := by
  unfold Lib.trimPrefix Lib.hasPrefix
  by_cases h10 : m < 10
  · rw [← pad_one m h10, Lib.decDigits_one h10]; simp
  · have e : ([48] : List UInt8).isPrefixOf (padL m) = false := by
      have : (48 : UInt8) ≠ UInt8.ofNat (48 + m / 10) := fun q => by
        have := congrArg UInt8.toNat q
        rw [ofNat_toNat _ (by omega)] at this
        have : (48 : UInt8).toNat = 48 := rfl
        omega
      show ((48 : UInt8) == UInt8.ofNat (48 + m / 10) && _) = false
      rw [beq_eq_false_iff_ne.2 this]; rfl
    rw [e, pad_two m h10 (by omega)]; rfl
theorem RT_hit (u : Nat) (h : u ≤ 1439) : RT (bts (timeL u)) = ((u : Int), true) := by
  have e0 : (bts (timeL u)).data.toList = Lib.decDigits (u / 60) ++ 58 :: padL (u % 60) := by simp [bts, timeL]
  have ec := cut_at 58 (Lib.decDigits (u / 60)) (padL (u % 60)) (dec_no58 _ (by omega) 58 (by decide))
  have p1 : pu ⟨(Lib.decDigits (u / 60)).toArray⟩ = (((u / 60 : Nat) : Int), true) := by
    have := pu_itoa ((u / 60 : Nat) : Int) ⟨by omega, by omega⟩
    rwa [itoaB_nat] at this
  have p2 : pu ⟨(Lib.decDigits (u % 60)).toArray⟩ = (((u % 60 : Nat) : Int), true) := by
    have := pu_itoa ((u % 60 : Nat) : Int) ⟨by omega, by omega⟩
    rwa [itoaB_nat] at this
  unfold RT
  rw [e0, ec]
  simp only [trim_pad (u % 60) (by omega), p1, p2]
  have en : 60 * ((u / 60 : Nat) : Int) + ((u % 60 : Nat) : Int) = (u : Int) := by omega
  have hne : bts (timeL u) ≠ bts [] := fun q => by
    have := congrArg (·.size) q
    simp only [bts_size] at this
    simp [timeL, padL] at this
  rw [en, TT_nat u h, if_pos ⟨hne, rfl⟩]
/-! ### The reference's reading -/
theorem u8_id {x : Int} (h0 : 0 ≤ x) (h1 : x ≤ 255) : IntKind.u8.wrap x = x := IntWalk.u8_in x ⟨h0, h1⟩
def Good (y : Int × Bool) (m : Int) (t : ByteArray) : Prop := y.2 = true ∧ y.1 ≤ 23 ∧ m ≤ 59 ∧ TT (60 * y.1 + m) = t
instance (y : Int × Bool) (m : Int) (t : ByteArray) : Decidable (Good y m t) := by unfold Good; infer_instance
theorem spec_rt_end (k : Nat) (hk : 20 ≤ k) (l : List UInt8) (y : Int × Bool) (hy : Num y.1) (J : Int → Int → Option (Int × Bool)) (m : Int) (hm : 0 ≤ m ∧ m ≤ 99) :
    spec_ReadTime_s0 k (bts l) y J m (l.length : Int) = some (if Good y m (bts l) then (60 * y.1 + m, true) else (0, false)) := by
  unfold Num at hy
  unfold spec_ReadTime_s0
  rw [bts_size, decide_eq_false (by omega), cond_false, cond_not]
  obtain ⟨n, b⟩ := y
  simp only at hy ⊢
  rw [wr_id (n := (60 : Int) * n) (by omega) (by omega), wr_id (by omega) (by omega), spec_TimeText_eq k hk, Option.bind_some, cond_not]
  cases b with
  | false => rw [if_neg (fun q => by cases q.1)]; rfl
  | true =>
    rw [cond_true]
    by_cases h1 : (23 : Int) < n
    · rw [decide_eq_true h1, if_neg (fun q => by have := q.2.1; simp only at this; omega)]; rfl
    · rw [decide_eq_false h1, cond_false]
      by_cases h2 : (59 : Int) < m
      · rw [decide_eq_true h2, if_neg (fun q => by have := q.2.2.1; omega)]; rfl
      · rw [decide_eq_false h2, cond_false]
        by_cases h3 : TT (60 * n + m) = bts l
        · rw [decide_eq_true h3, if_pos ⟨rfl, by simp only; omega, by omega, h3⟩]; rfl
        · rw [decide_eq_false h3, if_neg (fun q => h3 q.2.2.2)]; rfl
theorem spec_rt_dig (k : Nat) (A : List UInt8) (d : UInt8) (B : List UInt8) (y : Int × Bool) (J : Int → Int → Option (Int × Bool)) (m : Int) (hm : 0 ≤ m ∧ m ≤ 99) (hA : A.length ≤ 100) :
    spec_ReadTime_s0 k (bts (A ++ d :: B)) y J m (A.length : Int) = if Dig d then J (10 * m + ((d.toNat - 48 : Nat) : Int)) ((A ++ [d]).length : Int) else some (0, false) := by
  have hlt : (A.length : Int) < ((bts (A ++ d :: B)).size : Int) := by rw [bts_size]; simp; omega
  have hd8 := d.toNat_lt
  unfold spec_ReadTime_s0
  rw [decide_eq_true hlt, byteAt_bts, if_pos ⟨by omega, hlt⟩, if_pos ⟨by omega, hlt⟩, if_pos ⟨by omega, hlt⟩, cond_true]
  by_cases hd : Dig d
  · rw [if_pos hd]
    unfold Dig at hd
    rw [decide_eq_false (by omega), decide_eq_false (by omega), cond_false, cond_false, u8_id (by omega) (by omega), wr_id (n := (10 : Int) * m) (by omega) (by omega), wr_id (n := (d.toNat : Int) - 48) (by omega) (by omega), wr_id (by omega) (by omega), wr_suc A d (by omega)]
    congr 1
    omega
  · rw [if_neg hd]
    unfold Dig at hd
    by_cases h1 : (d.toNat : Int) < 48
    · rw [decide_eq_true h1]; rfl
    · rw [decide_eq_false h1, decide_eq_true (by omega)]; rfl
theorem spec_ReadTime_eq (k : Nat) (hk : 20 ≤ k) (A : List UInt8) (d e : UInt8) (hA : A.length = 2 ∨ A.length = 3) : spec_ReadTime k (bts (A ++ [d, e])) =
    some (if Dig d ∧ Dig e ∧ Good (pu (bts (A.take (A.length - 1)))) (10 * (d.toNat - 48 : Nat) + (e.toNat - 48 : Nat) : Int) (bts (A ++ [d, e])) then (60 * (pu (bts (A.take (A.length - 1)))).1 + (10 * (d.toNat - 48 : Nat) + (e.toNat - 48 : Nat) : Int), true) else (0, false)) := by
  have hs : (bts (A ++ [d, e])).size = A.length + 2 := by rw [bts_size]; simp
  unfold spec_ReadTime spec_ReadTime_m
  rw [spec_l01In_eq, hs, inR_iff.2 ⟨by omega, by omega⟩, Option.bind_some]
  simp only [Bool.not_true, cond_false]
  have hr := pu_range (bts (A.take (A.length - 1)))
  rw [wr_id (n := ((A.length + 2 : Nat) : Int) - 3) (by omega) (by omega), wr_id (n := ((A.length + 2 : Nat) : Int) - 2) (by omega) (by omega), if_pos ⟨by omega, by omega, by omega⟩]
  have ex : (bts (A ++ [d, e])).extract 0 (Int.toNat (((A.length + 2 : Nat) : Int) - 3)) = bts (A.take (A.length - 1)) := by
    rw [← bts_data ((bts (A ++ [d, e])).extract 0 _), Lib.extract_data]
    congr 1
    have e1 : Int.toNat (((A.length + 2 : Nat) : Int) - 3) - 0 = A.length - 1 := by omega
    rw [e1, List.drop_zero]
    show (A ++ [d, e]).take (A.length - 1) = _
    rw [List.take_append_of_le_length (by omega)]
  rw [ex, spec_ParseUint_eq k hk _ (by rw [bts_size]; simp; omega), Option.bind_some]
  obtain ⟨k2, rfl⟩ : ∃ k2, k = k2 + 3 := ⟨k - 3, by omega⟩
  have e2 : (((A.length + 2 : Nat) : Int) - 2) = (A.length : Int) := by omega
  rw [e2]
  show spec_ReadTime_s0 (k2 + 3) _ _ _ _ _ = _
  rw [spec_rt_dig (k2 + 3) A d [e] _ _ 0 (by omega) (by omega)]
  by_cases hd : Dig d
  · have hd' := hd
    unfold Dig at hd'
    rw [if_pos hd]
    show spec_ReadTime_s0 (k2 + 3) (bts (A ++ d :: [e])) _ _ _ _ = _
    rw [app_mid A d [e], spec_rt_dig (k2 + 3) (A ++ [d]) e [] _ _ _ (by omega) (by simp; omega)]
    by_cases he : Dig e
    · have he' := he
      unfold Dig at he'
      rw [if_pos he]
      show spec_ReadTime_s0 (k2 + 3) (bts ((A ++ [d]) ++ [e])) _ _ _ _ = _
      rw [spec_rt_end (k2 + 3) hk _ _ hr _ _ (by omega)]
      have e3 : (10 * (10 * 0 + ((d.toNat - 48 : Nat) : Int)) + ((e.toNat - 48 : Nat) : Int)) = (10 * (d.toNat - 48 : Nat) + (e.toNat - 48 : Nat) : Int) := by omega
      rw [e3, ← app_mid A d [e]]
      simp only [hd, he, true_and]
    · rw [if_neg he, if_neg (fun q => he q.2.1)]
  · rw [if_neg hd, if_neg (fun q => hd q.1)]
theorem spec_ReadTime_short (k : Nat) (t : ByteArray) (h : ¬ (4 ≤ t.size ∧ t.size ≤ 5)) : spec_ReadTime k t = some (0, false) := by
  unfold spec_ReadTime spec_ReadTime_m
  have : inR (t.size : Int) 4 5 = false := by rw [← Bool.not_eq_true]; exact fun q => h (by have := inR_iff.1 q; omega)
  rw [spec_l01In_eq, this]; rfl
theorem split_two : ∀ l : List UInt8, 2 ≤ l.length → ∃ A d e, l = A ++ [d, e]
  | [], h => by simp at h
  | [a], h => by simp at h
  | [a, b], _ => ⟨[], a, b, rfl⟩
  | a :: b :: c :: l, _ => by
    obtain ⟨A, d, e, h⟩ := split_two (b :: c :: l) (by simp)
    exact ⟨a :: A, d, e, by rw [h]; rfl⟩
/-- Both read the same time out of a text. -/
theorem readTime_both (k : Nat) (hk : 20 ≤ k) (t : ByteArray) (h : t.size ≤ 1048576) : spec_ReadTime k t = some (RT t) := by
  have hit : ∀ u : Nat, u ≤ 1439 → spec_ReadTime k (bts (timeL u)) = some ((u : Int), true) := by
    intro u hu
    have hl := dec_len (u / 60) (by omega)
    have h2 : (Lib.decDigits (u / 60)).length ≤ 2 := by
      obtain ⟨_, _, q3, _⟩ := dec_facts 2 (u / 60) (by omega); omega
    have := spec_ReadTime_eq k hk (Lib.decDigits (u / 60) ++ [58]) (UInt8.ofNat (48 + (u % 60) / 10)) (UInt8.ofNat (48 + (u % 60) % 10)) (by simp; omega)
    refine this.trans ?_
    have et : (Lib.decDigits (u / 60) ++ [58]).take ((Lib.decDigits (u / 60) ++ [58]).length - 1) = Lib.decDigits (u / 60) := by simp
    have p1 := pu_itoa ((u / 60 : Nat) : Int) ⟨by omega, by omega⟩
    rw [itoaB_nat] at p1
    rw [et, p1, ofNat_toNat _ (by omega), ofNat_toNat _ (by omega)]
    have em : (10 * ((48 + u % 60 / 10 - 48 : Nat) : Int) + ((48 + u % 60 % 10 - 48 : Nat) : Int)) = ((u % 60 : Nat) : Int) := by omega
    rw [em]
    have en : 60 * ((u / 60 : Nat) : Int) + ((u % 60 : Nat) : Int) = (u : Int) := by omega
    have eT : TT (60 * ((u / 60 : Nat) : Int) + ((u % 60 : Nat) : Int)) = bts (Lib.decDigits (u / 60) ++ [58] ++ [UInt8.ofNat (48 + u % 60 / 10), UInt8.ofNat (48 + u % 60 % 10)]) := by rw [en, TT_nat u hu]; rfl
    have dg : ∀ x, x < 10 → Dig (UInt8.ofNat (48 + x)) := fun x hx => by unfold Dig; rw [ofNat_toNat _ (by omega)]; omega
    rw [if_pos ⟨dg _ (by omega), dg _ (by omega), rfl, by simp only; omega, by omega, eT⟩]
    simp only [en]
  by_cases hs : 4 ≤ t.size ∧ t.size ≤ 5
  · obtain ⟨l, rfl⟩ : ∃ l, t = bts l := ⟨t.data.toList, (bts_data t).symm⟩
    rw [bts_size] at hs
    obtain ⟨A, d, e, rfl⟩ := split_two l (by omega)
    simp only [List.length_append, List.length_cons, List.length_nil] at hs
    have hsp := spec_ReadTime_eq k hk A d e (by omega)
    by_cases hg : Dig d ∧ Dig e ∧ Good (pu (bts (A.take (A.length - 1)))) (10 * (d.toNat - 48 : Nat) + (e.toNat - 48 : Nat) : Int) (bts (A ++ [d, e]))
    · obtain ⟨hn, hl⟩ := TT_in (by simp) hg.2.2.2.2.2
      rw [hl]
      rw [hit _ (by omega), RT_hit _ (by omega)]
    · rw [if_neg hg] at hsp
      rw [hsp]
      rcases RT_cases (bts (A ++ [d, e])) with q | ⟨u, hu, q1, q2⟩
      · rw [q]
      · rw [q1, hit u hu] at hsp; exact absurd (congrArg (·.map Prod.snd) hsp) (by simp)
  · rw [spec_ReadTime_short k t hs]
    rcases RT_cases t with q | ⟨u, hu, q1, q2⟩
    · rw [q]
    · have := hit u hu
      rw [← q1, spec_ReadTime_short k t hs] at this
      exact absurd (congrArg (·.map Prod.snd) this) (by simp)
end Go.Proofs.YtldpjfacoaplhaaDoorX
