/- Numbers read back: what both programs take for a number, and its value. -/
import Derived.Test.YtldpjfacoaplhaaDoorPT0
import Derived.Lib.ItoaMem
namespace Go.Proofs.YtldpjfacoaplhaaDoorX
open Go Go.Proofs
set_option linter.unusedVariables false
theorem byteAt_bts (A : List UInt8) (b : UInt8) (B : List UInt8) : byteAt (bts (A ++ b :: B)) (Int.toNat (A.length : Int)) = (b.toNat : Int) := by
  have hlt : A.length < (bts (A ++ b :: B)).size := by rw [bts_size]; simp
  have e : Int.toNat (A.length : Int) = A.length := by simp
  unfold byteAt
  rw [e, getElem?_pos (bts (A ++ b :: B)) A.length hlt]
  show (((bts (A ++ b :: B))[A.length]).toNat : Int) = _
  rw [ByteArray.getElem_eq_getElem_data]
  simp [bts]
/-- A byte that is a figure. -/
def Dig (b : UInt8) : Prop := 48 ≤ b.toNat ∧ b.toNat ≤ 57
instance (b : UInt8) : Decidable (Dig b) := by unfold Dig; infer_instance
def valF (n : Nat) (l : List UInt8) : Nat := l.foldl (fun n b => 10 * n + (b.toNat - 48)) n
theorem valF_app (n : Nat) (a b : List UInt8) : valF n (a ++ b) = valF (valF n a) b := by simp [valF]
theorem dig_of (x : Nat) (h : x < 10) : (UInt8.ofNat (48 + x)).toNat = 48 + x := by simp; omega
theorem decDigits_step (u : Nat) (h : ¬ u < 10) : Lib.decDigits u = Lib.decDigits (u / 10) ++ [UInt8.ofNat (48 + u % 10)] := by rw [Lib.decDigits, dif_neg h]
theorem dec_facts : ∀ (m u : Nat), u < 10 ^ m → (∀ b ∈ Lib.decDigits u, Dig b) ∧ valF 0 (Lib.decDigits u) = u ∧ (Lib.decDigits u).length ≤ max m 1 ∧ 1 ≤ (Lib.decDigits u).length := by
  intro m
  induction m with
  | zero =>
    intro u hu
    have : u = 0 := by simp at hu; omega
    subst this
    rw [Lib.decDigits_one (by decide)]
    exact ⟨by simp [Dig], by simp [valF], by simp, by simp⟩
  | succ m ih =>
    intro u hu
    by_cases h : u < 10
    · rw [Lib.decDigits_one h]
      refine ⟨fun b hb => ?_, ?_, by simp, by simp⟩
      · simp only [List.mem_singleton] at hb; subst hb; unfold Dig; rw [dig_of u h]; omega
      · unfold valF; rw [List.foldl_cons, dig_of u h]; simp
    · rw [decDigits_step u h]
      have hd : u / 10 < 10 ^ m := Nat.div_lt_of_lt_mul (by rw [Nat.pow_succ] at hu; omega)
      obtain ⟨h1, h2, h3, h4⟩ := ih (u / 10) hd
      have hm : 1 ≤ m := by cases m with | zero => simp at hd; omega | succ m => omega
      refine ⟨fun b hb => ?_, ?_, by rw [List.length_append]; simp; omega, by simp⟩
      · rcases List.mem_append.1 hb with hb | hb
        · exact h1 b hb
        · simp only [List.mem_singleton] at hb; subst hb; unfold Dig; rw [dig_of _ (by omega)]; omega
      · rw [valF_app, h2]; unfold valF; rw [List.foldl_cons, dig_of _ (by omega)]; simp only [List.foldl_nil]; omega
def Num (n : Int) : Prop := 0 ≤ n ∧ n ≤ 1000000000
theorem itoa_nat (u : Nat) : Lib.itoa (u : Int) = Lib.decDigits u := Lib.itoa_nonneg u
theorem parseUint10_val : ∀ (l : List UInt8) (acc : Nat), (∀ b ∈ l, Dig b) → l.length ≤ 19 → acc < 10 ^ (19 - l.length) → Lib.parseUint10 acc l = .ok (valF acc l) := by
  intro l
  induction l with
  | nil => intro acc _ _ _; rfl
  | cons b r ih =>
    intro acc hd hl ha
    have hb := hd b (by simp)
    unfold Lib.parseUint10
    simp only [List.length_cons] at hl ha
    have e : 10 ^ (19 - r.length) = 10 * 10 ^ (19 - (r.length + 1)) := by rw [← Nat.pow_succ']; congr 1; omega
    have hle : (10 : Nat) ^ (19 - (r.length + 1)) ≤ 10 ^ 18 := Nat.pow_le_pow_right (by decide) (by omega)
    unfold Dig at hb
    rw [if_pos hb, if_neg (by omega), if_neg (by omega), ih _ (fun b hb => hd b (by simp [hb])) (by omega) (by omega)]
    unfold valF; rw [List.foldl_cons, Nat.mul_comm]
theorem pu_itoa (n : Int) (h : Num n) : pu (itoaB n) = (n, true) := by
  obtain ⟨u, rfl⟩ : ∃ u : Nat, n = u := ⟨n.toNat, by have := h.1; omega⟩
  have hu : u < 10 ^ 10 := by have := h.2; omega
  obtain ⟨h1, h2, h3, h4⟩ := dec_facts 10 u hu
  have e : Lib.atoiAll (itoaB (u : Int)).data.toList = .ok (u : Int) := by
    have e0 : (itoaB (u : Int)).data.toList = Lib.decDigits u := by simp [itoaB, bts, itoa_nat]
    rw [e0]
    have hp := parseUint10_val (Lib.decDigits u) 0 h1 (by omega) (by have : 0 < 10 ^ (19 - (Lib.decDigits u).length) := Nat.pow_pos (by decide); omega)
    rw [h2] at hp
    cases hc : Lib.decDigits u with
    | nil => rw [hc] at h4; simp at h4
    | cons c r =>
      have hd := h1 c (by rw [hc]; simp)
      unfold Dig at hd
      rw [hc] at hp
      unfold Lib.atoiAll
      simp only
      rw [if_neg (by omega)]
      unfold Lib.parseMag
      rw [if_neg (by simp), hp]
      simp only
      rw [if_neg (by omega), if_neg (by omega), if_neg (by omega)]
  unfold pu
  rw [e]
  simp only
  rw [if_pos ⟨rfl, by omega, h.2⟩]
theorem pu_cases (s : ByteArray) : pu s = (0, false) ∨ ∃ n, Num n ∧ s = itoaB n ∧ pu s = (n, true) := by
  unfold pu
  split
  · rename_i v hv
    split
    · rename_i h; exact .inr ⟨v, ⟨h.2.1, h.2.2⟩, h.1.symm, rfl⟩
    · exact .inl rfl
  · exact .inl rfl
theorem impl_ParseUint_eq (k : Nat) (s : ByteArray) (h : s.size ≤ 1048576) : impl_ParseUint k s = some (pu s) := by
  unfold impl_ParseUint; rw [if_pos (by omega)]
/-- The reference's loop, from any place of the text on. -/
theorem spec_pu_lp (k : Nat) (hk : 20 ≤ k) : ∀ (m : Nat) (B A : List UInt8) (n : Nat), B.length ≤ m → (A ++ B).length ≤ 10 → n < 10 ^ A.length →
    (∀ b ∈ B, Dig b) ∧ spec_ParseUint_l0 k m (bts (A ++ B)) (n : Int) (A.length : Int) = some (if (valF n B : Int) ≤ 1000000000 ∧ itoaB (valF n B) = bts (A ++ B) then ((valF n B : Int), true) else (0, false)) ∨
    ¬ (∀ b ∈ B, Dig b) ∧ spec_ParseUint_l0 k m (bts (A ++ B)) (n : Int) (A.length : Int) = some (0, false) := by
  have fin : ∀ (J : Int → Int → Option (Int × Bool)) (A : List UInt8) (n : Nat), A.length ≤ 10 → n < 10 ^ A.length → spec_ParseUint_s0 k (bts A) J (n : Int) (A.length : Int) = some (if (n : Int) ≤ 1000000000 ∧ itoaB n = bts A then ((n : Int), true) else (0, false)) := by
    intro J A n hA hn
    have h1 : n < 10 ^ 10 := Nat.lt_of_lt_of_le hn (Nat.pow_le_pow_right (by decide) hA)
    unfold spec_ParseUint_s0
    rw [bts_size, decide_eq_false (by omega)]
    simp only [cond_false]
    by_cases h2 : (1000000000 : Int) < n
    · rw [decide_eq_true h2, if_neg (by omega)]; rfl
    · rw [decide_eq_false h2, spec_FormatInt_eq k hk n ⟨by omega, by omega⟩]
      simp only [cond_false, Option.bind_some]
      by_cases h3 : itoaB n = bts A
      · rw [decide_eq_true h3, if_pos ⟨by omega, h3⟩]; rfl
      · rw [decide_eq_false h3, if_neg (fun q => h3 q.2)]; rfl
  intro m
  induction m with
  | zero =>
    intro B A n h1 h2 h3
    have hB : B = [] := List.eq_nil_of_length_eq_zero (by omega)
    subst hB
    refine .inl ⟨by simp, ?_⟩
    unfold spec_ParseUint_l0
    rw [List.append_nil]
    exact fin _ A n (by simpa using h2) h3
  | succ m ih =>
    intro B A n h1 h2 h3
    cases B with
    | nil =>
      refine .inl ⟨by simp, ?_⟩
      unfold spec_ParseUint_l0
      rw [List.append_nil]
      exact fin _ A n (by simpa using h2) h3
    | cons b B =>
      simp only [List.length_append, List.length_cons] at h1 h2
      have hn : n < 10 ^ 10 := Nat.lt_of_lt_of_le h3 (Nat.pow_le_pow_right (by decide) (by omega))
      unfold spec_ParseUint_l0 spec_ParseUint_s0
      have hlt : (A.length : Int) < ((bts (A ++ b :: B)).size : Int) := by rw [bts_size]; simp; omega
      have hb8 := b.toNat_lt
      rw [decide_eq_true hlt, byteAt_bts, if_pos ⟨by omega, hlt⟩, if_pos ⟨by omega, hlt⟩, if_pos ⟨by omega, hlt⟩]
      simp only [cond_true]
      by_cases hd : Dig b
      · have hd' := hd
        unfold Dig at hd'
        rw [decide_eq_false (by omega), decide_eq_false (by omega)]
        simp only [cond_false]
        rw [wr_id (n := (10 : Int) * n) (by omega) (by omega), wr_id (n := (b.toNat : Int)) (by omega) (by omega), wr_id (n := 10 * (n : Int) + b.toNat) (by omega) (by omega), wr_id (n := 10 * (n : Int) + b.toNat - 48) (by omega) (by omega), wr_suc A b (by omega)]
        have e : (10 * (n : Int) + b.toNat - 48) = ((10 * n + (b.toNat - 48) : Nat) : Int) := by omega
        rw [e, app_mid A b B]
        have h4 : 10 * n + (b.toNat - 48) < 10 ^ (A ++ [b]).length := by
          rw [List.length_append, List.length_singleton, Nat.pow_succ]; omega
        have hv : valF (10 * n + (b.toNat - 48)) B = valF n (b :: B) := rfl
        rcases ih B (A ++ [b]) _ (by omega) (by simp; omega) h4 with ⟨q1, q2⟩ | ⟨q1, q2⟩
        · refine .inl ⟨fun c hc => ?_, by rw [← hv]; exact q2⟩
          rcases List.mem_cons.1 hc with rfl | hc
          · exact hd
          · exact q1 c hc
        · exact .inr ⟨fun q => q1 fun c hc => q c (by simp [hc]), q2⟩
      · refine .inr ⟨fun q => hd (q b (by simp)), ?_⟩
        unfold Dig at hd
        by_cases h5 : (b.toNat : Int) < 48
        · rw [decide_eq_true h5]; rfl
        · rw [decide_eq_false h5, decide_eq_true (by omega)]; rfl
/-- Both read the same number out of a text. -/
theorem spec_ParseUint_eq (k : Nat) (hk : 20 ≤ k) (s : ByteArray) (h : s.size ≤ 1048576) : spec_ParseUint k s = some (pu s) := by
  obtain ⟨l, rfl⟩ : ∃ l, s = bts l := ⟨s.data.toList, (bts_data s).symm⟩
  rw [bts_size] at h
  have hcase : pu (bts l) = (0, false) ∨ ∃ n, Num n ∧ bts l = itoaB n ∧ pu (bts l) = (n, true) := pu_cases _
  have hit : ∀ n, Num n → bts l = itoaB n → l.length ≤ 10 ∧ (∀ b ∈ l, Dig b) ∧ (valF 0 l : Int) = n := by
    intro n hn e
    obtain ⟨u, rfl⟩ : ∃ u : Nat, n = u := ⟨n.toNat, by have := hn.1; omega⟩
    obtain ⟨q1, q2, q3, q4⟩ := dec_facts 10 u (by have := hn.2; omega)
    have el : l = Lib.decDigits u := by
      have := congrArg (·.data.toList) e
      simpa [bts, itoaB, itoa_nat] using this
    rw [el]
    exact ⟨by omega, q1, by rw [q2]⟩
  unfold spec_ParseUint spec_ParseUint_m
  rw [bts_size]
  by_cases h10 : (10 : Int) < l.length
  · rw [decide_eq_true h10]
    simp only [cond_true]
    rcases hcase with e | ⟨n, hn, e, _⟩
    · rw [e]
    · have := (hit n hn e).1; omega
  · rw [decide_eq_false h10]
    simp only [cond_false]
    have := spec_pu_lp k hk k l [] 0 (by omega) (by simp; omega) (by simp)
    rcases this with ⟨q1, q2⟩ | ⟨q1, q2⟩
    · refine q2.trans ?_
      congr 1
      rcases hcase with e | ⟨n, hn, e, e2⟩
      · rw [e]
        split
        · rename_i hv
          have hnum : Num (valF 0 l : Int) := ⟨by omega, hv.1⟩
          have := pu_itoa _ hnum
          rw [hv.2] at this
          have e3 : pu (bts l) = ((valF 0 l : Int), true) := this
          rw [e] at e3; exact absurd (congrArg Prod.snd e3) (by simp)
        · rfl
      · obtain ⟨_, _, hv⟩ := hit n hn e
        rw [e2, hv, if_pos ⟨hn.2, by rw [← e]; rfl⟩]
    · refine q2.trans ?_
      rcases hcase with e | ⟨n, hn, e, _⟩
      · rw [e]
      · exact absurd (hit n hn e).2.1 q1
theorem pu_range (s : ByteArray) : Num (pu s).1 := by
  rcases pu_cases s with e | ⟨n, hn, _, e⟩
  · rw [e]; exact ⟨by decide, by decide⟩
  · rw [e]; exact hn
end Go.Proofs.YtldpjfacoaplhaaDoorX
