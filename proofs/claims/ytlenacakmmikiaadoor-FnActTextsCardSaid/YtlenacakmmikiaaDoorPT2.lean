/- Numbers read back: what both programs take for a number, and its value. -/
import Derived.Test.YtlenacakmmikiaaDoorPT0
import Derived.Lib.ItoaMem
namespace Go.Proofs.YtlenacakmmikiaaDoorX
open Go Go.Proofs
set_option linter.unusedVariables false
theorem byteAt_bts (A : List UInt8) (b : UInt8) (B : List UInt8) : byteAt (bts (A ++ b :: B)) (Int.toNat (A.length : Int)) = (b.toNat : Int) := by
  have hlt : A.length < (bts (A ++ b :: B)).size := by rw [bts_size]; simp
  have e : Int.toNat (A.length : Int) = A.length := by simp
  unfold byteAt
  rw [e, getElem?_pos (bts (A ++ b :: B)) A.length hlt]
  show (((bts (A ++ b :: B))[A.length]).toNat : Int) = _
  rw [ByteArray.getElem_eq_getElem_data]
  simp [bts]
/-- A byte that is a figure. -/
def Dig (b : UInt8) : Prop := 48 ≤ b.toNat ∧ b.toNat ≤ 57
instance (b : UInt8) : Decidable (Dig b) := by unfold Dig; infer_instance
def valF (n : Nat) (l : List UInt8) : Nat := l.foldl (fun n b => 10 * n + (b.toNat - 48)) n
theorem valF_app (n : Nat) (a b : List UInt8) : valF n (a ++ b) = valF (valF n a) b := by simp [valF]
theorem dig_of (x : Nat) (h : x < 10) : (UInt8.ofNat (48 + x)).toNat = 48 + x := by simp; omega
theorem decDigits_step (u : Nat) (h : ¬ u < 10) : Lib.decDigits u = Lib.decDigits (u / 10) ++ [UInt8.ofNat (48 + u % 10)] := by rw [Lib.decDigits, dif_neg h]
theorem dec_facts : ∀ (m u : Nat), u < 10 ^ m → (∀ b ∈ Lib.decDigits u, Dig b) ∧ valF 0 (Lib.decDigits u) = u ∧ (Lib.decDigits u).length ≤ max m 1 ∧ 1 ≤ (Lib.decDigits u).length := by
  intro m
  induction m with
  | zero =>
    intro u hu
    have : u = 0 := by simp at hu; omega
    subst this
    rw [Lib.decDigits_one (by decide)]
    exact ⟨by simp [Dig], by simp [valF], by simp, by simp⟩
  | succ m ih =>
    intro u hu
    by_cases h : u < 10
    · rw [Lib.decDigits_one h]
      refine ⟨fun b hb => ?_, ?_, by simp, by simp⟩
      · simp only [List.mem_singleton] at hb; subst hb; unfold Dig; rw [dig_of u h]; omega
      · unfold valF; rw [List.foldl_cons, dig_of u h]; simp
    · rw [decDigits_step u h]
      have hd : u / 10 < 10 ^ m := Nat.div_lt_of_lt_mul (by rw [Nat.pow_succ] at hu; omega)
      obtain ⟨h1, h2, h3, h4⟩ := ih (u / 10) hd
      have hm : 1 ≤ m := by cases m with | zero => simp at hd; omega | succ m => omega
      refine ⟨fun b hb => ?_, ?_, by rw [List.length_append]; simp; omega, by simp⟩
      · rcases List.mem_append.1 hb with hb | hb
        · exact h1 b hb
        · simp only [List.mem_singleton] at hb; subst hb; unfold Dig; rw [dig_of _ (by omega)]; omega
      · rw [valF_app, h2]; unfold valF; rw [List.foldl_cons, dig_of _ (by omega)]; simp only [List.foldl_nil]; omega
def Num (n : Int) : Prop := 0 ≤ n ∧ n ≤ 1000000000
theorem itoa_nat (u : Nat) : Lib.itoa (u : Int) = Lib.decDigits u := Lib.itoa_nonneg u
theorem parseUint10_val : ∀ (l : List UInt8) (acc : Nat), (∀ b ∈ l, Dig b) → l.length ≤ 19 → acc < 10 ^ (19 - l.length) → Lib.parseUint10 acc l = .ok (valF acc l) := by
  intro l
  induction l with
  | nil => intro acc _ _ _; rfl
  | cons b r ih =>
    intro acc hd hl ha
    have hb := hd b (by simp)
    unfold Lib.parseUint10
    simp only [List.length_cons] at hl ha
    have e : 10 ^ (19 - r.length) = 10 * 10 ^ (19 - (r.length + 1)) := by rw [← Nat.pow_succ']; congr 1; omega
    have hle : (10 : Nat) ^ (19 - (r.length + 1)) ≤ 10 ^ 18 := Nat.pow_le_pow_right (by decide) (by omega)
    unfold Dig at hb
    rw [if_pos hb, if_neg (by omega), if_neg (by omega), ih _ (fun b hb => hd b (by simp [hb])) (by omega) (by omega)]
    unfold valF; rw [List.foldl_cons, Nat.mul_comm]
theorem pu_itoa (n : Int) (h : Num n) : pu (itoaB n) = (n, true) := by
  obtain ⟨u, rfl⟩ : ∃ u : Nat, n = u := ⟨n.toNat, by have := h.1; omega⟩
  have hu : u < 10 ^ 10 := by have := h.2; omega
  obtain ⟨h1, h2, h3, h4⟩ := dec_facts 10 u hu
  have e : Lib.atoiAll (itoaB (u : Int)).data.toList = .ok (u : Int) := by
    have e0 : (itoaB (u : Int)).data.toList = Lib.decDigits u := by simp [itoaB, bts, itoa_nat]
    rw [e0]
    have hp := parseUint10_val (Lib.decDigits u) 0 h1 (by omega) (by have : 0 < 10 ^ (19 - (Lib.decDigits u).length) := Nat.pow_pos (by decide); omega)
    rw [h2] at hp
    cases hc : Lib.decDigits u with
    | nil => rw [hc] at h4; simp at h4
    | cons c r =>
      have hd := h1 c (by rw [hc]; simp)
      unfold Dig at hd
      rw [hc] at hp
      unfold Lib.atoiAll
      simp only
      rw [if_neg (by omega)]
      unfold Lib.parseMag
      rw [if_neg (by simp), hp]
      simp only
      rw [if_neg (by omega), if_neg (by omega), if_neg (by omega)]
  unfold pu
  rw [e]
  simp only
  rw [if_pos ⟨rfl, by omega, h.2⟩]
theorem pu_cases (s : ByteArray) : pu s = (0, false) ∨ ∃ n, Num n ∧ s = itoaB n ∧ pu s = (n, true) := by
  unfold pu
  split
  · rename_i v hv
    split
    · rename_i h; exact .inr ⟨v, ⟨h.2.1, h.2.2⟩, h.1.symm, rfl⟩
    · exact .inl rfl
  · exact .inl rfl
theorem impl_ParseUint_eq (k : Nat) (s : ByteArray) (h : s.size ≤ 1048576) : impl_ParseUint k s = some (pu s) := by
  unfold impl_ParseUint; rw [if_pos (by omega)]
theorem pu_range (s : ByteArray) : Num (pu s).1 := by
  rcases pu_cases s with e | ⟨n, hn, _, e⟩
  · rw [e]; exact ⟨by decide, by decide⟩
  · rw [e]; exact hn
end Go.Proofs.YtlenacakmmikiaaDoorX
