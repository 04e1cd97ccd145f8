/- Numbers read back: what both programs take for a number, and its value. -/
import Derived.Test.YtdgkohichikpdaaDoorPT0
import Derived.Lib.ItoaMem
namespace Go.Proofs.YtdgkohichikpdaaDoorX
open Go Go.Proofs
set_option linter.unusedVariables false
theorem byteAt_bts (A : List UInt8) (b : UInt8) (B : List UInt8) : byteAt (bts (A ++ b :: B)) (Int.toNat (A.length : Int)) = (b.toNat : Int) := by
  have hlt : A.length < (bts (A ++ b :: B)).size := by rw [bts_size]; simp
  have e : Int.toNat (A.length : Int) = A.length := by simp
  unfold byteAt
  rw [e, getElem?_pos (bts (A ++ b :: B)) A.length hlt]
  show (((bts (A ++ b :: B))[A.length]).toNat : Int) = _
  rw [ByteArray.getElem_eq_getElem_data]
  simp [bts]
/-- A byte that is a figure. -/
def Dig (b : UInt8) : Prop := 48 ≤ b.toNat ∧ b.toNat ≤ 57
instance (b : UInt8) : Decidable (Dig b) := by unfold Dig; infer_instance
def valF (n : Nat) (l : List UInt8) : Nat := l.foldl (fun n b => 10 * n + (b.toNat - 48)) n
theorem valF_app (n : Nat) (a b : List UInt8) : valF n (a ++ b) = valF (valF n a) b := by simp [valF]
theorem dig_of (x : Nat) (h : x < 10) : (UInt8.ofNat (48 + x)).toNat = 48 + x := by simp; omega
theorem decDigits_step (u : Nat) (h : ¬ u < 10) : Lib.decDigits u = Lib.decDigits (u / 10) ++ [UInt8.ofNat (48 + u % 10)] := by rw [Lib.decDigits, dif_neg h]
theorem dec_facts : ∀ (m u : Nat), u < 10 ^ m → (∀ b ∈ Lib.decDigits u, Dig b) ∧ valF 0 (Lib.decDigits u) = u ∧ (Lib.decDigits u).length ≤ max m 1 ∧ 1 ≤ (Lib.decDigits u).length := by
  intro m
  induction m with
  | zero =>
    intro u hu
    have : u = 0 := by simp at hu; omega
    subst this
    rw [Lib.decDigits_one (by decide)]
    exact ⟨by simp [Dig], by simp [valF], by simp, by simp⟩
  | succ m ih =>
    intro u hu
    by_cases h : u < 10
    · rw [Lib.decDigits_one h]
      refine ⟨fun b hb => ?_, ?_, by simp, by simp⟩
      · simp only [List.mem_singleton] at hb; subst hb; unfold Dig; rw [dig_of u h]; omega
      · unfold valF; rw [List.foldl_cons, dig_of u h]; simp
    · rw [decDigits_step u h]
      have hd : u / 10 < 10 ^ m := Nat.div_lt_of_lt_mul (by rw [Nat.pow_succ] at hu; omega)
      obtain ⟨h1, h2, h3, h4⟩ := ih (u / 10) hd
      have hm : 1 ≤ m := by cases m with | zero => simp at hd; omega | succ m => omega
      refine ⟨fun b hb => ?_, ?_, by rw [List.length_append]; simp; omega, by simp⟩
      · rcases List.mem_append.1 hb with hb | hb
        · exact h1 b hb
        · simp only [List.mem_singleton] at hb; subst hb; unfold Dig; rw [dig_of _ (by omega)]; omega
      · rw [valF_app, h2]; unfold valF; rw [List.foldl_cons, dig_of _ (by omega)]; simp only [List.foldl_nil]; omega
def Num (n : Int) : Prop := 0 ≤ n ∧ n ≤ 1000000000
theorem itoa_nat (u : Nat) : Lib.itoa (u : Int) = Lib.decDigits u := Lib.itoa_nonneg u
end Go.Proofs.YtdgkohichikpdaaDoorX
