/- Small laws of numbers and lists, for the plain side of the proofs. -/
import Derived.Test.YtlenacakmmikiaaGreatDoorX12
import Derived.IntWalk
namespace Go.Proofs.YtlenacakmmikiaaGreatDoorX
open Go
theorem wr_id {n : Int} (h1 : -9223372036854775808 ≤ n) (h2 : n ≤ 9223372036854775807) : wr n = n := IntWalk.i64_in n ⟨h1, h2⟩
section
variable {α : Type}
theorem wr_suc (A : List α) (x : α) (h : A.length < 4611686018427387904) : wr ((A.length : Int) + 1) = ((A ++ [x]).length : Int) := by
  rw [wr_id (by omega) (by omega)]; simp
theorem lt_mid (A : List α) (b : α) (B : List α) : decide ((A.length : Int) < ((A ++ b :: B).length : Int)) = true := by simp; omega
theorem lt_end (A : List α) : decide ((A.length : Int) < ((A ++ []).length : Int)) = false := by simp
theorem g_mid (A : List α) (b : α) (B : List α) : (0 ≤ (A.length : Int) ∧ (A.length : Int) < ((A ++ b :: B).length : Int)) = True := by simp; omega
theorem getD_mid (A : List α) (b : α) (B : List α) (d : α) : (A ++ b :: B).getD (Int.toNat (A.length : Int)) d = b := by simp
theorem set_mid (A : List α) (b : α) (B : List α) (x : α) : (A ++ b :: B).set (Int.toNat (A.length : Int)) x = A ++ x :: B := by simp
theorem app_mid (A : List α) (b : α) (B : List α) : A ++ b :: B = (A ++ [b]) ++ B := by simp
end
/-- What lies between two bounds. -/
def inR (x lo hi : Int) : Bool := decide (lo ≤ x) && decide (x ≤ hi)
theorem inR_iff {x lo hi : Int} : inR x lo hi = true ↔ lo ≤ x ∧ x ≤ hi := by simp [inR]
theorem cond_and (a b : Bool) : cond a (some b) (some false) = some (a && b) := by cases a <;> rfl
theorem cond_not {β : Type} (a : Bool) (x y : β) : cond (!a) x y = cond a y x := by cases a <;> rfl
theorem cond_some {β : Type} (a : Bool) (x y : β) : cond a (some x) (some y) = some (cond a x y) := by cases a <;> rfl
theorem cond_bind {β γ : Type} (a : Bool) (x y : Option β) (f : β → Option γ) : (cond a x y).bind f = cond a (x.bind f) (y.bind f) := by cases a <;> rfl
theorem maxRow_le {n : Nat} (h : n ≤ 4194304) : n ≤ maxRow := by unfold maxRow; omega
end Go.Proofs.YtlenacakmmikiaaGreatDoorX
