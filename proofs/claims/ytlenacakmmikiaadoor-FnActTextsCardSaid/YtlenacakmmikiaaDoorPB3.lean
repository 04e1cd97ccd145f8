/- What baking computes: the dough for a loaf, the flour, the amounts, taking them, and baking itself. -/
import Derived.Test.YtlenacakmmikiaaDoorPB2
namespace Go.Proofs.YtlenacakmmikiaaDoorX
open Go
set_option linter.unusedVariables false
theorem loaf_iff (l : Loaf) : loafOk l = true ↔ (10 ≤ l.Weight ∧ l.Weight ≤ 5000) ∧ (0 ≤ l.Loss ∧ l.Loss ≤ 40) := by simp [loafOk, inR]
theorem dough_iff (d : Dough) : doughOk d = true ↔ (300 ≤ d.Water ∧ d.Water ≤ 1200) ∧ (0 ≤ d.Salt ∧ d.Salt ≤ 50) ∧ (0 ≤ d.Leaven ∧ d.Leaven ≤ 500) := by simp [doughOk, inR]
def wOf (l : Loaf) (x : Int) : Int := x - (x * l.Loss + 99) / 100
theorem mul_in {x y a b : Int} (h1 : 0 ≤ x) (h2 : x ≤ a) (h3 : 0 ≤ y) (h4 : y ≤ b) : 0 ≤ x * y ∧ x * y ≤ a * b :=
  ⟨Int.mul_nonneg h1 h3, Int.mul_le_mul h2 h4 h3 (Int.le_trans h1 h2)⟩
theorem dough_of {b : Bakery} (h : bakeryOk b = true) : storeOk b.Stock = true ∧ doughOk b.Dough = true ∧ loafOk b.Loaf = true := by
  simp only [bakeryOk, Bool.and_eq_true] at h
  exact ⟨h.1, h.2.1, h.2.2.1⟩
def partOf (f p : Int) : Int := (f * p + 500) / 1000
def bakeG (b : Bakery) (t : Stock × Bool) (n : Int) : Bakery × Bool :=
  cond t.2 (cond (enterK b ⟨1, n⟩ 0).2 (⟨t.1, (enterK b ⟨1, n⟩ 0).1.Dough, (enterK b ⟨1, n⟩ 0).1.Loaf, (enterK b ⟨1, n⟩ 0).1.Book, (enterK b ⟨1, n⟩ 0).1.Money⟩, true) (b, false)) (b, false)
theorem bakeG_len (b : Bakery) (t : Stock × Bool) (n : Int) (h : t.1.Grams.length = b.Stock.Grams.length) : (bakeG b t n).1.Stock.Grams.length = b.Stock.Grams.length ∧ (bakeG b t n).1.Book.Events.length ≤ b.Book.Events.length + 1 := by
  obtain ⟨t, o⟩ := t
  unfold bakeG
  cases o with
  | false => exact ⟨rfl, Nat.le_succ _⟩
  | true => cases (enterK b ⟨1, n⟩ 0).2 with
    | false => exact ⟨rfl, Nat.le_succ _⟩
    | true => exact ⟨h, (enterK_len b ⟨1, n⟩ 0).2⟩
end Go.Proofs.YtlenacakmmikiaaDoorX
