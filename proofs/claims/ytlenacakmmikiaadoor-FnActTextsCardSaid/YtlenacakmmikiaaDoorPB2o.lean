/- What opening a bakery computes. -/
import Derived.Test.YtlenacakmmikiaaDoorPB2
namespace Go.Proofs.YtlenacakmmikiaaDoorX
open Go
set_option linter.unusedVariables false
def openG (g : List Int) (d : Dough) (l : Loaf) (m : Int) : Bakery × Bool :=
  cond (bakeryOk ⟨⟨g⟩, d, l, ⟨[], ⟨0, 0, 0⟩, 0, 0, 0⟩, m⟩) (⟨⟨g⟩, d, l, ⟨[], ⟨0, 0, 0⟩, 0, 0, 0⟩, m⟩, true) (⟨⟨[]⟩, ⟨0, 0, 0⟩, ⟨0, 0⟩, ⟨[], ⟨0, 0, 0⟩, 0, 0, 0⟩, 0⟩, false)
theorem openG_len (g : List Int) (d : Dough) (l : Loaf) (m : Int) : (openG g d l m).1.Stock.Grams.length ≤ g.length ∧ (openG g d l m).1.Book.Events.length = 0 := by
  unfold openG
  cases bakeryOk ⟨⟨g⟩, d, l, ⟨[], ⟨0, 0, 0⟩, 0, 0, 0⟩, m⟩
  · exact ⟨Nat.zero_le _, rfl⟩
  · exact ⟨Nat.le_refl _, rfl⟩
theorem spec_OpenBakery_eq (k : Nat) (g : List Int) (d : Dough) (l : Loaf) (m : Int) (h1 : g.length ≤ k) (h2 : g.length ≤ 4194304) : spec_OpenBakery k g d l m = some (openG g d l m) := by
  unfold spec_OpenBakery
  rw [if_pos (by simp [maxRow]; omega), spec_BakeryOk_eq k _ (by exact h1) (by exact h2) (Nat.zero_le _) (Nat.zero_le _)]
  simp only [Option.bind_some, cond_not, cond_some, List.nil_append, openG]
end Go.Proofs.YtlenacakmmikiaaDoorX
