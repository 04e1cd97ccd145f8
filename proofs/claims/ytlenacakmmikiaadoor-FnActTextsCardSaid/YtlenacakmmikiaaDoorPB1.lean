/- What the changes of the bakery compute: the night, buying, selling. -/
import Derived.Test.YtlenacakmmikiaaDoorPB0
namespace Go.Proofs.YtlenacakmmikiaaDoorX
open Go
set_option linter.unusedVariables false
theorem goC_bad (ev : List Event) (e : Event) (he : inR e.Loaves 0 1000 = false) : ∀ (B : List Event) (r : Rack) (a b c : Int), goC ev (B ++ [e]) r a b c = none
  | [], r, a, b, c => by
    have : (eventOn r e).2.2.2.2 = false := by simp [eventOn, he]
    simp [goC, this]
  | x :: B, r, a, b, c => by
    simp only [List.cons_append, goC, goC_bad ev e he B]
    cases (eventOn r x).2.2.2.2 <;> rfl
theorem enterB_bad (b : Book) (e : Event) (he : inR e.Loaves 0 1000 = false) : (enterB b e).2 = false := by
  have : countB (b.Events ++ [e]) = none := by
    unfold countB
    split
    · exact goC_bad _ e he _ _ _ _ _
    · rfl
  unfold enterB
  rw [this]
  cases bookOk b <;> rfl
def sellL (b : Bakery) (n : Int) (cheap : Bool) : Bakery × Bool := cond (inR n 0 1000) (cond cheap (enterK b ⟨3, n⟩ (wr (2 * n))) (enterK b ⟨2, n⟩ (wr (4 * n)))) (b, false)
theorem sellL_len (b : Bakery) (n : Int) (c : Bool) : (sellL b n c).1.Stock.Grams.length = b.Stock.Grams.length ∧ (sellL b n c).1.Book.Events.length ≤ b.Book.Events.length + 1 := by
  unfold sellL
  cases inR n 0 1000
  · exact ⟨rfl, Nat.le_succ _⟩
  · cases c
    · exact enterK_len _ _ _
    · exact enterK_len _ _ _
end Go.Proofs.YtlenacakmmikiaaDoorX
