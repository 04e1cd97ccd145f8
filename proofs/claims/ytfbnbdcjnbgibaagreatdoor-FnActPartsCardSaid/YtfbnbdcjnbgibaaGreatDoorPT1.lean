/- The lines of a bakery. -/
import Derived.Test.YtfbnbdcjnbgibaaGreatDoorPT0
import Derived.Test.YtfbnbdcjnbgibaaGreatDoorPB4
import Derived.Test.YtfbnbdcjnbgibaaGreatDoorPB2
namespace Go.Proofs.YtfbnbdcjnbgibaaGreatDoorX
open Go Go.Proofs
set_option linter.unusedVariables false
def linesB (b : Bakery) : List ByteArray := [bts (lineL [115, 116, 111, 99, 107] b.Stock.Grams), bts (lineL [114, 97, 99, 107] [b.Book.Rack.Fresh, b.Book.Rack.Day, b.Book.Rack.Old]), bts (lineL [98, 111, 111, 107] [b.Book.Baked, b.Book.Sold, b.Book.Thrown]), bts (lineL [109, 111, 110, 101, 121] [b.Money])]
theorem all_in {b : Bakery} (hb : bakeryOk b = true) : b.Stock.Grams.length = 4 ∧ (∀ n ∈ b.Stock.Grams, Inr n) ∧ Inr b.Book.Rack.Fresh ∧ Inr b.Book.Rack.Day ∧ Inr b.Book.Rack.Old ∧ Inr b.Book.Baked ∧ Inr b.Book.Sold ∧ Inr b.Book.Thrown ∧ Inr b.Money := by
  have hm := money_of hb
  simp only [bakeryOk, Bool.and_eq_true] at hb
  have hs := hb.1
  obtain ⟨hl, hr, h2, h3, h4, h5⟩ := book_led b.Book hb.2.2.2.1
  have hr' := (rackOk_iff _).1 hr
  simp only [storeOk, Bool.and_eq_true, decide_eq_true_eq, List.all_eq_true] at hs
  unfold Inr
  refine ⟨hs.2, fun n hn => ?_, ?_⟩
  · have := inR_iff.1 (hs.1 n hn)
    omega
  · omega
theorem impl_FormatBakery_eq (k : Nat) (hk : 30 ≤ k) (b : Bakery) (h1 : b.Stock.Grams.length ≤ k) (h2 : b.Stock.Grams.length ≤ 4194304) (h3 : b.Book.Events.length ≤ k) (h4 : b.Book.Events.length ≤ 4194304) : impl_FormatBakery k b = some (cond (bakeryOk b) (linesB b) []) := by
  unfold impl_FormatBakery
  rw [impl_BakeryOk_eq k (by omega) b h1 h2 h3 h4]
  simp only [Option.bind_some]
  cases hb : bakeryOk b
  · rfl
  obtain ⟨q0, q1, q2, q3, q4, q5, q6, q7, q8⟩ := all_in hb
  simp only [Bool.not_true, cond_false]
  have t1 := impl_told_eq k [115, 116, 111, 99, 107] b.Stock.Grams (by decide) h1 (by omega) q1
  have t2 := impl_told_eq k [114, 97, 99, 107] [b.Book.Rack.Fresh, b.Book.Rack.Day, b.Book.Rack.Old] (by decide) (by simp; omega) (by simp) (by intro n hn; simp only [List.mem_cons, List.not_mem_nil, or_false] at hn; rcases hn with e | e | e <;> rw [e] <;> assumption)
  have t3 := impl_told_eq k [98, 111, 111, 107] [b.Book.Baked, b.Book.Sold, b.Book.Thrown] (by decide) (by simp; omega) (by simp) (by intro n hn; simp only [List.mem_cons, List.not_mem_nil, or_false] at hn; rcases hn with e | e | e <;> rw [e] <;> assumption)
  have t4 := impl_told_eq k [109, 111, 110, 101, 121] [b.Money] (by decide) (by simp; omega) (by simp) (by intro n hn; simp only [List.mem_cons, List.not_mem_nil, or_false] at hn; rw [hn]; assumption)
  show ((impl_told k (bts [115, 116, 111, 99, 107]) b.Stock.Grams).bind fun y2 => (impl_told k (bts [114, 97, 99, 107]) [b.Book.Rack.Fresh, b.Book.Rack.Day, b.Book.Rack.Old]).bind fun y3 => (impl_told k (bts [98, 111, 111, 107]) [b.Book.Baked, b.Book.Sold, b.Book.Thrown]).bind fun y4 => (impl_told k (bts [109, 111, 110, 101, 121]) [b.Money]).bind fun y5 => some [y2, y3, y4, y5]) = _
  rw [t1, t2, t3, t4]; rfl
/-! ### Rows of texts, compared and marked -/
end Go.Proofs.YtfbnbdcjnbgibaaGreatDoorX
