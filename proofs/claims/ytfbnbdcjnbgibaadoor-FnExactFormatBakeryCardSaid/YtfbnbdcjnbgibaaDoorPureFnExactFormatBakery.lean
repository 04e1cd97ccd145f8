/- The law FormatBakery on the plain side: whatever the bakery, the law's function answers true. -/
import Derived.Test.YtfbnbdcjnbgibaaDoorTold
import Derived.Test.YtfbnbdcjnbgibaaDoorPT1
namespace Go.Proofs.YtfbnbdcjnbgibaaDoorX.Pure
open Go Go.Proofs
theorem FnExactFormatBakery (y0 : Bakery) (h0 : OkBakery y0) : ∃ k, laws_FnExactFormatBakery k y0 = some true := by
  have g1 := h0.Stock.Grams.1
  have e1 := h0.Book.Events.1
  generalize hk : y0.Stock.Grams.length + y0.Book.Events.length + 9010 = k
  refine ⟨k, ?_⟩
  unfold laws_FnExactFormatBakery
  rw [laws_szBakery_eq k _ _ (by omega) (by omega) g1 e1, Option.bind_some]
  by_cases hz : (1048576 : Int) < ((y0.Stock.Grams.length + y0.Book.Events.length : Nat) : Int)
  · rw [if_pos hz]; rfl
  rw [if_neg hz, decide_eq_false (by omega), cond_false]
  have hs := spec_FormatBakery_eq k (by omega) y0 (by omega) (by omega) (by omega) (by omega)
  have hi := impl_FormatBakery_eq k (by omega) y0 (by omega) (by omega) (by omega) (by omega)
  have hr : (cond (bakeryOk y0) (linesB y0) []).length ≤ 4 := by cases bakeryOk y0 <;> simp [linesB]
  generalize cond (bakeryOk y0) (linesB y0) [] = r at hs hi hr
  have to := laws_toBakery_eq k y0 (by omega) (by omega)
  have e0 := laws_eqBakery_eq k y0 (by omega) (by omega)
  have er := eqStringS_self k r (by omega) (by omega)
  have m0 := laws_markBakery_eq k y0 1 (by omega) (by omega) (by omega)
  obtain ⟨R, mr, hd⟩ := marked_texts k (by omega) r (by omega)
  simp only [to, hs, hi, e0, er, m0, mr, hd, Option.bind_some, Bool.not_true, cond_false, decide_true]
  rw [decide_eq_false (by omega), decide_eq_false (by omega)]
  rfl
end Go.Proofs.YtfbnbdcjnbgibaaDoorX.Pure
