/- The law OpenBakery on the plain side: whatever the grams, the dough, the loaf and the money, the law's function answers true. -/
import Derived.Test.YtonaabffckkdlaaTold
import Derived.Test.YtonaabffckkdlaaPB2
namespace Go.Proofs.YtonaabffckkdlaaX.Pure
open Go Go.Proofs
theorem FnExactOpenBakery (y0 : List Int) (y1 : Dough) (y2 : Loaf) (y3 : Int) (h0 : OkL I64 y0) (h1 : OkDough y1) (h2 : OkLoaf y2) (h3 : I64 y3) : ∃ k, laws_FnExactOpenBakery k y0 y1 y2 y3 = some true := by
  have g1 := h0.1
  generalize hk : y0.length + 10 = k
  refine ⟨k, ?_⟩
  unfold laws_FnExactOpenBakery
  by_cases hz : (1048576 : Int) < (y0.length : Int)
  · rw [decide_eq_true hz]; rfl
  rw [decide_eq_false hz, cond_false]
  have hs := spec_OpenBakery_eq k y0 y1 y2 y3 (by omega) (by omega)
  have hi := impl_OpenBakery_eq k (by omega) y0 y1 y2 y3 (by omega) (by omega)
  obtain ⟨l1, l2⟩ := openG_len y0 y1 y2 y3
  generalize openG y0 y1 y2 y3 = r at hs hi l1 l2
  obtain ⟨r, o⟩ := r
  dsimp only at l1 l2
  have to := laws_toIntS_eq k y0 (by omega) (by omega)
  have e0 := laws_eqIntS_eq k y0 (by omega) (by omega)
  have er := laws_eqBakery_eq k r (by omega) (by omega)
  have m0 := laws_markIntS_eq k y0 1 (by omega) (by omega) (by omega)
  have mr := laws_markBakery_eq k r 1 (by omega) (by omega) (by omega)
  have hd := laws_heldBakery_eq k r.Stock.Grams.length r.Book.Events.length r.Dough r.Loaf r.Book.Rack r.Book.Baked r.Book.Sold r.Book.Thrown r.Money 1 (by omega) (by omega) (by omega)
  simp only [to, hs, hi, e0, er, m0, mr, hd, laws_toDough_eq, laws_toLoaf_eq, Option.bind_some, beq_self_eq_true, Bool.not_true, cond_false, decide_true]
  rw [decide_eq_false (by omega), decide_eq_false (by omega)]
  rfl
end Go.Proofs.YtonaabffckkdlaaX.Pure
