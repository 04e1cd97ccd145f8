/- The law DoAct on the plain side: whatever the bakery and the act, the law's function answers true. -/
import Derived.Test.YtlhcphoojiemmaaGreatTold
import Derived.Test.YtlhcphoojiemmaaGreatPB6
namespace Go.Proofs.YtlhcphoojiemmaaGreatX.Pure
open Go Go.Proofs
theorem FnExactDoAct (y0 : Bakery) (y1 : Deed) (h0 : OkBakery y0) (h1 : OkDeed y1) : ∃ k, laws_FnExactDoAct k y0 y1 = some true := by
  have g1 := h0.Stock.Grams.1
  have e1 := h0.Book.Events.1
  generalize hk : y0.Stock.Grams.length + y0.Book.Events.length + 9010 = k
  refine ⟨k, ?_⟩
  unfold laws_FnExactDoAct
  rw [laws_szBakery_eq k _ _ (by omega) (by omega) g1 e1, Option.bind_some]
  by_cases hz : (1048576 : Int) < ((y0.Stock.Grams.length + y0.Book.Events.length : Nat) : Int)
  · rw [if_pos hz]; rfl
  rw [if_neg hz, decide_eq_false (by omega), cond_false]
  obtain ⟨⟨r, o⟩, hs, hi, l1, l2⟩ := doAct_eq k (by omega) y0 y1 (by omega) (by omega) (by omega) (by omega)
  dsimp only at l1 l2
  have to := laws_toBakery_eq k y0 (by omega) (by omega)
  have ta := laws_toAct_eq k y1
  have e0 := laws_eqBakery_eq k y0 (by omega) (by omega)
  have er := laws_eqBakery_eq k r (by omega) (by omega)
  have m0 := laws_markBakery_eq k y0 1 (by omega) (by omega) (by omega)
  have mr := laws_markBakery_eq k r 1 (by omega) (by omega) (by omega)
  have hd := laws_heldBakery_eq k r.Stock.Grams.length r.Book.Events.length r.Dough r.Loaf r.Book.Rack r.Book.Baked r.Book.Sold r.Book.Thrown r.Money 1 (by omega) (by omega) (by omega)
  simp only [to, ta, hs, hi, e0, er, m0, mr, hd, Option.bind_some, beq_self_eq_true, Bool.not_true, cond_false, decide_true]
  rw [decide_eq_false (by omega), decide_eq_false (by omega)]
  rfl
end Go.Proofs.YtlhcphoojiemmaaGreatX.Pure
