/- The law RunActs on the plain side: whatever the bakery and the acts, the law's function answers true. -/
import Derived.Test.YtlhcphoojiemmaaGreatTold
import Derived.Test.YtlhcphoojiemmaaGreatPB6
namespace Go.Proofs.YtlhcphoojiemmaaGreatX.Pure
open Go Go.Proofs
theorem FnExactRunActs (y0 : Bakery) (y1 : (List Deed)) (h0 : OkBakery y0) (h1 : (OkL OkDeed) y1) : ∃ k, laws_FnExactRunActs k y0 y1 = some true := by
  have g1 := h0.Stock.Grams.1
  have e1 := h0.Book.Events.1
  have a1 := h1.1
  generalize hk : y0.Stock.Grams.length + y0.Book.Events.length + y1.length + 9100 = k
  refine ⟨k, ?_⟩
  unfold laws_FnExactRunActs
  rw [laws_szBakery_eq k _ _ (by omega) (by omega) g1 e1, Option.bind_some]
  by_cases hz : (1048576 : Int) < ((y0.Stock.Grams.length + y0.Book.Events.length : Nat) : Int)
  · rw [if_pos hz]; rfl
  rw [if_neg hz, decide_eq_false (by omega), cond_false, laws_szActS_eq k _ _ (by omega) (by omega) a1, Option.bind_some]
  by_cases ha : (1048576 : Int) - ((y0.Stock.Grams.length + y0.Book.Events.length : Nat) : Int) < (y1.length : Int)
  · rw [if_pos ha]; rfl
  rw [if_neg ha, decide_eq_false (by omega), cond_false]
  obtain ⟨⟨r, o⟩, hs, hi, l1, l2, l3⟩ := runActs_eq k (by omega) y0 y1 (by omega) (by omega) (by omega) (by omega) (by omega) (by omega)
  dsimp only at l1 l2 l3
  have to := laws_toBakery_eq k y0 (by omega) (by omega)
  have ta := laws_toActS_eq k y1 (by omega) (by omega)
  have e0 := laws_eqBakery_eq k y0 (by omega) (by omega)
  have ea := laws_eqActS_eq k y1 (by omega) (by omega)
  have er := laws_eqBakery_eq k r (by omega) (by omega)
  have eo := laws_eqIntS_eq k o (by omega) (by omega)
  have m0 := laws_markBakery_eq k y0 1 (by omega) (by omega) (by omega)
  have ma := laws_markActS_eq k y1 (1 + (1 * (y0.Stock.Grams.length : Int) + 2 * (y0.Book.Events.length : Int))) (by omega) (by omega) (by omega)
  have mr := laws_markBakery_eq k r 1 (by omega) (by omega) (by omega)
  have mo := laws_markIntS_eq k o (1 + (1 * (r.Stock.Grams.length : Int) + 2 * (r.Book.Events.length : Int))) (by omega) (by omega) (by omega)
  have hd := laws_heldBakery_eq k r.Stock.Grams.length r.Book.Events.length r.Dough r.Loaf r.Book.Rack r.Book.Baked r.Book.Sold r.Book.Thrown r.Money 1 (by omega) (by omega) (by omega)
  have ho := laws_heldIntS_eq k o.length (1 + (1 * (r.Stock.Grams.length : Int) + 2 * (r.Book.Events.length : Int))) (by omega) (by omega) (by omega)
  simp only [to, ta, hs, hi, e0, ea, er, eo, m0, ma, mr, mo, hd, ho, Option.bind_some, beq_self_eq_true, Bool.not_true, cond_false, decide_true]
  rw [decide_eq_false (by omega), decide_eq_false (by omega), decide_eq_false (by omega)]
  rfl
end Go.Proofs.YtlhcphoojiemmaaGreatX.Pure
