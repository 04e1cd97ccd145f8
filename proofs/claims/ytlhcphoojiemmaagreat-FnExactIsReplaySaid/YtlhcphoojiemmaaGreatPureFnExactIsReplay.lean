/- The law IsReplay on the plain side: whatever the bakery, the acts and the numbers, the law's function answers true. -/
import Derived.Test.YtlhcphoojiemmaaGreatTold
import Derived.Test.YtlhcphoojiemmaaGreatPB6
namespace Go.Proofs.YtlhcphoojiemmaaGreatX.Pure
open Go Go.Proofs
theorem FnExactIsReplay (y0 : Bakery) (y1 : (List Deed)) (y2 : (List Int)) (h0 : OkBakery y0) (h1 : (OkL OkDeed) y1) (h2 : (OkL I64) y2) : ∃ k, laws_FnExactIsReplay k y0 y1 y2 = some true := by
  have g1 := h0.Stock.Grams.1
  have e1 := h0.Book.Events.1
  have a1 := h1.1
  generalize hk : y0.Stock.Grams.length + y0.Book.Events.length + y1.length + y2.length + 9100 = k
  refine ⟨k, ?_⟩
  unfold laws_FnExactIsReplay
  by_cases hn : (1048576 : Int) < (y2.length : Int)
  · rw [decide_eq_true hn]; rfl
  rw [decide_eq_false hn, cond_false, laws_szBakery_eq k _ _ (by omega) (by omega) g1 e1, Option.bind_some]
  by_cases hz : (1048576 : Int) < ((y0.Stock.Grams.length + y0.Book.Events.length : Nat) : Int)
  · rw [if_pos hz]; rfl
  rw [if_neg hz, decide_eq_false (by omega), cond_false, laws_szActS_eq k _ _ (by omega) (by omega) a1, Option.bind_some]
  by_cases ha : (1048576 : Int) - ((y0.Stock.Grams.length + y0.Book.Events.length : Nat) : Int) < (y1.length : Int)
  · rw [if_pos ha]; rfl
  rw [if_neg ha, decide_eq_false (by omega), cond_false]
  obtain ⟨r, hs, hi⟩ := isReplay_eq k (by omega) y0 y1 y2 (by omega) (by omega) (by omega) (by omega) (by omega) (by omega)
  have to := laws_toBakery_eq k y0 (by omega) (by omega)
  have ta := laws_toActS_eq k y1 (by omega) (by omega)
  have tn := laws_toIntS_eq k y2 (by omega) (by omega)
  have e0 := laws_eqBakery_eq k y0 (by omega) (by omega)
  have ea := laws_eqActS_eq k y1 (by omega) (by omega)
  have en := laws_eqIntS_eq k y2 (by omega) (by omega)
  simp only [to, ta, tn, hs, hi, e0, ea, en, Option.bind_some, beq_self_eq_true, Bool.not_true, cond_false]
end Go.Proofs.YtlhcphoojiemmaaGreatX.Pure
