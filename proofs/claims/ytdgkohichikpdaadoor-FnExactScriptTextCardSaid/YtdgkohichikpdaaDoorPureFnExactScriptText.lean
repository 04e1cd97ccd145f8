/- The law ScriptText on the plain side: whatever the acts, the law's function answers true. -/
import Derived.Test.YtdgkohichikpdaaDoorTold
import Derived.Test.YtdgkohichikpdaaDoorPU2
namespace Go.Proofs.YtdgkohichikpdaaDoorX.Pure
open Go Go.Proofs
theorem FnExactScriptText (y0 : (List Deed)) (h0 : (OkL OkDeed) y0) : ∃ k, laws_FnExactScriptText k y0 = some true := by
  have a1 := h0.1
  generalize hk : y0.length + 9100 = k
  refine ⟨k, ?_⟩
  unfold laws_FnExactScriptText
  rw [laws_szActS_eq k _ _ (by omega) (by omega) a1, Option.bind_some]
  by_cases ha : (1048576 : Int) < (y0.length : Int)
  · rw [if_pos ha]; rfl
  rw [if_neg ha, decide_eq_false (by omega), cond_false]
  have ta := laws_toActS_eq k y0 (by omega) (by omega)
  have ea := laws_eqActS_eq k y0 (by omega) (by omega)
  have hs := spec_ScriptText_eq k (by omega) y0
  have hi := impl_ScriptText_eq k (by omega) y0
  by_cases h40 : (40 : Int) < (y0.length : Int)
  · rw [if_pos h40] at hs hi
    simp only [ta, hs, hi, ea, Option.bind_some, Bool.not_true, cond_false, decide_true, beq_self_eq_true]
  · rw [if_neg h40] at hs hi
    simp only [ta, hs, hi, ea, Option.bind_some, Bool.not_true, cond_false, decide_true, beq_self_eq_true]
end Go.Proofs.YtdgkohichikpdaaDoorX.Pure
