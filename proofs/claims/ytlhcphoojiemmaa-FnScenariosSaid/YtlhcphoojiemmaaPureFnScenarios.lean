/- The law of the scenarios, on the plain side: in every scenario a bakery stays valid. -/
import Derived.Test.YtlhcphoojiemmaaTold
import Derived.Test.YtlhcphoojiemmaaPB7
namespace Go.Proofs.YtlhcphoojiemmaaX.Pure
open Go Go.Proofs
set_option linter.unusedVariables false
theorem FnScenarios (y0 : (List Int)) (h0 : (OkL U8) y0) : ∃ k, laws_FnScenarios k y0 = some true := by
  refine ⟨9100, ?_⟩
  unfold laws_FnScenarios laws_big
  simp only [Option.bind_some]
  by_cases hbig : (1048576 : Int) < (y0.length : Int)
  · rw [decide_eq_true hbig]; rfl
  rw [decide_eq_false hbig]
  simp only [cond_false]
  obtain ⟨b, l, e, hS, hl, hf⟩ := DrawActs_eq 9100 (by decide) y0 (by omega)
  have hev := hS.2.1.2.1
  obtain ⟨r, e2, r1, r2, r3, r4, _⟩ := runActs_stand 9100 (by decide) b l hS.1 hS.2.2.1 (by omega) (by omega)
  rw [e]
  simp only [Option.bind_some]
  rw [e2]
  simp only [Option.bind_some]
  have h4 := hS.2.2.1
  rw [impl_BakeryOk_eq 9100 (by decide) b (by omega) (by omega) (by omega) (by omega), hS.1, impl_BakeryOk_eq 9100 (by decide) r.1 (by omega) (by omega) (by omega) (by omega), r1, impl_SampleBakery_eq 9100 (by decide)]
  simp only [Option.bind_some, cond_true]
  rw [decide_eq_true (by omega), impl_BakeryOk_eq 9100 (by decide) sampleB (by decide) (by decide) (by decide) (by decide), sampleB_ok]
  rfl
end Go.Proofs.YtlhcphoojiemmaaX.Pure
