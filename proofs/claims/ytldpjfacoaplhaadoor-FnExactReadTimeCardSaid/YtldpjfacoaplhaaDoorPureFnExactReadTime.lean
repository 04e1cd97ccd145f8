import Derived.Test.YtldpjfacoaplhaaDoorTold
import Derived.Test.YtldpjfacoaplhaaDoorPT3
namespace Go.Proofs.YtldpjfacoaplhaaDoorX.Pure
open Go Go.Proofs
theorem FnExactReadTime (y0 : ByteArray) (h0 : OkStr y0) : ∃ k, laws_FnExactReadTime k y0 = some true := by
  refine ⟨20, ?_⟩
  unfold laws_FnExactReadTime
  by_cases h : (1048576 : Int) < y0.size
  · rw [decide_eq_true h]; rfl
  · rw [decide_eq_false h, cond_false, readTime_both 20 (by decide) y0 (by omega), Option.bind_some, impl_ReadTime_eq 20 y0 (by omega), Option.bind_some]
    simp
end Go.Proofs.YtldpjfacoaplhaaDoorX.Pure
