/- What lies in a range. -/
import Derived.Test.YtdgkohichikpdaaDoorPL1
namespace Go.Proofs.YtdgkohichikpdaaDoorX
open Go
theorem spec_l01In_eq (k : Nat) (x lo hi : Int) : spec_l01In k x lo hi = some (inR x lo hi) := by unfold spec_l01In; rw [cond_and]; rfl
theorem impl_in_eq (k : Nat) (x lo hi : Int) : impl_in k x lo hi = some (inR x lo hi) := by unfold impl_in; rw [cond_and]; rfl
end Go.Proofs.YtdgkohichikpdaaDoorX
