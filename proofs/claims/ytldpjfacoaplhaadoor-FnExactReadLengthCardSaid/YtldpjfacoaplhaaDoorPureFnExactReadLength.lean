import Derived.Test.YtldpjfacoaplhaaDoorTold
import Derived.Test.YtldpjfacoaplhaaDoorPT4
namespace Go.Proofs.YtldpjfacoaplhaaDoorX.Pure
open Go Go.Proofs
theorem both (k : Nat) (hk : 1048600 ≤ k) (l : List UInt8) : laws_FnExactReadLength k (bts l) = some true := by
  unfold laws_FnExactReadLength
  rw [bts_size]
  by_cases h : (1048576 : Int) < l.length
  · rw [decide_eq_true h]; rfl
  · rw [decide_eq_false h, cond_false, spec_ReadLength_eq k (by omega) l, Option.bind_some, impl_ReadLength_eq k hk l (by omega), Option.bind_some, readLength_same]
    simp
theorem FnExactReadLength (y0 : ByteArray) (h0 : OkStr y0) : ∃ k, laws_FnExactReadLength k y0 = some true := by
  obtain ⟨k, hk⟩ : ∃ k, 1048600 ≤ k := ⟨_, Nat.le_refl _⟩
  refine ⟨k, ?_⟩
  rw [← bts_data y0]
  exact both k hk _
end Go.Proofs.YtldpjfacoaplhaaDoorX.Pure
