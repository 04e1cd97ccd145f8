/- The law ParseAct on the plain side: both programs read the same act out of a line. -/
import Derived.Test.YtldpjfacoaplhaaDoorTold
import Derived.Test.YtldpjfacoaplhaaDoorPT8
namespace Go.Proofs.YtldpjfacoaplhaaDoorX.Pure
open Go Go.Proofs
theorem parse_both (k : Nat) (hk : 601 ≤ k) (l : List UInt8) : laws_FnExactParseAct k (bts l) = some true := by
  unfold laws_FnExactParseAct
  rw [bts_size]
  by_cases h : (1048576 : Int) < l.length
  · rw [decide_eq_true h]; rfl
  · obtain ⟨r, e1, a1⟩ := spec_ParseAct_eq k hk l
    obtain ⟨s, e2, a2⟩ := impl_ParseAct_eq k hk l
    have := answers_uniq a1 a2
    subst this
    rw [decide_eq_false h, cond_false, e1, e2]
    unfold laws_eqAct
    simp
theorem FnExactParseAct (y0 : ByteArray) (h0 : OkStr y0) : ∃ k, laws_FnExactParseAct k y0 = some true := by
  refine ⟨601, ?_⟩
  rw [← bts_data y0]
  exact parse_both 601 (Nat.le_refl _) _
end Go.Proofs.YtldpjfacoaplhaaDoorX.Pure
