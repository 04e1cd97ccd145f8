/- The law RunScript on the plain side: whatever the text, the law's function answers true. -/
import Derived.Test.YtlenacakmmikiaaGreatDoorTold
import Derived.Test.YtlenacakmmikiaaGreatDoorPT
namespace Go.Proofs.YtlenacakmmikiaaGreatDoorX.Pure
open Go Go.Proofs
theorem script_both (k : Nat) (hk : 20100 ≤ k) (l : List UInt8) : laws_FnExactRunScript k (bts l) = some true := by
  unfold laws_FnExactRunScript
  rw [bts_size]
  by_cases h : (1048576 : Int) < l.length
  · rw [decide_eq_true h]; rfl
  · obtain ⟨⟨r, b⟩, hi, hs, hr⟩ := runScript_eq k hk l
    dsimp only at hr
    have er := eqStringS_self k r (by omega) (by omega)
    obtain ⟨R, mr, hd⟩ := marked_texts k (by omega) r (by omega)
    rw [decide_eq_false h, cond_false]
    simp only [hs, hi, er, mr, hd, Option.bind_some, Bool.not_true, cond_false, decide_true, beq_self_eq_true]
    rw [decide_eq_false (by omega)]
    rfl
theorem FnExactRunScript (y0 : ByteArray) (h0 : OkStr y0) : ∃ k, laws_FnExactRunScript k y0 = some true := by
  obtain ⟨k, hk⟩ : ∃ k, 20100 ≤ k := ⟨_, Nat.le_refl _⟩
  refine ⟨k, ?_⟩
  rw [← bts_data y0]
  exact script_both k hk _
end Go.Proofs.YtlenacakmmikiaaGreatDoorX.Pure
