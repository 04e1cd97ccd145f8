/- Acts read: what both programs take a line's words for. -/
import Derived.Test.YtdgkohichikpdaaDoorPT6
namespace Go.Proofs.YtdgkohichikpdaaDoorX
open Go Go.Proofs
set_option linter.unusedVariables false
/-! ### A line parted -/
def Plain (b : UInt8) : Prop := 32 ≤ b.toNat ∧ b.toNat ≤ 126
instance (b : UInt8) : Decidable (Plain b) := by unfold Plain; infer_instance
/-- The words of a line, as both have them. -/
def SF (l : List UInt8) : List (List UInt8) × Bool := if l.length ≤ 600 ∧ (∀ b ∈ l, Plain b) ∧ (wds l).length ≤ 24 then (wds l, true) else ([], false)
def sfB (r : List (List UInt8) × Bool) : List ByteArray × Bool := (r.1.map bts, r.2)
theorem plain_cases (b : UInt8) (h : ¬ Plain b) : (b.toNat : Int) < 32 ∨ ¬ (b.toNat : Int) < 32 ∧ (126 : Int) < b.toNat := by unfold Plain at h; omega
theorem SF_cases (l : List UInt8) : SF l = ([], false) ∨ (SF l = (wds l, true) ∧ l.length ≤ 600 ∧ (wds l).length ≤ 24) := by
  unfold SF
  split
  · rename_i h; exact .inr ⟨rfl, h.1, h.2.2⟩
  · exact .inl rfl
theorem wds_small (l : List UInt8) (h : l.length ≤ 600) : ∀ w ∈ wds l, w.length ≤ 600 := fun w hw => by
  have := fw_size l [] w hw
  simp at this; omega
end Go.Proofs.YtdgkohichikpdaaDoorX
