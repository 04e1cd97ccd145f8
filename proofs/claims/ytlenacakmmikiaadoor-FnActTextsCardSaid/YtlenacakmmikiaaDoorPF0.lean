/- Acts written: what both programs write for an act. -/
import Derived.Test.YtlenacakmmikiaaDoorPT6
namespace Go.Proofs.YtlenacakmmikiaaDoorX
open Go Go.Proofs
set_option linter.unusedVariables false
theorem act_inr {a : Deed} (h : actOk a = true) : Inr a.A ∧ Inr a.B := by
  obtain ⟨h1, h2, _⟩ := act_nums h
  unfold Inr; omega
/-- What is written for an act. -/
def fmtA (a : Deed) : ByteArray × Bool := if actOk a = true then (bts (lineW (TF a)), true) else (bts [], false)
theorem impl_FormatAct_is (k : Nat) (hk : 30 ≤ k) (a : Deed) : impl_FormatAct k a = some (fmtA a) := by
  unfold impl_FormatAct fmtA
  rw [impl_ActOk_eq]
  simp only [Option.bind_some]
  cases ha : actOk a
  · rfl
  obtain ⟨hA, hB⟩ := act_inr ha
  simp only [Bool.not_true, cond_false]
  rw [if_pos trivial, ← lineL_TF]
  have go : ∀ (w : List UInt8) (N : Nat), w.length ≤ 100 → N ≤ 2 → ((impl_told k (bts w) ([a.A, a.B].take N)).bind fun y4 => some (y4, true)) = some (bts (lineL w ([a.A, a.B].take N)), true) := by
    intro w N hw hN2
    rw [impl_told_eq k w _ hw (by simp; omega) (by simp; omega) (fun n hn => by
        have := List.mem_of_mem_take hn
        simp only [List.mem_cons, List.not_mem_nil, or_false] at this
        rcases this with e | e <;> rw [e]
        · exact hA
        · exact hB)]
    rfl
  unfold impl_actWords impl_actNumbers
  simp only [Option.bind_some]
  rcases act_kinds ha with e | e | e | e | e | e
  · have := go [98, 97, 107, 101] 1 (by decide) (by decide)
    rw [e]; exact this
  · have := go [115, 101, 108, 108] 1 (by decide) (by decide)
    rw [e]; exact this
  · have := go [99, 104, 101, 97, 112] 1 (by decide) (by decide)
    rw [e]; exact this
  · have := go [109, 111, 114, 110, 105, 110, 103] 0 (by decide) (by decide)
    rw [e]; exact this
  · have := go [98, 117, 121] 2 (by decide) (by decide)
    rw [e]; exact this
  · have := go [102, 108, 111, 117, 114] 1 (by decide) (by decide)
    rw [e]; exact this
end Go.Proofs.YtlenacakmmikiaaDoorX
