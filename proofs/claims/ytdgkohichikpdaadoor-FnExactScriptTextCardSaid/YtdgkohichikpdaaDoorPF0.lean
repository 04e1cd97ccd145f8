/- Acts written: what both programs write for an act. -/
import Derived.Test.YtdgkohichikpdaaDoorPT6
namespace Go.Proofs.YtdgkohichikpdaaDoorX
open Go Go.Proofs
set_option linter.unusedVariables false
theorem formatAct_lp (k : Nat) (hk : 20 ≤ k) (a : Deed) (w : List UInt8) (N : Nat) (hN : ([0, 1, 1, 1, 0, 2, 1] : List Int).getD (Int.toNat a.Kind) 0 = (N : Int)) (hN2 : N ≤ 2) (hA : Inr a.A) (hB : Inr a.B) (hw : w.length ≤ 100) :
    ∀ (m : Nat) (i : Nat), N ≤ i + m → i ≤ N → spec_FormatAct_l0 k m a (bts (lineL w ([a.A, a.B].take i))) (i : Int) = some (bts (lineL w ([a.A, a.B].take N)), true) := by
  have key : ∀ i : Nat, i < 2 → Inr ([a.A, a.B].getD i 0) := fun i hi => by
    have : i = 0 ∨ i = 1 := by omega
    rcases this with h | h <;> subst h
    · exact hA
    · exact hB
  intro m
  induction m with
  | zero =>
    intro i h1 h2
    have : i = N := by omega
    subst this
    unfold spec_FormatAct_l0 spec_FormatAct_s0
    rw [hN, decide_eq_false (by omega)]; rfl
  | succ m ih =>
    intro i h1 h2
    unfold spec_FormatAct_l0 spec_FormatAct_s0
    rw [hN]
    by_cases h : i < N
    · have hi := key i (by omega)
      have hlen : (lineL w ([a.A, a.B].take i)).length ≤ 100 + 44 := by
        have := lineL_len w ([a.A, a.B].take i) (fun n hn => by
          have := List.mem_of_mem_take hn
          simp only [List.mem_cons, List.not_mem_nil, or_false] at this
          rcases this with e | e <;> rw [e] <;> assumption)
        have : ([a.A, a.B].take i).length ≤ 2 := by simp; omega
        omega
      have hil := itoa_len hi
      rw [decide_eq_true (by omega)]
      simp only [cond_true]
      have e32 : (ByteArray.mk #[32]) = bts [32] := rfl
      rw [e32, bts_app, if_pos (by simp only [bts_size, List.length_append, List.length_singleton]; omega), if_pos ⟨by omega, by simp; omega⟩, Int.toNat_natCast, spec_FormatInt_eq k hk _ hi]
      simp only [Option.bind_some]
      unfold itoaB
      rw [bts_app, if_pos (by simp only [bts_size, List.length_append, List.length_singleton]; omega), wr_id (by omega) (by omega)]
      have := ih (i + 1) (by omega) (by omega)
      refine Eq.trans ?_ this
      congr 1
      · have : i = 0 ∨ i = 1 := by omega
        rcases this with e | e <;> subst e <;> simp [lineL]
    · have : i = N := by omega
      subst this
      rw [decide_eq_false (by omega)]; rfl
theorem act_inr {a : Deed} (h : actOk a = true) : Inr a.A ∧ Inr a.B := by
  obtain ⟨h1, h2, _⟩ := act_nums h
  unfold Inr; omega
/-- What is written for an act. -/
def fmtA (a : Deed) : ByteArray × Bool := if actOk a = true then (bts (lineW (TF a)), true) else (bts [], false)
theorem spec_FormatAct_is (k : Nat) (hk : 30 ≤ k) (a : Deed) : spec_FormatAct k a = some (fmtA a) := by
  unfold spec_FormatAct spec_FormatAct_m fmtA
  rw [spec_ActOk_eq]
  simp only [Option.bind_some]
  cases ha : actOk a
  · rfl
  obtain ⟨hA, hB⟩ := act_inr ha
  simp only [Bool.not_true, cond_false]
  rw [if_pos trivial, ← lineL_TF]
  have go : ∀ (w : List UInt8) (N : Nat), w.length ≤ 100 → N ≤ 2 → ([0, 1, 1, 1, 0, 2, 1] : List Int).getD (Int.toNat a.Kind) 0 = (N : Int) →
      spec_FormatAct_l0 k k a (bts w) 0 = some (bts (lineL w ([a.A, a.B].take N)), true) := by
    intro w N hw hN2 hN
    have := formatAct_lp k (by omega) a w N hN hN2 hA hB hw k 0 (by omega) (by omega)
    have e0 : lineL w ([a.A, a.B].take 0) = w := by simp [lineL]
    rw [e0] at this
    exact this
  rcases act_kinds ha with e | e | e | e | e | e
  · have := go [98, 97, 107, 101] 1 (by decide) (by decide) (by rw [e]; rfl)
    rw [e]; exact this
  · have := go [115, 101, 108, 108] 1 (by decide) (by decide) (by rw [e]; rfl)
    rw [e]; exact this
  · have := go [99, 104, 101, 97, 112] 1 (by decide) (by decide) (by rw [e]; rfl)
    rw [e]; exact this
  · have := go [109, 111, 114, 110, 105, 110, 103] 0 (by decide) (by decide) (by rw [e]; rfl)
    rw [e]; exact this
  · have := go [98, 117, 121] 2 (by decide) (by decide) (by rw [e]; rfl)
    rw [e]; exact this
  · have := go [102, 108, 111, 117, 114] 1 (by decide) (by decide) (by rw [e]; rfl)
    rw [e]; exact this
theorem impl_FormatAct_is (k : Nat) (hk : 30 ≤ k) (a : Deed) : impl_FormatAct k a = some (fmtA a) := by
  unfold impl_FormatAct fmtA
  rw [impl_ActOk_eq]
  simp only [Option.bind_some]
  cases ha : actOk a
  · rfl
  obtain ⟨hA, hB⟩ := act_inr ha
  simp only [Bool.not_true, cond_false]
  rw [if_pos trivial, ← lineL_TF]
  have go : ∀ (w : List UInt8) (N : Nat), w.length ≤ 100 → N ≤ 2 → ((impl_told k (bts w) ([a.A, a.B].take N)).bind fun y4 => some (y4, true)) = some (bts (lineL w ([a.A, a.B].take N)), true) := by
    intro w N hw hN2
    rw [impl_told_eq k w _ hw (by simp; omega) (by simp; omega) (fun n hn => by
        have := List.mem_of_mem_take hn
        simp only [List.mem_cons, List.not_mem_nil, or_false] at this
        rcases this with e | e <;> rw [e]
        · exact hA
        · exact hB)]
    rfl
  unfold impl_actWords impl_actNumbers
  simp only [Option.bind_some]
  rcases act_kinds ha with e | e | e | e | e | e
  · have := go [98, 97, 107, 101] 1 (by decide) (by decide)
    rw [e]; exact this
  · have := go [115, 101, 108, 108] 1 (by decide) (by decide)
    rw [e]; exact this
  · have := go [99, 104, 101, 97, 112] 1 (by decide) (by decide)
    rw [e]; exact this
  · have := go [109, 111, 114, 110, 105, 110, 103] 0 (by decide) (by decide)
    rw [e]; exact this
  · have := go [98, 117, 121] 2 (by decide) (by decide)
    rw [e]; exact this
  · have := go [102, 108, 111, 117, 114] 1 (by decide) (by decide)
    rw [e]; exact this
end Go.Proofs.YtdgkohichikpdaaDoorX
