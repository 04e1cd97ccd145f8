/- The bytes of an act's text. -/
import Derived.Test.YtdgkohichikpdaaDoorPT7
namespace Go.Proofs.YtdgkohichikpdaaDoorX
open Go Go.Proofs
set_option linter.unusedVariables false
theorem word_plain {w : List UInt8} (k : Int) (h : k = 1 ∨ k = 2 ∨ k = 3 ∨ k = 4 ∨ k = 5 ∨ k = 6) : ∀ b ∈ actW k, Plain b := by
  rcases h with e | e | e | e | e | e <;> rw [e] <;> decide
theorem text_facts {a : Deed} (h : actOk a = true) : (∀ b ∈ lineW (TF a), Plain b) ∧ (lineW (TF a)).length ≤ 100 := by
  obtain ⟨nA, nB⟩ := act_num h
  have hl : ∀ x ∈ ([a.A, a.B].take (actN a.Kind)).map Lib.itoa, (∀ b ∈ x, Plain b) ∧ x.length ≤ 10 := by
    intro x hx
    obtain ⟨n, hn, rfl⟩ := List.mem_map.1 hx
    have := List.mem_of_mem_take hn
    have hN : Num n := by
      simp only [List.mem_cons, List.not_mem_nil, or_false] at this
      rcases this with e | e <;> rw [e] <;> assumption
    obtain ⟨q1, _, q3⟩ := itoa_facts n hN
    exact ⟨fun b hb => by have := q1 b hb; unfold Dig at this; unfold Plain; omega, q3⟩
  have hw := word_plain (w := []) a.Kind (act_kinds h)
  have hw2 : (actW a.Kind).length ≤ 7 := by rcases act_kinds h with e | e | e | e | e | e <;> rw [e] <;> decide
  have hc : (([a.A, a.B].take (actN a.Kind)).map Lib.itoa).length ≤ 2 := by simp; omega
  generalize hp : ([a.A, a.B].take (actN a.Kind)).map Lib.itoa = ps at hl hc
  have e : lineW (TF a) = actW a.Kind ++ (ps.map (32 :: ·)).flatten := by rw [← hp]; rfl
  rw [e]
  have p32 : Plain 32 := by decide
  match ps, hl, hc with
  | [], hl, _ => exact ⟨fun b hb => by simp at hb; exact hw b hb, by simp; omega⟩
  | [x], hl, _ =>
    have h1 := hl x (by simp)
    refine ⟨fun b hb => ?_, by simp; omega⟩
    simp at hb
    rcases hb with hb | hb | hb
    · exact hw b hb
    · rw [hb]; exact p32
    · exact h1.1 b hb
  | [x, y], hl, _ =>
    have h1 := hl x (by simp)
    have h2 := hl y (by simp)
    refine ⟨fun b hb => ?_, by simp; omega⟩
    simp at hb
    rcases hb with hb | hb | hb | hb | hb
    · exact hw b hb
    · rw [hb]; exact p32
    · exact h1.1 b hb
    · rw [hb]; exact p32
    · exact h2.1 b hb
  | x :: y :: z :: r, _, hc => simp at hc
end Go.Proofs.YtdgkohichikpdaaDoorX
