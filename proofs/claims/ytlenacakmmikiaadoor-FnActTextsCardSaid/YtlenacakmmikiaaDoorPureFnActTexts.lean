/- The law of the acts' texts, on the plain side: what is written for an act is read as that act. -/
import Derived.Test.YtlenacakmmikiaaDoorTold
import Derived.Test.YtlenacakmmikiaaDoorPB7
import Derived.Test.YtlenacakmmikiaaDoorPT8
namespace Go.Proofs.YtlenacakmmikiaaDoorX.Pure
open Go Go.Proofs
set_option linter.unusedVariables false
theorem word_plain {w : List UInt8} (k : Int) (h : k = 1 ∨ k = 2 ∨ k = 3 ∨ k = 4 ∨ k = 5 ∨ k = 6) : ∀ b ∈ actW k, Plain b := by
  rcases h with e | e | e | e | e | e <;> rw [e] <;> decide
theorem text_facts {a : Deed} (h : actOk a = true) : (∀ b ∈ lineW (TF a), Plain b) ∧ (lineW (TF a)).length ≤ 100 := by
  obtain ⟨nA, nB⟩ := act_num h
  have hl : ∀ x ∈ ([a.A, a.B].take (actN a.Kind)).map Lib.itoa, (∀ b ∈ x, Plain b) ∧ x.length ≤ 10 := by
    intro x hx
    obtain ⟨n, hn, rfl⟩ := List.mem_map.1 hx
    have := List.mem_of_mem_take hn
    have hN : Num n := by
      simp only [List.mem_cons, List.not_mem_nil, or_false] at this
      rcases this with e | e <;> rw [e] <;> assumption
    obtain ⟨q1, _, q3⟩ := itoa_facts n hN
    exact ⟨fun b hb => by have := q1 b hb; unfold Dig at this; unfold Plain; omega, q3⟩
  have hw := word_plain (w := []) a.Kind (act_kinds h)
  have hw2 : (actW a.Kind).length ≤ 7 := by rcases act_kinds h with e | e | e | e | e | e <;> rw [e] <;> decide
  have hc : (([a.A, a.B].take (actN a.Kind)).map Lib.itoa).length ≤ 2 := by simp; omega
  generalize hp : ([a.A, a.B].take (actN a.Kind)).map Lib.itoa = ps at hl hc
  have e : lineW (TF a) = actW a.Kind ++ (ps.map (32 :: ·)).flatten := by rw [← hp]; rfl
  rw [e]
  have p32 : Plain 32 := by decide
  match ps, hl, hc with
  | [], hl, _ => exact ⟨fun b hb => by simp at hb; exact hw b hb, by simp; omega⟩
  | [x], hl, _ =>
    have h1 := hl x (by simp)
    refine ⟨fun b hb => ?_, by simp; omega⟩
    simp at hb
    rcases hb with hb | hb | hb
    · exact hw b hb
    · rw [hb]; exact p32
    · exact h1.1 b hb
  | [x, y], hl, _ =>
    have h1 := hl x (by simp)
    have h2 := hl y (by simp)
    refine ⟨fun b hb => ?_, by simp; omega⟩
    simp at hb
    rcases hb with hb | hb | hb | hb | hb
    · exact hw b hb
    · rw [hb]; exact p32
    · exact h1.1 b hb
    · rw [hb]; exact p32
    · exact h2.1 b hb
  | x :: y :: z :: r, _, hc => simp at hc
theorem read_back (k : Nat) (hk : 601 ≤ k) {a : Deed} (h : actOk a = true) : impl_ParseAct k (bts ([32, 32] ++ lineW (TF a) ++ [32])) = some (a, true) := by
  obtain ⟨f1, f2⟩ := text_facts h
  obtain ⟨t1, t2⟩ := TF_wd h
  have hw : wds ([32, 32] ++ lineW (TF a) ++ [32]) = TF a := by
    have e1 : [32, 32] ++ lineW (TF a) ++ [32] = 32 :: 32 :: (actW a.Kind ++ ((([a.A, a.B].take (actN a.Kind)).map Lib.itoa).map (32 :: ·)).flatten ++ [32]) := rfl
    rw [e1]
    unfold wds
    rw [fw_space0, fw_space0]
    exact wds_line _ _ [32] t1 t2 (.inr rfl)
  have hl := TF_len h
  have hs : SF ([32, 32] ++ lineW (TF a) ++ [32]) = (TF a, true) := by
    unfold SF
    have p32 : Plain 32 := by decide
    have hpl : ∀ b ∈ [32, 32] ++ lineW (TF a) ++ [32], Plain b := fun b hb => by
      simp at hb
      rcases hb with hb | hb | hb
      · rw [hb]; exact p32
      · exact f1 b hb
      · rw [hb]; exact p32
    rw [hw, if_pos ⟨by simp; omega, hpl, by omega⟩]
  obtain ⟨r, e, hr⟩ := impl_ParseAct_eq k hk ([32, 32] ++ lineW (TF a) ++ [32])
  rw [e]
  rcases hr with ⟨_, hr⟩ | ⟨hr, _⟩
  · rw [hs] at hr
    rw [reads_uniq hr (.inl ⟨rfl, h, rfl⟩ : Reads (TF a) (a, true))]
  · rw [hs] at hr; cases hr
theorem texts_lp (k : Nat) (hk : 601 ≤ k) (code : List Int) (y : Bakery × List Deed) : ∀ (m : Nat) (B A : List Deed), y.2 = A ++ B → B.length ≤ m → (A ++ B).length ≤ 1000 → (∀ a ∈ B, actOk a = true) → laws_FnActTexts_l0 k m code y (A.length : Int) = some true := by
  intro m
  induction m with
  | zero =>
    intro B A e h1 _ _
    have hB : B = [] := List.eq_nil_of_length_eq_zero (by omega)
    subst hB
    unfold laws_FnActTexts_l0 laws_FnActTexts_s0
    rw [e, lt_end]; rfl
  | succ m ih =>
    intro B A e h1 h2 hf
    cases B with
    | nil =>
      unfold laws_FnActTexts_l0 laws_FnActTexts_s0
      rw [e, lt_end]; rfl
    | cons a B =>
      have ha := hf a (by simp)
      obtain ⟨f1, f2⟩ := text_facts ha
      simp only [List.length_append, List.length_cons] at h1 h2
      unfold laws_FnActTexts_l0 laws_FnActTexts_s0
      rw [e, lt_mid, getD_mid, impl_FormatAct_is k (by omega) a]
      simp only [if_pos ((g_mid A a B).mpr trivial)]
      have hfm : fmtA a = (bts (lineW (TF a)), true) := by unfold fmtA; rw [if_pos ha]
      have e1 : (ByteArray.mk #[32, 32] : ByteArray) = bts [32, 32] := rfl
      have e2 : (ByteArray.mk #[32] : ByteArray) = bts [32] := rfl
      rw [hfm, Option.bind_some, e1, e2, cond_true]
      simp only
      rw [bts_app, bts_app, if_pos (by rw [bts_size, bts_size]; simp; omega), if_pos (by rw [bts_size, bts_size]; simp; omega), read_back k hk ha, Option.bind_some]
      simp only [Bool.not_true, cond_false, decide_true, Bool.and_self]
      rw [wr_suc A a (by omega)]
      exact ih B (A ++ [a]) (by rw [e]; simp) (by omega) (by simp; omega) (fun x hx => hf x (by simp [hx]))
theorem FnActTexts (y0 : (List Int)) (h0 : (OkL U8) y0) : ∃ k, laws_FnActTexts k y0 = some true := by
  obtain ⟨k, hk⟩ : ∃ k : Nat, k = 9100 := ⟨_, rfl⟩
  refine ⟨k, ?_⟩
  unfold laws_FnActTexts laws_FnActTexts_m laws_big
  simp only [Option.bind_some]
  by_cases hbig : (1048576 : Int) < (y0.length : Int)
  · rw [decide_eq_true hbig]; rfl
  rw [decide_eq_false hbig]
  simp only [cond_false]
  obtain ⟨b, l, e, hS, hl, hf⟩ := DrawActs_eq k (by omega) y0 (by omega)
  rw [e]
  simp only [Option.bind_some]
  exact texts_lp k (by omega) y0 (b, l) k l [] rfl (by omega) (by simp; omega) (fun a ha => (hf a ha).2.2.2.2.2)
end Go.Proofs.YtlenacakmmikiaaDoorX.Pure
