/- The law of the scripts, on the plain side: a script has the result of its acts. -/
import Derived.Test.YtlenacakmmikiaaGreatDoorTold
import Derived.Test.YtlenacakmmikiaaGreatDoorPT
import Derived.Test.YtlenacakmmikiaaGreatDoorPB
namespace Go.Proofs.YtlenacakmmikiaaGreatDoorX.Pure
open Go Go.Proofs
set_option linter.unusedVariables false
theorem sameT_lp (k : Nat) : ∀ (m : Nat) (B A : List ByteArray), B.length ≤ m → (A ++ B).length ≤ 4194304 → laws_sameTexts_l0 k m (A ++ B) (A ++ B) (A.length : Int) = some true
  | 0, [], A, _, _ => by simp only [laws_sameTexts_l0, laws_sameTexts_s0, lt_end, cond_false]
  | m + 1, [], A, _, _ => by simp only [laws_sameTexts_l0, laws_sameTexts_s0, lt_end, cond_false]
  | m + 1, b :: B, A, h1, h2 => by
    have ih := sameT_lp k m B (A ++ [b]) (by simp at h1; omega) (by simpa using h2)
    simp only [laws_sameTexts_l0, laws_sameTexts_s0, lt_mid, cond_true, g_mid, if_true, getD_mid, decide_true, Bool.not_true, cond_false]
    rw [wr_suc A b (by simp at h2; omega), app_mid A b B, ih]
theorem sameT_self (k : Nat) (l : List ByteArray) (h1 : l.length ≤ k) (h2 : l.length ≤ 4194304) : laws_sameTexts k l l = some true := by
  unfold laws_sameTexts laws_sameTexts_m
  simp only [decide_true, Bool.not_true, cond_false]
  exact sameT_lp k k l [] h1 (by simpa using h2)
theorem want_lp (k : Nat) (code : List Int) (y3 : ByteArray × Bool × List Deed) (h3 : y3.2.1 = true) (y : Bakery × List Int) (F : List ByteArray) (hF : impl_FormatBakery k y.1 = some F) (hF2 : F.length ≤ 4) (hk : 1010 ≤ k) : ∀ (m : Nat) (B A : List Int), y.2 = A ++ B → B.length ≤ m → y.2.length ≤ 1000 → (∀ n ∈ B, -1 ≤ n ∧ n ≤ 1000000) →
    laws_FnScripts_l0 k m code y3 (y.2.map itoaB ++ F, true) y (A.length : Int) (A.map itoaB) = some true := by
  have fin : ∀ J (A : List Int), y.2 = A → A.length ≤ 1000 → laws_FnScripts_s0 k code y3 (y.2.map itoaB ++ F, true) y J (A.length : Int) (A.map itoaB) = some true := by
    intro J A e hA
    unfold laws_FnScripts_s0
    rw [e, decide_eq_false (by omega), cond_false, hF, Option.bind_some, if_pos (by rw [List.length_map]; unfold maxRow; omega), h3, cond_true]
    simp only [cond_true]
    rw [sameT_self k _ (by simp; omega) (by simp; omega)]; rfl
  intro m
  induction m with
  | zero =>
    intro B A e h1 h2 _
    have hB : B = [] := List.eq_nil_of_length_eq_zero (by omega)
    subst hB
    rw [List.append_nil] at e
    unfold laws_FnScripts_l0
    exact fin _ A e (by rw [← e]; exact h2)
  | succ m ih =>
    intro B A e h1 h2 hn
    cases B with
    | nil =>
      rw [List.append_nil] at e
      unfold laws_FnScripts_l0
      exact fin _ A e (by rw [← e]; exact h2)
    | cons x B =>
      have h2' : (A ++ x :: B).length ≤ 1000 := by rw [← e]; exact h2
      simp only [List.length_append, List.length_cons] at h1 h2'
      have hlt : (A.length : Int) < (y.2.length : Int) := by rw [e]; simp; omega
      have hgx : y.2.getD (Int.toNat (A.length : Int)) 0 = x := by rw [e]; exact getD_mid A x B 0
      unfold laws_FnScripts_l0 laws_FnScripts_s0
      rw [decide_eq_true hlt, cond_true, if_pos ⟨by omega, hlt⟩, hgx, impl_FormatInt_all k x (hn x (by simp)), Option.bind_some, if_pos (by rw [List.length_map]; unfold maxRow; simp; omega), wr_suc A x (by omega)]
      have em : A.map itoaB ++ [itoaB x] = (A ++ [x]).map itoaB := by simp
      rw [em]
      exact ih B (A ++ [x]) (by rw [e]; simp) (by omega) h2 (fun n hn' => hn n (by simp [hn']))
theorem scr_text : ∀ (acts : List Deed) (acc : List UInt8), (∀ a ∈ acts, actOk a = true) → scr acts acc = (bts (acc ++ textOf acts), true) := by
  intro acts
  induction acts with
  | nil => intro acc _; simp [scr, textOf]
  | cons a r ih =>
    intro acc h
    show (if actOk a = true then scr r (acc ++ (lineW (TF a) ++ [10])) else (bts [], false)) = _
    rw [if_pos (h a (by simp)), ih _ (fun b hb => h b (by simp [hb]))]
    simp [textOf]
theorem FnScripts (y0 : (List Int)) (h0 : (OkL U8) y0) : ∃ k, laws_FnScripts k y0 = some true := by
  obtain ⟨k, hk⟩ : ∃ k : Nat, k = 20200 := ⟨_, rfl⟩
  refine ⟨k, ?_⟩
  unfold laws_FnScripts laws_FnScripts_m laws_big
  simp only [Option.bind_some]
  by_cases hbig : (1048576 : Int) < (y0.length : Int)
  · rw [decide_eq_true hbig]; rfl
  rw [decide_eq_false hbig]
  simp only [cond_false]
  obtain ⟨b, l, e, hS, hl, hf⟩ := DrawActs_eq k (by omega) y0 (by omega)
  have hok : ∀ a ∈ l, actOk a = true := fun a ha => (hf a ha).2.2.2.2.2
  rw [e]
  simp only [Option.bind_some]
  rw [impl_ScriptText_eq k (by omega) l, if_neg (by omega), scr_text l [] hok, List.nil_append]
  simp only [Option.bind_some]
  obtain ⟨s, e3, ho, hle, hg, he, hn⟩ := runActs_standN k (by omega) sampleB l sampleB_ok rfl (by simp [sampleB]) (by omega)
  have he' : s.1.Book.Events.length ≤ l.length := by simpa [sampleB] using he
  have f1 := impl_FormatBakery_eq k (by omega) s.1 (by omega) (by omega) (by omega) (by omega)
  rw [ho] at f1
  have hF : (linesB s.1).length = 4 := rfl
  have hrun : impl_RunScript k (bts (textOf l)) = some (s.2.map itoaB ++ linesB s.1, true) := by
    rw [run_text k (by omega) l hok (by omega)]
    unfold tailI
    rw [decide_eq_false (by omega), cond_false, impl_SampleBakery_eq k (by omega), Option.bind_some, e3, Option.bind_some]
    exact impl_nums_lp k s _ f1 (by show (linesB s.1).length ≤ 4; omega) k s.2 [] rfl (by omega) (by omega) hn
  rw [hrun, impl_SampleBakery_eq k (by omega)]
  simp only [Option.bind_some]
  rw [e3]
  simp only [Option.bind_some]
  exact want_lp k y0 (bts (textOf l), true, l) rfl s (linesB s.1) f1 (by omega) (by omega) k s.2 [] rfl (by omega) (by omega) hn
end Go.Proofs.YtlenacakmmikiaaGreatDoorX.Pure
