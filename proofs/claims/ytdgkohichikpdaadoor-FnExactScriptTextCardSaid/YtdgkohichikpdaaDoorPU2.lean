/- Scripts written: what both programs write for acts. -/
import Derived.Test.YtdgkohichikpdaaDoorPF0
import Derived.Test.YtdgkohichikpdaaDoorPF1
namespace Go.Proofs.YtdgkohichikpdaaDoorX
open Go Go.Proofs
set_option linter.unusedVariables false
theorem data_bts' (l : List UInt8) : (bts l).data.toList = l := by simp [bts]
/-- What is written for acts, behind what is written already. -/
def scr : List Deed → List UInt8 → ByteArray × Bool
  | [], acc => (bts acc, true)
  | a :: r, acc => if actOk a = true then scr r (acc ++ (lineW (TF a) ++ [10])) else (bts [], false)
theorem scrD_eq (k : Nat) (hk : 30 ≤ k) : ∀ (acts : List Deed) (acc : List UInt8), acc.length + 101 * acts.length ≤ 1000000000 → scrD k acts acc = some (scr acts acc) := by
  intro acts
  induction acts with
  | nil => intro acc _; rfl
  | cons a r ih =>
    intro acc h
    show ((impl_FormatAct k a).bind fun y => cond y.2 (if acc.length + y.1.size + 1 ≤ 1000000000 then scrD k r (acc ++ (y.1.data.toList ++ [10])) else none) (some (ByteArray.mk #[], false))) = some (if actOk a = true then scr r (acc ++ (lineW (TF a) ++ [10])) else (bts [], false))
    rw [impl_FormatAct_is k hk a, Option.bind_some]
    simp only [List.length_cons] at h
    unfold fmtA
    by_cases ha : actOk a = true
    · have hl := (text_facts ha).2
      rw [if_pos ha, if_pos ha]
      simp only [cond_true]
      rw [bts_size, if_pos (by omega), data_bts']
      exact ih _ (by simp; omega)
    · rw [if_neg ha, if_neg ha]; rfl
theorem impl_ScriptText_eq (k : Nat) (hk : 30 ≤ k) (acts : List Deed) : impl_ScriptText k acts = some (if (40 : Int) < (acts.length : Int) then (bts [], false, acts) else ((scr acts []).1, (scr acts []).2, acts)) := by
  unfold impl_ScriptText scrT
  by_cases h : (40 : Int) < (acts.length : Int)
  · rw [if_pos h, if_pos h]; rfl
  · rw [if_neg h, if_neg h, scrD_eq k hk acts [] (by simp; omega)]; rfl
def ints (c : List UInt8) : List Int := c.map fun b => (b.toNat : Int)
theorem push_bts (d : List UInt8) (b : UInt8) : (bts d).push b = bts (d ++ [b]) := by
  apply ByteArray.ext
  simp [bts, ByteArray.push]
theorem strOf_ints (c : List UInt8) : strOf (ints c) = bts c := by
  have : ∀ (c d : List UInt8), (ints c).foldl (fun r n => r.push (UInt8.ofNat n.toNat)) (bts d) = bts (d ++ c) := by
    intro c
    induction c with
    | nil => intro d; simp [ints]
    | cons b c ih =>
      intro d
      show (ints c).foldl _ ((bts d).push (UInt8.ofNat ((b.toNat : Int)).toNat)) = _
      rw [Int.toNat_natCast, UInt8.ofNat_toNat, push_bts, ih]
      simp
  have := this c []
  rw [List.nil_append] at this
  exact this
theorem bytesOf_bts (u : List UInt8) : bytesOf (bts u) = ints u := by unfold bytesOf ints; rw [data_bts']
theorem spec_scr_lp (k : Nat) (hk : 30 ≤ k) : ∀ (m : Nat) (B A : List Deed) (acc : List UInt8), B.length ≤ m → (A ++ B).length ≤ 40 → acc.length ≤ 101 * A.length → spec_ScriptText_l0 k m (A ++ B) (A.length : Int) (ints acc) = some (scr B acc) := by
  intro m
  induction m with
  | zero =>
    intro B A acc h1 _ _
    have hB : B = [] := List.eq_nil_of_length_eq_zero (by omega)
    subst hB
    unfold spec_ScriptText_l0 spec_ScriptText_s0
    rw [lt_end, cond_false, strOf_ints]; rfl
  | succ m ih =>
    intro B A acc h1 h2 h3
    cases B with
    | nil =>
      unfold spec_ScriptText_l0 spec_ScriptText_s0
      rw [lt_end, cond_false, strOf_ints]; rfl
    | cons a B =>
      simp only [List.length_append, List.length_cons] at h1 h2
      unfold spec_ScriptText_l0 spec_ScriptText_s0
      rw [lt_mid, if_pos ((g_mid A a B).mpr trivial), getD_mid, spec_FormatAct_is k hk a, cond_true, Option.bind_some]
      show _ = some (if actOk a = true then scr B (acc ++ (lineW (TF a) ++ [10])) else (bts [], false))
      unfold fmtA
      by_cases ha : actOk a = true
      · have hl := (text_facts ha).2
        rw [if_pos ha, if_pos ha]
        have e10 : (ByteArray.mk #[10] : ByteArray) = bts [10] := rfl
        simp only [Bool.not_true, cond_false]
        rw [decide_eq_false (by simp; omega), cond_false, e10, bts_app, bytesOf_bts, if_pos (by rw [bts_size, bts_size]; simp; omega), if_pos (by unfold maxRow ints; simp; omega), wr_suc A a (by omega), app_mid A a B]
        have em : ints acc ++ ints (lineW (TF a) ++ [10]) = ints (acc ++ (lineW (TF a) ++ [10])) := by simp [ints]
        rw [em]
        exact ih B (A ++ [a]) _ (by omega) (by simp; omega) (by simp; omega)
      · rw [if_neg ha, if_neg ha]; rfl
theorem spec_ScriptText_eq (k : Nat) (hk : 40 ≤ k) (acts : List Deed) : spec_ScriptText k acts = some (if (40 : Int) < (acts.length : Int) then (bts [], false) else scr acts []) := by
  unfold spec_ScriptText spec_ScriptText_m
  by_cases h : (40 : Int) < (acts.length : Int)
  · rw [if_pos h]
    obtain ⟨m, rfl⟩ : ∃ m, k = m + 1 := ⟨k - 1, by omega⟩
    cases acts with
    | nil => simp at h
    | cons a r =>
      show spec_ScriptText_s0 (m + 1) (a :: r) (spec_ScriptText_l0 (m + 1) m (a :: r)) 0 [] = _
      unfold spec_ScriptText_s0
      have e0 : (a :: r).getD (Int.toNat 0) dk_impl_Act = a := rfl
      rw [decide_eq_true (by simp), cond_true, if_pos ⟨by omega, by simp⟩, e0, spec_FormatAct_is (m + 1) (by omega) a, Option.bind_some, decide_eq_true h]
      cases (fmtA a).2 <;> rfl
  · rw [if_neg h]
    exact spec_scr_lp k (by omega) k acts [] [] (by omega) (by simp; omega) (by simp)
end Go.Proofs.YtdgkohichikpdaaDoorX
