/- The law FormatAct on the plain side: whatever the act, the law's function answers true. -/
import Derived.Test.YtfbnbdcjnbgibaaDoorTold
import Derived.Test.YtfbnbdcjnbgibaaDoorPA1
import Derived.Test.YtfbnbdcjnbgibaaDoorPT0
namespace Go.Proofs.YtfbnbdcjnbgibaaDoorX
open Go Go.Proofs
theorem formatAct_lp (k : Nat) (hk : 20 ≤ k) (a : Deed) (w : List UInt8) (N : Nat) (hN : ([0, 1, 1, 1, 0, 2, 1] : List Int).getD (Int.toNat a.Kind) 0 = (N : Int)) (hN2 : N ≤ 2) (hA : Inr a.A) (hB : Inr a.B) (hw : w.length ≤ 100) :
    ∀ (m : Nat) (i : Nat), N ≤ i + m → i ≤ N → spec_FormatAct_l0 k m a (bts (lineL w ([a.A, a.B].take i))) (i : Int) = some (bts (lineL w ([a.A, a.B].take N)), true) := by
  have key : ∀ i : Nat, i < 2 → Inr ([a.A, a.B].getD i 0) := fun i hi => by
    have : i = 0 ∨ i = 1 := by omega
    rcases this with h | h <;> subst h
    · exact hA
    · exact hB
  intro m
  induction m with
  | zero =>
    intro i h1 h2
    have : i = N := by omega
    subst this
    unfold spec_FormatAct_l0 spec_FormatAct_s0
    rw [hN, decide_eq_false (by omega)]; rfl
  | succ m ih =>
    intro i h1 h2
    unfold spec_FormatAct_l0 spec_FormatAct_s0
    rw [hN]
    by_cases h : i < N
    · have hi := key i (by omega)
      have hlen : (lineL w ([a.A, a.B].take i)).length ≤ 100 + 44 := by
        have := lineL_len w ([a.A, a.B].take i) (fun n hn => by
          have := List.mem_of_mem_take hn
          simp only [List.mem_cons, List.not_mem_nil, or_false] at this
          rcases this with e | e <;> rw [e] <;> assumption)
        have : ([a.A, a.B].take i).length ≤ 2 := by simp; omega
        omega
      have hil := itoa_len hi
      rw [decide_eq_true (by omega)]
      simp only [cond_true]
      have e32 : (ByteArray.mk #[32]) = bts [32] := rfl
      rw [e32, bts_app, if_pos (by simp only [bts_size, List.length_append, List.length_singleton]; omega), if_pos ⟨by omega, by simp; omega⟩, Int.toNat_natCast, spec_FormatInt_eq k hk _ hi]
      simp only [Option.bind_some]
      unfold itoaB
      rw [bts_app, if_pos (by simp only [bts_size, List.length_append, List.length_singleton]; omega), wr_id (by omega) (by omega)]
      have := ih (i + 1) (by omega) (by omega)
      refine Eq.trans ?_ this
      congr 1
      · have : i = 0 ∨ i = 1 := by omega
        rcases this with e | e <;> subst e <;> simp [lineL]
    · have : i = N := by omega
      subst this
      rw [decide_eq_false (by omega)]; rfl
namespace Pure
theorem formatAct_eq (k : Nat) (hk : 30 ≤ k) (a : Deed) : ∃ r, spec_FormatAct k a = some r ∧ impl_FormatAct k a = some r := by
  unfold spec_FormatAct impl_FormatAct spec_FormatAct_m
  rw [spec_ActOk_eq, impl_ActOk_eq]
  simp only [Option.bind_some]
  cases ha : actOk a
  · exact ⟨(ByteArray.mk #[], false), rfl, rfl⟩
  simp only [Bool.not_true, cond_false]
  have hAB : Inr a.A ∧ Inr a.B := by
    unfold Inr
    unfold actOk at ha
    by_cases k1 : a.Kind = 1
    · simp [k1, inR] at ha; omega
    by_cases k2 : a.Kind = 2
    · simp [k2, inR] at ha; omega
    by_cases k3 : a.Kind = 3
    · simp [k3, inR] at ha; omega
    by_cases k6 : a.Kind = 6
    · simp [k6, inR] at ha; omega
    by_cases k4 : a.Kind = 4
    · simp [k4] at ha; omega
    by_cases k5 : a.Kind = 5
    · simp [k5, inR] at ha; omega
    · simp [k1, k2, k3, k4, k5, k6] at ha
  have hkd : a.Kind = 1 ∨ a.Kind = 2 ∨ a.Kind = 3 ∨ a.Kind = 4 ∨ a.Kind = 5 ∨ a.Kind = 6 := by
    by_cases k1 : a.Kind = 1
    · exact .inl k1
    by_cases k2 : a.Kind = 2
    · exact .inr (.inl k2)
    by_cases k3 : a.Kind = 3
    · exact .inr (.inr (.inl k3))
    by_cases k4 : a.Kind = 4
    · exact .inr (.inr (.inr (.inl k4)))
    by_cases k5 : a.Kind = 5
    · exact .inr (.inr (.inr (.inr (.inl k5))))
    · exact .inr (.inr (.inr (.inr (.inr (actOk_kind ha k1 k2 k3 k4 k5)))))
  have go : ∀ (w : List UInt8) (N : Nat), w.length ≤ 100 → N ≤ 2 → ([0, 1, 1, 1, 0, 2, 1] : List Int).getD (Int.toNat a.Kind) 0 = (N : Int) →
      spec_FormatAct_l0 k k a (bts w) 0 = some (bts (lineL w ([a.A, a.B].take N)), true) ∧ ((impl_told k (bts w) ([a.A, a.B].take N)).bind fun y4 => some (y4, true)) = some (bts (lineL w ([a.A, a.B].take N)), true) := by
    intro w N hw hN2 hN
    refine ⟨?_, ?_⟩
    · have := formatAct_lp k (by omega) a w N hN hN2 hAB.1 hAB.2 hw k 0 (by omega) (by omega)
      have e0 : lineL w ([a.A, a.B].take 0) = w := by simp [lineL]
      rw [e0] at this
      exact this
    · rw [impl_told_eq k w _ hw (by simp; omega) (by simp; omega) (fun n hn => by
        have := List.mem_of_mem_take hn
        simp only [List.mem_cons, List.not_mem_nil, or_false] at this
        rcases this with e | e <;> rw [e]
        · exact hAB.1
        · exact hAB.2)]
      rfl
  unfold impl_actWords impl_actNumbers
  simp only [Option.bind_some]
  rcases hkd with e | e | e | e | e | e
  · obtain ⟨g1, g2⟩ := go [98, 97, 107, 101] 1 (by decide) (by decide) (by rw [e]; rfl)
    rw [e]
    exact ⟨_, g1, g2⟩
  · obtain ⟨g1, g2⟩ := go [115, 101, 108, 108] 1 (by decide) (by decide) (by rw [e]; rfl)
    rw [e]
    exact ⟨_, g1, g2⟩
  · obtain ⟨g1, g2⟩ := go [99, 104, 101, 97, 112] 1 (by decide) (by decide) (by rw [e]; rfl)
    rw [e]
    exact ⟨_, g1, g2⟩
  · obtain ⟨g1, g2⟩ := go [109, 111, 114, 110, 105, 110, 103] 0 (by decide) (by decide) (by rw [e]; rfl)
    rw [e]
    exact ⟨_, g1, g2⟩
  · obtain ⟨g1, g2⟩ := go [98, 117, 121] 2 (by decide) (by decide) (by rw [e]; rfl)
    rw [e]
    exact ⟨_, g1, g2⟩
  · obtain ⟨g1, g2⟩ := go [102, 108, 111, 117, 114] 1 (by decide) (by decide) (by rw [e]; rfl)
    rw [e]
    exact ⟨_, g1, g2⟩
theorem FnExactFormatAct (y0 : Deed) (h0 : OkDeed y0) : ∃ k, laws_FnExactFormatAct k y0 = some true := by
  refine ⟨100, ?_⟩
  obtain ⟨r, e1, e2⟩ := formatAct_eq 100 (by decide) y0
  unfold laws_FnExactFormatAct
  have ta := laws_toAct_eq 100 y0
  simp only [ta, Option.bind_some, e1, e2, decide_true, Bool.not_true, cond_false, beq_self_eq_true]
end Pure
end Go.Proofs.YtfbnbdcjnbgibaaDoorX
