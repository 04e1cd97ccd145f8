/- What FnExactStoreOk computes answers as the law says: over numbers and lists alone; there are no conditions but those of the statement. -/
import Derived.Test.YthbokfmmebhhdaaP1
import Derived.Test.YthbokfmmebhhdaaP2
import Derived.Test.YthbokfmmebhhdaaP4
import Derived.Test.YthbokfmmebhhdaaP5
import Derived.Test.YthbokfmmebhhdaaP6
import Derived.Test.YthbokfmmebhhdaaP26
namespace Go.Proofs.Ythbokfmmebhhdaa.Pure
open Go.RowKit Go.Proofs.Ythbokfmmebhhdaa.P Go.Proofs.YthbokfmmebhhdaaW.PrintWords Go.Proofs.YthbokfmmebhhdaaW.PrintLast Go.Proofs.YthbokfmmebhhdaaW.PrintMore
set_option linter.unusedVariables false
set_option linter.unusedSimpArgs false
theorem w64 {x : Int} (h0 : -9223372036854775808 ≤ x) (h1 : x ≤ 9223372036854775807) : wrap64 x = x := by
  unfold wrap64
  omega
theorem down {Q : Nat → Prop} (n : Nat) (fin : Q n) (step : ∀ j, j < n → Q (j + 1) → Q j) : ∀ j, j ≤ n → Q j := by
  intro j hj
  obtain ⟨d, hd⟩ : ∃ d, j + d = n := ⟨n - j, by omega⟩
  clear hj
  induction d generalizing j with
  | zero => have : j = n := by omega
            rw [this]; exact fin
  | succ d ih => exact step j (by omega) (ih (j + 1) (by omega))
theorem wsucc (j : Nat) (h : j < 9223372036854775807) : wrap64 ((j : Int) + 1) = ((j + 1 : Nat) : Int) := by
  rw [w64 (by omega) (by omega)]; omega
theorem rd_nat (l : List Int) (j : Nat) (h : j < l.length) : rd l (j : Int) = l[j] := by
  unfold rd; rw [Int.toNat_natCast, List.getD_eq_getElem?_getD, List.getElem?_eq_getElem h]; rfl
theorem rd_lit (l : List Int) (i : Int) : rd l i = l.getD i.toNat 0 := rfl
theorem all_drop_cons {α : Type} (p : α → Bool) (l : List α) (j : Nat) (h : j < l.length) : (l.drop j).all p = (p l[j] && (l.drop (j + 1)).all p) := by
  rw [List.drop_eq_getElem_cons h, List.all_cons]
theorem all_drop_len {α : Type} (p : α → Bool) (l : List α) : (l.drop l.length).all p = true := by simp
theorem ev_some {α : Type} (r : α) : Ev (fun _ => some r) r := Ev.now r
theorem ev_pt {α : Type} {g : Option α} {r : α} (h : g = some r) : Ev (fun _ => g) r := ⟨0, fun _ _ => h⟩
theorem ev_eq {α : Type} {g : Nat → Option α} {r r' : α} (h : Ev g r) (e : r = r') : Ev g r' := e ▸ h
def inR (lo hi n : Int) : Bool := decide (lo ≤ n ∧ n ≤ hi)
theorem l01In_eq (a b c : Int) : spec_l01In.f a b c = some (inR b c a) := by
  unfold spec_l01In.f inR
  by_cases h : b ≤ a
  · rw [if_pos h]; simp [h]
  · rw [if_neg h]; simp [h]
theorem allIn_eq (l : List Int) (a b : Int) : impl_allIn.f l a b = some (l.all (inR a b)) := rfl
theorem inR_iff {lo hi n : Int} : inR lo hi n = true ↔ lo ≤ n ∧ n ≤ hi := by unfold inR; simp
def slipOk (s p g : Int) : Bool := inR 0 100000 s && (inR 0 100000 p && (inR 0 100000 g && (p - g == s)))
theorem l35Range_eq (a : Int) : spec_l35Range.f a = some (inR 0 100000 a) := by
  unfold spec_l35Range.f; rw [l01In_eq]; rfl
theorem spec_SlipOk_eq (s p g : Int) : spec_SlipOk.f s p g = some (slipOk s p g) := by
  unfold spec_SlipOk.f slipOk
  simp only [l35Range_eq, Option.bind_some]
  cases h1 : inR 0 100000 s <;> cases h2 : inR 0 100000 p <;> cases h3 : inR 0 100000 g <;> simp
  have a := inR_iff.1 h2
  have b := inR_iff.1 h3
  rw [w64 (by omega) (by omega)]
theorem impl_SlipOk_eq (s p g : Int) : impl_SlipOk.f s p g = some (slipOk s p g) := by
  unfold impl_SlipOk.f impl_Slip_inRange.f slipOk
  rw [allIn_eq]
  simp only [Option.bind_some, List.all_cons, List.all_nil, Bool.and_true]
  cases h1 : inR 0 100000 s <;> cases h2 : inR 0 100000 p <;> cases h3 : inR 0 100000 g <;> simp
  have a := inR_iff.1 h2
  have b := inR_iff.1 h3
  rw [w64 (by omega) (by omega)]
def storeOk (l : List Int) : Bool := (l.length == 4) && l.all (inR 0 1000000)
theorem impl_StoreOk_eq (l : List Int) : impl_StoreOk.f l = some (storeOk l) := by
  unfold impl_StoreOk.f storeOk
  rw [allIn_eq, Option.bind_some]
  by_cases h : l.length = 4
  · rw [if_pos (by omega)]; simp [h]
  · rw [if_neg (by omega)]; simp [h]
theorem spec_StoreOk_ev (l : List Int) (hl : l.length ≤ 1048576) : Ev (fun k => spec_StoreOk.f k l) (storeOk l) := by
  unfold spec_StoreOk.f
  have key : ∀ j, j ≤ l.length → Ev (fun k => spec_StoreOk.l0 k (j : Int) l) ((l.length == 4) && (l.drop j).all (inR 0 1000000)) := by
    refine down l.length ?_ ?_
    · refine Ev.step (f := fun _ => _) (fun k => ?_) (ev_some _)
      simp only [spec_StoreOk.l0]
      rw [if_neg (by omega)]
      simp only [List.drop_length, List.all_nil, Bool.and_true]
      have e : ((l.length : Int) == 4) = (l.length == 4) := by rw [Bool.eq_iff_iff, beq_iff_eq, beq_iff_eq]; omega
      rw [e]
    · intro j hj ih
      rw [all_drop_cons _ l j hj]
      cases hq : inR 0 1000000 l[j] with
      | true =>
        rw [Bool.true_and]
        refine Ev.step (fun k => ?_) ih
        simp only [spec_StoreOk.l0]
        rw [if_pos (by omega), if_pos (by omega), rd_nat l j hj, l01In_eq, hq, Option.bind_some, if_pos rfl, wsucc j (by omega)]
      | false =>
        rw [Bool.false_and, Bool.and_false]
        refine Ev.step (f := fun _ => some false) (fun k => ?_) (Ev.now _)
        simp only [spec_StoreOk.l0]
        rw [if_pos (by omega), if_pos (by omega), rd_nat l j hj, l01In_eq, hq, Option.bind_some, if_neg (by decide)]
  have := key 0 (Nat.zero_le _)
  simpa [storeOk] using this
theorem szIntS_eq (l : List Int) (a : Int) (h0 : -1 ≤ a) (h1 : a ≤ 1048576) (hl : l.length ≤ 9223372036854775807) : laws_szIntS.f l a = some (if a < l.length then -1 else a - l.length) := by
  unfold laws_szIntS.f
  rw [w64 (by omega) (by omega)]
  by_cases h : a < l.length
  · rw [if_pos (by omega), if_pos h]
  · rw [if_neg (by omega), if_neg h]
theorem set_take_drop {α : Type} (l : List α) (j : Nat) (hj : j < l.length) (z : List α) (hz : z.length = l.length) : (l.take j ++ z.drop j).set j l[j] = l.take (j + 1) ++ z.drop (j + 1) := by
  have h1 : (l.take j).length = j := by rw [List.length_take]; omega
  rw [List.set_append_right _ _ (by omega), h1, Nat.sub_self, List.drop_eq_getElem_cons (by omega : j < z.length), List.set_cons_zero, List.take_succ_eq_append_getElem hj, List.append_assoc]
  rfl
theorem toIntS_ev (l : List Int) (hl : l.length ≤ 1048576) : Ev (fun k => laws_toIntS.f k l) l := by
  unfold laws_toIntS.f
  simp only [if_pos (show (0 : Int) ≤ (l.length : Int) by omega), if_pos (show ((l.length : Int)).toNat ≤ 35184372088832 by omega)]
  have key : ∀ j, j ≤ l.length → Ev (fun k => laws_toIntS.l0 k l (l.take j ++ (List.replicate l.length 0).drop j) (j : Int)) l := by
    refine down l.length ?_ ?_
    · refine Ev.step (f := fun _ => some l) (fun k => ?_) (Ev.now _)
      simp only [laws_toIntS.l0]
      rw [if_neg (by omega)]; simp
    · intro j hj ih
      refine Ev.step (fun k => ?_) ih
      simp only [laws_toIntS.l0]
      rw [if_pos (by omega), if_pos (by omega), if_pos (by simp; omega), wsucc j (by omega), rd_nat l j hj, Int.toNat_natCast, set_take_drop l j hj _ (by simp)]
  have := key 0 (Nat.zero_le _)
  simpa using this
theorem eqIntS_refl (l : List Int) (hl : l.length ≤ 9223372036854775807) : Ev (fun k => laws_eqIntS.f k l l) true := by
  unfold laws_eqIntS.f
  simp only [if_true]
  have key : ∀ j, j ≤ l.length → Ev (fun k => laws_eqIntS.l0 k l l (j : Int)) true := by
    refine down l.length ?_ ?_
    · refine Ev.step (f := fun _ => some true) (fun k => ?_) (Ev.now _)
      simp only [laws_eqIntS.l0]
      rw [if_neg (by omega)]
    · intro j hj ih
      refine Ev.step (fun k => ?_) ih
      simp only [laws_eqIntS.l0]
      rw [if_pos (by omega), if_pos (by omega), if_pos (by omega), if_true, wsucc j (by omega)]
  exact key 0 (Nat.zero_le _)
theorem szStock_eq (l : List Int) (a : Int) (h0 : -1 ≤ a) (h1 : a ≤ 1048576) (hl : l.length ≤ 9223372036854775807) : laws_szStock.f l a = some (if a < l.length then -1 else a - l.length) := by
  unfold laws_szStock.f
  rw [szIntS_eq l a h0 h1 hl, Option.bind_some]
  by_cases h : a < l.length
  · rw [if_pos h]; simp
  · rw [if_neg h, if_neg (by omega)]
theorem toStock_ev (l : List Int) (hl : l.length ≤ 1048576) : Ev (fun k => laws_toStock.f k l) l := by
  unfold laws_toStock.f
  exact Ev.bind (toIntS_ev l hl) (Ev.now _)
theorem eqStock_refl (l : List Int) (hl : l.length ≤ 9223372036854775807) : Ev (fun k => laws_eqStock.f k l l) true := by
  unfold laws_eqStock.f
  refine Ev.bind (eqIntS_refl l hl) ?_
  simp only [if_true]
  exact Ev.now _
theorem FnExactStoreOk : laws_FnExactStoreOk.Pure := by
  intro l h
  have hm : l.length ≤ 9223372036854775807 := h.1
  refine Ev.rounds (g := fun k => laws_FnExactStoreOk.f k l) ?_
  unfold laws_FnExactStoreOk.f
  simp only [szStock_eq l 1048576 (by omega) (by omega) hm, Option.bind_some]
  by_cases hs : (1048576 : Int) < l.length
  · simp only [if_pos hs]; simpa using Ev.now true
  · simp only [if_neg hs, if_neg (show ¬ ((1048576 : Int) - l.length < 0) by omega)]
    have hl : l.length ≤ 1048576 := by omega
    refine Ev.bind (toStock_ev l hl) ?_
    refine Ev.bind (spec_StoreOk_ev l hl) ?_
    refine Ev.bind (toStock_ev l hl) ?_
    simp only [impl_StoreOk_eq, Option.bind_some, bne_self_eq_false, Bool.false_eq_true, if_false]
    refine Ev.bind (toStock_ev l hl) ?_
    refine Ev.bind (eqStock_refl l hm) ?_
    simp only [if_true]
    exact Ev.now _
end Go.Proofs.Ythbokfmmebhhdaa.Pure
