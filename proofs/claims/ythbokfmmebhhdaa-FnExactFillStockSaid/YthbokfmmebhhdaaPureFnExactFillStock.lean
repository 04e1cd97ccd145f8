/- What FnExactFillStock computes answers as the law says: over numbers and lists alone; there are no conditions but those of the statement. -/
import Derived.Test.YthbokfmmebhhdaaP1
import Derived.Test.YthbokfmmebhhdaaP4
import Derived.Test.YthbokfmmebhhdaaP5
import Derived.Test.YthbokfmmebhhdaaP6
import Derived.Test.YthbokfmmebhhdaaP10
import Derived.Test.YthbokfmmebhhdaaP11
import Derived.Test.YthbokfmmebhhdaaP21
import Derived.Test.YthbokfmmebhhdaaP22
import Derived.Test.YthbokfmmebhhdaaP23
import Derived.Test.YthbokfmmebhhdaaP24
namespace Go.Proofs.Ythbokfmmebhhdaa.Pure
open Go.RowKit Go.Proofs.Ythbokfmmebhhdaa.P Go.Proofs.YthbokfmmebhhdaaW.PrintWords Go.Proofs.YthbokfmmebhhdaaW.PrintLast Go.Proofs.YthbokfmmebhhdaaW.PrintMore
set_option linter.unusedVariables false
set_option linter.unusedSimpArgs false
theorem w64 {x : Int} (h0 : -9223372036854775808 ≤ x) (h1 : x ≤ 9223372036854775807) : wrap64 x = x := by
  unfold wrap64
  omega
theorem down {Q : Nat → Prop} (n : Nat) (fin : Q n) (step : ∀ j, j < n → Q (j + 1) → Q j) : ∀ j, j ≤ n → Q j := by
  intro j hj
  obtain ⟨d, hd⟩ : ∃ d, j + d = n := ⟨n - j, by omega⟩
  clear hj
  induction d generalizing j with
  | zero => have : j = n := by omega
            rw [this]; exact fin
  | succ d ih => exact step j (by omega) (ih (j + 1) (by omega))
theorem wsucc (j : Nat) (h : j < 9223372036854775807) : wrap64 ((j : Int) + 1) = ((j + 1 : Nat) : Int) := by
  rw [w64 (by omega) (by omega)]; omega
theorem rd_nat (l : List Int) (j : Nat) (h : j < l.length) : rd l (j : Int) = l[j] := by
  unfold rd; rw [Int.toNat_natCast, List.getD_eq_getElem?_getD, List.getElem?_eq_getElem h]; rfl
theorem rd_lit (l : List Int) (i : Int) : rd l i = l.getD i.toNat 0 := rfl
theorem all_drop_cons {α : Type} (p : α → Bool) (l : List α) (j : Nat) (h : j < l.length) : (l.drop j).all p = (p l[j] && (l.drop (j + 1)).all p) := by
  rw [List.drop_eq_getElem_cons h, List.all_cons]
theorem all_drop_len {α : Type} (p : α → Bool) (l : List α) : (l.drop l.length).all p = true := by simp
theorem ev_some {α : Type} (r : α) : Ev (fun _ => some r) r := Ev.now r
theorem ev_pt {α : Type} {g : Option α} {r : α} (h : g = some r) : Ev (fun _ => g) r := ⟨0, fun _ _ => h⟩
theorem ev_eq {α : Type} {g : Nat → Option α} {r r' : α} (h : Ev g r) (e : r = r') : Ev g r' := e ▸ h
def inR (lo hi n : Int) : Bool := decide (lo ≤ n ∧ n ≤ hi)
theorem l01In_eq (a b c : Int) : spec_l01In.f a b c = some (inR b c a) := by
  unfold spec_l01In.f inR
  by_cases h : b ≤ a
  · rw [if_pos h]; simp [h]
  · rw [if_neg h]; simp [h]
theorem allIn_eq (l : List Int) (a b : Int) : impl_allIn.f l a b = some (l.all (inR a b)) := rfl
theorem inR_iff {lo hi n : Int} : inR lo hi n = true ↔ lo ≤ n ∧ n ≤ hi := by unfold inR; simp
def slipOk (s p g : Int) : Bool := inR 0 100000 s && (inR 0 100000 p && (inR 0 100000 g && (p - g == s)))
theorem l35Range_eq (a : Int) : spec_l35Range.f a = some (inR 0 100000 a) := by
  unfold spec_l35Range.f; rw [l01In_eq]; rfl
theorem spec_SlipOk_eq (s p g : Int) : spec_SlipOk.f s p g = some (slipOk s p g) := by
  unfold spec_SlipOk.f slipOk
  simp only [l35Range_eq, Option.bind_some]
  cases h1 : inR 0 100000 s <;> cases h2 : inR 0 100000 p <;> cases h3 : inR 0 100000 g <;> simp
  have a := inR_iff.1 h2
  have b := inR_iff.1 h3
  rw [w64 (by omega) (by omega)]
theorem impl_SlipOk_eq (s p g : Int) : impl_SlipOk.f s p g = some (slipOk s p g) := by
  unfold impl_SlipOk.f impl_Slip_inRange.f slipOk
  rw [allIn_eq]
  simp only [Option.bind_some, List.all_cons, List.all_nil, Bool.and_true]
  cases h1 : inR 0 100000 s <;> cases h2 : inR 0 100000 p <;> cases h3 : inR 0 100000 g <;> simp
  have a := inR_iff.1 h2
  have b := inR_iff.1 h3
  rw [w64 (by omega) (by omega)]
def storeOk (l : List Int) : Bool := (l.length == 4) && l.all (inR 0 1000000)
theorem impl_StoreOk_eq (l : List Int) : impl_StoreOk.f l = some (storeOk l) := by
  unfold impl_StoreOk.f storeOk
  rw [allIn_eq, Option.bind_some]
  by_cases h : l.length = 4
  · rw [if_pos (by omega)]; simp [h]
  · rw [if_neg (by omega)]; simp [h]
theorem spec_StoreOk_ev (l : List Int) (hl : l.length ≤ 1048576) : Ev (fun k => spec_StoreOk.f k l) (storeOk l) := by
  unfold spec_StoreOk.f
  have key : ∀ j, j ≤ l.length → Ev (fun k => spec_StoreOk.l0 k (j : Int) l) ((l.length == 4) && (l.drop j).all (inR 0 1000000)) := by
    refine down l.length ?_ ?_
    · refine Ev.step (f := fun _ => _) (fun k => ?_) (ev_some _)
      simp only [spec_StoreOk.l0]
      rw [if_neg (by omega)]
      simp only [List.drop_length, List.all_nil, Bool.and_true]
      have e : ((l.length : Int) == 4) = (l.length == 4) := by rw [Bool.eq_iff_iff, beq_iff_eq, beq_iff_eq]; omega
      rw [e]
    · intro j hj ih
      rw [all_drop_cons _ l j hj]
      cases hq : inR 0 1000000 l[j] with
      | true =>
        rw [Bool.true_and]
        refine Ev.step (fun k => ?_) ih
        simp only [spec_StoreOk.l0]
        rw [if_pos (by omega), if_pos (by omega), rd_nat l j hj, l01In_eq, hq, Option.bind_some, if_pos rfl, wsucc j (by omega)]
      | false =>
        rw [Bool.false_and, Bool.and_false]
        refine Ev.step (f := fun _ => some false) (fun k => ?_) (Ev.now _)
        simp only [spec_StoreOk.l0]
        rw [if_pos (by omega), if_pos (by omega), rd_nat l j hj, l01In_eq, hq, Option.bind_some, if_neg (by decide)]
  have := key 0 (Nat.zero_le _)
  simpa [storeOk] using this
theorem impl_stockCopy_eq (l : List Int) (h : l.length ≤ 2097152) : impl_stockCopy.f l = some l := by
  unfold impl_stockCopy.f
  rw [Option.bind_some, if_pos (by simp; omega)]; rfl
theorem spec_l36Copy_eq (l : List Int) (h : l.length ≤ 2097152) : spec_l36Copy.f l = some l := by
  unfold spec_l36Copy.f
  rw [Option.bind_some, if_pos (by simp; omega)]; rfl
theorem in_eq (a b c : Int) : impl_in.f a b c = some (inR b c a) := by
  unfold impl_in.f inR
  by_cases h : b ≤ a
  · rw [if_pos h]; simp [h]
  · rw [if_neg h]; simp [h]
theorem storeOk_parts {l : List Int} (h : storeOk l = true) : l.length = 4 ∧ ∀ (j : Nat) (hj : j < l.length), 0 ≤ l[j] ∧ l[j] ≤ 1000000 := by
  unfold storeOk at h
  simp only [Bool.and_eq_true, beq_iff_eq, List.all_eq_true] at h
  exact ⟨h.1, fun j hj => inR_iff.1 (h.2 _ (List.getElem_mem hj))⟩
def fillSt (l : List Int) (k g : Int) : List Int × Bool := if storeOk l = true ∧ inR 0 3 k = true ∧ inR 0 1000000 g = true ∧ rd l k + g ≤ 1000000 then (l.set k.toNat (rd l k + g), true) else (l, false)
theorem fillSt_length (l : List Int) (k g : Int) : (fillSt l k g).1.length = l.length := by unfold fillSt; split <;> simp
theorem rd_of_ok {l : List Int} (h : storeOk l = true) (k : Int) (h0 : 0 ≤ k) (h1 : k ≤ 3) : 0 ≤ rd l k ∧ rd l k ≤ 1000000 := by
  obtain ⟨hl, hp⟩ := storeOk_parts h
  obtain ⟨j, rfl⟩ := Int.eq_ofNat_of_zero_le h0
  rw [rd_nat l j (by omega)]
  exact hp j (by omega)
theorem storeOk_set {l : List Int} (h : storeOk l = true) (k x : Int) (h0 : 0 ≤ k) (h1 : k ≤ 3) : storeOk (l.set k.toNat x) = inR 0 1000000 x := by
  obtain ⟨hl, hp⟩ := storeOk_parts h
  have hk : k.toNat < l.length := by omega
  cases hq : inR 0 1000000 x with
  | true =>
    unfold storeOk
    simp only [List.length_set, hl, beq_self_eq_true, Bool.true_and, List.all_eq_true]
    intro y hy
    rcases List.mem_or_eq_of_mem_set hy with hy | rfl
    · obtain ⟨j, hj, rfl⟩ := List.getElem_of_mem hy
      exact inR_iff.2 (hp j hj)
    · exact hq
  | false =>
    cases hs : storeOk (l.set k.toNat x) with
    | false => rfl
    | true =>
      obtain ⟨_, hp2⟩ := storeOk_parts hs
      have := hp2 k.toNat (by simpa using hk)
      rw [List.getElem_set_self] at this
      rw [inR_iff.2 this] at hq
      cases hq
theorem spec_FillStock_ev (l : List Int) (k g : Int) (hl : l.length ≤ 1048576) : Ev (fun n => spec_FillStock.f n l k g) (fillSt l k g) := by
  unfold spec_FillStock.f fillSt
  simp only [spec_l36Copy_eq l (by omega), Option.bind_some]
  refine Ev.bind (spec_StoreOk_ev l hl) ?_
  simp only [l01In_eq, Option.bind_some]
  cases hs : storeOk l
  · simp only [Bool.false_eq_true, if_false, false_and]; exact Ev.now _
  · simp only [if_true]
    cases hk : inR 0 3 k
    · simp only [Bool.false_eq_true, if_false, false_and, and_false]; exact Ev.now _
    · simp only [if_true]
      cases hg : inR 0 1000000 g
      · simp only [Bool.false_eq_true, if_false, false_and, and_false]; exact Ev.now _
      · have a := inR_iff.1 hk
        have b := inR_iff.1 hg
        have hr := rd_of_ok hs k (by omega) (by omega)
        have h4 := (storeOk_parts hs).1
        simp only [if_true, true_and, if_pos (show (0 : Int) ≤ k by omega), if_pos (show k < (l.length : Int) by omega)]
        rw [w64 (by omega) (by omega)]
        by_cases hc : rd l k + g ≤ 1000000
        · simp only [if_neg (show ¬ (rd l k + g > 1000000) by omega), if_pos hc]; exact Ev.now _
        · simp only [if_pos (show (rd l k + g > 1000000) by omega), if_neg hc]; exact Ev.now _
theorem impl_FillStock_ev (l : List Int) (k g : Int) (hl : l.length ≤ 1048576) : Ev (fun n => impl_FillStock.f n l k g) (fillSt l k g) := by
  unfold impl_FillStock.f fillSt
  simp only [impl_stockCopy_eq l (by omega), impl_StoreOk_eq, in_eq, Option.bind_some]
  have no : Ev (fun n => impl_FillStock.j0 n k g true l l) (l, false) := Ev.step (f := fun _ => some (l, false)) (fun n => by simp only [impl_FillStock.j0]; rw [if_pos trivial]) (Ev.now _)
  cases hs : storeOk l
  · simp only [Bool.false_eq_true, if_false, false_and]; exact no
  · simp only [if_true]
    cases hk : inR 0 3 k
    · simp only [Bool.false_eq_true, if_false, false_and, and_false]; exact no
    · simp only [if_true]
      cases hg : inR 0 1000000 g
      · simp only [Bool.false_eq_true, if_false, false_and, and_false, Bool.not_false]; exact no
      · have a := inR_iff.1 hk
        have b := inR_iff.1 hg
        have hr := rd_of_ok hs k (by omega) (by omega)
        have h4 := (storeOk_parts hs).1
        simp only [true_and, Bool.not_true]
        refine Ev.step (f := fun _ => some (if rd l k + g ≤ 1000000 then (l.set k.toNat (rd l k + g), true) else (l, false))) (fun n => ?_) (Ev.now _)
        simp only [impl_FillStock.j0, Bool.false_eq_true, if_false]
        rw [if_pos (by omega), if_pos (by omega), w64 (by omega) (by omega), Option.bind_some, impl_StoreOk_eq, storeOk_set hs k _ (by omega) (by omega), Option.bind_some, impl_stockCopy_eq l (by omega), Option.bind_some]
        by_cases hc : rd l k + g ≤ 1000000
        · rw [if_pos (inR_iff.2 ⟨by omega, hc⟩), if_pos hc]
        · rw [if_neg (fun e => hc (inR_iff.1 e).2), if_neg hc]
theorem szIntS_eq (l : List Int) (a : Int) (h0 : -1 ≤ a) (h1 : a ≤ 1048576) (hl : l.length ≤ 9223372036854775807) : laws_szIntS.f l a = some (if a < l.length then -1 else a - l.length) := by
  unfold laws_szIntS.f
  rw [w64 (by omega) (by omega)]
  by_cases h : a < l.length
  · rw [if_pos (by omega), if_pos h]
  · rw [if_neg (by omega), if_neg h]
theorem set_take_drop {α : Type} (l : List α) (j : Nat) (hj : j < l.length) (z : List α) (hz : z.length = l.length) : (l.take j ++ z.drop j).set j l[j] = l.take (j + 1) ++ z.drop (j + 1) := by
  have h1 : (l.take j).length = j := by rw [List.length_take]; omega
  rw [List.set_append_right _ _ (by omega), h1, Nat.sub_self, List.drop_eq_getElem_cons (by omega : j < z.length), List.set_cons_zero, List.take_succ_eq_append_getElem hj, List.append_assoc]
  rfl
theorem toIntS_ev (l : List Int) (hl : l.length ≤ 1048576) : Ev (fun k => laws_toIntS.f k l) l := by
  unfold laws_toIntS.f
  simp only [if_pos (show (0 : Int) ≤ (l.length : Int) by omega), if_pos (show ((l.length : Int)).toNat ≤ 35184372088832 by omega)]
  have key : ∀ j, j ≤ l.length → Ev (fun k => laws_toIntS.l0 k l (l.take j ++ (List.replicate l.length 0).drop j) (j : Int)) l := by
    refine down l.length ?_ ?_
    · refine Ev.step (f := fun _ => some l) (fun k => ?_) (Ev.now _)
      simp only [laws_toIntS.l0]
      rw [if_neg (by omega)]; simp
    · intro j hj ih
      refine Ev.step (fun k => ?_) ih
      simp only [laws_toIntS.l0]
      rw [if_pos (by omega), if_pos (by omega), if_pos (by simp; omega), wsucc j (by omega), rd_nat l j hj, Int.toNat_natCast, set_take_drop l j hj _ (by simp)]
  have := key 0 (Nat.zero_le _)
  simpa using this
theorem eqIntS_refl (l : List Int) (hl : l.length ≤ 9223372036854775807) : Ev (fun k => laws_eqIntS.f k l l) true := by
  unfold laws_eqIntS.f
  simp only [if_true]
  have key : ∀ j, j ≤ l.length → Ev (fun k => laws_eqIntS.l0 k l l (j : Int)) true := by
    refine down l.length ?_ ?_
    · refine Ev.step (f := fun _ => some true) (fun k => ?_) (Ev.now _)
      simp only [laws_eqIntS.l0]
      rw [if_neg (by omega)]
    · intro j hj ih
      refine Ev.step (fun k => ?_) ih
      simp only [laws_eqIntS.l0]
      rw [if_pos (by omega), if_pos (by omega), if_pos (by omega), if_true, wsucc j (by omega)]
  exact key 0 (Nat.zero_le _)
theorem szStock_eq (l : List Int) (a : Int) (h0 : -1 ≤ a) (h1 : a ≤ 1048576) (hl : l.length ≤ 9223372036854775807) : laws_szStock.f l a = some (if a < l.length then -1 else a - l.length) := by
  unfold laws_szStock.f
  rw [szIntS_eq l a h0 h1 hl, Option.bind_some]
  by_cases h : a < l.length
  · rw [if_pos h]; simp
  · rw [if_neg h, if_neg (by omega)]
theorem toStock_ev (l : List Int) (hl : l.length ≤ 1048576) : Ev (fun k => laws_toStock.f k l) l := by
  unfold laws_toStock.f
  exact Ev.bind (toIntS_ev l hl) (Ev.now _)
theorem eqStock_refl (l : List Int) (hl : l.length ≤ 9223372036854775807) : Ev (fun k => laws_eqStock.f k l l) true := by
  unfold laws_eqStock.f
  refine Ev.bind (eqIntS_refl l hl) ?_
  simp only [if_true]
  exact Ev.now _
def marks (n : Nat) (m : Int) : List Int := (List.range n).map fun (i : Nat) => m + (i : Int)
theorem marks_length (n : Nat) (m : Int) : (marks n m).length = n := by simp [marks]
theorem marks_get (n : Nat) (m : Int) (j : Nat) (h : j < n) : (marks n m)[j]'(by rw [marks_length]; exact h) = m + (j : Int) := by simp [marks]
theorem markIntS_ev (l : List Int) (m : Int) (hm0 : 0 ≤ m) (hm1 : m ≤ 1099511627776) (hl : l.length ≤ 1073741824) : Ev (fun k => laws_markIntS.f k l m) (m + l.length, marks l.length m) := by
  unfold laws_markIntS.f
  have key : ∀ j, j ≤ l.length → Ev (fun k => laws_markIntS.l0 k ((marks l.length m).take j ++ l.drop j) (m + (j : Int)) (j : Int)) (m + (l.length : Int), marks l.length m) := by
    refine down l.length ?_ ?_
    · refine Ev.step (f := fun _ => some (m + (l.length : Int), marks l.length m)) (fun k => ?_) (Ev.now _)
      simp only [laws_markIntS.l0]
      rw [if_neg (by simp [marks_length])]
      simp [List.take_of_length_le (Nat.le_of_eq (marks_length l.length m))]
    · intro j hj ih
      refine Ev.step (fun k => ?_) ih
      simp only [laws_markIntS.l0]
      have e1 : ((marks l.length m).take j ++ l.drop j).length = l.length := by simp [marks_length]; omega
      rw [e1, if_pos (by omega), if_pos (by omega), wsucc j (by omega), w64 (by omega) (by omega), Int.toNat_natCast]
      have e2 : ((marks l.length m).take j ++ l.drop j).set j (m + (j : Int)) = (marks l.length m).take (j + 1) ++ l.drop (j + 1) := by
        have := set_take_drop (marks l.length m) j (by rw [marks_length]; exact hj) l (marks_length _ _).symm
        rw [marks_get _ _ _ hj] at this
        exact this
      rw [e2]
      congr 1
      omega
  have := key 0 (Nat.zero_le _)
  simpa using this
theorem heldIntS_ev (n : Nat) (m : Int) (hm0 : 0 ≤ m) (hm1 : m ≤ 1099511627776) (hl : n ≤ 1073741824) : Ev (fun k => laws_heldIntS.f k (marks n m) m) (m + n) := by
  unfold laws_heldIntS.f
  have key : ∀ j, j ≤ n → Ev (fun k => laws_heldIntS.l0 k (marks n m) (m + (j : Int)) (j : Int)) (m + (n : Int)) := by
    refine down n ?_ ?_
    · refine Ev.step (f := fun _ => some (m + (n : Int))) (fun k => ?_) (Ev.now _)
      simp only [laws_heldIntS.l0]
      rw [if_neg (by rw [marks_length]; omega)]
    · intro j hj ih
      refine Ev.step (fun k => ?_) ih
      simp only [laws_heldIntS.l0]
      rw [marks_length, if_pos (by omega), if_pos (by omega), rd_nat _ j (by rw [marks_length]; exact hj), marks_get _ _ _ hj, if_pos rfl, wsucc j (by omega), w64 (by omega) (by omega)]
      congr 1
      omega
  have := key 0 (Nat.zero_le _)
  simpa using this
theorem markStock_ev (l : List Int) (m : Int) (hm0 : 0 ≤ m) (hm1 : m ≤ 1099511627776) (hl : l.length ≤ 1073741824) : Ev (fun k => laws_markStock.f k l m) (m + l.length, marks l.length m) := by
  unfold laws_markStock.f
  exact Ev.bind (markIntS_ev l m hm0 hm1 hl) (Ev.now _)
theorem heldStock_ev (n : Nat) (m : Int) (hm0 : 0 ≤ m) (hm1 : m ≤ 1099511627776) (hl : n ≤ 1073741824) : Ev (fun k => laws_heldStock.f k (marks n m) m) (m + n) := by
  unfold laws_heldStock.f
  refine Ev.bind (heldIntS_ev n m hm0 hm1 hl) ?_
  simp only [if_neg (show ¬ (m + (n : Int) < 0) by omega)]
  exact Ev.now _
theorem FnExactFillStock : laws_FnExactFillStock.Pure := by
  intro l k g h _ _
  have hm : l.length ≤ 9223372036854775807 := h.1
  refine Ev.rounds (g := fun n => laws_FnExactFillStock.f n l k g) ?_
  unfold laws_FnExactFillStock.f
  simp only [szStock_eq l 1048576 (by omega) (by omega) hm, Option.bind_some]
  by_cases hs : (1048576 : Int) < l.length
  · simp only [if_pos hs]; simpa using Ev.now true
  · simp only [if_neg hs, if_neg (show ¬ ((1048576 : Int) - l.length < 0) by omega)]
    have hl : l.length ≤ 1048576 := by omega
    have hf := fillSt_length l k g
    have e1 := eqStock_refl (fillSt l k g).1 (by omega)
    have e2 := markStock_ev (fillSt l k g).1 1 (by omega) (by omega) (by omega)
    have e3 := heldStock_ev (fillSt l k g).1.length 1 (by omega) (by omega) (by omega)
    have e4 := eqStock_refl l (by omega)
    have e5 := markStock_ev l 1 (by omega) (by omega) (by omega)
    have e6 := spec_FillStock_ev l k g hl
    have e7 := impl_FillStock_ev l k g hl
    have e8 := toStock_ev l hl
    generalize fillSt l k g = q at hf e1 e2 e3 e6 e7
    refine Ev.bind e8 ?_
    refine Ev.bind e6 ?_
    refine Ev.bind e8 ?_
    refine Ev.bind e7 ?_
    refine Ev.bind e1 ?_
    simp only [if_true, bne_self_eq_false]
    refine Ev.step (fun n => by rw [laws_FnExactFillStock.j0]) ?_
    simp only [Bool.false_eq_true, if_false]
    refine Ev.bind e8 ?_
    refine Ev.bind e4 ?_
    simp only [if_true]
    refine Ev.bind e5 ?_
    simp only [if_neg (show ¬ ((1 : Int) + (l.length : Int) < 0) by omega)]
    refine Ev.bind e1 ?_
    simp only [if_true, bne_self_eq_false]
    refine Ev.step (fun n => by rw [laws_FnExactFillStock.j1]) ?_
    simp only [Bool.false_eq_true, if_false]
    refine Ev.bind e2 ?_
    refine Ev.bind e3 ?_
    simp only [if_neg (show ¬ ((1 : Int) + (q.1.length : Int) < 0) by omega), if_true]
    refine Ev.bind e8 ?_
    refine Ev.bind e7 ?_
    refine Ev.bind e1 ?_
    simp only [if_true, bne_self_eq_false]
    refine Ev.step (fun n => by rw [laws_FnExactFillStock.j2]) ?_
    simp only [Bool.false_eq_true, if_false]
    refine Ev.bind e3 ?_
    simp only [if_neg (show ¬ ((1 : Int) + (q.1.length : Int) < 0) by omega), if_true]
    exact Ev.now _
end Go.Proofs.Ythbokfmmebhhdaa.Pure
