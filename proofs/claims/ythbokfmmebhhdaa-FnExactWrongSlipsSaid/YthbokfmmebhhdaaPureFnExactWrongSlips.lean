/- What FnExactWrongSlips computes answers as the law says: over numbers and lists alone; there are no conditions but those of the statement. -/
import Derived.Test.YthbokfmmebhhdaaP0
import Derived.Test.YthbokfmmebhhdaaP1
import Derived.Test.YthbokfmmebhhdaaP4
import Derived.Test.YthbokfmmebhhdaaP5
import Derived.Test.YthbokfmmebhhdaaP6
import Derived.Test.YthbokfmmebhhdaaP11
import Derived.Test.YthbokfmmebhhdaaP13
import Derived.Test.YthbokfmmebhhdaaP24
import Derived.Test.YthbokfmmebhhdaaP25
namespace Go.Proofs.Ythbokfmmebhhdaa.Pure
open Go.RowKit Go.Proofs.Ythbokfmmebhhdaa.P Go.Proofs.YthbokfmmebhhdaaW.PrintWords Go.Proofs.YthbokfmmebhhdaaW.PrintLast Go.Proofs.YthbokfmmebhhdaaW.PrintMore
set_option linter.unusedVariables false
set_option linter.unusedSimpArgs false
theorem w64 {x : Int} (h0 : -9223372036854775808 ≤ x) (h1 : x ≤ 9223372036854775807) : wrap64 x = x := by
  unfold wrap64
  omega
theorem down {Q : Nat → Prop} (n : Nat) (fin : Q n) (step : ∀ j, j < n → Q (j + 1) → Q j) : ∀ j, j ≤ n → Q j := by
  intro j hj
  obtain ⟨d, hd⟩ : ∃ d, j + d = n := ⟨n - j, by omega⟩
  clear hj
  induction d generalizing j with
  | zero => have : j = n := by omega
            rw [this]; exact fin
  | succ d ih => exact step j (by omega) (ih (j + 1) (by omega))
theorem wsucc (j : Nat) (h : j < 9223372036854775807) : wrap64 ((j : Int) + 1) = ((j + 1 : Nat) : Int) := by
  rw [w64 (by omega) (by omega)]; omega
theorem rd_nat (l : List Int) (j : Nat) (h : j < l.length) : rd l (j : Int) = l[j] := by
  unfold rd; rw [Int.toNat_natCast, List.getD_eq_getElem?_getD, List.getElem?_eq_getElem h]; rfl
theorem rd_lit (l : List Int) (i : Int) : rd l i = l.getD i.toNat 0 := rfl
theorem all_drop_cons {α : Type} (p : α → Bool) (l : List α) (j : Nat) (h : j < l.length) : (l.drop j).all p = (p l[j] && (l.drop (j + 1)).all p) := by
  rw [List.drop_eq_getElem_cons h, List.all_cons]
theorem all_drop_len {α : Type} (p : α → Bool) (l : List α) : (l.drop l.length).all p = true := by simp
theorem ev_some {α : Type} (r : α) : Ev (fun _ => some r) r := Ev.now r
theorem ev_pt {α : Type} {g : Option α} {r : α} (h : g = some r) : Ev (fun _ => g) r := ⟨0, fun _ _ => h⟩
theorem ev_eq {α : Type} {g : Nat → Option α} {r r' : α} (h : Ev g r) (e : r = r') : Ev g r' := e ▸ h
def inR (lo hi n : Int) : Bool := decide (lo ≤ n ∧ n ≤ hi)
theorem l01In_eq (a b c : Int) : spec_l01In.f a b c = some (inR b c a) := by
  unfold spec_l01In.f inR
  by_cases h : b ≤ a
  · rw [if_pos h]; simp [h]
  · rw [if_neg h]; simp [h]
theorem allIn_eq (l : List Int) (a b : Int) : impl_allIn.f l a b = some (l.all (inR a b)) := rfl
theorem inR_iff {lo hi n : Int} : inR lo hi n = true ↔ lo ≤ n ∧ n ≤ hi := by unfold inR; simp
def slipOk (s p g : Int) : Bool := inR 0 100000 s && (inR 0 100000 p && (inR 0 100000 g && (p - g == s)))
theorem l35Range_eq (a : Int) : spec_l35Range.f a = some (inR 0 100000 a) := by
  unfold spec_l35Range.f; rw [l01In_eq]; rfl
theorem spec_SlipOk_eq (s p g : Int) : spec_SlipOk.f s p g = some (slipOk s p g) := by
  unfold spec_SlipOk.f slipOk
  simp only [l35Range_eq, Option.bind_some]
  cases h1 : inR 0 100000 s <;> cases h2 : inR 0 100000 p <;> cases h3 : inR 0 100000 g <;> simp
  have a := inR_iff.1 h2
  have b := inR_iff.1 h3
  rw [w64 (by omega) (by omega)]
theorem impl_SlipOk_eq (s p g : Int) : impl_SlipOk.f s p g = some (slipOk s p g) := by
  unfold impl_SlipOk.f impl_Slip_inRange.f slipOk
  rw [allIn_eq]
  simp only [Option.bind_some, List.all_cons, List.all_nil, Bool.and_true]
  cases h1 : inR 0 100000 s <;> cases h2 : inR 0 100000 p <;> cases h3 : inR 0 100000 g <;> simp
  have a := inR_iff.1 h2
  have b := inR_iff.1 h3
  rw [w64 (by omega) (by omega)]
theorem rdSlip_nat (l : List S27) (j : Nat) (h : j < l.length) : rd_T27 l (j : Int) = l[j] := by
  unfold rd_T27; rw [Int.toNat_natCast, List.getD_eq_getElem?_getD, List.getElem?_eq_getElem h]; rfl
theorem rdSlip_set (l : List S27) (j : Nat) (e : S27) (h : j < l.length) : rd_T27 (l.set j e) (j : Int) = e := by
  rw [rdSlip_nat _ j (by simpa using h)]; simp
def wrongs : List S27 → Nat → List Int
  | [], _ => []
  | x :: r, j => if slipOk x.f0 x.f1 x.f2 = true then wrongs r (j + 1) else (j : Int) :: wrongs r (j + 1)
theorem wrongs_length (l : List S27) : ∀ j, (wrongs l j).length ≤ l.length := by
  induction l with
  | nil => intro j; simp [wrongs]
  | cons x r ih =>
    intro j
    simp only [wrongs]
    split
    · have := ih (j + 1); simp; omega
    · have := ih (j + 1); simp; omega
def wrongOf (l : List S27) : List Int := if l.length ≤ 60 then wrongs l 0 else []
theorem impl_WrongSlips_ev (l : List S27) : Ev (fun k => impl_WrongSlips.f k l) (wrongOf l) := by
  unfold impl_WrongSlips.f wrongOf
  by_cases h : l.length ≤ 60
  · simp only [if_pos h, if_neg (show ¬ ((l.length : Int) > 60) by omega)]
    have key : ∀ j, j ≤ l.length → ∀ acc : List Int, acc.length ≤ j → Ev (fun k => impl_WrongSlips.l0 k acc l (l.length : Int) (j : Int)) (acc ++ wrongs (l.drop j) j) := by
      refine down l.length ?_ ?_
      · intro acc _
        refine Ev.step (f := fun _ => _) (fun k => ?_) (ev_some _)
        simp only [impl_WrongSlips.l0]
        rw [if_neg (by omega)]
        simp [wrongs]
      · intro j hj ih acc ha
        rw [List.drop_eq_getElem_cons hj]
        simp only [wrongs]
        cases hq : slipOk l[j].f0 l[j].f1 l[j].f2 with
        | true =>
          simp only [if_true]
          refine Ev.step (fun k => ?_) (ih acc (by omega))
          simp only [impl_WrongSlips.l0]
          rw [if_pos (by omega), if_pos (by omega), if_pos (by omega), rdSlip_nat l j hj, impl_SlipOk_eq, hq, Option.bind_some, if_pos rfl, wsucc j (by omega)]
        | false =>
          simp only [Bool.false_eq_true, if_false]
          have := ih (acc ++ [(j : Int)]) (by simp; omega)
          rw [List.append_assoc, List.singleton_append] at this
          refine Ev.step (fun k => ?_) this
          simp only [impl_WrongSlips.l0]
          rw [if_pos (by omega), if_pos (by omega), if_pos (by omega), rdSlip_nat l j hj, impl_SlipOk_eq, hq, Option.bind_some, if_neg (by decide), if_pos (by omega), wsucc j (by omega)]
    simpa using key 0 (Nat.zero_le _) [] (Nat.le_refl _)
  · simp only [if_neg h, if_pos (show ((l.length : Int) > 60) by omega)]
    exact Ev.now _
theorem spec_WrongSlips_ev (l : List S27) (hm : l.length ≤ 1048576) : Ev (fun k => spec_WrongSlips.f k l) (wrongOf l) := by
  unfold spec_WrongSlips.f wrongOf
  by_cases h : l.length ≤ 60
  · simp only [if_pos h]
    have key : ∀ j, j ≤ l.length → ∀ acc : List Int, acc.length ≤ j → Ev (fun k => spec_WrongSlips.l0 k l acc (j : Int)) (acc ++ wrongs (l.drop j) j) := by
      refine down l.length ?_ ?_
      · intro acc _
        refine Ev.step (f := fun k => spec_WrongSlips.j1 k l acc (l.length : Int) false) (fun k => ?_) (Ev.step (f := fun _ => _) (fun k => ?_) (ev_some _))
        · simp only [spec_WrongSlips.l0]
          rw [if_neg (by omega)]
        · simp only [spec_WrongSlips.j1]
          simp [wrongs]
      · intro j hj ih acc ha
        rw [List.drop_eq_getElem_cons hj]
        simp only [wrongs]
        refine Ev.step (f := fun k => spec_WrongSlips.j1 k l acc (j : Int) true) (fun k => ?_) ?_
        · simp only [spec_WrongSlips.l0]
          rw [if_pos (by omega), decide_eq_true (by omega)]
        cases hq : slipOk l[j].f0 l[j].f1 l[j].f2 with
        | true =>
          simp only [if_true]
          refine Ev.step (fun k => ?_) (ih acc (by omega))
          simp only [spec_WrongSlips.j1]
          rw [if_pos trivial, if_pos (by omega), if_pos (by omega), rdSlip_nat l j hj, spec_SlipOk_eq, hq, Option.bind_some, if_pos rfl, wsucc j (by omega)]
        | false =>
          simp only [Bool.false_eq_true, if_false]
          have := ih (acc ++ [(j : Int)]) (by simp; omega)
          rw [List.append_assoc, List.singleton_append] at this
          refine Ev.step (fun k => ?_) this
          simp only [spec_WrongSlips.j1]
          rw [if_pos trivial, if_pos (by omega), if_pos (by omega), rdSlip_nat l j hj, spec_SlipOk_eq, hq, Option.bind_some, if_neg (by decide), if_pos (by omega), wsucc j (by omega)]
    simpa using key 0 (Nat.zero_le _) [] (Nat.le_refl _)
  · simp only [if_neg h]
    by_cases h0 : 0 < l.length
    · refine Ev.step (f := fun k => spec_WrongSlips.j1 k l [] 0 false) (fun k => ?_) (Ev.step (f := fun _ => some []) (fun k => ?_) (Ev.now _))
      · simp only [spec_WrongSlips.l0]
        rw [if_pos (by omega), decide_eq_false (by omega)]
      · simp only [spec_WrongSlips.j1]
        simp
    · omega
theorem szSlipS_eq (l : List S25) (a : Int) (h0 : -1 ≤ a) (h1 : a ≤ 1048576) (hl : l.length ≤ 9223372036854775807) : laws_szSlipS.f l a = some (if a < l.length then -1 else a - l.length) := by
  unfold laws_szSlipS.f
  rw [w64 (by omega) (by omega)]
  by_cases h : a < l.length
  · rw [if_pos (by omega), if_pos h]
  · rw [if_neg (by omega), if_neg h]
theorem rdLSlip_nat (l : List S25) (j : Nat) (h : j < l.length) : rd_T25 l (j : Int) = l[j] := by
  unfold rd_T25; rw [Int.toNat_natCast, List.getD_eq_getElem?_getD, List.getElem?_eq_getElem h]; rfl
def cvSlip (l : List S25) : List S27 := l.map fun x => ⟨x.f0, x.f1, x.f2⟩
theorem cvSlip_length (l : List S25) : (cvSlip l).length = l.length := by simp [cvSlip]
theorem cvSlip_get (l : List S25) (j : Nat) (h : j < l.length) : (cvSlip l)[j]'(by rw [cvSlip_length]; exact h) = ⟨l[j].f0, l[j].f1, l[j].f2⟩ := by simp [cvSlip]
theorem set_take_drop {α : Type} (l : List α) (j : Nat) (hj : j < l.length) (z : List α) (hz : z.length = l.length) : (l.take j ++ z.drop j).set j l[j] = l.take (j + 1) ++ z.drop (j + 1) := by
  have h1 : (l.take j).length = j := by rw [List.length_take]; omega
  rw [List.set_append_right _ _ (by omega), h1, Nat.sub_self, List.drop_eq_getElem_cons (by omega : j < z.length), List.set_cons_zero, List.take_succ_eq_append_getElem hj, List.append_assoc]
  rfl
theorem toSlipS_ev (l : List S25) (hl : l.length ≤ 1048576) : Ev (fun k => laws_toSlipS.f k l) (cvSlip l) := by
  refine Ev.congr (f := fun k => laws_toSlipS.l0 k l (List.replicate l.length z27) 0) (fun k => by unfold laws_toSlipS.f; rw [if_pos (by omega), if_pos (by omega), Int.toNat_natCast]) ?_
  have key : ∀ j, j ≤ l.length → Ev (fun k => laws_toSlipS.l0 k l ((cvSlip l).take j ++ (List.replicate l.length z27).drop j) (j : Int)) (cvSlip l) := by
    refine down l.length ?_ ?_
    · refine Ev.step (f := fun _ => some (cvSlip l)) (fun k => ?_) (Ev.now _)
      simp only [laws_toSlipS.l0]
      rw [if_neg (by omega)]
      simp [List.take_of_length_le (Nat.le_of_eq (cvSlip_length l))]
    · intro j hj ih
      refine Ev.step (fun k => ?_) ih
      simp only [laws_toSlipS.l0]
      rw [if_pos (by omega), if_pos (by omega)]
      simp only [laws_toSlip.f, Option.bind_some]
      rw [if_pos (by simp [cvSlip_length]; omega), wsucc j (by omega), rdLSlip_nat l j hj, Int.toNat_natCast]
      have := set_take_drop (cvSlip l) j (by rw [cvSlip_length]; exact hj) (List.replicate l.length z27) (by simp [cvSlip_length])
      rw [cvSlip_get l j hj] at this
      rw [this]
  have := key 0 (Nat.zero_le _)
  simpa using this
theorem eqSlipS_refl (l : List S27) (hl : l.length ≤ 9223372036854775807) : Ev (fun k => laws_eqSlipS.f k l l) true := by
  unfold laws_eqSlipS.f
  simp only [if_true]
  have key : ∀ j, j ≤ l.length → Ev (fun k => laws_eqSlipS.l0 k l l (j : Int)) true := by
    refine down l.length ?_ ?_
    · refine Ev.step (f := fun _ => some true) (fun k => ?_) (Ev.now _)
      simp only [laws_eqSlipS.l0]
      rw [if_neg (by omega)]
    · intro j hj ih
      refine Ev.step (fun k => ?_) ih
      simp only [laws_eqSlipS.l0]
      rw [if_pos (by omega), if_pos (by omega), if_pos (by omega), wsucc j (by omega)]
      simp only [laws_eqSlip.f, if_true, Option.bind_some]
  exact key 0 (Nat.zero_le _)
def marksSlip (n : Nat) (m : Int) : List S27 := (List.range n).map fun (i : Nat) => ⟨m + 3 * (i : Int) + 0, m + 3 * (i : Int) + 1, m + 3 * (i : Int) + 2⟩
theorem marksSlip_length (n : Nat) (m : Int) : (marksSlip n m).length = n := by simp [marksSlip]
theorem marksSlip_get (n : Nat) (m : Int) (j : Nat) (h : j < n) : (marksSlip n m)[j]'(by rw [marksSlip_length]; exact h) = ⟨m + 3 * (j : Int) + 0, m + 3 * (j : Int) + 1, m + 3 * (j : Int) + 2⟩ := by simp [marksSlip]
theorem markSlipS_ev (l : List S27) (m : Int) (hm0 : 0 ≤ m) (hm1 : m ≤ 1099511627776) (hl : l.length ≤ 1073741824) : Ev (fun k => laws_markSlipS.f k l m) (m + 3 * (l.length : Int), marksSlip l.length m) := by
  unfold laws_markSlipS.f
  have key : ∀ j, j ≤ l.length → Ev (fun k => laws_markSlipS.l0 k ((marksSlip l.length m).take j ++ l.drop j) (m + 3 * (j : Int)) (j : Int)) (m + 3 * (l.length : Int), marksSlip l.length m) := by
    refine down l.length ?_ ?_
    · refine Ev.step (f := fun _ => some (m + 3 * (l.length : Int), marksSlip l.length m)) (fun k => ?_) (Ev.now _)
      simp only [laws_markSlipS.l0]
      rw [if_neg (by simp [marksSlip_length])]
      simp [List.take_of_length_le (Nat.le_of_eq (marksSlip_length l.length m))]
    · intro j hj ih
      refine Ev.step (fun k => ?_) ih
      simp only [laws_markSlipS.l0]
      have e1 : ((marksSlip l.length m).take j ++ l.drop j).length = l.length := by simp [marksSlip_length]; omega
      have e2 := set_take_drop (marksSlip l.length m) j (by rw [marksSlip_length]; exact hj) l (marksSlip_length _ _).symm
      rw [marksSlip_get _ _ _ hj] at e2
      have hjl : j < ((marksSlip l.length m).take j ++ l.drop j).length := by omega
      generalize ((marksSlip l.length m).take j ++ l.drop j) = q at e1 e2 hjl ⊢
      rw [e1, if_pos (by omega), if_pos (by omega), wsucc j (by omega), Int.toNat_natCast]
      simp only [Option.bind_some, List.set_set, rdSlip_set _ j _ (by first | exact hjl | (simp only [List.length_set]; exact hjl))]
      have w1 : wrap64 (m + 3 * (j : Int) + 1) = m + 3 * (j : Int) + 1 := w64 (by omega) (by omega)
      have w2 : wrap64 (m + 3 * (j : Int) + 1 + 1) = m + 3 * (j : Int) + 2 := by rw [w64 (by omega) (by omega)]; omega
      have w3 : wrap64 (m + 3 * (j : Int) + 2 + 1) = m + 3 * (j : Int) + 3 := by rw [w64 (by omega) (by omega)]; omega
      simp only [w1, w2, w3]
      rw [show m + 3 * (j : Int) + 3 = m + 3 * ((j + 1 : Nat) : Int) by omega]
      rw [← e2]
      simp
  have := key 0 (Nat.zero_le _)
  simpa using this
theorem eqIntS_refl (l : List Int) (hl : l.length ≤ 9223372036854775807) : Ev (fun k => laws_eqIntS.f k l l) true := by
  unfold laws_eqIntS.f
  simp only [if_true]
  have key : ∀ j, j ≤ l.length → Ev (fun k => laws_eqIntS.l0 k l l (j : Int)) true := by
    refine down l.length ?_ ?_
    · refine Ev.step (f := fun _ => some true) (fun k => ?_) (Ev.now _)
      simp only [laws_eqIntS.l0]
      rw [if_neg (by omega)]
    · intro j hj ih
      refine Ev.step (fun k => ?_) ih
      simp only [laws_eqIntS.l0]
      rw [if_pos (by omega), if_pos (by omega), if_pos (by omega), if_true, wsucc j (by omega)]
  exact key 0 (Nat.zero_le _)
def marks (n : Nat) (m : Int) : List Int := (List.range n).map fun (i : Nat) => m + (i : Int)
theorem marks_length (n : Nat) (m : Int) : (marks n m).length = n := by simp [marks]
theorem marks_get (n : Nat) (m : Int) (j : Nat) (h : j < n) : (marks n m)[j]'(by rw [marks_length]; exact h) = m + (j : Int) := by simp [marks]
theorem markIntS_ev (l : List Int) (m : Int) (hm0 : 0 ≤ m) (hm1 : m ≤ 1099511627776) (hl : l.length ≤ 1073741824) : Ev (fun k => laws_markIntS.f k l m) (m + l.length, marks l.length m) := by
  unfold laws_markIntS.f
  have key : ∀ j, j ≤ l.length → Ev (fun k => laws_markIntS.l0 k ((marks l.length m).take j ++ l.drop j) (m + (j : Int)) (j : Int)) (m + (l.length : Int), marks l.length m) := by
    refine down l.length ?_ ?_
    · refine Ev.step (f := fun _ => some (m + (l.length : Int), marks l.length m)) (fun k => ?_) (Ev.now _)
      simp only [laws_markIntS.l0]
      rw [if_neg (by simp [marks_length])]
      simp [List.take_of_length_le (Nat.le_of_eq (marks_length l.length m))]
    · intro j hj ih
      refine Ev.step (fun k => ?_) ih
      simp only [laws_markIntS.l0]
      have e1 : ((marks l.length m).take j ++ l.drop j).length = l.length := by simp [marks_length]; omega
      rw [e1, if_pos (by omega), if_pos (by omega), wsucc j (by omega), w64 (by omega) (by omega), Int.toNat_natCast]
      have e2 : ((marks l.length m).take j ++ l.drop j).set j (m + (j : Int)) = (marks l.length m).take (j + 1) ++ l.drop (j + 1) := by
        have := set_take_drop (marks l.length m) j (by rw [marks_length]; exact hj) l (marks_length _ _).symm
        rw [marks_get _ _ _ hj] at this
        exact this
      rw [e2]
      congr 1
      omega
  have := key 0 (Nat.zero_le _)
  simpa using this
theorem heldIntS_ev (n : Nat) (m : Int) (hm0 : 0 ≤ m) (hm1 : m ≤ 1099511627776) (hl : n ≤ 1073741824) : Ev (fun k => laws_heldIntS.f k (marks n m) m) (m + n) := by
  unfold laws_heldIntS.f
  have key : ∀ j, j ≤ n → Ev (fun k => laws_heldIntS.l0 k (marks n m) (m + (j : Int)) (j : Int)) (m + (n : Int)) := by
    refine down n ?_ ?_
    · refine Ev.step (f := fun _ => some (m + (n : Int))) (fun k => ?_) (Ev.now _)
      simp only [laws_heldIntS.l0]
      rw [if_neg (by rw [marks_length]; omega)]
    · intro j hj ih
      refine Ev.step (fun k => ?_) ih
      simp only [laws_heldIntS.l0]
      rw [marks_length, if_pos (by omega), if_pos (by omega), rd_nat _ j (by rw [marks_length]; exact hj), marks_get _ _ _ hj, if_pos rfl, wsucc j (by omega), w64 (by omega) (by omega)]
      congr 1
      omega
  have := key 0 (Nat.zero_le _)
  simpa using this
theorem FnExactWrongSlips : laws_FnExactWrongSlips.Pure := by
  intro l h
  have hm : l.length ≤ 9223372036854775807 := h.1
  refine Ev.rounds (g := fun k => laws_FnExactWrongSlips.f k l) ?_
  unfold laws_FnExactWrongSlips.f
  simp only [szSlipS_eq l 1048576 (by omega) (by omega) hm, Option.bind_some]
  by_cases hs : (1048576 : Int) < l.length
  · simp only [if_pos hs]; simpa using Ev.now true
  · simp only [if_neg hs, if_neg (show ¬ ((1048576 : Int) - l.length < 0) by omega)]
    have hl : l.length ≤ 1048576 := by omega
    have hc : (cvSlip l).length ≤ 1048576 := by rw [cvSlip_length]; exact hl
    have hw : (wrongOf (cvSlip l)).length ≤ 1048576 := by
      unfold wrongOf
      split
      · have := wrongs_length (cvSlip l) 0; omega
      · simp
    refine Ev.bind (toSlipS_ev l hl) ?_
    refine Ev.bind (spec_WrongSlips_ev _ hc) ?_
    refine Ev.bind (toSlipS_ev l hl) ?_
    refine Ev.bind (impl_WrongSlips_ev _) ?_
    refine Ev.bind (eqIntS_refl _ (by omega)) ?_
    simp only [if_true]
    refine Ev.bind (toSlipS_ev l hl) ?_
    refine Ev.bind (eqSlipS_refl _ (by omega)) ?_
    simp only [if_true]
    refine Ev.bind (markSlipS_ev _ 1 (by omega) (by omega) (by omega)) ?_
    simp only [if_neg (show ¬ ((1 : Int) + 3 * ((cvSlip l).length : Int) < 0) by omega)]
    refine Ev.bind (eqIntS_refl _ (by omega)) ?_
    refine Ev.step (fun k => by rw [laws_FnExactWrongSlips.j0]) ?_
    simp only [Bool.not_true, Bool.false_eq_true, if_false]
    refine Ev.bind (markIntS_ev _ 1 (by omega) (by omega) (by omega)) ?_
    refine Ev.bind (heldIntS_ev _ 1 (by omega) (by omega) (by omega)) ?_
    simp only [if_neg (show ¬ ((1 : Int) + ((wrongOf (cvSlip l)).length : Int) < 0) by omega), if_true]
    refine Ev.bind (toSlipS_ev l hl) ?_
    refine Ev.bind (impl_WrongSlips_ev _) ?_
    refine Ev.bind (eqIntS_refl _ (by omega)) ?_
    simp only [if_true]
    refine Ev.bind (heldIntS_ev _ 1 (by omega) (by omega) (by omega)) ?_
    simp only [if_neg (show ¬ ((1 : Int) + ((wrongOf (cvSlip l)).length : Int) < 0) by omega), if_true]
    exact Ev.now _
end Go.Proofs.Ythbokfmmebhhdaa.Pure
