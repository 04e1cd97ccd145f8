/- What FnExactLeastStart computes answers as the law says: over numbers and lists alone; there are no conditions but those of the statement. -/
import Derived.Test.YthbokfmmebhhdaaP0
import Derived.Test.YthbokfmmebhhdaaP1
import Derived.Test.YthbokfmmebhhdaaP2
import Derived.Test.YthbokfmmebhhdaaP6
import Derived.Test.YthbokfmmebhhdaaP7
import Derived.Test.YthbokfmmebhhdaaP8
import Derived.Test.YthbokfmmebhhdaaP9
import Derived.Test.YthbokfmmebhhdaaP10
import Derived.Test.YthbokfmmebhhdaaP11
import Derived.Test.YthbokfmmebhhdaaP30
namespace Go.Proofs.Ythbokfmmebhhdaa.Pure
open Go.RowKit Go.Proofs.Ythbokfmmebhhdaa.P Go.Proofs.YthbokfmmebhhdaaW.PrintWords Go.Proofs.YthbokfmmebhhdaaW.PrintLast Go.Proofs.YthbokfmmebhhdaaW.PrintMore
set_option linter.unusedVariables false
set_option linter.unusedSimpArgs false
theorem w64 {x : Int} (h0 : -9223372036854775808 ≤ x) (h1 : x ≤ 9223372036854775807) : wrap64 x = x := by
  unfold wrap64
  omega
theorem down {Q : Nat → Prop} (n : Nat) (fin : Q n) (step : ∀ j, j < n → Q (j + 1) → Q j) : ∀ j, j ≤ n → Q j := by
  intro j hj
  obtain ⟨d, hd⟩ : ∃ d, j + d = n := ⟨n - j, by omega⟩
  clear hj
  induction d generalizing j with
  | zero => have : j = n := by omega
            rw [this]; exact fin
  | succ d ih => exact step j (by omega) (ih (j + 1) (by omega))
theorem wsucc (j : Nat) (h : j < 9223372036854775807) : wrap64 ((j : Int) + 1) = ((j + 1 : Nat) : Int) := by
  rw [w64 (by omega) (by omega)]; omega
theorem rd_nat (l : List Int) (j : Nat) (h : j < l.length) : rd l (j : Int) = l[j] := by
  unfold rd; rw [Int.toNat_natCast, List.getD_eq_getElem?_getD, List.getElem?_eq_getElem h]; rfl
theorem rd_lit (l : List Int) (i : Int) : rd l i = l.getD i.toNat 0 := rfl
theorem all_drop_cons {α : Type} (p : α → Bool) (l : List α) (j : Nat) (h : j < l.length) : (l.drop j).all p = (p l[j] && (l.drop (j + 1)).all p) := by
  rw [List.drop_eq_getElem_cons h, List.all_cons]
theorem all_drop_len {α : Type} (p : α → Bool) (l : List α) : (l.drop l.length).all p = true := by simp
theorem ev_some {α : Type} (r : α) : Ev (fun _ => some r) r := Ev.now r
theorem ev_pt {α : Type} {g : Option α} {r : α} (h : g = some r) : Ev (fun _ => g) r := ⟨0, fun _ _ => h⟩
theorem ev_eq {α : Type} {g : Nat → Option α} {r r' : α} (h : Ev g r) (e : r = r') : Ev g r' := e ▸ h
def inR (lo hi n : Int) : Bool := decide (lo ≤ n ∧ n ≤ hi)
theorem l01In_eq (a b c : Int) : spec_l01In.f a b c = some (inR b c a) := by
  unfold spec_l01In.f inR
  by_cases h : b ≤ a
  · rw [if_pos h]; simp [h]
  · rw [if_neg h]; simp [h]
theorem allIn_eq (l : List Int) (a b : Int) : impl_allIn.f l a b = some (l.all (inR a b)) := rfl
theorem inR_iff {lo hi n : Int} : inR lo hi n = true ↔ lo ≤ n ∧ n ≤ hi := by unfold inR; simp
def slipOk (s p g : Int) : Bool := inR 0 100000 s && (inR 0 100000 p && (inR 0 100000 g && (p - g == s)))
theorem l35Range_eq (a : Int) : spec_l35Range.f a = some (inR 0 100000 a) := by
  unfold spec_l35Range.f; rw [l01In_eq]; rfl
theorem spec_SlipOk_eq (s p g : Int) : spec_SlipOk.f s p g = some (slipOk s p g) := by
  unfold spec_SlipOk.f slipOk
  simp only [l35Range_eq, Option.bind_some]
  cases h1 : inR 0 100000 s <;> cases h2 : inR 0 100000 p <;> cases h3 : inR 0 100000 g <;> simp
  have a := inR_iff.1 h2
  have b := inR_iff.1 h3
  rw [w64 (by omega) (by omega)]
theorem impl_SlipOk_eq (s p g : Int) : impl_SlipOk.f s p g = some (slipOk s p g) := by
  unfold impl_SlipOk.f impl_Slip_inRange.f slipOk
  rw [allIn_eq]
  simp only [Option.bind_some, List.all_cons, List.all_nil, Bool.and_true]
  cases h1 : inR 0 100000 s <;> cases h2 : inR 0 100000 p <;> cases h3 : inR 0 100000 g <;> simp
  have a := inR_iff.1 h2
  have b := inR_iff.1 h3
  rw [w64 (by omega) (by omega)]
theorem rdSlip_nat (l : List S27) (j : Nat) (h : j < l.length) : rd_T27 l (j : Int) = l[j] := by
  unfold rd_T27; rw [Int.toNat_natCast, List.getD_eq_getElem?_getD, List.getElem?_eq_getElem h]; rfl
theorem rdSlip_set (l : List S27) (j : Nat) (e : S27) (h : j < l.length) : rd_T27 (l.set j e) (j : Int) = e := by
  rw [rdSlip_nat _ j (by simpa using h)]; simp
def tills : List S27 → Int → Int → Int × Int
  | [], n, low => (n, low)
  | x :: r, n, low => tills r (n + x.f1 - x.f2) (mn low (n + x.f1 - x.f2))
theorem slip3_iff (x : S27) : slip3 x = true ↔ (0 ≤ x.f0 ∧ x.f0 ≤ 100000) ∧ (0 ≤ x.f1 ∧ x.f1 ≤ 100000) ∧ (0 ≤ x.f2 ∧ x.f2 ≤ 100000) := by
  unfold slip3; simp [Bool.and_assoc, and_assoc]
theorem slip3_eq (x : S27) : slip3 x = (inR 0 100000 x.f0 && (inR 0 100000 x.f1 && inR 0 100000 x.f2)) := by
  unfold slip3 inR; rw [Bool.and_assoc]
theorem tills_bound (l : List S27) : ∀ (n low B : Int), (∀ x, x ∈ l → slip3 x = true) → -B ≤ n → n ≤ B → -B ≤ low → low ≤ B →
    (-(B + 100000 * (l.length : Int)) ≤ (tills l n low).1 ∧ (tills l n low).1 ≤ B + 100000 * (l.length : Int)) ∧ -(B + 100000 * (l.length : Int)) ≤ (tills l n low).2 ∧ (tills l n low).2 ≤ low := by
  induction l with
  | nil => intro n low B _ h1 h2 h3 h4; simp [tills]; omega
  | cons x r ih =>
    intro n low B hx h1 h2 h3 h4
    have hs := (slip3_iff x).1 (hx x (by simp))
    have hmn : mn low (n + x.f1 - x.f2) ≤ low ∧ -(B + 100000) ≤ mn low (n + x.f1 - x.f2) := by unfold mn; split <;> omega
    have := ih (n + x.f1 - x.f2) (mn low (n + x.f1 - x.f2)) (B + 100000) (fun y hy => hx y (by simp [hy])) (by omega) (by omega) (by omega) (by omega)
    simp only [tills, List.length_cons]
    omega
def tillOk (l : List S27) (a : Int) : Bool := l.all slip3 && (decide (l.length ≤ 60) && inR 0 100000 a)
theorem impl_tillOk_eq (l : List S27) (a : Int) : impl_tillOk.f l a = some (tillOk l a) := by
  unfold impl_tillOk.f tillOk inR
  rw [Bool.and_comm]
theorem spec_l35Ok_ev (l : List S27) (a : Int) (hl : l.length ≤ 1048576) : Ev (fun k => spec_l35Ok.f k l a) (tillOk l a) := by
  unfold spec_l35Ok.f
  have key : ∀ j, j ≤ l.length → Ev (fun k => spec_l35Ok.l0 k l a (j : Int)) ((l.drop j).all slip3 && (decide (l.length ≤ 60) && inR 0 100000 a)) := by
    refine down l.length ?_ ?_
    · refine Ev.step (f := fun _ => _) (fun k => ?_) (ev_some _)
      simp only [spec_l35Ok.l0]
      rw [if_neg (by omega), l35Range_eq, Option.bind_some]
      by_cases h : l.length ≤ 60
      · rw [if_pos (by omega)]; simp [h]
      · rw [if_neg (by omega)]; simp [h]
    · intro j hj ih
      rw [all_drop_cons _ l j hj, slip3_eq]
      cases h0 : inR 0 100000 l[j].f0 <;> cases h1 : inR 0 100000 l[j].f1 <;> cases h2 : inR 0 100000 l[j].f2
      case true.true.true =>
        simp only [Bool.true_and]
        refine Ev.step (fun k => ?_) ih
        simp only [spec_l35Ok.l0]
        rw [if_pos (by omega), if_pos (by omega), rdSlip_nat l j hj]
        simp only [l35Range_eq, h0, h1, h2, Option.bind_some, if_true]
        rw [wsucc j (by omega)]
      all_goals
        simp only [Bool.false_and, Bool.and_false, Bool.true_and]
        refine Ev.step (f := fun _ => some false) (fun k => ?_) (Ev.now _)
        simp only [spec_l35Ok.l0]
        rw [if_pos (by omega), if_pos (by omega), rdSlip_nat l j hj]
        simp only [l35Range_eq, h0, h1, h2, Option.bind_some, if_true, Bool.false_eq_true, if_false]
  have := key 0 (Nat.zero_le _)
  simpa [tillOk] using this
theorem tillOk_parts {l : List S27} {a : Int} (h : tillOk l a = true) : (∀ x, x ∈ l → slip3 x = true) ∧ l.length ≤ 60 ∧ 0 ≤ a ∧ a ≤ 100000 := by
  unfold tillOk at h
  simp only [Bool.and_eq_true, List.all_eq_true, decide_eq_true_eq, inR_iff] at h
  exact ⟨h.1, h.2.1, h.2.2⟩
theorem impl_till_ev (l : List S27) (a : Int) (h : tillOk l a = true) : Ev (fun k => impl_till.f k l a) (tills l a a) := by
  obtain ⟨hx, hl, ha0, ha1⟩ := tillOk_parts h
  unfold impl_till.f
  have key : ∀ j, j ≤ l.length → ∀ n low : Int, -(100000 + 100000 * (j : Int)) ≤ n → n ≤ 100000 + 100000 * (j : Int) → Ev (fun k => impl_till.l0 k n low l (l.length : Int) (j : Int)) (tills (l.drop j) n low) := by
    refine down l.length ?_ ?_
    · intro n low _ _
      refine Ev.step (f := fun _ => _) (fun k => ?_) (ev_some _)
      simp only [impl_till.l0]
      rw [if_neg (by omega)]
      simp [tills]
    · intro j hj ih n low h1 h2
      have hs := (slip3_iff l[j]).1 (hx _ (List.getElem_mem hj))
      rw [List.drop_eq_getElem_cons hj]
      simp only [tills]
      refine Ev.step (fun k => ?_) (ih (n + l[j].f1 - l[j].f2) (mn low (n + l[j].f1 - l[j].f2)) (by omega) (by omega))
      simp only [impl_till.l0]
      rw [if_pos (by omega), if_pos (by omega), if_pos (by omega), rdSlip_nat l j hj, wsucc j (by omega), w64 (x := l[j].f1 - l[j].f2) (by omega) (by omega), w64 (by omega) (by omega), show n + (l[j].f1 - l[j].f2) = n + l[j].f1 - l[j].f2 by omega]
  exact key 0 (Nat.zero_le _) a a (by omega) (by omega)
theorem spec_TillAfter_ev (l : List S27) (a : Int) (hm : l.length ≤ 1048576) : Ev (fun k => spec_TillAfter.f k l a) (if tillOk l a = true then (tills l a a).1 else -1000000000) := by
  unfold spec_TillAfter.f
  refine Ev.bind (spec_l35Ok_ev l a hm) ?_
  by_cases h : tillOk l a = true
  · simp only [if_pos h]
    obtain ⟨hx, hl, ha0, ha1⟩ := tillOk_parts h
    have key : ∀ j, j ≤ l.length → ∀ n low : Int, -(100000 + 100000 * (j : Int)) ≤ n → n ≤ 100000 + 100000 * (j : Int) → Ev (fun k => spec_TillAfter.l0 k l n (j : Int)) (tills (l.drop j) n low).1 := by
      refine down l.length ?_ ?_
      · intro n low _ _
        refine Ev.step (f := fun _ => _) (fun k => ?_) (ev_some _)
        simp only [spec_TillAfter.l0]
        rw [if_neg (by omega)]
        simp [tills]
      · intro j hj ih n low h1 h2
        have hs := (slip3_iff l[j]).1 (hx _ (List.getElem_mem hj))
        rw [List.drop_eq_getElem_cons hj]
        simp only [tills]
        refine Ev.step (fun k => ?_) (ih (n + l[j].f1 - l[j].f2) (mn low (n + l[j].f1 - l[j].f2)) (by omega) (by omega))
        simp only [spec_TillAfter.l0]
        rw [if_pos (by omega), if_pos (by omega), rdSlip_nat l j hj, wsucc j (by omega), w64 (x := n + l[j].f1) (by omega) (by omega), w64 (by omega) (by omega)]
    exact key 0 (Nat.zero_le _) a a (by omega) (by omega)
  · simp only [if_neg h]
    exact Ev.now _
theorem spec_LowestTill_ev (l : List S27) (a : Int) (hm : l.length ≤ 1048576) : Ev (fun k => spec_LowestTill.f k l a) (if tillOk l a = true then (tills l a a).2 else -1000000000) := by
  unfold spec_LowestTill.f
  refine Ev.bind (spec_l35Ok_ev l a hm) ?_
  by_cases h : tillOk l a = true
  · simp only [if_pos h]
    obtain ⟨hx, hl, ha0, ha1⟩ := tillOk_parts h
    have key : ∀ j, j ≤ l.length → ∀ n low : Int, -(100000 + 100000 * (j : Int)) ≤ n → n ≤ 100000 + 100000 * (j : Int) → Ev (fun k => spec_LowestTill.l0 k l n low (j : Int)) (tills (l.drop j) n low).2 := by
      refine down l.length ?_ ?_
      · intro n low _ _
        refine Ev.step (f := fun _ => _) (fun k => ?_) (ev_some _)
        simp only [spec_LowestTill.l0]
        rw [if_neg (by omega)]
        simp [tills]
      · intro j hj ih n low h1 h2
        have hs := (slip3_iff l[j]).1 (hx _ (List.getElem_mem hj))
        rw [List.drop_eq_getElem_cons hj]
        simp only [tills]
        refine Ev.step (fun k => ?_) (ih (n + l[j].f1 - l[j].f2) (mn low (n + l[j].f1 - l[j].f2)) (by omega) (by omega))
        simp only [spec_LowestTill.l0]
        rw [if_pos (by omega), if_pos (by omega), rdSlip_nat l j hj, wsucc j (by omega), w64 (x := n + l[j].f1) (by omega) (by omega), w64 (by omega) (by omega)]
    exact key 0 (Nat.zero_le _) a a (by omega) (by omega)
  · simp only [if_neg h]
    exact Ev.now _
def leastSt (l : List S27) : Int := if tillOk l 0 = true then (if -(tills l 0 0).2 > 100000 then -1 else -(tills l 0 0).2) else -1
theorem spec_LeastStart_ev (l : List S27) (hm : l.length ≤ 1048576) : Ev (fun k => spec_LeastStart.f k l) (leastSt l) := by
  unfold spec_LeastStart.f leastSt
  refine Ev.bind (spec_l35Ok_ev l 0 hm) ?_
  by_cases h : tillOk l 0 = true
  · simp only [if_pos h]
    refine Ev.bind (spec_LowestTill_ev l 0 hm) ?_
    obtain ⟨hx, hl, ha0, ha1⟩ := tillOk_parts h
    have hb := tills_bound l 0 0 100000 hx (by omega) (by omega) (by omega) (by omega)
    simp only [if_pos h]
    rw [w64 (by omega) (by omega)]
    by_cases h2 : -(tills l 0 0).2 > 100000
    · simp only [if_pos h2]; exact Ev.now _
    · simp only [if_neg h2]; exact Ev.now _
  · simp only [if_neg h]
    exact Ev.now _
theorem impl_LeastStart_ev (l : List S27) : Ev (fun k => impl_LeastStart.f k l) (leastSt l) := by
  unfold impl_LeastStart.f leastSt
  simp only [impl_tillOk_eq, Option.bind_some]
  by_cases h : tillOk l 0 = true
  · simp only [if_pos h]
    refine Ev.bind (impl_till_ev l 0 h) ?_
    obtain ⟨hx, hl, ha0, ha1⟩ := tillOk_parts h
    have hb := tills_bound l 0 0 100000 hx (by omega) (by omega) (by omega) (by omega)
    rw [w64 (by omega) (by omega)]
    by_cases h2 : -(tills l 0 0).2 > 100000
    · simp only [if_pos h2]; exact Ev.now _
    · simp only [if_neg h2]; exact Ev.now _
  · simp only [if_neg h]
    exact Ev.now _
theorem szSlipS_eq (l : List S25) (a : Int) (h0 : -1 ≤ a) (h1 : a ≤ 1048576) (hl : l.length ≤ 9223372036854775807) : laws_szSlipS.f l a = some (if a < l.length then -1 else a - l.length) := by
  unfold laws_szSlipS.f
  rw [w64 (by omega) (by omega)]
  by_cases h : a < l.length
  · rw [if_pos (by omega), if_pos h]
  · rw [if_neg (by omega), if_neg h]
theorem rdLSlip_nat (l : List S25) (j : Nat) (h : j < l.length) : rd_T25 l (j : Int) = l[j] := by
  unfold rd_T25; rw [Int.toNat_natCast, List.getD_eq_getElem?_getD, List.getElem?_eq_getElem h]; rfl
def cvSlip (l : List S25) : List S27 := l.map fun x => ⟨x.f0, x.f1, x.f2⟩
theorem cvSlip_length (l : List S25) : (cvSlip l).length = l.length := by simp [cvSlip]
theorem cvSlip_get (l : List S25) (j : Nat) (h : j < l.length) : (cvSlip l)[j]'(by rw [cvSlip_length]; exact h) = ⟨l[j].f0, l[j].f1, l[j].f2⟩ := by simp [cvSlip]
theorem set_take_drop {α : Type} (l : List α) (j : Nat) (hj : j < l.length) (z : List α) (hz : z.length = l.length) : (l.take j ++ z.drop j).set j l[j] = l.take (j + 1) ++ z.drop (j + 1) := by
  have h1 : (l.take j).length = j := by rw [List.length_take]; omega
  rw [List.set_append_right _ _ (by omega), h1, Nat.sub_self, List.drop_eq_getElem_cons (by omega : j < z.length), List.set_cons_zero, List.take_succ_eq_append_getElem hj, List.append_assoc]
  rfl
theorem toSlipS_ev (l : List S25) (hl : l.length ≤ 1048576) : Ev (fun k => laws_toSlipS.f k l) (cvSlip l) := by
  refine Ev.congr (f := fun k => laws_toSlipS.l0 k l (List.replicate l.length z27) 0) (fun k => by unfold laws_toSlipS.f; rw [if_pos (by omega), if_pos (by omega), Int.toNat_natCast]) ?_
  have key : ∀ j, j ≤ l.length → Ev (fun k => laws_toSlipS.l0 k l ((cvSlip l).take j ++ (List.replicate l.length z27).drop j) (j : Int)) (cvSlip l) := by
    refine down l.length ?_ ?_
    · refine Ev.step (f := fun _ => some (cvSlip l)) (fun k => ?_) (Ev.now _)
      simp only [laws_toSlipS.l0]
      rw [if_neg (by omega)]
      simp [List.take_of_length_le (Nat.le_of_eq (cvSlip_length l))]
    · intro j hj ih
      refine Ev.step (fun k => ?_) ih
      simp only [laws_toSlipS.l0]
      rw [if_pos (by omega), if_pos (by omega)]
      simp only [laws_toSlip.f, Option.bind_some]
      rw [if_pos (by simp [cvSlip_length]; omega), wsucc j (by omega), rdLSlip_nat l j hj, Int.toNat_natCast]
      have := set_take_drop (cvSlip l) j (by rw [cvSlip_length]; exact hj) (List.replicate l.length z27) (by simp [cvSlip_length])
      rw [cvSlip_get l j hj] at this
      rw [this]
  have := key 0 (Nat.zero_le _)
  simpa using this
theorem eqSlipS_refl (l : List S27) (hl : l.length ≤ 9223372036854775807) : Ev (fun k => laws_eqSlipS.f k l l) true := by
  unfold laws_eqSlipS.f
  simp only [if_true]
  have key : ∀ j, j ≤ l.length → Ev (fun k => laws_eqSlipS.l0 k l l (j : Int)) true := by
    refine down l.length ?_ ?_
    · refine Ev.step (f := fun _ => some true) (fun k => ?_) (Ev.now _)
      simp only [laws_eqSlipS.l0]
      rw [if_neg (by omega)]
    · intro j hj ih
      refine Ev.step (fun k => ?_) ih
      simp only [laws_eqSlipS.l0]
      rw [if_pos (by omega), if_pos (by omega), if_pos (by omega), wsucc j (by omega)]
      simp only [laws_eqSlip.f, if_true, Option.bind_some]
  exact key 0 (Nat.zero_le _)
theorem FnExactLeastStart : laws_FnExactLeastStart.Pure := by
  intro l h
  have hm : l.length ≤ 9223372036854775807 := h.1
  refine Ev.rounds (g := fun k => laws_FnExactLeastStart.f k l) ?_
  unfold laws_FnExactLeastStart.f
  simp only [szSlipS_eq l 1048576 (by omega) (by omega) hm, Option.bind_some]
  by_cases hs : (1048576 : Int) < l.length
  · simp only [if_pos hs]; simpa using Ev.now true
  · simp only [if_neg hs, if_neg (show ¬ ((1048576 : Int) - l.length < 0) by omega)]
    have hl : l.length ≤ 1048576 := by omega
    have hc : (cvSlip l).length ≤ 1048576 := by rw [cvSlip_length]; exact hl
    refine Ev.bind (toSlipS_ev l hl) ?_
    refine Ev.bind (spec_LeastStart_ev _ hc) ?_
    refine Ev.bind (toSlipS_ev l hl) ?_
    refine Ev.bind (impl_LeastStart_ev _) ?_
    simp only [if_true]
    refine Ev.bind (toSlipS_ev l hl) ?_
    refine Ev.bind (eqSlipS_refl _ (by omega)) ?_
    simp only [if_true]
    exact Ev.now _
end Go.Proofs.Ythbokfmmebhhdaa.Pure
