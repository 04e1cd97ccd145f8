/- What FnExactEventOn computes answers as the law says: over numbers and lists alone; there are no conditions but those of the statement. -/
import Derived.Test.YtnlioefgpgamdaaQ6
import Derived.Test.YtnlioefgpgamdaaQ8
import Derived.Test.YtnlioefgpgamdaaQ9
import Derived.Test.YtnlioefgpgamdaaQ10
import Derived.Test.YtnlioefgpgamdaaQ11
import Derived.Test.YtnlioefgpgamdaaQ12
import Derived.Test.YtnlioefgpgamdaaQ13
import Derived.Test.YtnlioefgpgamdaaQ14
import Derived.Test.YtnlioefgpgamdaaQ15
namespace Go.Proofs.Ytnlioefgpgamdaa.Pure
open Go.RowKit Go.Proofs.Ytnlioefgpgamdaa.Q Go.Proofs.YtnlioefgpgamdaaW.PrintWords Go.Proofs.YtnlioefgpgamdaaW.PrintLast Go.Proofs.YtnlioefgpgamdaaW.PrintMore
set_option linter.unusedVariables false
set_option linter.unusedSimpArgs false
theorem w64 {x : Int} (h0 : -9223372036854775808 ≤ x) (h1 : x ≤ 9223372036854775807) : wrap64 x = x := by
  unfold wrap64
  omega
theorem down {Q : Nat → Prop} (n : Nat) (fin : Q n) (step : ∀ j, j < n → Q (j + 1) → Q j) : ∀ j, j ≤ n → Q j := by
  intro j hj
  obtain ⟨d, hd⟩ : ∃ d, j + d = n := ⟨n - j, by omega⟩
  clear hj
  induction d generalizing j with
  | zero => have : j = n := by omega
            rw [this]; exact fin
  | succ d ih => exact step j (by omega) (ih (j + 1) (by omega))
theorem wsucc (j : Nat) (h : j < 9223372036854775807) : wrap64 ((j : Int) + 1) = ((j + 1 : Nat) : Int) := by
  rw [w64 (by omega) (by omega)]; omega
theorem rd_nat (l : List Int) (j : Nat) (h : j < l.length) : rd l (j : Int) = l[j] := by
  unfold rd; rw [Int.toNat_natCast, List.getD_eq_getElem?_getD, List.getElem?_eq_getElem h]; rfl
theorem rd_lit (l : List Int) (i : Int) : rd l i = l.getD i.toNat 0 := rfl
theorem all_drop_cons {α : Type} (p : α → Bool) (l : List α) (j : Nat) (h : j < l.length) : (l.drop j).all p = (p l[j] && (l.drop (j + 1)).all p) := by
  rw [List.drop_eq_getElem_cons h, List.all_cons]
theorem all_drop_len {α : Type} (p : α → Bool) (l : List α) : (l.drop l.length).all p = true := by simp
theorem ev_some {α : Type} (r : α) : Ev (fun _ => some r) r := Ev.now r
theorem ev_pt {α : Type} {g : Option α} {r : α} (h : g = some r) : Ev (fun _ => g) r := ⟨0, fun _ _ => h⟩
theorem ev_eq {α : Type} {g : Nat → Option α} {r r' : α} (h : Ev g r) (e : r = r') : Ev g r' := e ▸ h
def inR (lo hi n : Int) : Bool := decide (lo ≤ n ∧ n ≤ hi)
theorem l01In_eq (a b c : Int) : spec_l01In.f a b c = some (inR b c a) := by
  unfold spec_l01In.f inR
  by_cases h : b ≤ a
  · rw [if_pos h]; simp [h]
  · rw [if_neg h]; simp [h]
theorem allIn_eq (l : List Int) (a b : Int) : impl_allIn.f l a b = some (l.all (inR a b)) := rfl
theorem inR_iff {lo hi n : Int} : inR lo hi n = true ↔ lo ≤ n ∧ n ≤ hi := by unfold inR; simp
theorem in_eq (a b c : Int) : impl_in.f a b c = some (inR b c a) := by
  unfold impl_in.f inR
  by_cases h : b ≤ a
  · rw [if_pos h]; simp [h]
  · rw [if_neg h]; simp [h]
def rackOk (a b c : Int) : Bool := inR 0 10000 a && (inR 0 10000 b && inR 0 10000 c)
theorem spec_RackOk_eq (a b c : Int) : spec_RackOk.f a b c = some (rackOk a b c) := by
  unfold spec_RackOk.f rackOk
  simp only [l01In_eq, Option.bind_some]
  cases inR 0 10000 a <;> cases inR 0 10000 b <;> cases inR 0 10000 c <;> simp
theorem impl_RackOk_eq (a b c : Int) : impl_RackOk.f a b c = some (rackOk a b c) := by
  unfold impl_RackOk.f rackOk
  rw [allIn_eq]
  simp
theorem rackOk_iff {a b c : Int} : rackOk a b c = true ↔ (0 ≤ a ∧ a ≤ 10000) ∧ (0 ≤ b ∧ b ≤ 10000) ∧ (0 ≤ c ∧ c ≤ 10000) := by
  unfold rackOk; simp only [Bool.and_eq_true, inR_iff]
theorem mn_le (a b : Int) : mn a b ≤ a ∧ mn a b ≤ b ∧ (mn a b = a ∨ mn a b = b) := by unfold mn; split <;> omega
theorem mn_comm (a b : Int) : mn a b = mn b a := by unfold mn; split <;> split <;> omega
/-- What is sold: first from one number, then from another. -/
def soldA (x n : Int) : Int := mn n x
def soldB (x y n : Int) : Int := mn (n - mn n x) y
theorem spec_SellFresh_eq (a b c n : Int) (hr : rackOk a b c = true) (hn : inR 0 10000 n = true) : spec_SellFresh.f a b c n = some (a - soldA a n, b - soldB a b n, c, soldA a n + soldB a b n) := by
  unfold spec_SellFresh.f soldA soldB
  obtain ⟨h1, h2, h3⟩ := rackOk_iff.1 hr
  have h4 := inR_iff.1 hn
  have m1 := mn_le n a
  have m2 := mn_le (n - mn n a) b
  simp only [spec_RackOk_eq, l01In_eq, Option.bind_some, hr, hn, if_true]
  rw [w64 (x := n - mn n a) (by omega) (by omega), w64 (by omega) (by omega), w64 (by omega) (by omega), w64 (by omega) (by omega)]
theorem spec_SellCheap_eq (a b c n : Int) (hr : rackOk a b c = true) (hn : inR 0 10000 n = true) : spec_SellCheap.f a b c n = some (a, b - soldB c b n, c - soldA c n, soldA c n + soldB c b n) := by
  unfold spec_SellCheap.f soldA soldB
  obtain ⟨h1, h2, h3⟩ := rackOk_iff.1 hr
  have h4 := inR_iff.1 hn
  have m1 := mn_le n c
  have m2 := mn_le (n - mn n c) b
  simp only [spec_RackOk_eq, l01In_eq, Option.bind_some, hr, hn, if_true]
  rw [w64 (x := n - mn n c) (by omega) (by omega), w64 (by omega) (by omega), w64 (by omega) (by omega), w64 (by omega) (by omega)]
theorem spec_NextMorning_eq (a b c n : Int) (hr : rackOk a b c = true) (hn : inR 0 10000 n = true) : spec_NextMorning.f a b c n = some (n, a, b, c) := by
  unfold spec_NextMorning.f
  simp only [spec_RackOk_eq, l01In_eq, Option.bind_some, hr, hn, if_true]
theorem impl_taken_eq (x y n : Int) (hx : 0 ≤ x ∧ x ≤ 10000) (hy : 0 ≤ y ∧ y ≤ 10000) (hn : 0 ≤ n ∧ n ≤ 10000) : impl_taken.f x y n = some (x - soldA x n, y - soldB x y n, soldA x n + soldB x y n) := by
  unfold impl_taken.f soldA soldB
  rw [mn_comm x n, mn_comm y]
  have m1 := mn_le n x
  have m2 := mn_le (n - mn n x) y
  rw [w64 (x := n - mn n x) (by omega) (by omega), w64 (by omega) (by omega), w64 (by omega) (by omega), w64 (by omega) (by omega)]
theorem impl_SellFresh_eq (a b c n : Int) (hr : rackOk a b c = true) (hn : inR 0 10000 n = true) : impl_SellFresh.f a b c n = some (a - soldA a n, b - soldB a b n, c, soldA a n + soldB a b n) := by
  unfold impl_SellFresh.f
  obtain ⟨h1, h2, h3⟩ := rackOk_iff.1 hr
  simp only [impl_RackOk_eq, in_eq, Option.bind_some, hr, hn, if_true, impl_taken_eq a b n h1 h2 (inR_iff.1 hn)]
theorem impl_SellCheap_eq (a b c n : Int) (hr : rackOk a b c = true) (hn : inR 0 10000 n = true) : impl_SellCheap.f a b c n = some (a, b - soldB c b n, c - soldA c n, soldA c n + soldB c b n) := by
  unfold impl_SellCheap.f
  obtain ⟨h1, h2, h3⟩ := rackOk_iff.1 hr
  simp only [impl_RackOk_eq, in_eq, Option.bind_some, hr, hn, if_true, impl_taken_eq c b n h3 h2 (inR_iff.1 hn)]
theorem impl_NextMorning_eq (a b c n : Int) (hr : rackOk a b c = true) (hn : inR 0 10000 n = true) : impl_NextMorning.f a b c n = some (n, a, b, c) := by
  unfold impl_NextMorning.f
  simp only [impl_RackOk_eq, in_eq, Option.bind_some, hr, hn, if_true]
/-- An event on a rack: the rack, what was baked, sold, thrown, and whether it succeeds. -/
abbrev Ev7 := Int × Int × Int × Int × Int × Int × Bool
def evOn (a b c k n : Int) : Ev7 :=
  if rackOk a b c = true ∧ inR 0 1000 n = true then
    (if k = 1 then (if rackOk (a + n) b c = true then (a + n, b, c, n, 0, 0, true) else (a, b, c, 0, 0, 0, false))
    else if k = 2 then (if soldA a n + soldB a b n = n then (a - soldA a n, b - soldB a b n, c, 0, soldA a n + soldB a b n, 0, true) else (a, b, c, 0, 0, 0, false))
    else if k = 3 then (if soldA c n + soldB c b n = n then (a, b - soldB c b n, c - soldA c n, 0, soldA c n + soldB c b n, 0, true) else (a, b, c, 0, 0, 0, false))
    else if k = 4 then (if n = 0 then (0, a, b, 0, 0, c, true) else (a, b, c, 0, 0, 0, false))
    else (a, b, c, 0, 0, 0, false))
  else (a, b, c, 0, 0, 0, false)
theorem spec_EventOn_ev (a b c k n : Int) : Ev (fun q => spec_EventOn.f q a b c k n) (evOn a b c k n) := by
  unfold spec_EventOn.f evOn
  simp only [spec_RackOk_eq, l01In_eq, Option.bind_some]
  cases hr : rackOk a b c <;> cases hn : inR 0 1000 n
  case true.true =>
    have hn2 : inR 0 10000 n = true := inR_iff.2 ⟨(inR_iff.1 hn).1, by have := (inR_iff.1 hn).2; omega⟩
    have h4 := inR_iff.1 hn
    obtain ⟨h1, h2, h3⟩ := rackOk_iff.1 hr
    simp only [if_true, true_and, Bool.not_true]
    refine Ev.step (f := fun _ => _) (fun q => ?_) (ev_some _)
    simp only [spec_EventOn.j0, Bool.false_eq_true, if_false]
    rw [w64 (x := a + n) (by omega) (by omega), spec_RackOk_eq, spec_SellFresh_eq a b c n hr hn2, spec_SellCheap_eq a b c n hr hn2, spec_NextMorning_eq a b c 0 hr (by decide)]
    simp only [Option.bind_some]
    by_cases k1 : k = 1
    · simp only [if_pos k1]; split <;> rfl
    · by_cases k2 : k = 2
      · simp only [if_neg k1, if_pos k2]; split <;> rfl
      · by_cases k3 : k = 3
        · simp only [if_neg k1, if_neg k2, if_pos k3]; split <;> rfl
        · by_cases k4 : k = 4
          · simp only [if_neg k1, if_neg k2, if_neg k3, if_pos k4]; split <;> rfl
          · simp only [if_neg k1, if_neg k2, if_neg k3, if_neg k4]
  all_goals
    simp only [if_true, Bool.false_eq_true, if_false, Bool.not_false, false_and, and_false]
    refine Ev.step (f := fun _ => some _) (fun q => ?_) (Ev.now _)
    simp [spec_EventOn.j0]
theorem rack_after {x y n : Int} (hx : 0 ≤ x ∧ x ≤ 10000) (hy : 0 ≤ y ∧ y ≤ 10000) (hn : 0 ≤ n ∧ n ≤ 10000) : (0 ≤ soldA x n ∧ soldA x n ≤ x) ∧ (0 ≤ soldB x y n ∧ soldB x y n ≤ y) := by
  unfold soldA soldB
  have m1 := mn_le n x
  have m2 := mn_le (n - mn n x) y
  omega
theorem impl_EventOn_ev (a b c k n : Int) : Ev (fun q => impl_EventOn.f q a b c k n) (evOn a b c k n) := by
  unfold impl_EventOn.f evOn
  simp only [impl_RackOk_eq, in_eq, Option.bind_some]
  cases hr : rackOk a b c <;> cases hn : inR 0 1000 n
  case true.true =>
    have hn2 : inR 0 10000 n = true := inR_iff.2 ⟨(inR_iff.1 hn).1, by have := (inR_iff.1 hn).2; omega⟩
    have h4 := inR_iff.1 hn
    obtain ⟨h1, h2, h3⟩ := rackOk_iff.1 hr
    have s1 := rack_after (n := n) h1 h2 (by omega)
    have s2 := rack_after (n := n) h3 h2 (by omega)
    have r1 : rackOk (a - soldA a n) (b - soldB a b n) c = true := rackOk_iff.2 (by omega)
    have r2 : rackOk a (b - soldB c b n) (c - soldA c n) = true := rackOk_iff.2 (by omega)
    have r3 : rackOk 0 a b = true := rackOk_iff.2 (by omega)
    simp only [if_true, true_and, Bool.not_true]
    refine Ev.step (f := fun _ => _) (fun q => ?_) (ev_some _)
    simp only [impl_EventOn.j0, Bool.false_eq_true, if_false]
    rw [w64 (x := a + n) (by omega) (by omega), impl_SellFresh_eq a b c n hr hn2, impl_SellCheap_eq a b c n hr hn2, impl_NextMorning_eq a b c 0 hr (by decide)]
    simp only [Option.bind_some, impl_RackOk_eq, r1, r2, r3, if_true]
    by_cases k1 : k = 1
    · simp only [if_pos k1]; split <;> rfl
    · by_cases k2 : k = 2
      · simp only [if_neg k1, if_pos k2]; split <;> rfl
      · by_cases k3 : k = 3
        · simp only [if_neg k1, if_neg k2, if_pos k3]; split <;> rfl
        · by_cases k4 : k = 4
          · simp only [if_neg k1, if_neg k2, if_neg k3, if_pos k4]; split <;> rfl
          · simp only [if_neg k1, if_neg k2, if_neg k3, if_neg k4]
  all_goals
    simp only [if_true, Bool.false_eq_true, if_false, Bool.not_false, false_and, and_false]
    refine Ev.step (f := fun _ => some _) (fun q => ?_) (Ev.now _)
    simp [impl_EventOn.j0]
theorem FnExactEventOn : laws_FnExactEventOn.Pure := by
  intro a b c k n _ _
  refine Ev.rounds (g := fun q => laws_FnExactEventOn.f q a b c k n) ?_
  unfold laws_FnExactEventOn.f laws_toRack.f laws_toEvent.f
  simp only [Option.bind_some]
  refine Ev.bind (spec_EventOn_ev a b c k n) ?_
  refine Ev.bind (impl_EventOn_ev a b c k n) ?_
  simp only [laws_eqRack.f, if_true, Option.bind_some, bne_self_eq_false, Bool.false_eq_true, if_false]
  exact Ev.now _
end Go.Proofs.Ytnlioefgpgamdaa.Pure
