/- What FnExactIsBetween computes answers as the law says: over numbers and lists alone; there are no conditions but those of the statement. -/
import Derived.Test.YthbokfmmebhhdaaP1
import Derived.Test.YthbokfmmebhhdaaP3
import Derived.Test.YthbokfmmebhhdaaP4
namespace Go.Proofs.Ythbokfmmebhhdaa.Pure
open Go.RowKit Go.Proofs.Ythbokfmmebhhdaa.P Go.Proofs.YthbokfmmebhhdaaW.PrintWords Go.Proofs.YthbokfmmebhhdaaW.PrintLast Go.Proofs.YthbokfmmebhhdaaW.PrintMore
set_option linter.unusedVariables false
set_option linter.unusedSimpArgs false
theorem w64 {x : Int} (h0 : -9223372036854775808 ≤ x) (h1 : x ≤ 9223372036854775807) : wrap64 x = x := by
  unfold wrap64
  omega
theorem down {Q : Nat → Prop} (n : Nat) (fin : Q n) (step : ∀ j, j < n → Q (j + 1) → Q j) : ∀ j, j ≤ n → Q j := by
  intro j hj
  obtain ⟨d, hd⟩ : ∃ d, j + d = n := ⟨n - j, by omega⟩
  clear hj
  induction d generalizing j with
  | zero => have : j = n := by omega
            rw [this]; exact fin
  | succ d ih => exact step j (by omega) (ih (j + 1) (by omega))
theorem wsucc (j : Nat) (h : j < 9223372036854775807) : wrap64 ((j : Int) + 1) = ((j + 1 : Nat) : Int) := by
  rw [w64 (by omega) (by omega)]; omega
theorem rd_nat (l : List Int) (j : Nat) (h : j < l.length) : rd l (j : Int) = l[j] := by
  unfold rd; rw [Int.toNat_natCast, List.getD_eq_getElem?_getD, List.getElem?_eq_getElem h]; rfl
theorem rd_lit (l : List Int) (i : Int) : rd l i = l.getD i.toNat 0 := rfl
theorem all_drop_cons {α : Type} (p : α → Bool) (l : List α) (j : Nat) (h : j < l.length) : (l.drop j).all p = (p l[j] && (l.drop (j + 1)).all p) := by
  rw [List.drop_eq_getElem_cons h, List.all_cons]
theorem all_drop_len {α : Type} (p : α → Bool) (l : List α) : (l.drop l.length).all p = true := by simp
theorem ev_some {α : Type} (r : α) : Ev (fun _ => some r) r := Ev.now r
theorem ev_pt {α : Type} {g : Option α} {r : α} (h : g = some r) : Ev (fun _ => g) r := ⟨0, fun _ _ => h⟩
theorem ev_eq {α : Type} {g : Nat → Option α} {r r' : α} (h : Ev g r) (e : r = r') : Ev g r' := e ▸ h
def inR (lo hi n : Int) : Bool := decide (lo ≤ n ∧ n ≤ hi)
theorem l01In_eq (a b c : Int) : spec_l01In.f a b c = some (inR b c a) := by
  unfold spec_l01In.f inR
  by_cases h : b ≤ a
  · rw [if_pos h]; simp [h]
  · rw [if_neg h]; simp [h]
theorem in_eq (a b c : Int) : impl_in.f a b c = some (inR b c a) := by
  unfold impl_in.f inR
  by_cases h : b ≤ a
  · rw [if_pos h]; simp [h]
  · rw [if_neg h]; simp [h]
def minTo (a b : Int) : Int := if inR 0 1439 a = true ∧ inR 0 1439 b = true then Int.tmod (wrap64 (wrap64 (b - a) + 1440)) 1440 else -1
theorem l34Ok_eq (a : Int) : spec_l34Ok.f a = some (inR 0 1439 a) := by
  unfold spec_l34Ok.f; rw [l01In_eq]; rfl
theorem spec_MinutesTo_eq (a b : Int) : spec_MinutesTo.f a b = some (minTo a b) := by
  unfold spec_MinutesTo.f minTo
  simp only [l34Ok_eq, Option.bind_some]
  cases h1 : inR 0 1439 a <;> cases h2 : inR 0 1439 b <;> simp
theorem impl_MinutesTo_eq (a b : Int) : impl_MinutesTo.f a b = some (minTo a b) := by
  unfold impl_MinutesTo.f minTo
  simp only [in_eq, Option.bind_some]
  cases h1 : inR 0 1439 a <;> cases h2 : inR 0 1439 b <;> simp
theorem allIn_eq (l : List Int) (a b : Int) : impl_allIn.f l a b = some (l.all (inR a b)) := rfl
def between (m a b : Int) : Bool := inR 0 1439 m && (inR 0 1439 a && inR 0 1439 b) && decide (minTo a m < minTo a b)
theorem spec_IsBetween_ev (m a b : Int) : Ev (fun k => spec_IsBetween.f k m a b) (between m a b) := by
  unfold spec_IsBetween.f between
  simp only [l34Ok_eq, Option.bind_some]
  cases h1 : inR 0 1439 m <;> cases h2 : inR 0 1439 a <;> cases h3 : inR 0 1439 b
  all_goals
    simp only [if_true, Bool.false_eq_true, if_false, Bool.not_true, Bool.not_false, Bool.and_true, Bool.true_and, Bool.false_and, Bool.and_false]
    refine Ev.step (f := fun _ => _) (fun k => by simp only [spec_IsBetween.j0, spec_MinutesTo_eq, Option.bind_some, if_true, Bool.false_eq_true, if_false]) (Ev.now _)
theorem impl_IsBetween_eq (m a b : Int) : impl_IsBetween.f m a b = some (between m a b) := by
  unfold impl_IsBetween.f between
  rw [allIn_eq]
  simp only [Option.bind_some, List.all_cons, List.all_nil, Bool.and_true, impl_MinutesTo_eq]
  cases h1 : inR 0 1439 m <;> cases h2 : inR 0 1439 a <;> cases h3 : inR 0 1439 b <;> simp
theorem FnExactIsBetween : laws_FnExactIsBetween.Pure := by
  intro a0 a1 a2 _ _ _
  refine Ev.rounds (g := fun k => laws_FnExactIsBetween.f k a0 a1 a2) ?_
  unfold laws_FnExactIsBetween.f
  refine Ev.bind (spec_IsBetween_ev a0 a1 a2) ?_
  simp only [impl_IsBetween_eq, Option.bind_some]
  simpa using Ev.now true
end Go.Proofs.Ythbokfmmebhhdaa.Pure
