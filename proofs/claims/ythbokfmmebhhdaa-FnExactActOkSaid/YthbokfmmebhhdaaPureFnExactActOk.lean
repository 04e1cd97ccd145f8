/- What FnExactActOk computes answers as the law says: over numbers and lists alone; there are no conditions but those of the statement. -/
import Derived.Test.YthbokfmmebhhdaaP1
import Derived.Test.YthbokfmmebhhdaaP2
import Derived.Test.YthbokfmmebhhdaaP3
import Derived.Test.YthbokfmmebhhdaaP24
namespace Go.Proofs.Ythbokfmmebhhdaa.Pure
open Go.RowKit Go.Proofs.Ythbokfmmebhhdaa.P Go.Proofs.YthbokfmmebhhdaaW.PrintWords Go.Proofs.YthbokfmmebhhdaaW.PrintLast Go.Proofs.YthbokfmmebhhdaaW.PrintMore
set_option linter.unusedVariables false
set_option linter.unusedSimpArgs false
theorem w64 {x : Int} (h0 : -9223372036854775808 ≤ x) (h1 : x ≤ 9223372036854775807) : wrap64 x = x := by
  unfold wrap64
  omega
theorem down {Q : Nat → Prop} (n : Nat) (fin : Q n) (step : ∀ j, j < n → Q (j + 1) → Q j) : ∀ j, j ≤ n → Q j := by
  intro j hj
  obtain ⟨d, hd⟩ : ∃ d, j + d = n := ⟨n - j, by omega⟩
  clear hj
  induction d generalizing j with
  | zero => have : j = n := by omega
            rw [this]; exact fin
  | succ d ih => exact step j (by omega) (ih (j + 1) (by omega))
theorem wsucc (j : Nat) (h : j < 9223372036854775807) : wrap64 ((j : Int) + 1) = ((j + 1 : Nat) : Int) := by
  rw [w64 (by omega) (by omega)]; omega
theorem rd_nat (l : List Int) (j : Nat) (h : j < l.length) : rd l (j : Int) = l[j] := by
  unfold rd; rw [Int.toNat_natCast, List.getD_eq_getElem?_getD, List.getElem?_eq_getElem h]; rfl
theorem rd_lit (l : List Int) (i : Int) : rd l i = l.getD i.toNat 0 := rfl
theorem all_drop_cons {α : Type} (p : α → Bool) (l : List α) (j : Nat) (h : j < l.length) : (l.drop j).all p = (p l[j] && (l.drop (j + 1)).all p) := by
  rw [List.drop_eq_getElem_cons h, List.all_cons]
theorem all_drop_len {α : Type} (p : α → Bool) (l : List α) : (l.drop l.length).all p = true := by simp
theorem ev_some {α : Type} (r : α) : Ev (fun _ => some r) r := Ev.now r
theorem ev_pt {α : Type} {g : Option α} {r : α} (h : g = some r) : Ev (fun _ => g) r := ⟨0, fun _ _ => h⟩
theorem ev_eq {α : Type} {g : Nat → Option α} {r r' : α} (h : Ev g r) (e : r = r') : Ev g r' := e ▸ h
def inR (lo hi n : Int) : Bool := decide (lo ≤ n ∧ n ≤ hi)
theorem l01In_eq (a b c : Int) : spec_l01In.f a b c = some (inR b c a) := by
  unfold spec_l01In.f inR
  by_cases h : b ≤ a
  · rw [if_pos h]; simp [h]
  · rw [if_neg h]; simp [h]
theorem in_eq (a b c : Int) : impl_in.f a b c = some (inR b c a) := by
  unfold impl_in.f inR
  by_cases h : b ≤ a
  · rw [if_pos h]; simp [h]
  · rw [if_neg h]; simp [h]
def actOk (k a b : Int) : Bool := if k = 1 ∨ k = 2 ∨ k = 3 ∨ k = 6 then inR 0 1000 a && b == 0 else if k = 4 then a == 0 && b == 0 else if k = 5 then inR 0 3 a && inR 0 100000 b else false
theorem spec_ActOk_ev (x a b : Int) : Ev (fun k => spec_ActOk.f k x a b) (actOk x a b) := by
  have key : ∀ (q : Bool), (q = true ↔ (x = 1 ∨ x = 2 ∨ x = 3 ∨ x = 6)) → Ev (fun k => spec_ActOk.j0 k x q x a b) (actOk x a b) := by
    intro q hq
    refine Ev.step (f := fun _ => some (actOk x a b)) (fun k => ?_) (Ev.now _)
    simp only [spec_ActOk.j0, l01In_eq, Option.bind_some]
    unfold actOk
    by_cases h : x = 1 ∨ x = 2 ∨ x = 3 ∨ x = 6
    · rw [if_pos (hq.2 h), if_pos h]
      cases inR 0 1000 a <;> simp
    · rw [if_neg (fun e => h (hq.1 e)), if_neg h]
      by_cases h4 : x = 4
      · rw [if_neg (by omega), if_pos h4, if_pos h4]
        by_cases ha : a = 0 <;> simp [ha]
      · rw [if_neg h4, if_neg h4]
        by_cases h5 : x = 5
        · rw [if_pos h5, if_pos h5]
          cases inR 0 3 a <;> simp
        · rw [if_neg h5, if_neg h5]
  unfold spec_ActOk.f
  by_cases h1 : x = 1
  · simp only [if_pos h1]; exact key _ (by simp [h1])
  · by_cases h2 : x = 2
    · simp only [if_neg h1, if_pos h2]; exact key _ (by simp [h2])
    · by_cases h3 : x = 3
      · simp only [if_neg h1, if_neg h2, if_pos h3]; exact key _ (by simp [h3])
      · simp only [if_neg h1, if_neg h2, if_neg h3]; exact key _ (by simp [h1, h2, h3])
theorem impl_ActOk_ev (x a b : Int) : Ev (fun k => impl_ActOk.f k x a b) (actOk x a b) := by
  have key : ∀ (q : Bool), (q = true ↔ (x = 1 ∨ x = 2 ∨ x = 3 ∨ x = 6)) → Ev (fun k => impl_ActOk.j0 k x q x a b) (actOk x a b) := by
    intro q hq
    refine Ev.step (f := fun _ => some (actOk x a b)) (fun k => ?_) (Ev.now _)
    simp only [impl_ActOk.j0, in_eq, Option.bind_some]
    unfold actOk
    by_cases h : x = 1 ∨ x = 2 ∨ x = 3 ∨ x = 6
    · rw [if_pos (hq.2 h), if_pos h]
      cases inR 0 1000 a <;> simp
    · rw [if_neg (fun e => h (hq.1 e)), if_neg h]
      by_cases h4 : x = 4
      · rw [if_pos h4, if_pos h4]
        by_cases ha : a = 0 <;> simp [ha]
      · rw [if_neg h4, if_neg h4]
        by_cases h5 : x = 5
        · rw [if_pos h5, if_pos h5]
          cases inR 0 3 a <;> simp
        · rw [if_neg h5, if_neg h5]
  unfold impl_ActOk.f
  by_cases h1 : x = 1
  · simp only [if_pos h1]; exact key _ (by simp [h1])
  · by_cases h2 : x = 2
    · simp only [if_neg h1, if_pos h2]; exact key _ (by simp [h2])
    · by_cases h3 : x = 3
      · simp only [if_neg h1, if_neg h2, if_pos h3]; exact key _ (by simp [h3])
      · simp only [if_neg h1, if_neg h2, if_neg h3]; exact key _ (by simp [h1, h2, h3])
theorem FnExactActOk : laws_FnExactActOk.Pure := by
  intro a0 a1 a2 _
  refine Ev.rounds (g := fun k => laws_FnExactActOk.f k a0 a1 a2) ?_
  unfold laws_FnExactActOk.f laws_toAct.f
  simp only [Option.bind_some]
  refine Ev.bind (spec_ActOk_ev a0 a1 a2) ?_
  refine Ev.bind (impl_ActOk_ev a0 a1 a2) ?_
  simpa using Ev.now true
end Go.Proofs.Ythbokfmmebhhdaa.Pure
