/- What FnExactEnter computes answers as the law says: over numbers and lists alone; there are no conditions but those of the statement. -/
import Derived.Test.YtonaabffckkdlaaQ0
import Derived.Test.YtonaabffckkdlaaQ2
import Derived.Test.YtonaabffckkdlaaQ3
import Derived.Test.YtonaabffckkdlaaQ4
import Derived.Test.YtonaabffckkdlaaQ5
import Derived.Test.YtonaabffckkdlaaQ6
import Derived.Test.YtonaabffckkdlaaQ7
import Derived.Test.YtonaabffckkdlaaQ8
import Derived.Test.YtonaabffckkdlaaQ12
import Derived.Test.YtonaabffckkdlaaQ13
import Derived.Test.YtonaabffckkdlaaQ14
import Derived.Test.YtonaabffckkdlaaQ15
import Derived.Test.YtonaabffckkdlaaQ16
namespace Go.Proofs.Ytonaabffckkdlaa.Pure
open Go.RowKit Go.Proofs.Ytonaabffckkdlaa.Q Go.Proofs.YtonaabffckkdlaaW.PrintWords Go.Proofs.YtonaabffckkdlaaW.PrintLast Go.Proofs.YtonaabffckkdlaaW.PrintMore
set_option linter.unusedVariables false
set_option linter.unusedSimpArgs false
theorem w64 {x : Int} (h0 : -9223372036854775808 ≤ x) (h1 : x ≤ 9223372036854775807) : wrap64 x = x := by
  unfold wrap64
  omega
theorem down {Q : Nat → Prop} (n : Nat) (fin : Q n) (step : ∀ j, j < n → Q (j + 1) → Q j) : ∀ j, j ≤ n → Q j := by
  intro j hj
  obtain ⟨d, hd⟩ : ∃ d, j + d = n := ⟨n - j, by omega⟩
  clear hj
  induction d generalizing j with
  | zero => have : j = n := by omega
            rw [this]; exact fin
  | succ d ih => exact step j (by omega) (ih (j + 1) (by omega))
theorem wsucc (j : Nat) (h : j < 9223372036854775807) : wrap64 ((j : Int) + 1) = ((j + 1 : Nat) : Int) := by
  rw [w64 (by omega) (by omega)]; omega
theorem rd_nat (l : List Int) (j : Nat) (h : j < l.length) : rd l (j : Int) = l[j] := by
  unfold rd; rw [Int.toNat_natCast, List.getD_eq_getElem?_getD, List.getElem?_eq_getElem h]; rfl
theorem rd_lit (l : List Int) (i : Int) : rd l i = l.getD i.toNat 0 := rfl
theorem all_drop_cons {α : Type} (p : α → Bool) (l : List α) (j : Nat) (h : j < l.length) : (l.drop j).all p = (p l[j] && (l.drop (j + 1)).all p) := by
  rw [List.drop_eq_getElem_cons h, List.all_cons]
theorem all_drop_len {α : Type} (p : α → Bool) (l : List α) : (l.drop l.length).all p = true := by simp
theorem ev_some {α : Type} (r : α) : Ev (fun _ => some r) r := Ev.now r
theorem ev_pt {α : Type} {g : Option α} {r : α} (h : g = some r) : Ev (fun _ => g) r := ⟨0, fun _ _ => h⟩
theorem ev_eq {α : Type} {g : Nat → Option α} {r r' : α} (h : Ev g r) (e : r = r') : Ev g r' := e ▸ h
def inR (lo hi n : Int) : Bool := decide (lo ≤ n ∧ n ≤ hi)
theorem l01In_eq (a b c : Int) : spec_l01In.f a b c = some (inR b c a) := by
  unfold spec_l01In.f inR
  by_cases h : b ≤ a
  · rw [if_pos h]; simp [h]
  · rw [if_neg h]; simp [h]
theorem allIn_eq (l : List Int) (a b : Int) : impl_allIn.f l a b = some (l.all (inR a b)) := rfl
theorem inR_iff {lo hi n : Int} : inR lo hi n = true ↔ lo ≤ n ∧ n ≤ hi := by unfold inR; simp
theorem in_eq (a b c : Int) : impl_in.f a b c = some (inR b c a) := by
  unfold impl_in.f inR
  by_cases h : b ≤ a
  · rw [if_pos h]; simp [h]
  · rw [if_neg h]; simp [h]
def rackOk (a b c : Int) : Bool := inR 0 10000 a && (inR 0 10000 b && inR 0 10000 c)
theorem spec_RackOk_eq (a b c : Int) : spec_RackOk.f a b c = some (rackOk a b c) := by
  unfold spec_RackOk.f rackOk
  simp only [l01In_eq, Option.bind_some]
  cases inR 0 10000 a <;> cases inR 0 10000 b <;> cases inR 0 10000 c <;> simp
theorem impl_RackOk_eq (a b c : Int) : impl_RackOk.f a b c = some (rackOk a b c) := by
  unfold impl_RackOk.f rackOk
  rw [allIn_eq]
  simp
theorem rackOk_iff {a b c : Int} : rackOk a b c = true ↔ (0 ≤ a ∧ a ≤ 10000) ∧ (0 ≤ b ∧ b ≤ 10000) ∧ (0 ≤ c ∧ c ≤ 10000) := by
  unfold rackOk; simp only [Bool.and_eq_true, inR_iff]
theorem mn_le (a b : Int) : mn a b ≤ a ∧ mn a b ≤ b ∧ (mn a b = a ∨ mn a b = b) := by unfold mn; split <;> omega
theorem mn_comm (a b : Int) : mn a b = mn b a := by unfold mn; split <;> split <;> omega
/-- What is sold: first from one number, then from another. -/
def soldA (x n : Int) : Int := mn n x
def soldB (x y n : Int) : Int := mn (n - mn n x) y
theorem spec_SellFresh_eq (a b c n : Int) (hr : rackOk a b c = true) (hn : inR 0 10000 n = true) : spec_SellFresh.f a b c n = some (a - soldA a n, b - soldB a b n, c, soldA a n + soldB a b n) := by
  unfold spec_SellFresh.f soldA soldB
  obtain ⟨h1, h2, h3⟩ := rackOk_iff.1 hr
  have h4 := inR_iff.1 hn
  have m1 := mn_le n a
  have m2 := mn_le (n - mn n a) b
  simp only [spec_RackOk_eq, l01In_eq, Option.bind_some, hr, hn, if_true]
  rw [w64 (x := n - mn n a) (by omega) (by omega), w64 (by omega) (by omega), w64 (by omega) (by omega), w64 (by omega) (by omega)]
theorem spec_SellCheap_eq (a b c n : Int) (hr : rackOk a b c = true) (hn : inR 0 10000 n = true) : spec_SellCheap.f a b c n = some (a, b - soldB c b n, c - soldA c n, soldA c n + soldB c b n) := by
  unfold spec_SellCheap.f soldA soldB
  obtain ⟨h1, h2, h3⟩ := rackOk_iff.1 hr
  have h4 := inR_iff.1 hn
  have m1 := mn_le n c
  have m2 := mn_le (n - mn n c) b
  simp only [spec_RackOk_eq, l01In_eq, Option.bind_some, hr, hn, if_true]
  rw [w64 (x := n - mn n c) (by omega) (by omega), w64 (by omega) (by omega), w64 (by omega) (by omega), w64 (by omega) (by omega)]
theorem spec_NextMorning_eq (a b c n : Int) (hr : rackOk a b c = true) (hn : inR 0 10000 n = true) : spec_NextMorning.f a b c n = some (n, a, b, c) := by
  unfold spec_NextMorning.f
  simp only [spec_RackOk_eq, l01In_eq, Option.bind_some, hr, hn, if_true]
theorem impl_taken_eq (x y n : Int) (hx : 0 ≤ x ∧ x ≤ 10000) (hy : 0 ≤ y ∧ y ≤ 10000) (hn : 0 ≤ n ∧ n ≤ 10000) : impl_taken.f x y n = some (x - soldA x n, y - soldB x y n, soldA x n + soldB x y n) := by
  unfold impl_taken.f soldA soldB
  rw [mn_comm x n, mn_comm y]
  have m1 := mn_le n x
  have m2 := mn_le (n - mn n x) y
  rw [w64 (x := n - mn n x) (by omega) (by omega), w64 (by omega) (by omega), w64 (by omega) (by omega), w64 (by omega) (by omega)]
theorem impl_SellFresh_eq (a b c n : Int) (hr : rackOk a b c = true) (hn : inR 0 10000 n = true) : impl_SellFresh.f a b c n = some (a - soldA a n, b - soldB a b n, c, soldA a n + soldB a b n) := by
  unfold impl_SellFresh.f
  obtain ⟨h1, h2, h3⟩ := rackOk_iff.1 hr
  simp only [impl_RackOk_eq, in_eq, Option.bind_some, hr, hn, if_true, impl_taken_eq a b n h1 h2 (inR_iff.1 hn)]
theorem impl_SellCheap_eq (a b c n : Int) (hr : rackOk a b c = true) (hn : inR 0 10000 n = true) : impl_SellCheap.f a b c n = some (a, b - soldB c b n, c - soldA c n, soldA c n + soldB c b n) := by
  unfold impl_SellCheap.f
  obtain ⟨h1, h2, h3⟩ := rackOk_iff.1 hr
  simp only [impl_RackOk_eq, in_eq, Option.bind_some, hr, hn, if_true, impl_taken_eq c b n h3 h2 (inR_iff.1 hn)]
theorem impl_NextMorning_eq (a b c n : Int) (hr : rackOk a b c = true) (hn : inR 0 10000 n = true) : impl_NextMorning.f a b c n = some (n, a, b, c) := by
  unfold impl_NextMorning.f
  simp only [impl_RackOk_eq, in_eq, Option.bind_some, hr, hn, if_true]
/-- An event on a rack: the rack, what was baked, sold, thrown, and whether it succeeds. -/
abbrev Ev7 := Int × Int × Int × Int × Int × Int × Bool
def evOn (a b c k n : Int) : Ev7 :=
  if rackOk a b c = true ∧ inR 0 1000 n = true then
    (if k = 1 then (if rackOk (a + n) b c = true then (a + n, b, c, n, 0, 0, true) else (a, b, c, 0, 0, 0, false))
    else if k = 2 then (if soldA a n + soldB a b n = n then (a - soldA a n, b - soldB a b n, c, 0, soldA a n + soldB a b n, 0, true) else (a, b, c, 0, 0, 0, false))
    else if k = 3 then (if soldA c n + soldB c b n = n then (a, b - soldB c b n, c - soldA c n, 0, soldA c n + soldB c b n, 0, true) else (a, b, c, 0, 0, 0, false))
    else if k = 4 then (if n = 0 then (0, a, b, 0, 0, c, true) else (a, b, c, 0, 0, 0, false))
    else (a, b, c, 0, 0, 0, false))
  else (a, b, c, 0, 0, 0, false)
theorem spec_EventOn_ev (a b c k n : Int) : Ev (fun q => spec_EventOn.f q a b c k n) (evOn a b c k n) := by
  unfold spec_EventOn.f evOn
  simp only [spec_RackOk_eq, l01In_eq, Option.bind_some]
  cases hr : rackOk a b c <;> cases hn : inR 0 1000 n
  case true.true =>
    have hn2 : inR 0 10000 n = true := inR_iff.2 ⟨(inR_iff.1 hn).1, by have := (inR_iff.1 hn).2; omega⟩
    have h4 := inR_iff.1 hn
    obtain ⟨h1, h2, h3⟩ := rackOk_iff.1 hr
    simp only [if_true, true_and, Bool.not_true]
    refine Ev.step (f := fun _ => _) (fun q => ?_) (ev_some _)
    simp only [spec_EventOn.j0, Bool.false_eq_true, if_false]
    rw [w64 (x := a + n) (by omega) (by omega), spec_RackOk_eq, spec_SellFresh_eq a b c n hr hn2, spec_SellCheap_eq a b c n hr hn2, spec_NextMorning_eq a b c 0 hr (by decide)]
    simp only [Option.bind_some]
    by_cases k1 : k = 1
    · simp only [if_pos k1]; split <;> rfl
    · by_cases k2 : k = 2
      · simp only [if_neg k1, if_pos k2]; split <;> rfl
      · by_cases k3 : k = 3
        · simp only [if_neg k1, if_neg k2, if_pos k3]; split <;> rfl
        · by_cases k4 : k = 4
          · simp only [if_neg k1, if_neg k2, if_neg k3, if_pos k4]; split <;> rfl
          · simp only [if_neg k1, if_neg k2, if_neg k3, if_neg k4]
  all_goals
    simp only [if_true, Bool.false_eq_true, if_false, Bool.not_false, false_and, and_false]
    refine Ev.step (f := fun _ => some _) (fun q => ?_) (Ev.now _)
    simp [spec_EventOn.j0]
theorem rack_after {x y n : Int} (hx : 0 ≤ x ∧ x ≤ 10000) (hy : 0 ≤ y ∧ y ≤ 10000) (hn : 0 ≤ n ∧ n ≤ 10000) : (0 ≤ soldA x n ∧ soldA x n ≤ x) ∧ (0 ≤ soldB x y n ∧ soldB x y n ≤ y) := by
  unfold soldA soldB
  have m1 := mn_le n x
  have m2 := mn_le (n - mn n x) y
  omega
theorem impl_EventOn_ev (a b c k n : Int) : Ev (fun q => impl_EventOn.f q a b c k n) (evOn a b c k n) := by
  unfold impl_EventOn.f evOn
  simp only [impl_RackOk_eq, in_eq, Option.bind_some]
  cases hr : rackOk a b c <;> cases hn : inR 0 1000 n
  case true.true =>
    have hn2 : inR 0 10000 n = true := inR_iff.2 ⟨(inR_iff.1 hn).1, by have := (inR_iff.1 hn).2; omega⟩
    have h4 := inR_iff.1 hn
    obtain ⟨h1, h2, h3⟩ := rackOk_iff.1 hr
    have s1 := rack_after (n := n) h1 h2 (by omega)
    have s2 := rack_after (n := n) h3 h2 (by omega)
    have r1 : rackOk (a - soldA a n) (b - soldB a b n) c = true := rackOk_iff.2 (by omega)
    have r2 : rackOk a (b - soldB c b n) (c - soldA c n) = true := rackOk_iff.2 (by omega)
    have r3 : rackOk 0 a b = true := rackOk_iff.2 (by omega)
    simp only [if_true, true_and, Bool.not_true]
    refine Ev.step (f := fun _ => _) (fun q => ?_) (ev_some _)
    simp only [impl_EventOn.j0, Bool.false_eq_true, if_false]
    rw [w64 (x := a + n) (by omega) (by omega), impl_SellFresh_eq a b c n hr hn2, impl_SellCheap_eq a b c n hr hn2, impl_NextMorning_eq a b c 0 hr (by decide)]
    simp only [Option.bind_some, impl_RackOk_eq, r1, r2, r3, if_true]
    by_cases k1 : k = 1
    · simp only [if_pos k1]; split <;> rfl
    · by_cases k2 : k = 2
      · simp only [if_neg k1, if_pos k2]; split <;> rfl
      · by_cases k3 : k = 3
        · simp only [if_neg k1, if_neg k2, if_pos k3]; split <;> rfl
        · by_cases k4 : k = 4
          · simp only [if_neg k1, if_neg k2, if_neg k3, if_pos k4]; split <;> rfl
          · simp only [if_neg k1, if_neg k2, if_neg k3, if_neg k4]
  all_goals
    simp only [if_true, Bool.false_eq_true, if_false, Bool.not_false, false_and, and_false]
    refine Ev.step (f := fun _ => some _) (fun q => ?_) (Ev.now _)
    simp [impl_EventOn.j0]
theorem rdEvent_nat (l : List S41) (j : Nat) (h : j < l.length) : rd_T41 l (j : Int) = l[j] := by
  unfold rd_T41; rw [Int.toNat_natCast, List.getD_eq_getElem?_getD, List.getElem?_eq_getElem h]; rfl
theorem rdEvent_set (l : List S41) (j : Nat) (e : S41) (h : j < l.length) : rd_T41 (l.set j e) (j : Int) = e := by
  rw [rdEvent_nat _ j (by simpa using h)]; simp
/-- Events performed one by one, from a rack and three sums on; none where one fails. -/
abbrev Cnt := Int × Int × Int × Int × Int × Int
def cnt : List S41 → Cnt → Option Cnt
  | [], s => some s
  | x :: r, (a, b, c, p, q, t) => if (evOn a b c x.f0 x.f1).2.2.2.2.2.2 = true then cnt r ((evOn a b c x.f0 x.f1).1, (evOn a b c x.f0 x.f1).2.1, (evOn a b c x.f0 x.f1).2.2.1, p + (evOn a b c x.f0 x.f1).2.2.2.1, q + (evOn a b c x.f0 x.f1).2.2.2.2.1, t + (evOn a b c x.f0 x.f1).2.2.2.2.2.1) else none
theorem evOn_bound (a b c k n : Int) : (0 ≤ (evOn a b c k n).2.2.2.1 ∧ (evOn a b c k n).2.2.2.1 ≤ 1000) ∧ (0 ≤ (evOn a b c k n).2.2.2.2.1 ∧ (evOn a b c k n).2.2.2.2.1 ≤ 1000) ∧ (0 ≤ (evOn a b c k n).2.2.2.2.2.1 ∧ (evOn a b c k n).2.2.2.2.2.1 ≤ 10000) := by
  unfold evOn
  by_cases h : rackOk a b c = true ∧ inR 0 1000 n = true
  · rw [if_pos h]
    have h4 := inR_iff.1 h.2
    obtain ⟨h1, h2, h3⟩ := rackOk_iff.1 h.1
    repeat' split
    all_goals (dsimp only; omega)
  · rw [if_neg h]; simp
def bookCnt (l : List S41) : Option Cnt := if l.length ≤ 40 then cnt l (0, 0, 0, 0, 0, 0) else none
/-- What a count of events answers: the counted book, and whether all succeed. -/
abbrev CntR := List S41 × Int × Int × Int × Int × Int × Int × Bool
def Told7 (l : List S41) (o : Option Cnt) (r : CntR) : Prop :=
  match o with
  | some s => r = (l, s.1, s.2.1, s.2.2.1, s.2.2.2.1, s.2.2.2.2.1, s.2.2.2.2.2, true)
  | none => r.2.2.2.2.2.2.2 = false
theorem spec_count_ev (l : List S41) (hl : l.length ≤ 2097152) : ∃ r, Ev (fun k => spec_l37Count.f k l) r ∧ Told7 l (bookCnt l) r := by
  have key : ∀ j, j ≤ l.length → ∀ a b c p q t : Int, (0 ≤ p ∧ p ≤ 10000 * (j : Int)) → (0 ≤ q ∧ q ≤ 10000 * (j : Int)) → (0 ≤ t ∧ t ≤ 10000 * (j : Int)) →
      ∃ r, Ev (fun k => spec_l37Count.l0 k l (j : Int) l a b c p q t) r ∧ Told7 l (cnt (l.drop j) (a, b, c, p, q, t)) r := by
    refine down l.length ?_ ?_
    · intro a b c p q t _ _ _
      refine ⟨(l, a, b, c, p, q, t, true), Ev.step (f := fun _ => some _) (fun k => ?_) (Ev.now _), ?_⟩
      · simp only [spec_l37Count.l0]
        rw [if_neg (by omega)]
      · simp [cnt, Told7]
    · intro j hj ih a b c p q t hp hq ht
      have hb := evOn_bound a b c l[j].f0 l[j].f1
      rw [List.drop_eq_getElem_cons hj]
      simp only [cnt]
      have he := spec_EventOn_ev a b c l[j].f0 l[j].f1
      generalize evOn a b c l[j].f0 l[j].f1 = e at hb he ⊢
      by_cases hf : e.2.2.2.2.2.2 = true
      · rw [if_pos hf]
        obtain ⟨r, hr, hT⟩ := ih e.1 e.2.1 e.2.2.1 (p + e.2.2.2.1) (q + e.2.2.2.2.1) (t + e.2.2.2.2.2.1) (by omega) (by omega) (by omega)
        refine ⟨r, Ev.step (f := fun k => (spec_EventOn.f k a b c l[j].f0 l[j].f1).bind fun bt901 => (if bt901.2.2.2.2.2.2 = true then (spec_l37Count.l0 k l (wrap64 ((j : Int) + 1)) l bt901.1 bt901.2.1 bt901.2.2.1 (wrap64 (p + bt901.2.2.2.1)) (wrap64 (q + bt901.2.2.2.2.1)) (wrap64 (t + bt901.2.2.2.2.2.1))) else (some (l, a, b, c, p, q, t, false)))) (fun k => ?_) (Ev.bind he ?_), hT⟩
        · simp only [spec_l37Count.l0]
          rw [if_pos (by omega), if_pos (by omega), rdEvent_nat l j hj]
        · rw [w64 (x := p + e.2.2.2.1) (by omega) (by omega), w64 (x := q + e.2.2.2.2.1) (by omega) (by omega), w64 (x := t + e.2.2.2.2.2.1) (by omega) (by omega), wsucc j (by omega)]
          simp only [if_pos hf]
          exact hr
      · rw [if_neg hf]
        refine ⟨(l, a, b, c, p, q, t, false), Ev.step (f := fun k => (spec_EventOn.f k a b c l[j].f0 l[j].f1).bind fun bt901 => (if bt901.2.2.2.2.2.2 = true then (spec_l37Count.l0 k l (wrap64 ((j : Int) + 1)) l bt901.1 bt901.2.1 bt901.2.2.1 (wrap64 (p + bt901.2.2.2.1)) (wrap64 (q + bt901.2.2.2.2.1)) (wrap64 (t + bt901.2.2.2.2.2.1))) else (some (l, a, b, c, p, q, t, false)))) (fun k => ?_) (Ev.bind he ?_), rfl⟩
        · simp only [spec_l37Count.l0]
          rw [if_pos (by omega), if_pos (by omega), rdEvent_nat l j hj]
        · simp only [if_neg hf]
          exact Ev.now _
  unfold bookCnt
  by_cases h : l.length ≤ 40
  · rw [if_pos h]
    obtain ⟨r, hr, hT⟩ := key 0 (Nat.zero_le _) 0 0 0 0 0 0 (by omega) (by omega) (by omega)
    refine ⟨r, Ev.congr (f := fun k => spec_l37Count.l0 k l 0 l 0 0 0 0 0 0) (fun k => ?_) hr, by simpa using hT⟩
    unfold spec_l37Count.f
    rw [Option.bind_some, if_pos (by simp; omega), Option.bind_some, if_neg (by omega)]
    rfl
  · rw [if_neg h]
    refine ⟨(l, 0, 0, 0, 0, 0, 0, false), Ev.congr (f := fun _ => some _) (fun k => ?_) (Ev.now _), rfl⟩
    unfold spec_l37Count.f
    rw [Option.bind_some, if_pos (by simp; omega), Option.bind_some, if_pos (by omega)]
    rfl
theorem impl_count_ev (l : List S41) (hl : l.length ≤ 2097152) : ∃ r, Ev (fun k => impl_counted.f k l) r ∧ Told7 l (bookCnt l) r := by
  have key : ∀ j, j ≤ l.length → ∀ a b c p q t : Int, (0 ≤ p ∧ p ≤ 10000 * (j : Int)) → (0 ≤ q ∧ q ≤ 10000 * (j : Int)) → (0 ≤ t ∧ t ≤ 10000 * (j : Int)) →
      ∃ r, Ev (fun k => impl_counted.l0 k l l (l.length : Int) (j : Int) l a b c p q t) r ∧ Told7 l (if l.length ≤ 40 then cnt (l.drop j) (a, b, c, p, q, t) else none) r := by
    refine down l.length ?_ ?_
    · intro a b c p q t _ _ _
      refine ⟨(l, a, b, c, p, q, t, decide ((l.length : Int) ≤ 40)), Ev.step (f := fun _ => some _) (fun k => ?_) (Ev.now _), ?_⟩
      · simp only [impl_counted.l0]
        rw [if_neg (by omega)]
      · by_cases h : l.length ≤ 40
        · have h' : (l.length : Int) ≤ 40 := by omega
          simp [cnt, Told7, h, h']
        · have h' : ¬ ((l.length : Int) ≤ 40) := by omega
          simp [Told7, h, h']
    · intro j hj ih a b c p q t hp hq ht
      have hb := evOn_bound a b c l[j].f0 l[j].f1
      rw [List.drop_eq_getElem_cons hj]
      simp only [cnt]
      have he := impl_EventOn_ev a b c l[j].f0 l[j].f1
      generalize evOn a b c l[j].f0 l[j].f1 = e at hb he ⊢
      by_cases hf : e.2.2.2.2.2.2 = true
      · rw [if_pos hf]
        obtain ⟨r, hr, hT⟩ := ih e.1 e.2.1 e.2.2.1 (p + e.2.2.2.1) (q + e.2.2.2.2.1) (t + e.2.2.2.2.2.1) (by omega) (by omega) (by omega)
        refine ⟨r, Ev.step (f := fun k => (impl_EventOn.f k a b c l[j].f0 l[j].f1).bind fun bt901 => (if bt901.2.2.2.2.2.2 = true then (impl_counted.l0 k l l (l.length : Int) (wrap64 ((j : Int) + 1)) l bt901.1 bt901.2.1 bt901.2.2.1 (wrap64 (p + bt901.2.2.2.1)) (wrap64 (q + bt901.2.2.2.2.1)) (wrap64 (t + bt901.2.2.2.2.2.1))) else (some ([], 0, 0, 0, 0, 0, 0, false)))) (fun k => ?_) (Ev.bind he ?_), hT⟩
        · simp only [impl_counted.l0]
          rw [if_pos (by omega), if_pos (by omega), if_pos (by omega), rdEvent_nat l j hj]
        · rw [w64 (x := p + e.2.2.2.1) (by omega) (by omega), w64 (x := q + e.2.2.2.2.1) (by omega) (by omega), w64 (x := t + e.2.2.2.2.2.1) (by omega) (by omega), wsucc j (by omega)]
          simp only [if_pos hf]
          exact hr
      · rw [if_neg hf]
        refine ⟨([], 0, 0, 0, 0, 0, 0, false), Ev.step (f := fun k => (impl_EventOn.f k a b c l[j].f0 l[j].f1).bind fun bt901 => (if bt901.2.2.2.2.2.2 = true then (impl_counted.l0 k l l (l.length : Int) (wrap64 ((j : Int) + 1)) l bt901.1 bt901.2.1 bt901.2.2.1 (wrap64 (p + bt901.2.2.2.1)) (wrap64 (q + bt901.2.2.2.2.1)) (wrap64 (t + bt901.2.2.2.2.2.1))) else (some ([], 0, 0, 0, 0, 0, 0, false)))) (fun k => ?_) (Ev.bind he ?_), by simp [Told7]⟩
        · simp only [impl_counted.l0]
          rw [if_pos (by omega), if_pos (by omega), if_pos (by omega), rdEvent_nat l j hj]
        · simp only [if_neg hf]
          exact Ev.now _
  unfold bookCnt
  obtain ⟨r, hr, hT⟩ := key 0 (Nat.zero_le _) 0 0 0 0 0 0 (by omega) (by omega) (by omega)
  refine ⟨r, Ev.congr (f := fun k => impl_counted.l0 k l l (l.length : Int) 0 l 0 0 0 0 0 0) (fun k => ?_) hr, by simpa using hT⟩
  unfold impl_counted.f
  rw [Option.bind_some, if_pos (by simp; omega)]
  rfl
def bookOk (l : List S41) (a b c p q t : Int) : Bool := decide (bookCnt l = some (a, b, c, p, q, t))
theorem bookOk_of {l : List S41} {r : CntR} (h : Told7 l (bookCnt l) r) (a b c p q t : Int) :
    (if r.2.2.2.2.2.2.2 = true then (if (r.2.1 == a && (r.2.2.1 == b && (r.2.2.2.1 == c))) = true then (if r.2.2.2.2.1 = p then (if r.2.2.2.2.2.1 = q then (some (r.2.2.2.2.2.2.1 == t)) else (some false)) else (some false)) else (some false)) else (some false)) = some (bookOk l a b c p q t) := by
  unfold bookOk
  cases hc : bookCnt l with
  | none =>
    rw [hc] at h
    have h' : r.2.2.2.2.2.2.2 = false := h
    rw [if_neg (by rw [h']; decide)]
    simp
  | some s =>
    rw [hc] at h
    have h' : r = (l, s.1, s.2.1, s.2.2.1, s.2.2.2.1, s.2.2.2.2.1, s.2.2.2.2.2, true) := h
    subst h'
    obtain ⟨s1, s2, s3, s4, s5, s6⟩ := s
    simp only [if_true, Option.some.injEq, Prod.mk.injEq]
    by_cases e1 : s1 = a <;> by_cases e2 : s2 = b <;> by_cases e3 : s3 = c <;> by_cases e4 : s4 = p <;> by_cases e5 : s5 = q <;> by_cases e6 : s6 = t <;> simp [e1, e2, e3, e4, e5, e6]
theorem spec_BookOk_ev (l : List S41) (a b c p q t : Int) (hl : l.length ≤ 2097152) : Ev (fun k => spec_BookOk.f k l a b c p q t) (bookOk l a b c p q t) := by
  obtain ⟨r, hr, hT⟩ := spec_count_ev l hl
  unfold spec_BookOk.f
  refine Ev.bind hr ?_
  exact ev_pt (bookOk_of hT a b c p q t)
theorem impl_BookOk_ev (l : List S41) (a b c p q t : Int) (hl : l.length ≤ 2097152) : Ev (fun k => impl_BookOk.f k l a b c p q t) (bookOk l a b c p q t) := by
  obtain ⟨r, hr, hT⟩ := impl_count_ev l hl
  unfold impl_BookOk.f
  refine Ev.bind hr ?_
  exact ev_pt (bookOk_of hT a b c p q t)
theorem impl_bookCopy_eq (l : List S41) (a b c p q t : Int) (h : l.length ≤ 2097152) : impl_bookCopy.f l a b c p q t = some (l, a, b, c, p, q, t) := by
  unfold impl_bookCopy.f
  rw [Option.bind_some, if_pos (by simp; omega)]; rfl
theorem spec_l37Copy_eq (l : List S41) (a b c p q t : Int) (h : l.length ≤ 2097152) : spec_l37Copy.f l a b c p q t = some (l, a, b, c, p, q, t) := by
  unfold spec_l37Copy.f
  rw [Option.bind_some, if_pos (by simp; omega)]; rfl
theorem enter_both (l : List S41) (a b c p q t x y : Int) (hl : l.length ≤ 1048576) : ∃ r : CntR, Ev (fun k => spec_Enter.f k l a b c p q t x y) r ∧ Ev (fun k => impl_Enter.f k l a b c p q t x y) r ∧ r.1.length ≤ l.length + 1 := by
  have hl2 : l.length ≤ 2097152 := Nat.le_trans hl (by decide)
  have hlen : (l ++ [(⟨x, y⟩ : S41)]).length ≤ 2097152 := by simp; omega
  obtain ⟨r1, e1, t1⟩ := spec_count_ev (l ++ [(⟨x, y⟩ : S41)]) hlen
  obtain ⟨r2, e2, t2⟩ := impl_count_ev (l ++ [(⟨x, y⟩ : S41)]) hlen
  have g1 : ([] : List S41).length + l.length < 8796093022208 := by simp; omega
  have g2 : l.length + ([(⟨x, y⟩ : S41)]).length < 8796093022208 := by simp; omega
  unfold spec_Enter.f impl_Enter.f
  simp only [Option.bind_some, if_pos g1, List.nil_append, if_pos g2, spec_l37Copy_eq l a b c p q t hl2, impl_bookCopy_eq l a b c p q t hl2]
  by_cases h : bookOk l a b c p q t = true
  case neg =>
    refine ⟨(l, a, b, c, p, q, t, false), Ev.bind e1 (Ev.bind (spec_BookOk_ev l a b c p q t hl2) ?_), Ev.bind (impl_BookOk_ev l a b c p q t hl2) ?_, ?_⟩
    · simp only [if_neg h]; exact Ev.now _
    · simp only [if_neg h]; exact Ev.now _
    · show l.length ≤ l.length + 1
      omega
  cases hc : bookCnt (l ++ [(⟨x, y⟩ : S41)]) with
  | none =>
    rw [hc] at t1 t2
    have t1' : r1.2.2.2.2.2.2.2 = false := t1
    have t2' : r2.2.2.2.2.2.2.2 = false := t2
    refine ⟨(l, a, b, c, p, q, t, false), Ev.bind e1 (Ev.bind (spec_BookOk_ev l a b c p q t hl2) ?_), Ev.bind (impl_BookOk_ev l a b c p q t hl2) ?_, ?_⟩
    · simp only [if_pos h, t1', Bool.false_eq_true, if_false]; exact Ev.now _
    · simp only [if_pos h]
      refine Ev.bind e2 ?_
      simp only [t2', Bool.false_eq_true, if_false]; exact Ev.now _
    · show l.length ≤ l.length + 1
      omega
  | some s =>
    rw [hc] at t1 t2
    have t1' : r1 = (l ++ [(⟨x, y⟩ : S41)], s.1, s.2.1, s.2.2.1, s.2.2.2.1, s.2.2.2.2.1, s.2.2.2.2.2, true) := t1
    have t2' : r2 = (l ++ [(⟨x, y⟩ : S41)], s.1, s.2.1, s.2.2.1, s.2.2.2.1, s.2.2.2.2.1, s.2.2.2.2.2, true) := t2
    subst t1' t2'
    refine ⟨(l ++ [(⟨x, y⟩ : S41)], s.1, s.2.1, s.2.2.1, s.2.2.2.1, s.2.2.2.2.1, s.2.2.2.2.2, true), Ev.bind e1 (Ev.bind (spec_BookOk_ev l a b c p q t hl2) ?_), Ev.bind (impl_BookOk_ev l a b c p q t hl2) ?_, ?_⟩
    · simp only [if_pos h, if_true]; exact Ev.now _
    · simp only [if_pos h]
      refine Ev.bind e2 ?_
      simp only [if_true]; exact Ev.now _
    · show (l ++ [(⟨x, y⟩ : S41)]).length ≤ l.length + 1
      simp
theorem szEventS_eq (l : List S39) (a : Int) (h0 : -1 ≤ a) (h1 : a ≤ 1048576) (hl : l.length ≤ 9223372036854775807) : laws_szEventS.f l a = some (if a < l.length then -1 else a - l.length) := by
  unfold laws_szEventS.f
  rw [w64 (by omega) (by omega)]
  by_cases h : a < l.length
  · rw [if_pos (by omega), if_pos h]
  · rw [if_neg (by omega), if_neg h]
theorem rdLEvent_nat (l : List S39) (j : Nat) (h : j < l.length) : rd_T39 l (j : Int) = l[j] := by
  unfold rd_T39; rw [Int.toNat_natCast, List.getD_eq_getElem?_getD, List.getElem?_eq_getElem h]; rfl
def cvEvent (l : List S39) : List S41 := l.map fun x => ⟨x.f0, x.f1⟩
theorem cvEvent_length (l : List S39) : (cvEvent l).length = l.length := by simp [cvEvent]
theorem cvEvent_get (l : List S39) (j : Nat) (h : j < l.length) : (cvEvent l)[j]'(by rw [cvEvent_length]; exact h) = ⟨l[j].f0, l[j].f1⟩ := by simp [cvEvent]
theorem set_take_drop {α : Type} (l : List α) (j : Nat) (hj : j < l.length) (z : List α) (hz : z.length = l.length) : (l.take j ++ z.drop j).set j l[j] = l.take (j + 1) ++ z.drop (j + 1) := by
  have h1 : (l.take j).length = j := by rw [List.length_take]; omega
  rw [List.set_append_right _ _ (by omega), h1, Nat.sub_self, List.drop_eq_getElem_cons (by omega : j < z.length), List.set_cons_zero, List.take_succ_eq_append_getElem hj, List.append_assoc]
  rfl
theorem toEventS_ev (l : List S39) (hl : l.length ≤ 1048576) : Ev (fun k => laws_toEventS.f k l) (cvEvent l) := by
  refine Ev.congr (f := fun k => laws_toEventS.l0 k l (List.replicate l.length z41) 0) (fun k => by unfold laws_toEventS.f; rw [if_pos (by omega), if_pos (by omega), Int.toNat_natCast]) ?_
  have key : ∀ j, j ≤ l.length → Ev (fun k => laws_toEventS.l0 k l ((cvEvent l).take j ++ (List.replicate l.length z41).drop j) (j : Int)) (cvEvent l) := by
    refine down l.length ?_ ?_
    · refine Ev.step (f := fun _ => some (cvEvent l)) (fun k => ?_) (Ev.now _)
      simp only [laws_toEventS.l0]
      rw [if_neg (by omega)]
      simp [List.take_of_length_le (Nat.le_of_eq (cvEvent_length l))]
    · intro j hj ih
      refine Ev.step (fun k => ?_) ih
      simp only [laws_toEventS.l0]
      rw [if_pos (by omega), if_pos (by omega)]
      simp only [laws_toEvent.f, Option.bind_some]
      rw [if_pos (by simp [cvEvent_length]; omega), wsucc j (by omega), rdLEvent_nat l j hj, Int.toNat_natCast]
      have := set_take_drop (cvEvent l) j (by rw [cvEvent_length]; exact hj) (List.replicate l.length z41) (by simp [cvEvent_length])
      rw [cvEvent_get l j hj] at this
      rw [this]
  have := key 0 (Nat.zero_le _)
  simpa using this
theorem eqEventS_refl (l : List S41) (hl : l.length ≤ 9223372036854775807) : Ev (fun k => laws_eqEventS.f k l l) true := by
  unfold laws_eqEventS.f
  simp only [if_true]
  have key : ∀ j, j ≤ l.length → Ev (fun k => laws_eqEventS.l0 k l l (j : Int)) true := by
    refine down l.length ?_ ?_
    · refine Ev.step (f := fun _ => some true) (fun k => ?_) (Ev.now _)
      simp only [laws_eqEventS.l0]
      rw [if_neg (by omega)]
    · intro j hj ih
      refine Ev.step (fun k => ?_) ih
      simp only [laws_eqEventS.l0]
      rw [if_pos (by omega), if_pos (by omega), if_pos (by omega), wsucc j (by omega)]
      simp only [laws_eqEvent.f, if_true, Option.bind_some]
  exact key 0 (Nat.zero_le _)
theorem szBook_eq (l : List S39) (a b c p q t n : Int) (h0 : -1 ≤ n) (h1 : n ≤ 1048576) (hl : l.length ≤ 9223372036854775807) : laws_szBook.f l a b c p q t n = some (if n < l.length then -1 else n - l.length) := by
  unfold laws_szBook.f
  rw [szEventS_eq l n h0 h1 hl, Option.bind_some]
  by_cases h : n < l.length
  · rw [if_pos h]; simp
  · rw [if_neg h, if_neg (by omega)]
theorem toBook_ev (l : List S39) (a b c p q t : Int) (hl : l.length ≤ 1048576) : Ev (fun k => laws_toBook.f k l a b c p q t) (cvEvent l, a, b, c, p, q, t) := by
  unfold laws_toBook.f laws_toRack.f
  refine Ev.bind (toEventS_ev l hl) ?_
  simp only [Option.bind_some]
  exact Ev.now _
theorem eqBook_refl (l : List S41) (a b c p q t : Int) (hl : l.length ≤ 9223372036854775807) : Ev (fun k => laws_eqBook.f k l a b c p q t l a b c p q t) true := by
  unfold laws_eqBook.f laws_eqRack.f
  refine Ev.bind (eqEventS_refl l hl) ?_
  simp only [if_true, Option.bind_some]
  exact Ev.now _
def marksEvent (n : Nat) (m : Int) : List S41 := (List.range n).map fun (i : Nat) => ⟨m + 2 * (i : Int) + 0, m + 2 * (i : Int) + 1⟩
theorem marksEvent_length (n : Nat) (m : Int) : (marksEvent n m).length = n := by simp [marksEvent]
theorem marksEvent_get (n : Nat) (m : Int) (j : Nat) (h : j < n) : (marksEvent n m)[j]'(by rw [marksEvent_length]; exact h) = ⟨m + 2 * (j : Int) + 0, m + 2 * (j : Int) + 1⟩ := by simp [marksEvent]
theorem markEventS_ev (l : List S41) (m : Int) (hm0 : 0 ≤ m) (hm1 : m ≤ 1099511627776) (hl : l.length ≤ 1073741824) : Ev (fun k => laws_markEventS.f k l m) (m + 2 * (l.length : Int), marksEvent l.length m) := by
  unfold laws_markEventS.f
  have key : ∀ j, j ≤ l.length → Ev (fun k => laws_markEventS.l0 k ((marksEvent l.length m).take j ++ l.drop j) (m + 2 * (j : Int)) (j : Int)) (m + 2 * (l.length : Int), marksEvent l.length m) := by
    refine down l.length ?_ ?_
    · refine Ev.step (f := fun _ => some (m + 2 * (l.length : Int), marksEvent l.length m)) (fun k => ?_) (Ev.now _)
      simp only [laws_markEventS.l0]
      rw [if_neg (by simp [marksEvent_length])]
      simp [List.take_of_length_le (Nat.le_of_eq (marksEvent_length l.length m))]
    · intro j hj ih
      refine Ev.step (fun k => ?_) ih
      simp only [laws_markEventS.l0]
      have e1 : ((marksEvent l.length m).take j ++ l.drop j).length = l.length := by simp [marksEvent_length]; omega
      have e2 := set_take_drop (marksEvent l.length m) j (by rw [marksEvent_length]; exact hj) l (marksEvent_length _ _).symm
      rw [marksEvent_get _ _ _ hj] at e2
      have hjl : j < ((marksEvent l.length m).take j ++ l.drop j).length := by omega
      generalize ((marksEvent l.length m).take j ++ l.drop j) = q at e1 e2 hjl ⊢
      rw [e1, if_pos (by omega), if_pos (by omega), wsucc j (by omega), Int.toNat_natCast]
      simp only [Option.bind_some, List.set_set, rdEvent_set _ j _ (by first | exact hjl | (simp only [List.length_set]; exact hjl))]
      have w1 : wrap64 (m + 2 * (j : Int) + 1) = m + 2 * (j : Int) + 1 := w64 (by omega) (by omega)
      have w2 : wrap64 (m + 2 * (j : Int) + 1 + 1) = m + 2 * (j : Int) + 2 := by rw [w64 (by omega) (by omega)]; omega
      have w3 : wrap64 (m + 2 * (j : Int) + 2 + 1) = m + 2 * (j : Int) + 3 := by rw [w64 (by omega) (by omega)]; omega
      simp only [w1, w2, w3]
      rw [show m + 2 * (j : Int) + 2 = m + 2 * ((j + 1 : Nat) : Int) by omega]
      rw [← e2]
      simp
  have := key 0 (Nat.zero_le _)
  simpa using this
theorem heldEventS_ev (n : Nat) (m : Int) (hm0 : 0 ≤ m) (hm1 : m ≤ 1099511627776) (hl : n ≤ 1073741824) : Ev (fun k => laws_heldEventS.f k (marksEvent n m) m) (m + 2 * (n : Int)) := by
  unfold laws_heldEventS.f
  have key : ∀ j, j ≤ n → Ev (fun k => laws_heldEventS.l0 k (marksEvent n m) (m + 2 * (j : Int)) (j : Int)) (m + 2 * (n : Int)) := by
    refine down n ?_ ?_
    · refine Ev.step (f := fun _ => some (m + 2 * (n : Int))) (fun k => ?_) (Ev.now _)
      simp only [laws_heldEventS.l0]
      rw [if_neg (by rw [marksEvent_length]; omega)]
    · intro j hj ih
      refine Ev.step (fun k => ?_) ih
      simp only [laws_heldEventS.l0]
      rw [marksEvent_length, if_pos (by omega), if_pos (by omega), rdEvent_nat _ j (by rw [marksEvent_length]; exact hj), marksEvent_get _ _ _ hj, wsucc j (by omega)]
      have w1 : wrap64 (m + 2 * (j : Int) + 1) = m + 2 * (j : Int) + 1 := w64 (by omega) (by omega)
      have w2 : wrap64 (m + 2 * (j : Int) + 1 + 1) = m + 2 * (j : Int) + 2 := by rw [w64 (by omega) (by omega)]; omega
      have w3 : wrap64 (m + 2 * (j : Int) + 2 + 1) = m + 2 * (j : Int) + 3 := by rw [w64 (by omega) (by omega)]; omega
      simp only [w1, w2, w3, Int.add_zero, if_true]
      rw [show m + 2 * (j : Int) + 2 = m + 2 * ((j + 1 : Nat) : Int) by omega]
  have := key 0 (Nat.zero_le _)
  simpa using this
theorem markBook_ev (l : List S41) (a b c p q t m : Int) (hm0 : 0 ≤ m) (hm1 : m ≤ 1099511627776) (hl : l.length ≤ 1073741824) : Ev (fun k => laws_markBook.f k l a b c p q t m) (m + 2 * (l.length : Int), marksEvent l.length m) := by
  unfold laws_markBook.f
  refine Ev.bind (markEventS_ev l m hm0 hm1 hl) ?_
  exact Ev.now _
theorem heldBook_ev (n : Nat) (a b c p q t m : Int) (hm0 : 0 ≤ m) (hm1 : m ≤ 1099511627776) (hl : n ≤ 1073741824) : Ev (fun k => laws_heldBook.f k (marksEvent n m) a b c p q t m) (m + 2 * (n : Int)) := by
  unfold laws_heldBook.f
  refine Ev.bind (heldEventS_ev n m hm0 hm1 hl) ?_
  simp only [if_neg (show ¬ (m + 2 * (n : Int) < 0) by omega)]
  exact Ev.now _
theorem FnExactEnter : laws_FnExactEnter.Pure := by
  intro l a b c p q t x y h _
  have hm : l.length ≤ 9223372036854775807 := h.1.1
  refine Ev.rounds (g := fun k => laws_FnExactEnter.f k l a b c p q t x y) ?_
  unfold laws_FnExactEnter.f laws_toEvent.f
  simp only [szBook_eq l a b c p q t 1048576 (by omega) (by omega) hm, Option.bind_some]
  by_cases hs : (1048576 : Int) < l.length
  · simp only [if_pos hs]; simpa using Ev.now true
  simp only [if_neg hs, if_neg (show ¬ ((1048576 : Int) - l.length < 0) by omega)]
  have hl : l.length ≤ 1048576 := by omega
  have hc : (cvEvent l).length ≤ 1048576 := by rw [cvEvent_length]; exact hl
  obtain ⟨r, hsp, him, hrl⟩ := enter_both (cvEvent l) a b c p q t x y hc
  have hr2 : r.1.length ≤ 1048577 := by omega
  have e8 := toBook_ev l a b c p q t hl
  have e1 := eqBook_refl r.1 r.2.1 r.2.2.1 r.2.2.2.1 r.2.2.2.2.1 r.2.2.2.2.2.1 r.2.2.2.2.2.2.1 (Nat.le_trans hr2 (by decide))
  have e2 := markBook_ev r.1 r.2.1 r.2.2.1 r.2.2.2.1 r.2.2.2.2.1 r.2.2.2.2.2.1 r.2.2.2.2.2.2.1 1 (by omega) (by omega) (Nat.le_trans hr2 (by decide))
  have e3 := heldBook_ev r.1.length r.2.1 r.2.2.1 r.2.2.2.1 r.2.2.2.2.1 r.2.2.2.2.2.1 r.2.2.2.2.2.2.1 1 (by omega) (by omega) (Nat.le_trans hr2 (by decide))
  have e4 := eqBook_refl (cvEvent l) a b c p q t (Nat.le_trans hc (by decide))
  have e5 := markBook_ev (cvEvent l) a b c p q t 1 (by omega) (by omega) (Nat.le_trans hc (by decide))
  refine Ev.bind e8 ?_
  refine Ev.bind hsp ?_
  refine Ev.bind e8 ?_
  refine Ev.bind him ?_
  refine Ev.bind e1 ?_
  simp only [if_true, bne_self_eq_false]
  refine Ev.step (fun n => by rw [laws_FnExactEnter.j0]) ?_
  simp only [Bool.false_eq_true, if_false]
  refine Ev.bind e8 ?_
  refine Ev.bind e4 ?_
  simp only [if_true]
  refine Ev.bind e5 ?_
  simp only [if_neg (show ¬ ((1 : Int) + 2 * ((cvEvent l).length : Int) < 0) by omega)]
  refine Ev.bind e1 ?_
  simp only [if_true, bne_self_eq_false]
  refine Ev.step (fun n => by rw [laws_FnExactEnter.j1]) ?_
  simp only [Bool.false_eq_true, if_false]
  refine Ev.bind e2 ?_
  refine Ev.bind e3 ?_
  simp only [if_neg (show ¬ ((1 : Int) + 2 * (r.1.length : Int) < 0) by omega), if_true]
  refine Ev.bind e8 ?_
  simp only [laws_toEvent.f, Option.bind_some]
  refine Ev.bind him ?_
  refine Ev.bind e1 ?_
  simp only [if_true, bne_self_eq_false]
  refine Ev.step (fun n => by rw [laws_FnExactEnter.j2]) ?_
  simp only [Bool.false_eq_true, if_false]
  refine Ev.bind e3 ?_
  simp only [if_neg (show ¬ ((1 : Int) + 2 * (r.1.length : Int) < 0) by omega), if_true]
  exact Ev.now _
end Go.Proofs.Ytonaabffckkdlaa.Pure
