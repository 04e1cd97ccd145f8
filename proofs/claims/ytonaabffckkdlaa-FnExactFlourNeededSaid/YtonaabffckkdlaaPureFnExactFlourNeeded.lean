/- What FnExactFlourNeeded computes answers as the law says: over numbers and lists alone; there are no conditions but those of the statement. -/
import Derived.Test.YtonaabffckkdlaaQ0
import Derived.Test.YtonaabffckkdlaaQ2
import Derived.Test.YtonaabffckkdlaaQ3
import Derived.Test.YtonaabffckkdlaaQ4
import Derived.Test.YtonaabffckkdlaaQ5
import Derived.Test.YtonaabffckkdlaaQ6
import Derived.Test.YtonaabffckkdlaaQ7
import Derived.Test.YtonaabffckkdlaaQ8
import Derived.Test.YtonaabffckkdlaaQ17
import Derived.Test.YtonaabffckkdlaaQ18
import Derived.Test.YtonaabffckkdlaaQ19
import Derived.Test.YtonaabffckkdlaaQ20
import Derived.Test.YtonaabffckkdlaaQ26
import Derived.Test.YtonaabffckkdlaaQ27
import Derived.Test.YtonaabffckkdlaaQ28
import Derived.Test.YtonaabffckkdlaaQ29
namespace Go.Proofs.Ytonaabffckkdlaa.Pure
open Go.RowKit Go.Proofs.Ytonaabffckkdlaa.Q Go.Proofs.YtonaabffckkdlaaW.PrintWords Go.Proofs.YtonaabffckkdlaaW.PrintLast Go.Proofs.YtonaabffckkdlaaW.PrintMore
set_option linter.unusedVariables false
set_option linter.unusedSimpArgs false
theorem w64 {x : Int} (h0 : -9223372036854775808 ≤ x) (h1 : x ≤ 9223372036854775807) : wrap64 x = x := by
  unfold wrap64
  omega
theorem down {Q : Nat → Prop} (n : Nat) (fin : Q n) (step : ∀ j, j < n → Q (j + 1) → Q j) : ∀ j, j ≤ n → Q j := by
  intro j hj
  obtain ⟨d, hd⟩ : ∃ d, j + d = n := ⟨n - j, by omega⟩
  clear hj
  induction d generalizing j with
  | zero => have : j = n := by omega
            rw [this]; exact fin
  | succ d ih => exact step j (by omega) (ih (j + 1) (by omega))
theorem wsucc (j : Nat) (h : j < 9223372036854775807) : wrap64 ((j : Int) + 1) = ((j + 1 : Nat) : Int) := by
  rw [w64 (by omega) (by omega)]; omega
theorem rd_nat (l : List Int) (j : Nat) (h : j < l.length) : rd l (j : Int) = l[j] := by
  unfold rd; rw [Int.toNat_natCast, List.getD_eq_getElem?_getD, List.getElem?_eq_getElem h]; rfl
theorem rd_lit (l : List Int) (i : Int) : rd l i = l.getD i.toNat 0 := rfl
theorem all_drop_cons {α : Type} (p : α → Bool) (l : List α) (j : Nat) (h : j < l.length) : (l.drop j).all p = (p l[j] && (l.drop (j + 1)).all p) := by
  rw [List.drop_eq_getElem_cons h, List.all_cons]
theorem all_drop_len {α : Type} (p : α → Bool) (l : List α) : (l.drop l.length).all p = true := by simp
theorem ev_some {α : Type} (r : α) : Ev (fun _ => some r) r := Ev.now r
theorem ev_pt {α : Type} {g : Option α} {r : α} (h : g = some r) : Ev (fun _ => g) r := ⟨0, fun _ _ => h⟩
theorem ev_eq {α : Type} {g : Nat → Option α} {r r' : α} (h : Ev g r) (e : r = r') : Ev g r' := e ▸ h
def inR (lo hi n : Int) : Bool := decide (lo ≤ n ∧ n ≤ hi)
theorem l01In_eq (a b c : Int) : spec_l01In.f a b c = some (inR b c a) := by
  unfold spec_l01In.f inR
  by_cases h : b ≤ a
  · rw [if_pos h]; simp [h]
  · rw [if_neg h]; simp [h]
theorem allIn_eq (l : List Int) (a b : Int) : impl_allIn.f l a b = some (l.all (inR a b)) := rfl
theorem inR_iff {lo hi n : Int} : inR lo hi n = true ↔ lo ≤ n ∧ n ≤ hi := by unfold inR; simp
def storeOk (l : List Int) : Bool := (l.length == 4) && l.all (inR 0 1000000)
theorem impl_StoreOk_eq (l : List Int) : impl_StoreOk.f l = some (storeOk l) := by
  unfold impl_StoreOk.f storeOk
  rw [allIn_eq, Option.bind_some]
  by_cases h : l.length = 4
  · rw [if_pos (by omega)]; simp [h]
  · rw [if_neg (by omega)]; simp [h]
theorem spec_StoreOk_ev (l : List Int) (hl : l.length ≤ 1048576) : Ev (fun k => spec_StoreOk.f k l) (storeOk l) := by
  unfold spec_StoreOk.f
  have key : ∀ j, j ≤ l.length → Ev (fun k => spec_StoreOk.l0 k (j : Int) l) ((l.length == 4) && (l.drop j).all (inR 0 1000000)) := by
    refine down l.length ?_ ?_
    · refine Ev.step (f := fun _ => _) (fun k => ?_) (ev_some _)
      simp only [spec_StoreOk.l0]
      rw [if_neg (by omega)]
      simp only [List.drop_length, List.all_nil, Bool.and_true]
      have e : ((l.length : Int) == 4) = (l.length == 4) := by rw [Bool.eq_iff_iff, beq_iff_eq, beq_iff_eq]; omega
      rw [e]
    · intro j hj ih
      rw [all_drop_cons _ l j hj]
      cases hq : inR 0 1000000 l[j] with
      | true =>
        rw [Bool.true_and]
        refine Ev.step (fun k => ?_) ih
        simp only [spec_StoreOk.l0]
        rw [if_pos (by omega), if_pos (by omega), rd_nat l j hj, l01In_eq, hq, Option.bind_some, if_pos rfl, wsucc j (by omega)]
      | false =>
        rw [Bool.false_and, Bool.and_false]
        refine Ev.step (f := fun _ => some false) (fun k => ?_) (Ev.now _)
        simp only [spec_StoreOk.l0]
        rw [if_pos (by omega), if_pos (by omega), rd_nat l j hj, l01In_eq, hq, Option.bind_some, if_neg (by decide)]
  have := key 0 (Nat.zero_le _)
  simpa [storeOk] using this
theorem storeOk_parts {l : List Int} (h : storeOk l = true) : l.length = 4 ∧ ∀ (j : Nat) (hj : j < l.length), 0 ≤ l[j] ∧ l[j] ≤ 1000000 := by
  unfold storeOk at h
  simp only [Bool.and_eq_true, beq_iff_eq, List.all_eq_true] at h
  exact ⟨h.1, fun j hj => inR_iff.1 (h.2 _ (List.getElem_mem hj))⟩
theorem in_eq (a b c : Int) : impl_in.f a b c = some (inR b c a) := by
  unfold impl_in.f inR
  by_cases h : b ≤ a
  · rw [if_pos h]; simp [h]
  · rw [if_neg h]; simp [h]
def doughOk (w s l : Int) : Bool := inR 300 1200 w && (inR 0 50 s && inR 0 500 l)
theorem spec_DoughOk_eq (w s l : Int) : spec_DoughOk.f w s l = some (doughOk w s l) := by
  unfold spec_DoughOk.f doughOk
  simp only [l01In_eq, Option.bind_some]
  cases inR 300 1200 w <;> cases inR 0 50 s <;> cases inR 0 500 l <;> simp
theorem impl_DoughOk_eq (w s l : Int) : impl_DoughOk.f w s l = some (doughOk w s l) := by
  unfold impl_DoughOk.f doughOk
  simp only [in_eq, Option.bind_some]
  cases inR 300 1200 w <;> cases inR 0 50 s <;> cases inR 0 500 l <;> simp
def rackOk (a b c : Int) : Bool := inR 0 10000 a && (inR 0 10000 b && inR 0 10000 c)
theorem spec_RackOk_eq (a b c : Int) : spec_RackOk.f a b c = some (rackOk a b c) := by
  unfold spec_RackOk.f rackOk
  simp only [l01In_eq, Option.bind_some]
  cases inR 0 10000 a <;> cases inR 0 10000 b <;> cases inR 0 10000 c <;> simp
theorem impl_RackOk_eq (a b c : Int) : impl_RackOk.f a b c = some (rackOk a b c) := by
  unfold impl_RackOk.f rackOk
  rw [allIn_eq]
  simp
theorem rackOk_iff {a b c : Int} : rackOk a b c = true ↔ (0 ≤ a ∧ a ≤ 10000) ∧ (0 ≤ b ∧ b ≤ 10000) ∧ (0 ≤ c ∧ c ≤ 10000) := by
  unfold rackOk; simp only [Bool.and_eq_true, inR_iff]
theorem mn_le (a b : Int) : mn a b ≤ a ∧ mn a b ≤ b ∧ (mn a b = a ∨ mn a b = b) := by unfold mn; split <;> omega
theorem mn_comm (a b : Int) : mn a b = mn b a := by unfold mn; split <;> split <;> omega
/-- What is sold: first from one number, then from another. -/
def soldA (x n : Int) : Int := mn n x
def soldB (x y n : Int) : Int := mn (n - mn n x) y
theorem spec_SellFresh_eq (a b c n : Int) (hr : rackOk a b c = true) (hn : inR 0 10000 n = true) : spec_SellFresh.f a b c n = some (a - soldA a n, b - soldB a b n, c, soldA a n + soldB a b n) := by
  unfold spec_SellFresh.f soldA soldB
  obtain ⟨h1, h2, h3⟩ := rackOk_iff.1 hr
  have h4 := inR_iff.1 hn
  have m1 := mn_le n a
  have m2 := mn_le (n - mn n a) b
  simp only [spec_RackOk_eq, l01In_eq, Option.bind_some, hr, hn, if_true]
  rw [w64 (x := n - mn n a) (by omega) (by omega), w64 (by omega) (by omega), w64 (by omega) (by omega), w64 (by omega) (by omega)]
theorem spec_SellCheap_eq (a b c n : Int) (hr : rackOk a b c = true) (hn : inR 0 10000 n = true) : spec_SellCheap.f a b c n = some (a, b - soldB c b n, c - soldA c n, soldA c n + soldB c b n) := by
  unfold spec_SellCheap.f soldA soldB
  obtain ⟨h1, h2, h3⟩ := rackOk_iff.1 hr
  have h4 := inR_iff.1 hn
  have m1 := mn_le n c
  have m2 := mn_le (n - mn n c) b
  simp only [spec_RackOk_eq, l01In_eq, Option.bind_some, hr, hn, if_true]
  rw [w64 (x := n - mn n c) (by omega) (by omega), w64 (by omega) (by omega), w64 (by omega) (by omega), w64 (by omega) (by omega)]
theorem spec_NextMorning_eq (a b c n : Int) (hr : rackOk a b c = true) (hn : inR 0 10000 n = true) : spec_NextMorning.f a b c n = some (n, a, b, c) := by
  unfold spec_NextMorning.f
  simp only [spec_RackOk_eq, l01In_eq, Option.bind_some, hr, hn, if_true]
theorem impl_taken_eq (x y n : Int) (hx : 0 ≤ x ∧ x ≤ 10000) (hy : 0 ≤ y ∧ y ≤ 10000) (hn : 0 ≤ n ∧ n ≤ 10000) : impl_taken.f x y n = some (x - soldA x n, y - soldB x y n, soldA x n + soldB x y n) := by
  unfold impl_taken.f soldA soldB
  rw [mn_comm x n, mn_comm y]
  have m1 := mn_le n x
  have m2 := mn_le (n - mn n x) y
  rw [w64 (x := n - mn n x) (by omega) (by omega), w64 (by omega) (by omega), w64 (by omega) (by omega), w64 (by omega) (by omega)]
theorem impl_SellFresh_eq (a b c n : Int) (hr : rackOk a b c = true) (hn : inR 0 10000 n = true) : impl_SellFresh.f a b c n = some (a - soldA a n, b - soldB a b n, c, soldA a n + soldB a b n) := by
  unfold impl_SellFresh.f
  obtain ⟨h1, h2, h3⟩ := rackOk_iff.1 hr
  simp only [impl_RackOk_eq, in_eq, Option.bind_some, hr, hn, if_true, impl_taken_eq a b n h1 h2 (inR_iff.1 hn)]
theorem impl_SellCheap_eq (a b c n : Int) (hr : rackOk a b c = true) (hn : inR 0 10000 n = true) : impl_SellCheap.f a b c n = some (a, b - soldB c b n, c - soldA c n, soldA c n + soldB c b n) := by
  unfold impl_SellCheap.f
  obtain ⟨h1, h2, h3⟩ := rackOk_iff.1 hr
  simp only [impl_RackOk_eq, in_eq, Option.bind_some, hr, hn, if_true, impl_taken_eq c b n h3 h2 (inR_iff.1 hn)]
theorem impl_NextMorning_eq (a b c n : Int) (hr : rackOk a b c = true) (hn : inR 0 10000 n = true) : impl_NextMorning.f a b c n = some (n, a, b, c) := by
  unfold impl_NextMorning.f
  simp only [impl_RackOk_eq, in_eq, Option.bind_some, hr, hn, if_true]
/-- An event on a rack: the rack, what was baked, sold, thrown, and whether it succeeds. -/
abbrev Ev7 := Int × Int × Int × Int × Int × Int × Bool
def evOn (a b c k n : Int) : Ev7 :=
  if rackOk a b c = true ∧ inR 0 1000 n = true then
    (if k = 1 then (if rackOk (a + n) b c = true then (a + n, b, c, n, 0, 0, true) else (a, b, c, 0, 0, 0, false))
    else if k = 2 then (if soldA a n + soldB a b n = n then (a - soldA a n, b - soldB a b n, c, 0, soldA a n + soldB a b n, 0, true) else (a, b, c, 0, 0, 0, false))
    else if k = 3 then (if soldA c n + soldB c b n = n then (a, b - soldB c b n, c - soldA c n, 0, soldA c n + soldB c b n, 0, true) else (a, b, c, 0, 0, 0, false))
    else if k = 4 then (if n = 0 then (0, a, b, 0, 0, c, true) else (a, b, c, 0, 0, 0, false))
    else (a, b, c, 0, 0, 0, false))
  else (a, b, c, 0, 0, 0, false)
theorem spec_EventOn_ev (a b c k n : Int) : Ev (fun q => spec_EventOn.f q a b c k n) (evOn a b c k n) := by
  unfold spec_EventOn.f evOn
  simp only [spec_RackOk_eq, l01In_eq, Option.bind_some]
  cases hr : rackOk a b c <;> cases hn : inR 0 1000 n
  case true.true =>
    have hn2 : inR 0 10000 n = true := inR_iff.2 ⟨(inR_iff.1 hn).1, by have := (inR_iff.1 hn).2; omega⟩
    have h4 := inR_iff.1 hn
    obtain ⟨h1, h2, h3⟩ := rackOk_iff.1 hr
    simp only [if_true, true_and, Bool.not_true]
    refine Ev.step (f := fun _ => _) (fun q => ?_) (ev_some _)
    simp only [spec_EventOn.j0, Bool.false_eq_true, if_false]
    rw [w64 (x := a + n) (by omega) (by omega), spec_RackOk_eq, spec_SellFresh_eq a b c n hr hn2, spec_SellCheap_eq a b c n hr hn2, spec_NextMorning_eq a b c 0 hr (by decide)]
    simp only [Option.bind_some]
    by_cases k1 : k = 1
    · simp only [if_pos k1]; split <;> rfl
    · by_cases k2 : k = 2
      · simp only [if_neg k1, if_pos k2]; split <;> rfl
      · by_cases k3 : k = 3
        · simp only [if_neg k1, if_neg k2, if_pos k3]; split <;> rfl
        · by_cases k4 : k = 4
          · simp only [if_neg k1, if_neg k2, if_neg k3, if_pos k4]; split <;> rfl
          · simp only [if_neg k1, if_neg k2, if_neg k3, if_neg k4]
  all_goals
    simp only [if_true, Bool.false_eq_true, if_false, Bool.not_false, false_and, and_false]
    refine Ev.step (f := fun _ => some _) (fun q => ?_) (Ev.now _)
    simp [spec_EventOn.j0]
theorem rack_after {x y n : Int} (hx : 0 ≤ x ∧ x ≤ 10000) (hy : 0 ≤ y ∧ y ≤ 10000) (hn : 0 ≤ n ∧ n ≤ 10000) : (0 ≤ soldA x n ∧ soldA x n ≤ x) ∧ (0 ≤ soldB x y n ∧ soldB x y n ≤ y) := by
  unfold soldA soldB
  have m1 := mn_le n x
  have m2 := mn_le (n - mn n x) y
  omega
theorem impl_EventOn_ev (a b c k n : Int) : Ev (fun q => impl_EventOn.f q a b c k n) (evOn a b c k n) := by
  unfold impl_EventOn.f evOn
  simp only [impl_RackOk_eq, in_eq, Option.bind_some]
  cases hr : rackOk a b c <;> cases hn : inR 0 1000 n
  case true.true =>
    have hn2 : inR 0 10000 n = true := inR_iff.2 ⟨(inR_iff.1 hn).1, by have := (inR_iff.1 hn).2; omega⟩
    have h4 := inR_iff.1 hn
    obtain ⟨h1, h2, h3⟩ := rackOk_iff.1 hr
    have s1 := rack_after (n := n) h1 h2 (by omega)
    have s2 := rack_after (n := n) h3 h2 (by omega)
    have r1 : rackOk (a - soldA a n) (b - soldB a b n) c = true := rackOk_iff.2 (by omega)
    have r2 : rackOk a (b - soldB c b n) (c - soldA c n) = true := rackOk_iff.2 (by omega)
    have r3 : rackOk 0 a b = true := rackOk_iff.2 (by omega)
    simp only [if_true, true_and, Bool.not_true]
    refine Ev.step (f := fun _ => _) (fun q => ?_) (ev_some _)
    simp only [impl_EventOn.j0, Bool.false_eq_true, if_false]
    rw [w64 (x := a + n) (by omega) (by omega), impl_SellFresh_eq a b c n hr hn2, impl_SellCheap_eq a b c n hr hn2, impl_NextMorning_eq a b c 0 hr (by decide)]
    simp only [Option.bind_some, impl_RackOk_eq, r1, r2, r3, if_true]
    by_cases k1 : k = 1
    · simp only [if_pos k1]; split <;> rfl
    · by_cases k2 : k = 2
      · simp only [if_neg k1, if_pos k2]; split <;> rfl
      · by_cases k3 : k = 3
        · simp only [if_neg k1, if_neg k2, if_pos k3]; split <;> rfl
        · by_cases k4 : k = 4
          · simp only [if_neg k1, if_neg k2, if_neg k3, if_pos k4]; split <;> rfl
          · simp only [if_neg k1, if_neg k2, if_neg k3, if_neg k4]
  all_goals
    simp only [if_true, Bool.false_eq_true, if_false, Bool.not_false, false_and, and_false]
    refine Ev.step (f := fun _ => some _) (fun q => ?_) (Ev.now _)
    simp [impl_EventOn.j0]
theorem rdEvent_nat (l : List S41) (j : Nat) (h : j < l.length) : rd_T41 l (j : Int) = l[j] := by
  unfold rd_T41; rw [Int.toNat_natCast, List.getD_eq_getElem?_getD, List.getElem?_eq_getElem h]; rfl
theorem rdEvent_set (l : List S41) (j : Nat) (e : S41) (h : j < l.length) : rd_T41 (l.set j e) (j : Int) = e := by
  rw [rdEvent_nat _ j (by simpa using h)]; simp
/-- Events performed one by one, from a rack and three sums on; none where one fails. -/
abbrev Cnt := Int × Int × Int × Int × Int × Int
def cnt : List S41 → Cnt → Option Cnt
  | [], s => some s
  | x :: r, (a, b, c, p, q, t) => if (evOn a b c x.f0 x.f1).2.2.2.2.2.2 = true then cnt r ((evOn a b c x.f0 x.f1).1, (evOn a b c x.f0 x.f1).2.1, (evOn a b c x.f0 x.f1).2.2.1, p + (evOn a b c x.f0 x.f1).2.2.2.1, q + (evOn a b c x.f0 x.f1).2.2.2.2.1, t + (evOn a b c x.f0 x.f1).2.2.2.2.2.1) else none
theorem evOn_bound (a b c k n : Int) : (0 ≤ (evOn a b c k n).2.2.2.1 ∧ (evOn a b c k n).2.2.2.1 ≤ 1000) ∧ (0 ≤ (evOn a b c k n).2.2.2.2.1 ∧ (evOn a b c k n).2.2.2.2.1 ≤ 1000) ∧ (0 ≤ (evOn a b c k n).2.2.2.2.2.1 ∧ (evOn a b c k n).2.2.2.2.2.1 ≤ 10000) := by
  unfold evOn
  by_cases h : rackOk a b c = true ∧ inR 0 1000 n = true
  · rw [if_pos h]
    have h4 := inR_iff.1 h.2
    obtain ⟨h1, h2, h3⟩ := rackOk_iff.1 h.1
    repeat' split
    all_goals (dsimp only; omega)
  · rw [if_neg h]; simp
def bookCnt (l : List S41) : Option Cnt := if l.length ≤ 40 then cnt l (0, 0, 0, 0, 0, 0) else none
/-- What a count of events answers: the counted book, and whether all succeed. -/
abbrev CntR := List S41 × Int × Int × Int × Int × Int × Int × Bool
def Told7 (l : List S41) (o : Option Cnt) (r : CntR) : Prop :=
  match o with
  | some s => r = (l, s.1, s.2.1, s.2.2.1, s.2.2.2.1, s.2.2.2.2.1, s.2.2.2.2.2, true)
  | none => r.2.2.2.2.2.2.2 = false
theorem spec_count_ev (l : List S41) (hl : l.length ≤ 2097152) : ∃ r, Ev (fun k => spec_l37Count.f k l) r ∧ Told7 l (bookCnt l) r := by
  have key : ∀ j, j ≤ l.length → ∀ a b c p q t : Int, (0 ≤ p ∧ p ≤ 10000 * (j : Int)) → (0 ≤ q ∧ q ≤ 10000 * (j : Int)) → (0 ≤ t ∧ t ≤ 10000 * (j : Int)) →
      ∃ r, Ev (fun k => spec_l37Count.l0 k l (j : Int) l a b c p q t) r ∧ Told7 l (cnt (l.drop j) (a, b, c, p, q, t)) r := by
    refine down l.length ?_ ?_
    · intro a b c p q t _ _ _
      refine ⟨(l, a, b, c, p, q, t, true), Ev.step (f := fun _ => some _) (fun k => ?_) (Ev.now _), ?_⟩
      · simp only [spec_l37Count.l0]
        rw [if_neg (by omega)]
      · simp [cnt, Told7]
    · intro j hj ih a b c p q t hp hq ht
      have hb := evOn_bound a b c l[j].f0 l[j].f1
      rw [List.drop_eq_getElem_cons hj]
      simp only [cnt]
      have he := spec_EventOn_ev a b c l[j].f0 l[j].f1
      generalize evOn a b c l[j].f0 l[j].f1 = e at hb he ⊢
      by_cases hf : e.2.2.2.2.2.2 = true
      · rw [if_pos hf]
        obtain ⟨r, hr, hT⟩ := ih e.1 e.2.1 e.2.2.1 (p + e.2.2.2.1) (q + e.2.2.2.2.1) (t + e.2.2.2.2.2.1) (by omega) (by omega) (by omega)
        refine ⟨r, Ev.step (f := fun k => (spec_EventOn.f k a b c l[j].f0 l[j].f1).bind fun bt901 => (if bt901.2.2.2.2.2.2 = true then (spec_l37Count.l0 k l (wrap64 ((j : Int) + 1)) l bt901.1 bt901.2.1 bt901.2.2.1 (wrap64 (p + bt901.2.2.2.1)) (wrap64 (q + bt901.2.2.2.2.1)) (wrap64 (t + bt901.2.2.2.2.2.1))) else (some (l, a, b, c, p, q, t, false)))) (fun k => ?_) (Ev.bind he ?_), hT⟩
        · simp only [spec_l37Count.l0]
          rw [if_pos (by omega), if_pos (by omega), rdEvent_nat l j hj]
        · rw [w64 (x := p + e.2.2.2.1) (by omega) (by omega), w64 (x := q + e.2.2.2.2.1) (by omega) (by omega), w64 (x := t + e.2.2.2.2.2.1) (by omega) (by omega), wsucc j (by omega)]
          simp only [if_pos hf]
          exact hr
      · rw [if_neg hf]
        refine ⟨(l, a, b, c, p, q, t, false), Ev.step (f := fun k => (spec_EventOn.f k a b c l[j].f0 l[j].f1).bind fun bt901 => (if bt901.2.2.2.2.2.2 = true then (spec_l37Count.l0 k l (wrap64 ((j : Int) + 1)) l bt901.1 bt901.2.1 bt901.2.2.1 (wrap64 (p + bt901.2.2.2.1)) (wrap64 (q + bt901.2.2.2.2.1)) (wrap64 (t + bt901.2.2.2.2.2.1))) else (some (l, a, b, c, p, q, t, false)))) (fun k => ?_) (Ev.bind he ?_), rfl⟩
        · simp only [spec_l37Count.l0]
          rw [if_pos (by omega), if_pos (by omega), rdEvent_nat l j hj]
        · simp only [if_neg hf]
          exact Ev.now _
  unfold bookCnt
  by_cases h : l.length ≤ 40
  · rw [if_pos h]
    obtain ⟨r, hr, hT⟩ := key 0 (Nat.zero_le _) 0 0 0 0 0 0 (by omega) (by omega) (by omega)
    refine ⟨r, Ev.congr (f := fun k => spec_l37Count.l0 k l 0 l 0 0 0 0 0 0) (fun k => ?_) hr, by simpa using hT⟩
    unfold spec_l37Count.f
    rw [Option.bind_some, if_pos (by simp; omega), Option.bind_some, if_neg (by omega)]
    rfl
  · rw [if_neg h]
    refine ⟨(l, 0, 0, 0, 0, 0, 0, false), Ev.congr (f := fun _ => some _) (fun k => ?_) (Ev.now _), rfl⟩
    unfold spec_l37Count.f
    rw [Option.bind_some, if_pos (by simp; omega), Option.bind_some, if_pos (by omega)]
    rfl
theorem impl_count_ev (l : List S41) (hl : l.length ≤ 2097152) : ∃ r, Ev (fun k => impl_counted.f k l) r ∧ Told7 l (bookCnt l) r := by
  have key : ∀ j, j ≤ l.length → ∀ a b c p q t : Int, (0 ≤ p ∧ p ≤ 10000 * (j : Int)) → (0 ≤ q ∧ q ≤ 10000 * (j : Int)) → (0 ≤ t ∧ t ≤ 10000 * (j : Int)) →
      ∃ r, Ev (fun k => impl_counted.l0 k l l (l.length : Int) (j : Int) l a b c p q t) r ∧ Told7 l (if l.length ≤ 40 then cnt (l.drop j) (a, b, c, p, q, t) else none) r := by
    refine down l.length ?_ ?_
    · intro a b c p q t _ _ _
      refine ⟨(l, a, b, c, p, q, t, decide ((l.length : Int) ≤ 40)), Ev.step (f := fun _ => some _) (fun k => ?_) (Ev.now _), ?_⟩
      · simp only [impl_counted.l0]
        rw [if_neg (by omega)]
      · by_cases h : l.length ≤ 40
        · have h' : (l.length : Int) ≤ 40 := by omega
          simp [cnt, Told7, h, h']
        · have h' : ¬ ((l.length : Int) ≤ 40) := by omega
          simp [Told7, h, h']
    · intro j hj ih a b c p q t hp hq ht
      have hb := evOn_bound a b c l[j].f0 l[j].f1
      rw [List.drop_eq_getElem_cons hj]
      simp only [cnt]
      have he := impl_EventOn_ev a b c l[j].f0 l[j].f1
      generalize evOn a b c l[j].f0 l[j].f1 = e at hb he ⊢
      by_cases hf : e.2.2.2.2.2.2 = true
      · rw [if_pos hf]
        obtain ⟨r, hr, hT⟩ := ih e.1 e.2.1 e.2.2.1 (p + e.2.2.2.1) (q + e.2.2.2.2.1) (t + e.2.2.2.2.2.1) (by omega) (by omega) (by omega)
        refine ⟨r, Ev.step (f := fun k => (impl_EventOn.f k a b c l[j].f0 l[j].f1).bind fun bt901 => (if bt901.2.2.2.2.2.2 = true then (impl_counted.l0 k l l (l.length : Int) (wrap64 ((j : Int) + 1)) l bt901.1 bt901.2.1 bt901.2.2.1 (wrap64 (p + bt901.2.2.2.1)) (wrap64 (q + bt901.2.2.2.2.1)) (wrap64 (t + bt901.2.2.2.2.2.1))) else (some ([], 0, 0, 0, 0, 0, 0, false)))) (fun k => ?_) (Ev.bind he ?_), hT⟩
        · simp only [impl_counted.l0]
          rw [if_pos (by omega), if_pos (by omega), if_pos (by omega), rdEvent_nat l j hj]
        · rw [w64 (x := p + e.2.2.2.1) (by omega) (by omega), w64 (x := q + e.2.2.2.2.1) (by omega) (by omega), w64 (x := t + e.2.2.2.2.2.1) (by omega) (by omega), wsucc j (by omega)]
          simp only [if_pos hf]
          exact hr
      · rw [if_neg hf]
        refine ⟨([], 0, 0, 0, 0, 0, 0, false), Ev.step (f := fun k => (impl_EventOn.f k a b c l[j].f0 l[j].f1).bind fun bt901 => (if bt901.2.2.2.2.2.2 = true then (impl_counted.l0 k l l (l.length : Int) (wrap64 ((j : Int) + 1)) l bt901.1 bt901.2.1 bt901.2.2.1 (wrap64 (p + bt901.2.2.2.1)) (wrap64 (q + bt901.2.2.2.2.1)) (wrap64 (t + bt901.2.2.2.2.2.1))) else (some ([], 0, 0, 0, 0, 0, 0, false)))) (fun k => ?_) (Ev.bind he ?_), by simp [Told7]⟩
        · simp only [impl_counted.l0]
          rw [if_pos (by omega), if_pos (by omega), if_pos (by omega), rdEvent_nat l j hj]
        · simp only [if_neg hf]
          exact Ev.now _
  unfold bookCnt
  obtain ⟨r, hr, hT⟩ := key 0 (Nat.zero_le _) 0 0 0 0 0 0 (by omega) (by omega) (by omega)
  refine ⟨r, Ev.congr (f := fun k => impl_counted.l0 k l l (l.length : Int) 0 l 0 0 0 0 0 0) (fun k => ?_) hr, by simpa using hT⟩
  unfold impl_counted.f
  rw [Option.bind_some, if_pos (by simp; omega)]
  rfl
def bookOk (l : List S41) (a b c p q t : Int) : Bool := decide (bookCnt l = some (a, b, c, p, q, t))
theorem bookOk_of {l : List S41} {r : CntR} (h : Told7 l (bookCnt l) r) (a b c p q t : Int) :
    (if r.2.2.2.2.2.2.2 = true then (if (r.2.1 == a && (r.2.2.1 == b && (r.2.2.2.1 == c))) = true then (if r.2.2.2.2.1 = p then (if r.2.2.2.2.2.1 = q then (some (r.2.2.2.2.2.2.1 == t)) else (some false)) else (some false)) else (some false)) else (some false)) = some (bookOk l a b c p q t) := by
  unfold bookOk
  cases hc : bookCnt l with
  | none =>
    rw [hc] at h
    have h' : r.2.2.2.2.2.2.2 = false := h
    rw [if_neg (by rw [h']; decide)]
    simp
  | some s =>
    rw [hc] at h
    have h' : r = (l, s.1, s.2.1, s.2.2.1, s.2.2.2.1, s.2.2.2.2.1, s.2.2.2.2.2, true) := h
    subst h'
    obtain ⟨s1, s2, s3, s4, s5, s6⟩ := s
    simp only [if_true, Option.some.injEq, Prod.mk.injEq]
    by_cases e1 : s1 = a <;> by_cases e2 : s2 = b <;> by_cases e3 : s3 = c <;> by_cases e4 : s4 = p <;> by_cases e5 : s5 = q <;> by_cases e6 : s6 = t <;> simp [e1, e2, e3, e4, e5, e6]
theorem spec_BookOk_ev (l : List S41) (a b c p q t : Int) (hl : l.length ≤ 2097152) : Ev (fun k => spec_BookOk.f k l a b c p q t) (bookOk l a b c p q t) := by
  obtain ⟨r, hr, hT⟩ := spec_count_ev l hl
  unfold spec_BookOk.f
  refine Ev.bind hr ?_
  exact ev_pt (bookOk_of hT a b c p q t)
theorem impl_BookOk_ev (l : List S41) (a b c p q t : Int) (hl : l.length ≤ 2097152) : Ev (fun k => impl_BookOk.f k l a b c p q t) (bookOk l a b c p q t) := by
  obtain ⟨r, hr, hT⟩ := impl_count_ev l hl
  unfold impl_BookOk.f
  refine Ev.bind hr ?_
  exact ev_pt (bookOk_of hT a b c p q t)
def loafOk (w l : Int) : Bool := inR 10 5000 w && inR 0 40 l
theorem spec_LoafOk_eq (w l : Int) : spec_LoafOk.f w l = some (loafOk w l) := by
  unfold spec_LoafOk.f loafOk
  simp only [l01In_eq, Option.bind_some]
  cases inR 10 5000 w <;> cases inR 0 40 l <;> simp
theorem impl_LoafOk_eq (w l : Int) : impl_LoafOk.f w l = some (loafOk w l) := by
  unfold impl_LoafOk.f loafOk
  simp only [in_eq, Option.bind_some]
  cases inR 10 5000 w <;> cases inR 0 40 l <;> simp
def bakeryOk (g : List Int) (w s l lw ll : Int) (ev : List S41) (a b c p q t m : Int) : Bool := storeOk g && (doughOk w s l && (loafOk lw ll && (bookOk ev a b c p q t && inR 0 1000000 m)))
theorem spec_BakeryOk_ev (g : List Int) (w s l lw ll : Int) (ev : List S41) (a b c p q t m : Int) (hg : g.length ≤ 1048576) (he : ev.length ≤ 2097152) : Ev (fun k => spec_BakeryOk.f k g w s l lw ll ev a b c p q t m) (bakeryOk g w s l lw ll ev a b c p q t m) := by
  unfold spec_BakeryOk.f bakeryOk
  refine Ev.bind (spec_StoreOk_ev g hg) ?_
  simp only [spec_DoughOk_eq, spec_LoafOk_eq, l01In_eq, Option.bind_some]
  cases storeOk g
  · simp only [Bool.false_eq_true, if_false, Bool.false_and]; exact Ev.now _
  cases doughOk w s l
  · simp only [Bool.false_eq_true, if_true, if_false, Bool.false_and, Bool.and_false]; exact Ev.now _
  cases loafOk lw ll
  · simp only [Bool.false_eq_true, if_true, if_false, Bool.false_and, Bool.and_false]; exact Ev.now _
  simp only [if_true, Bool.true_and]
  refine Ev.bind (spec_BookOk_ev ev a b c p q t he) ?_
  cases bookOk ev a b c p q t
  · simp only [Bool.false_eq_true, if_false, Bool.false_and]; exact Ev.now _
  simp only [if_true, Bool.true_and]
  exact Ev.now _
theorem impl_BakeryOk_ev (g : List Int) (w s l lw ll : Int) (ev : List S41) (a b c p q t m : Int) (he : ev.length ≤ 2097152) : Ev (fun k => impl_BakeryOk.f k g w s l lw ll ev a b c p q t m) (bakeryOk g w s l lw ll ev a b c p q t m) := by
  unfold impl_BakeryOk.f bakeryOk
  simp only [impl_StoreOk_eq, impl_DoughOk_eq, impl_LoafOk_eq, in_eq, Option.bind_some]
  cases storeOk g
  · simp only [Bool.false_eq_true, if_false, Bool.false_and]; exact Ev.now _
  cases doughOk w s l
  · simp only [Bool.false_eq_true, if_true, if_false, Bool.false_and, Bool.and_false]; exact Ev.now _
  cases loafOk lw ll
  · simp only [Bool.false_eq_true, if_true, if_false, Bool.false_and, Bool.and_false]; exact Ev.now _
  simp only [if_true, Bool.true_and]
  refine Ev.bind (impl_BookOk_ev ev a b c p q t he) ?_
  cases bookOk ev a b c p q t
  · simp only [Bool.false_eq_true, if_false, Bool.false_and]; exact Ev.now _
  simp only [if_true, Bool.true_and]
  exact Ev.now _
def bakedW (x l : Int) : Int := x - (x * l + 99) / 100
theorem bakedW_bound {x l : Int} (h0 : 0 ≤ x) (h1 : x ≤ 10000) (hl0 : 0 ≤ l) (hl1 : l ≤ 40) : (0 ≤ x * l ∧ x * l ≤ 40 * x) := by
  refine ⟨Int.mul_nonneg h0 hl0, ?_⟩
  have := Int.mul_le_mul_of_nonneg_left hl1 h0
  omega
theorem spec_baked {w l x : Int} (hk : loafOk w l = true) (h0 : 0 ≤ x) (h1 : x ≤ 10000) : spec_BakedWeight.f w l x = some (bakedW x l) := by
  have hk' := hk
  unfold loafOk at hk'
  rw [Bool.and_eq_true, inR_iff, inR_iff] at hk'
  have hb := bakedW_bound h0 h1 hk'.2.1 hk'.2.2
  unfold spec_BakedWeight.f bakedW
  rw [spec_LoafOk_eq, hk, Option.bind_some, if_pos rfl, l01In_eq, Option.bind_some, if_pos (inR_iff.2 ⟨h0, h1⟩)]
  generalize x * l = y at hb ⊢
  rw [w64 (x := y) (by omega) (by omega), w64 (x := y + 99) (by omega) (by omega), Int.tdiv_eq_ediv_of_nonneg (by omega), w64 (x := (y + 99) / 100) (by omega) (by omega), w64 (by omega) (by omega)]
theorem impl_baked {w l x : Int} (hk : loafOk w l = true) (h0 : 0 ≤ x) (h1 : x ≤ 10000) : impl_Loaf_baked.f w l x = some (bakedW x l) := by
  have hk' := hk
  unfold loafOk at hk'
  rw [Bool.and_eq_true, inR_iff, inR_iff] at hk'
  have hb := bakedW_bound h0 h1 hk'.2.1 hk'.2.2
  unfold impl_Loaf_baked.f impl_up.f bakedW
  generalize x * l = y at hb ⊢
  rw [if_neg (by decide), Option.bind_some, w64 (x := y) (by omega) (by omega), w64 (x := y + 100) (by omega) (by omega), w64 (x := y + 100 - 1) (by omega) (by omega), Int.tdiv_eq_ediv_of_nonneg (by omega), show y + 100 - 1 = y + 99 by omega, w64 (x := (y + 99) / 100) (by omega) (by omega), w64 (by omega) (by omega)]
def growF (w l : Int) : Nat → Int → Int
  | 0, x => x
  | d + 1, x => if bakedW x l < w then growF w l d (x + 1) else x
theorem baked_stop {w l : Int} (hk : loafOk w l = true) : ¬ bakedW (2 * w) l < w := by
  unfold loafOk at hk
  rw [Bool.and_eq_true, inR_iff, inR_iff] at hk
  have hb := bakedW_bound (x := 2 * w) (l := l) (by omega) (by omega) hk.2.1 hk.2.2
  unfold bakedW
  generalize 2 * w * l = y at hb ⊢
  omega
def doughFor (w l : Int) : Int := if loafOk w l = true then growF w l w.toNat w else -1
theorem spec_DoughFor_ev (w l : Int) : Ev (fun k => spec_DoughFor.f k w l) (doughFor w l) := by
  unfold spec_DoughFor.f doughFor
  simp only [spec_LoafOk_eq, Option.bind_some]
  by_cases hk : loafOk w l = true
  · simp only [if_pos hk]
    have hk' := hk
    unfold loafOk at hk'
    rw [Bool.and_eq_true, inR_iff, inR_iff] at hk'
    have key : ∀ (d : Nat) (x : Int), 0 ≤ x → x + d = 2 * w → Ev (fun k => spec_DoughFor.l0 k x w l) (growF w l d x) := by
      intro d
      induction d with
      | zero =>
        intro x h0 hx
        have e : x = 2 * w := by omega
        refine Ev.step (f := fun _ => some x) (fun k => ?_) (Ev.now _)
        simp only [spec_DoughFor.l0]
        rw [spec_baked hk h0 (by omega), Option.bind_some, if_neg (by rw [e]; exact baked_stop hk)]
      | succ d ih =>
        intro x h0 hx
        unfold growF
        by_cases c : bakedW x l < w
        · rw [if_pos c]
          refine Ev.step (fun k => ?_) (ih (x + 1) (by omega) (by omega))
          simp only [spec_DoughFor.l0]
          rw [spec_baked hk h0 (by omega), Option.bind_some, if_pos c, w64 (by omega) (by omega)]
        · rw [if_neg c]
          refine Ev.step (f := fun _ => some x) (fun k => ?_) (Ev.now _)
          simp only [spec_DoughFor.l0]
          rw [spec_baked hk h0 (by omega), Option.bind_some, if_neg c]
    exact key w.toNat w (by omega) (by omega)
  · simp only [if_neg hk]; exact Ev.now _
theorem impl_DoughFor_ev (w l : Int) : Ev (fun k => impl_DoughFor.f k w l) (doughFor w l) := by
  unfold impl_DoughFor.f doughFor
  simp only [impl_LoafOk_eq, Option.bind_some]
  by_cases hk : loafOk w l = true
  · simp only [if_pos hk]
    have hk' := hk
    unfold loafOk at hk'
    rw [Bool.and_eq_true, inR_iff, inR_iff] at hk'
    have key : ∀ (d : Nat) (x : Int), 0 ≤ x → x + d = 2 * w → Ev (fun k => impl_DoughFor.l0 k x w l) (growF w l d x) := by
      intro d
      induction d with
      | zero =>
        intro x h0 hx
        have e : x = 2 * w := by omega
        refine Ev.step (f := fun _ => some x) (fun k => ?_) (Ev.now _)
        simp only [impl_DoughFor.l0]
        rw [impl_baked hk h0 (by omega), Option.bind_some, if_neg (by rw [e]; exact baked_stop hk)]
      | succ d ih =>
        intro x h0 hx
        unfold growF
        by_cases c : bakedW x l < w
        · rw [if_pos c]
          refine Ev.step (fun k => ?_) (ih (x + 1) (by omega) (by omega))
          simp only [impl_DoughFor.l0]
          rw [impl_baked hk h0 (by omega), Option.bind_some, if_pos c, w64 (by omega) (by omega)]
        · rw [if_neg c]
          refine Ev.step (f := fun _ => some x) (fun k => ?_) (Ev.now _)
          simp only [impl_DoughFor.l0]
          rw [impl_baked hk h0 (by omega), Option.bind_some, if_neg c]
    exact key w.toNat w (by omega) (by omega)
  · simp only [if_neg hk]; exact Ev.now _
theorem spec_WholeParts_eq (w s l : Int) : spec_WholeParts.f w s l = some (if doughOk w s l = true then 1000 + w + s + l else -1) := by
  unfold spec_WholeParts.f
  rw [spec_DoughOk_eq, Option.bind_some]
  by_cases h : doughOk w s l = true
  · rw [if_pos h, if_pos h]
    unfold doughOk at h
    simp only [Bool.and_eq_true, inR_iff] at h
    rw [w64 (x := 1000 + w) (by omega) (by omega), w64 (x := 1000 + w + s) (by omega) (by omega), w64 (by omega) (by omega)]
  · rw [if_neg h, if_neg h]
theorem impl_WholeParts_eq (w s l : Int) : impl_WholeParts.f w s l = some (if doughOk w s l = true then 1000 + w + s + l else -1) := by
  unfold impl_WholeParts.f
  rw [impl_DoughOk_eq, Option.bind_some]
  by_cases h : doughOk w s l = true
  · rw [if_pos h, if_pos h]
    unfold doughOk at h
    simp only [Bool.and_eq_true, inR_iff] at h
    rw [w64 (x := 1000 + w) (by omega) (by omega), w64 (x := 1000 + w + s) (by omega) (by omega), w64 (by omega) (by omega)]
  · rw [if_neg h, if_neg h]
def flourFor (w s l x : Int) : Int := if doughOk w s l = true ∧ inR 0 1000000 x = true then (x * 1000 + (1000 + w + s + l) - 1) / (1000 + w + s + l) else -1
theorem flour_div {x p : Int} (h0 : 0 ≤ x) (h1 : x ≤ 1000000) (hp0 : 1000 ≤ p) (hp1 : p ≤ 10000) : wrap64 (Int.tdiv (wrap64 ((wrap64 ((wrap64 (x * 1000)) + p)) - 1)) p) = (x * 1000 + p - 1) / p := by
  rw [w64 (x := x * 1000) (by omega) (by omega), w64 (x := x * 1000 + p) (by omega) (by omega), w64 (x := x * 1000 + p - 1) (by omega) (by omega), Int.tdiv_eq_ediv_of_nonneg (by omega)]
  have g1 : 0 ≤ (x * 1000 + p - 1) / p := Int.ediv_nonneg (by omega) (by omega)
  have g2 : (x * 1000 + p - 1) / p ≤ x * 1000 + p - 1 := Int.ediv_le_self _ (by omega)
  rw [w64 (by omega) (by omega)]
theorem spec_FlourFor_eq (w s l x : Int) : spec_FlourFor.f w s l x = some (flourFor w s l x) := by
  unfold spec_FlourFor.f flourFor
  rw [spec_WholeParts_eq, Option.bind_some, l01In_eq, Option.bind_some]
  by_cases h : doughOk w s l = true
  · have h' := h
    unfold doughOk at h'
    simp only [Bool.and_eq_true, inR_iff] at h'
    rw [if_pos h, if_neg (by omega)]
    by_cases hx : inR 0 1000000 x = true
    · rw [if_pos hx, if_neg (by omega), if_pos ⟨h, hx⟩, flour_div (inR_iff.1 hx).1 (inR_iff.1 hx).2 (by omega) (by omega)]
    · rw [if_neg hx, if_neg (fun q => hx q.2)]
  · rw [if_neg h, if_pos (by decide), if_neg (fun q => h q.1)]
theorem impl_FlourFor_ev (w s l x : Int) : Ev (fun k => impl_FlourFor.f k w s l x) (flourFor w s l x) := by
  unfold impl_FlourFor.f flourFor
  simp only [impl_DoughOk_eq, in_eq, Option.bind_some]
  by_cases h : doughOk w s l = true
  · have h' := h
    unfold doughOk at h'
    simp only [Bool.and_eq_true, inR_iff] at h'
    simp only [if_pos h]
    by_cases hx : inR 0 1000000 x = true
    · simp only [hx, h, and_self, if_true, Bool.not_true]
      refine Ev.step (f := fun _ => some ((x * 1000 + (1000 + w + s + l) - 1) / (1000 + w + s + l))) (fun k => ?_) (Ev.now _)
      simp only [impl_FlourFor.j0, Bool.false_eq_true, if_false]
      rw [impl_WholeParts_eq, if_pos h, Option.bind_some]
      unfold impl_up.f
      rw [if_neg (by omega), Option.bind_some, Int.mul_comm 1000 x, flour_div (inR_iff.1 hx).1 (inR_iff.1 hx).2 (by omega) (by omega)]
    · rw [if_neg (fun q => hx q.2)]
      rw [Bool.not_eq_true] at hx
      simp only [hx, Bool.not_false]
      refine Ev.step (f := fun _ => some (-1)) (fun k => ?_) (Ev.now _)
      simp only [impl_FlourFor.j0, if_true]
  · simp only [if_neg h, if_neg (show ¬ (doughOk w s l = true ∧ inR 0 1000000 x = true) from fun q => h q.1)]
    refine Ev.step (f := fun _ => some (-1)) (fun k => ?_) (Ev.now _)
    simp only [impl_FlourFor.j0, if_true]
def flourNeed (g : List Int) (w s l lw ll : Int) (ev : List S41) (a b c p q t m n : Int) : Int := if bakeryOk g w s l lw ll ev a b c p q t m = true ∧ inR 0 1000 n = true then flourFor w s l (wrap64 (doughFor lw ll * n)) else -1
theorem spec_FlourNeeded_ev (g : List Int) (w s l lw ll : Int) (ev : List S41) (a b c p q t m n : Int) (hg : g.length ≤ 1048576) (he : ev.length ≤ 2097152) : Ev (fun k => spec_FlourNeeded.f k g w s l lw ll ev a b c p q t m n) (flourNeed g w s l lw ll ev a b c p q t m n) := by
  unfold spec_FlourNeeded.f flourNeed
  refine Ev.bind (spec_BakeryOk_ev g w s l lw ll ev a b c p q t m hg he) ?_
  simp only [l01In_eq, Option.bind_some]
  have bad : Ev (fun k => spec_FlourNeeded.j0 k n true g w s l lw ll ev a b c p q t m) (-1) := by
    refine Ev.step (f := fun _ => some (-1)) (fun k => ?_) (Ev.now _)
    simp only [spec_FlourNeeded.j0, if_true]
  by_cases h : bakeryOk g w s l lw ll ev a b c p q t m = true
  · simp only [if_pos h]
    by_cases hx : inR 0 1000 n = true
    · simp only [hx, h, and_self, if_true, Bool.not_true]
      refine Ev.step (f := fun k => (spec_DoughFor.f k lw ll).bind fun t1065 => ((spec_FlourFor.f w s l (wrap64 (t1065 * n))).bind fun t1066 => (some t1066))) (fun k => ?_) (Ev.bind (spec_DoughFor_ev lw ll) ?_)
      · simp only [spec_FlourNeeded.j0, Bool.false_eq_true, if_false]
      · simp only [spec_FlourFor_eq, Option.bind_some]; exact Ev.now _
    · rw [if_neg (fun q => hx q.2)]
      rw [Bool.not_eq_true] at hx
      simp only [hx, Bool.not_false]
      exact bad
  · simp only [if_neg h, if_neg (show ¬ (bakeryOk g w s l lw ll ev a b c p q t m = true ∧ inR 0 1000 n = true) from fun q => h q.1)]
    exact bad
theorem impl_FlourNeeded_ev (g : List Int) (w s l lw ll : Int) (ev : List S41) (a b c p q t m n : Int) (he : ev.length ≤ 2097152) : Ev (fun k => impl_FlourNeeded.f k g w s l lw ll ev a b c p q t m n) (flourNeed g w s l lw ll ev a b c p q t m n) := by
  unfold impl_FlourNeeded.f flourNeed
  refine Ev.bind (impl_BakeryOk_ev g w s l lw ll ev a b c p q t m he) ?_
  simp only [in_eq, Option.bind_some]
  have bad : Ev (fun k => impl_FlourNeeded.j0 k n true g w s l lw ll ev a b c p q t m) (-1) := by
    refine Ev.step (f := fun _ => some (-1)) (fun k => ?_) (Ev.now _)
    simp only [impl_FlourNeeded.j0, if_true]
  by_cases h : bakeryOk g w s l lw ll ev a b c p q t m = true
  · simp only [if_pos h]
    by_cases hx : inR 0 1000 n = true
    · simp only [hx, h, and_self, if_true, Bool.not_true]
      refine Ev.step (f := fun k => (impl_DoughFor.f k lw ll).bind fun t1065 => ((impl_FlourFor.f k w s l (wrap64 (t1065 * n))).bind fun t1066 => (some t1066))) (fun k => ?_) (Ev.bind (impl_DoughFor_ev lw ll) ?_)
      · simp only [impl_FlourNeeded.j0, Bool.false_eq_true, if_false]
      · refine Ev.bind (impl_FlourFor_ev w s l _) ?_
        exact Ev.now _
    · rw [if_neg (fun q => hx q.2)]
      rw [Bool.not_eq_true] at hx
      simp only [hx, Bool.not_false]
      exact bad
  · simp only [if_neg h, if_neg (show ¬ (bakeryOk g w s l lw ll ev a b c p q t m = true ∧ inR 0 1000 n = true) from fun q => h q.1)]
    exact bad
theorem szIntS_eq (l : List Int) (a : Int) (h0 : -1 ≤ a) (h1 : a ≤ 1048576) (hl : l.length ≤ 9223372036854775807) : laws_szIntS.f l a = some (if a < l.length then -1 else a - l.length) := by
  unfold laws_szIntS.f
  rw [w64 (by omega) (by omega)]
  by_cases h : a < l.length
  · rw [if_pos (by omega), if_pos h]
  · rw [if_neg (by omega), if_neg h]
theorem set_take_drop {α : Type} (l : List α) (j : Nat) (hj : j < l.length) (z : List α) (hz : z.length = l.length) : (l.take j ++ z.drop j).set j l[j] = l.take (j + 1) ++ z.drop (j + 1) := by
  have h1 : (l.take j).length = j := by rw [List.length_take]; omega
  rw [List.set_append_right _ _ (by omega), h1, Nat.sub_self, List.drop_eq_getElem_cons (by omega : j < z.length), List.set_cons_zero, List.take_succ_eq_append_getElem hj, List.append_assoc]
  rfl
theorem toIntS_ev (l : List Int) (hl : l.length ≤ 1048576) : Ev (fun k => laws_toIntS.f k l) l := by
  unfold laws_toIntS.f
  simp only [if_pos (show (0 : Int) ≤ (l.length : Int) by omega), if_pos (show ((l.length : Int)).toNat ≤ 35184372088832 by omega)]
  have key : ∀ j, j ≤ l.length → Ev (fun k => laws_toIntS.l0 k l (l.take j ++ (List.replicate l.length 0).drop j) (j : Int)) l := by
    refine down l.length ?_ ?_
    · refine Ev.step (f := fun _ => some l) (fun k => ?_) (Ev.now _)
      simp only [laws_toIntS.l0]
      rw [if_neg (by omega)]; simp
    · intro j hj ih
      refine Ev.step (fun k => ?_) ih
      simp only [laws_toIntS.l0]
      rw [if_pos (by omega), if_pos (by omega), if_pos (by simp; omega), wsucc j (by omega), rd_nat l j hj, Int.toNat_natCast, set_take_drop l j hj _ (by simp)]
  have := key 0 (Nat.zero_le _)
  simpa using this
theorem eqIntS_refl (l : List Int) (hl : l.length ≤ 9223372036854775807) : Ev (fun k => laws_eqIntS.f k l l) true := by
  unfold laws_eqIntS.f
  simp only [if_true]
  have key : ∀ j, j ≤ l.length → Ev (fun k => laws_eqIntS.l0 k l l (j : Int)) true := by
    refine down l.length ?_ ?_
    · refine Ev.step (f := fun _ => some true) (fun k => ?_) (Ev.now _)
      simp only [laws_eqIntS.l0]
      rw [if_neg (by omega)]
    · intro j hj ih
      refine Ev.step (fun k => ?_) ih
      simp only [laws_eqIntS.l0]
      rw [if_pos (by omega), if_pos (by omega), if_pos (by omega), if_true, wsucc j (by omega)]
  exact key 0 (Nat.zero_le _)
theorem szStock_eq (l : List Int) (a : Int) (h0 : -1 ≤ a) (h1 : a ≤ 1048576) (hl : l.length ≤ 9223372036854775807) : laws_szStock.f l a = some (if a < l.length then -1 else a - l.length) := by
  unfold laws_szStock.f
  rw [szIntS_eq l a h0 h1 hl, Option.bind_some]
  by_cases h : a < l.length
  · rw [if_pos h]; simp
  · rw [if_neg h, if_neg (by omega)]
theorem toStock_ev (l : List Int) (hl : l.length ≤ 1048576) : Ev (fun k => laws_toStock.f k l) l := by
  unfold laws_toStock.f
  exact Ev.bind (toIntS_ev l hl) (Ev.now _)
theorem eqStock_refl (l : List Int) (hl : l.length ≤ 9223372036854775807) : Ev (fun k => laws_eqStock.f k l l) true := by
  unfold laws_eqStock.f
  refine Ev.bind (eqIntS_refl l hl) ?_
  simp only [if_true]
  exact Ev.now _
theorem szEventS_eq (l : List S39) (a : Int) (h0 : -1 ≤ a) (h1 : a ≤ 1048576) (hl : l.length ≤ 9223372036854775807) : laws_szEventS.f l a = some (if a < l.length then -1 else a - l.length) := by
  unfold laws_szEventS.f
  rw [w64 (by omega) (by omega)]
  by_cases h : a < l.length
  · rw [if_pos (by omega), if_pos h]
  · rw [if_neg (by omega), if_neg h]
theorem rdLEvent_nat (l : List S39) (j : Nat) (h : j < l.length) : rd_T39 l (j : Int) = l[j] := by
  unfold rd_T39; rw [Int.toNat_natCast, List.getD_eq_getElem?_getD, List.getElem?_eq_getElem h]; rfl
def cvEvent (l : List S39) : List S41 := l.map fun x => ⟨x.f0, x.f1⟩
theorem cvEvent_length (l : List S39) : (cvEvent l).length = l.length := by simp [cvEvent]
theorem cvEvent_get (l : List S39) (j : Nat) (h : j < l.length) : (cvEvent l)[j]'(by rw [cvEvent_length]; exact h) = ⟨l[j].f0, l[j].f1⟩ := by simp [cvEvent]
theorem toEventS_ev (l : List S39) (hl : l.length ≤ 1048576) : Ev (fun k => laws_toEventS.f k l) (cvEvent l) := by
  refine Ev.congr (f := fun k => laws_toEventS.l0 k l (List.replicate l.length z41) 0) (fun k => by unfold laws_toEventS.f; rw [if_pos (by omega), if_pos (by omega), Int.toNat_natCast]) ?_
  have key : ∀ j, j ≤ l.length → Ev (fun k => laws_toEventS.l0 k l ((cvEvent l).take j ++ (List.replicate l.length z41).drop j) (j : Int)) (cvEvent l) := by
    refine down l.length ?_ ?_
    · refine Ev.step (f := fun _ => some (cvEvent l)) (fun k => ?_) (Ev.now _)
      simp only [laws_toEventS.l0]
      rw [if_neg (by omega)]
      simp [List.take_of_length_le (Nat.le_of_eq (cvEvent_length l))]
    · intro j hj ih
      refine Ev.step (fun k => ?_) ih
      simp only [laws_toEventS.l0]
      rw [if_pos (by omega), if_pos (by omega)]
      simp only [laws_toEvent.f, Option.bind_some]
      rw [if_pos (by simp [cvEvent_length]; omega), wsucc j (by omega), rdLEvent_nat l j hj, Int.toNat_natCast]
      have := set_take_drop (cvEvent l) j (by rw [cvEvent_length]; exact hj) (List.replicate l.length z41) (by simp [cvEvent_length])
      rw [cvEvent_get l j hj] at this
      rw [this]
  have := key 0 (Nat.zero_le _)
  simpa using this
theorem eqEventS_refl (l : List S41) (hl : l.length ≤ 9223372036854775807) : Ev (fun k => laws_eqEventS.f k l l) true := by
  unfold laws_eqEventS.f
  simp only [if_true]
  have key : ∀ j, j ≤ l.length → Ev (fun k => laws_eqEventS.l0 k l l (j : Int)) true := by
    refine down l.length ?_ ?_
    · refine Ev.step (f := fun _ => some true) (fun k => ?_) (Ev.now _)
      simp only [laws_eqEventS.l0]
      rw [if_neg (by omega)]
    · intro j hj ih
      refine Ev.step (fun k => ?_) ih
      simp only [laws_eqEventS.l0]
      rw [if_pos (by omega), if_pos (by omega), if_pos (by omega), wsucc j (by omega)]
      simp only [laws_eqEvent.f, if_true, Option.bind_some]
  exact key 0 (Nat.zero_le _)
theorem szBook_eq (l : List S39) (a b c p q t n : Int) (h0 : -1 ≤ n) (h1 : n ≤ 1048576) (hl : l.length ≤ 9223372036854775807) : laws_szBook.f l a b c p q t n = some (if n < l.length then -1 else n - l.length) := by
  unfold laws_szBook.f
  rw [szEventS_eq l n h0 h1 hl, Option.bind_some]
  by_cases h : n < l.length
  · rw [if_pos h]; simp
  · rw [if_neg h, if_neg (by omega)]
theorem toBook_ev (l : List S39) (a b c p q t : Int) (hl : l.length ≤ 1048576) : Ev (fun k => laws_toBook.f k l a b c p q t) (cvEvent l, a, b, c, p, q, t) := by
  unfold laws_toBook.f laws_toRack.f
  refine Ev.bind (toEventS_ev l hl) ?_
  simp only [Option.bind_some]
  exact Ev.now _
theorem eqBook_refl (l : List S41) (a b c p q t : Int) (hl : l.length ≤ 9223372036854775807) : Ev (fun k => laws_eqBook.f k l a b c p q t l a b c p q t) true := by
  unfold laws_eqBook.f laws_eqRack.f
  refine Ev.bind (eqEventS_refl l hl) ?_
  simp only [if_true, Option.bind_some]
  exact Ev.now _
theorem szBakery_eq (g : List Int) (w s l lw ll : Int) (ev : List S39) (a b c p q t m : Int) (hg : g.length ≤ 9223372036854775807) (he : ev.length ≤ 9223372036854775807) :
    ∃ r, laws_szBakery.f g w s l lw ll ev a b c p q t m 1048576 = some r ∧ (¬ r < 0 → g.length ≤ 1048576 ∧ ev.length ≤ 1048576) := by
  unfold laws_szBakery.f
  rw [szStock_eq g 1048576 (by decide) (by decide) hg, Option.bind_some]
  by_cases h1 : (1048576 : Int) < g.length
  · rw [if_pos h1, if_pos (by decide)]; exact ⟨-1, rfl, fun h => absurd (by decide) h⟩
  · rw [if_neg h1, if_neg (by omega), szBook_eq ev a b c p q t (1048576 - g.length) (by omega) (by omega) he, Option.bind_some]
    by_cases h2 : (1048576 : Int) - g.length < ev.length
    · rw [if_pos h2, if_pos (by decide)]; exact ⟨-1, rfl, fun h => absurd (by decide) h⟩
    · rw [if_neg h2, if_neg (by omega)]
      exact ⟨_, rfl, fun _ => ⟨by omega, by omega⟩⟩
theorem toBakery_ev (g : List Int) (w s l lw ll : Int) (ev : List S39) (a b c p q t m : Int) (hg : g.length ≤ 1048576) (he : ev.length ≤ 1048576) : Ev (fun k => laws_toBakery.f k g w s l lw ll ev a b c p q t m) (g, w, s, l, lw, ll, cvEvent ev, a, b, c, p, q, t, m) := by
  unfold laws_toBakery.f laws_toDough.f laws_toLoaf.f
  refine Ev.bind (toStock_ev g hg) ?_
  simp only [Option.bind_some]
  refine Ev.bind (toBook_ev ev a b c p q t he) ?_
  exact Ev.now _
theorem eqBakery_refl (g : List Int) (w s l lw ll : Int) (ev : List S41) (a b c p q t m : Int) (hg : g.length ≤ 9223372036854775807) (he : ev.length ≤ 9223372036854775807) : Ev (fun k => laws_eqBakery.f k g w s l lw ll ev a b c p q t m g w s l lw ll ev a b c p q t m) true := by
  unfold laws_eqBakery.f laws_eqDough.f laws_eqLoaf.f
  refine Ev.bind (eqStock_refl g hg) ?_
  simp only [if_true, Option.bind_some]
  refine Ev.bind (eqBook_refl ev a b c p q t he) ?_
  simp only [if_true]
  exact Ev.now _
theorem FnExactFlourNeeded : laws_FnExactFlourNeeded.Pure := by
  intro g w s l lw ll ev a b c p q t m n h _
  have hg : g.length ≤ 9223372036854775807 := h.1.1
  have he : ev.length ≤ 9223372036854775807 := h.2.2.2.1.1.1
  refine Ev.rounds (g := fun k => laws_FnExactFlourNeeded.f k g w s l lw ll ev a b c p q t m n) ?_
  unfold laws_FnExactFlourNeeded.f
  obtain ⟨r, hr, hsz⟩ := szBakery_eq g w s l lw ll ev a b c p q t m hg he
  simp only [hr, Option.bind_some]
  by_cases hs : r < 0
  · simp only [if_pos hs]; exact Ev.now _
  · simp only [if_neg hs]
    obtain ⟨h1, h2⟩ := hsz hs
    have hc : (cvEvent ev).length ≤ 1048576 := by rw [cvEvent_length]; exact h2
    refine Ev.bind (toBakery_ev g w s l lw ll ev a b c p q t m h1 h2) ?_
    refine Ev.bind (spec_FlourNeeded_ev g w s l lw ll _ a b c p q t m n h1 (Nat.le_trans hc (by decide))) ?_
    refine Ev.bind (toBakery_ev g w s l lw ll ev a b c p q t m h1 h2) ?_
    refine Ev.bind (impl_FlourNeeded_ev g w s l lw ll _ a b c p q t m n (Nat.le_trans hc (by decide))) ?_
    simp only [if_true]
    refine Ev.bind (toBakery_ev g w s l lw ll ev a b c p q t m h1 h2) ?_
    refine Ev.bind (eqBakery_refl g w s l lw ll _ a b c p q t m hg (Nat.le_trans hc (by decide))) ?_
    simp only [if_true]
    exact Ev.now _
end Go.Proofs.Ytonaabffckkdlaa.Pure
