/- What FnExactMostFlour computes answers as the law says: over numbers and lists alone; there are no conditions but those of the statement. -/
import Derived.Test.YtnlioefgpgamdaaQ6
import Derived.Test.YtnlioefgpgamdaaQ8
import Derived.Test.YtnlioefgpgamdaaQ9
import Derived.Test.YtnlioefgpgamdaaQ17
import Derived.Test.YtnlioefgpgamdaaQ18
import Derived.Test.YtnlioefgpgamdaaQ19
import Derived.Test.YtnlioefgpgamdaaQ20
import Derived.Test.YtnlioefgpgamdaaQ21
import Derived.Test.YtnlioefgpgamdaaQ22
import Derived.Test.YtnlioefgpgamdaaQ23
import Derived.Test.YtnlioefgpgamdaaQ24
namespace Go.Proofs.Ytnlioefgpgamdaa.Pure
open Go.RowKit Go.Proofs.Ytnlioefgpgamdaa.Q Go.Proofs.YtnlioefgpgamdaaW.PrintWords Go.Proofs.YtnlioefgpgamdaaW.PrintLast Go.Proofs.YtnlioefgpgamdaaW.PrintMore
set_option linter.unusedVariables false
set_option linter.unusedSimpArgs false
theorem w64 {x : Int} (h0 : -9223372036854775808 ≤ x) (h1 : x ≤ 9223372036854775807) : wrap64 x = x := by
  unfold wrap64
  omega
theorem down {Q : Nat → Prop} (n : Nat) (fin : Q n) (step : ∀ j, j < n → Q (j + 1) → Q j) : ∀ j, j ≤ n → Q j := by
  intro j hj
  obtain ⟨d, hd⟩ : ∃ d, j + d = n := ⟨n - j, by omega⟩
  clear hj
  induction d generalizing j with
  | zero => have : j = n := by omega
            rw [this]; exact fin
  | succ d ih => exact step j (by omega) (ih (j + 1) (by omega))
theorem wsucc (j : Nat) (h : j < 9223372036854775807) : wrap64 ((j : Int) + 1) = ((j + 1 : Nat) : Int) := by
  rw [w64 (by omega) (by omega)]; omega
theorem rd_nat (l : List Int) (j : Nat) (h : j < l.length) : rd l (j : Int) = l[j] := by
  unfold rd; rw [Int.toNat_natCast, List.getD_eq_getElem?_getD, List.getElem?_eq_getElem h]; rfl
theorem rd_lit (l : List Int) (i : Int) : rd l i = l.getD i.toNat 0 := rfl
theorem all_drop_cons {α : Type} (p : α → Bool) (l : List α) (j : Nat) (h : j < l.length) : (l.drop j).all p = (p l[j] && (l.drop (j + 1)).all p) := by
  rw [List.drop_eq_getElem_cons h, List.all_cons]
theorem all_drop_len {α : Type} (p : α → Bool) (l : List α) : (l.drop l.length).all p = true := by simp
theorem ev_some {α : Type} (r : α) : Ev (fun _ => some r) r := Ev.now r
theorem ev_pt {α : Type} {g : Option α} {r : α} (h : g = some r) : Ev (fun _ => g) r := ⟨0, fun _ _ => h⟩
theorem ev_eq {α : Type} {g : Nat → Option α} {r r' : α} (h : Ev g r) (e : r = r') : Ev g r' := e ▸ h
def inR (lo hi n : Int) : Bool := decide (lo ≤ n ∧ n ≤ hi)
theorem l01In_eq (a b c : Int) : spec_l01In.f a b c = some (inR b c a) := by
  unfold spec_l01In.f inR
  by_cases h : b ≤ a
  · rw [if_pos h]; simp [h]
  · rw [if_neg h]; simp [h]
theorem allIn_eq (l : List Int) (a b : Int) : impl_allIn.f l a b = some (l.all (inR a b)) := rfl
theorem inR_iff {lo hi n : Int} : inR lo hi n = true ↔ lo ≤ n ∧ n ≤ hi := by unfold inR; simp
theorem in_eq (a b c : Int) : impl_in.f a b c = some (inR b c a) := by
  unfold impl_in.f inR
  by_cases h : b ≤ a
  · rw [if_pos h]; simp [h]
  · rw [if_neg h]; simp [h]
def doughOk (w s l : Int) : Bool := inR 300 1200 w && (inR 0 50 s && inR 0 500 l)
theorem spec_DoughOk_eq (w s l : Int) : spec_DoughOk.f w s l = some (doughOk w s l) := by
  unfold spec_DoughOk.f doughOk
  simp only [l01In_eq, Option.bind_some]
  cases inR 300 1200 w <;> cases inR 0 50 s <;> cases inR 0 500 l <;> simp
theorem impl_DoughOk_eq (w s l : Int) : impl_DoughOk.f w s l = some (doughOk w s l) := by
  unfold impl_DoughOk.f doughOk
  simp only [in_eq, Option.bind_some]
  cases inR 300 1200 w <;> cases inR 0 50 s <;> cases inR 0 500 l <;> simp
def partOf (f p : Int) : Int := if inR 0 1000000 f = true ∧ inR 0 2000 p = true then Int.tdiv (f * p + 500) 1000 else -1
theorem part_wrap {f p : Int} (h : inR 0 1000000 f = true) (h2 : inR 0 2000 p = true) : wrap64 (Int.tdiv (wrap64 ((wrap64 (f * p)) + 500)) 1000) = Int.tdiv (f * p + 500) 1000 := by
  have a := inR_iff.1 h
  have b := inR_iff.1 h2
  have h0 : 0 ≤ f * p := Int.mul_nonneg a.1 b.1
  have h1 : f * p ≤ 1000000 * 2000 := Int.mul_le_mul a.2 b.2 b.1 (by omega)
  rw [w64 (x := f * p) (by omega) (by omega), w64 (x := f * p + 500) (by omega) (by omega), Int.tdiv_eq_ediv_of_nonneg (by omega), w64 (by omega) (by omega)]
theorem spec_PartOf_eq (f p : Int) : spec_PartOf.f f p = some (partOf f p) := by
  unfold spec_PartOf.f partOf
  simp only [l01In_eq, Option.bind_some]
  cases h : inR 0 1000000 f <;> cases h2 : inR 0 2000 p
  case true.true => rw [part_wrap h h2]; simp
  all_goals simp
theorem impl_PartOf_eq (f p : Int) : impl_PartOf.f f p = some (partOf f p) := by
  unfold impl_PartOf.f partOf
  simp only [in_eq, Option.bind_some]
  cases h : inR 0 1000000 f <;> cases h2 : inR 0 2000 p
  case true.true => rw [part_wrap h h2]; simp
  all_goals simp
def amounts (w s l f : Int) : List Int := if doughOk w s l = true ∧ inR 0 1000000 f = true then [f, partOf f w, partOf f s, partOf f l] else []
theorem amounts_length (w s l f : Int) : (amounts w s l f).length ≤ 4 := by unfold amounts; split <;> simp
theorem spec_Amounts_ev (w s l f : Int) : Ev (fun k => spec_Amounts.f k w s l f) (amounts w s l f) := by
  unfold spec_Amounts.f amounts
  simp only [spec_DoughOk_eq, l01In_eq, Option.bind_some]
  cases h : doughOk w s l <;> cases h2 : inR 0 1000000 f
  case true.true =>
    refine Ev.step (f := fun _ => _) (fun k => ?_) (ev_some _)
    simp only [spec_Amounts.j0, spec_PartOf_eq, Option.bind_some]
    simp
  all_goals
    simp only [if_true, Bool.false_eq_true, if_false, Bool.not_false, false_and, and_false]
    refine Ev.step (f := fun _ => some []) (fun k => ?_) (Ev.now _)
    simp [spec_Amounts.j0]
theorem impl_Amounts_ev (w s l f : Int) : Ev (fun k => impl_Amounts.f k w s l f) (amounts w s l f) := by
  unfold impl_Amounts.f amounts
  simp only [impl_DoughOk_eq, in_eq, Option.bind_some]
  cases h : doughOk w s l <;> cases h2 : inR 0 1000000 f
  case true.true =>
    refine Ev.step (f := fun _ => _) (fun k => ?_) (ev_some _)
    simp only [impl_Amounts.j0, impl_PartOf_eq, Option.bind_some]
    simp
  all_goals
    simp only [if_true, Bool.false_eq_true, if_false, Bool.not_false, false_and, and_false]
    refine Ev.step (f := fun _ => some []) (fun k => ?_) (Ev.now _)
    simp [impl_Amounts.j0]
def storeOk (l : List Int) : Bool := (l.length == 4) && l.all (inR 0 1000000)
theorem impl_StoreOk_eq (l : List Int) : impl_StoreOk.f l = some (storeOk l) := by
  unfold impl_StoreOk.f storeOk
  rw [allIn_eq, Option.bind_some]
  by_cases h : l.length = 4
  · rw [if_pos (by omega)]; simp [h]
  · rw [if_neg (by omega)]; simp [h]
theorem spec_StoreOk_ev (l : List Int) (hl : l.length ≤ 1048576) : Ev (fun k => spec_StoreOk.f k l) (storeOk l) := by
  unfold spec_StoreOk.f
  have key : ∀ j, j ≤ l.length → Ev (fun k => spec_StoreOk.l0 k (j : Int) l) ((l.length == 4) && (l.drop j).all (inR 0 1000000)) := by
    refine down l.length ?_ ?_
    · refine Ev.step (f := fun _ => _) (fun k => ?_) (ev_some _)
      simp only [spec_StoreOk.l0]
      rw [if_neg (by omega)]
      simp only [List.drop_length, List.all_nil, Bool.and_true]
      have e : ((l.length : Int) == 4) = (l.length == 4) := by rw [Bool.eq_iff_iff, beq_iff_eq, beq_iff_eq]; omega
      rw [e]
    · intro j hj ih
      rw [all_drop_cons _ l j hj]
      cases hq : inR 0 1000000 l[j] with
      | true =>
        rw [Bool.true_and]
        refine Ev.step (fun k => ?_) ih
        simp only [spec_StoreOk.l0]
        rw [if_pos (by omega), if_pos (by omega), rd_nat l j hj, l01In_eq, hq, Option.bind_some, if_pos rfl, wsucc j (by omega)]
      | false =>
        rw [Bool.false_and, Bool.and_false]
        refine Ev.step (f := fun _ => some false) (fun k => ?_) (Ev.now _)
        simp only [spec_StoreOk.l0]
        rw [if_pos (by omega), if_pos (by omega), rd_nat l j hj, l01In_eq, hq, Option.bind_some, if_neg (by decide)]
  have := key 0 (Nat.zero_le _)
  simpa [storeOk] using this
theorem storeOk_parts {l : List Int} (h : storeOk l = true) : l.length = 4 ∧ ∀ (j : Nat) (hj : j < l.length), 0 ≤ l[j] ∧ l[j] ≤ 1000000 := by
  unfold storeOk at h
  simp only [Bool.and_eq_true, beq_iff_eq, List.all_eq_true] at h
  exact ⟨h.1, fun j hj => inR_iff.1 (h.2 _ (List.getElem_mem hj))⟩
def missFrom : List Int → List Int → Nat → Int
  | [], _, _ => -1
  | x :: r, g, j => if x > g.getD j 0 then (j : Int) else missFrom r g (j + 1)
def missOf (a g : List Int) : Int := missFrom a g 0
theorem impl_missing_ev (g a : List Int) (h : a.length ≤ g.length) (hl : a.length ≤ 1048576) : Ev (fun k => impl_missing.f k g a) (missOf a g) := by
  unfold impl_missing.f missOf
  have key : ∀ j, j ≤ a.length → Ev (fun k => impl_missing.l0 k a (a.length : Int) (j : Int) g) (missFrom (a.drop j) g j) := by
    refine down a.length ?_ ?_
    · refine Ev.step (f := fun _ => _) (fun k => ?_) (ev_some _)
      simp only [impl_missing.l0]
      rw [if_neg (by omega)]
      simp [missFrom]
    · intro j hj ih
      rw [List.drop_eq_getElem_cons hj]
      simp only [missFrom]
      have hg : rd g (j : Int) = g.getD j 0 := by unfold rd; rw [Int.toNat_natCast]
      by_cases hc : a[j] > g.getD j 0
      · rw [if_pos hc]
        refine Ev.step (f := fun _ => some (j : Int)) (fun k => ?_) (Ev.now _)
        simp only [impl_missing.l0]
        rw [if_pos (by omega), if_pos (by omega), if_pos (by omega), if_pos (by omega), rd_nat a j hj, hg, if_pos hc]
      · rw [if_neg hc]
        refine Ev.step (fun k => ?_) ih
        simp only [impl_missing.l0]
        rw [if_pos (by omega), if_pos (by omega), if_pos (by omega), if_pos (by omega), rd_nat a j hj, hg, if_neg hc, wsucc j (by omega)]
  exact key 0 (Nat.zero_le _)
def firstMiss (g : List Int) (w s l f : Int) : Int := if storeOk g = true then missOf (amounts w s l f) g else -1
theorem spec_FirstMissing_ev (g : List Int) (w s l f : Int) (hl : g.length ≤ 1048576) : Ev (fun k => spec_FirstMissing.f k g w s l f) (firstMiss g w s l f) := by
  unfold spec_FirstMissing.f firstMiss
  refine Ev.bind (spec_Amounts_ev w s l f) ?_
  have ha := amounts_length w s l f
  generalize amounts w s l f = a at ha
  by_cases hs : storeOk g = true
  · rw [if_pos hs]
    have h4 := (storeOk_parts hs).1
    unfold missOf
    have key : ∀ j, j ≤ a.length → Ev (fun k => spec_FirstMissing.l0 k a (j : Int) g) (missFrom (a.drop j) g j) := by
      refine down a.length ?_ ?_
      · refine Ev.step (f := fun k => spec_FirstMissing.j1 k a (a.length : Int) false g) (fun k => ?_) (Ev.step (f := fun _ => some (-1)) (fun k => ?_) (ev_eq (Ev.now _) (by simp [missFrom])))
        · simp only [spec_FirstMissing.l0]
          rw [if_neg (by omega)]
        · simp only [spec_FirstMissing.j1]
          simp
      · intro j hj ih
        rw [List.drop_eq_getElem_cons hj]
        simp only [missFrom]
        have hg : rd g (j : Int) = g.getD j 0 := by unfold rd; rw [Int.toNat_natCast]
        refine Ev.step (f := fun k => (spec_StoreOk.f k g).bind fun t => spec_FirstMissing.j1 k a (j : Int) t g) (fun k => ?_) ?_
        · simp only [spec_FirstMissing.l0]
          rw [if_pos (by omega)]
        refine Ev.bind (spec_StoreOk_ev g hl) ?_
        rw [hs]
        by_cases hc : a[j] > g.getD j 0
        · rw [if_pos hc]
          refine Ev.step (f := fun _ => some (j : Int)) (fun k => ?_) (Ev.now _)
          simp only [spec_FirstMissing.j1]
          rw [if_pos trivial, if_pos (by omega), if_pos (by omega), if_pos (by omega), rd_nat a j hj, hg, if_pos hc]
        · rw [if_neg hc]
          refine Ev.step (fun k => ?_) ih
          simp only [spec_FirstMissing.j1]
          rw [if_pos trivial, if_pos (by omega), if_pos (by omega), if_pos (by omega), rd_nat a j hj, hg, if_neg hc, wsucc j (by omega)]
    exact key 0 (Nat.zero_le _)
  · rw [if_neg hs]
    have hs' : storeOk g = false := by simpa using hs
    by_cases h0 : 0 < a.length
    · refine Ev.step (f := fun k => (spec_StoreOk.f k g).bind fun t => spec_FirstMissing.j1 k a 0 t g) (fun k => ?_) ?_
      · simp only [spec_FirstMissing.l0]
        rw [if_pos (by omega)]
      refine Ev.bind (spec_StoreOk_ev g hl) ?_
      rw [hs']
      refine Ev.step (f := fun _ => some (-1)) (fun k => ?_) (Ev.now _)
      simp [spec_FirstMissing.j1]
    · refine Ev.step (f := fun k => spec_FirstMissing.j1 k a 0 false g) (fun k => ?_) (Ev.step (f := fun _ => some (-1)) (fun k => ?_) (Ev.now _))
      · simp only [spec_FirstMissing.l0]
        rw [if_neg (by omega)]
      · simp [spec_FirstMissing.j1]
/-- The greatest number at which a property holds, sought by halving. -/
def halving (p : Int → Bool) : Nat → Int → Int → Int
  | 0, lo, _ => lo
  | n + 1, lo, hi => if lo < hi then (if p ((lo + hi + 1) / 2) = true then halving p n ((lo + hi + 1) / 2) hi else halving p n lo ((lo + hi + 1) / 2 - 1)) else lo
def fits (g : List Int) (w s l : Int) (f : Int) : Bool := decide (missOf (amounts w s l f) g < 0)
def mostFl (g : List Int) (w s l : Int) : Int := if storeOk g = true ∧ doughOk w s l = true then halving (fits g w s l) 1000000 0 1000000 else -1
theorem mid_wrap {lo hi : Int} (h0 : 0 ≤ lo) (h1 : lo ≤ 1000000) (h2 : 0 ≤ hi) (h3 : hi ≤ 1000000) : wrap64 (Int.tdiv (wrap64 ((wrap64 (lo + hi)) + 1)) 2) = (lo + hi + 1) / 2 := by
  rw [w64 (x := lo + hi) (by omega) (by omega), w64 (x := lo + hi + 1) (by omega) (by omega), Int.tdiv_eq_ediv_of_nonneg (by omega), w64 (by omega) (by omega)]
theorem spec_MostFlour_ev (g : List Int) (w s l : Int) (hl : g.length ≤ 1048576) : Ev (fun k => spec_MostFlour.f k g w s l) (mostFl g w s l) := by
  unfold spec_MostFlour.f mostFl
  refine Ev.bind (spec_StoreOk_ev g hl) ?_
  simp only [spec_DoughOk_eq, Option.bind_some]
  cases hs : storeOk g <;> cases hd : doughOk w s l
  case true.true =>
    simp only [if_true, true_and, Bool.not_true]
    refine Ev.step (f := fun k => spec_MostFlour.l0 k 0 1000000 g w s l) (fun k => by simp [spec_MostFlour.j0]) ?_
    have key : ∀ (n : Nat) (lo hi : Int), 0 ≤ lo → lo ≤ 1000000 → 0 ≤ hi → hi ≤ 1000000 → hi - lo ≤ (n : Int) → Ev (fun k => spec_MostFlour.l0 k lo hi g w s l) (halving (fits g w s l) n lo hi) := by
      intro n
      induction n with
      | zero =>
        intro lo hi h0 h1 h2 h3 h4
        refine Ev.step (f := fun _ => some lo) (fun k => ?_) (Ev.now _)
        simp only [spec_MostFlour.l0]
        rw [if_neg (by omega)]
      | succ n ih =>
        intro lo hi h0 h1 h2 h3 h4
        simp only [halving]
        by_cases hlt : lo < hi
        · simp only [if_pos hlt]
          have hm := mid_wrap h0 h1 h2 h3
          generalize hmid : (lo + hi + 1) / 2 = mid at hm ⊢
          refine Ev.step (f := fun k => (spec_FirstMissing.f k g w s l mid).bind fun t375 => (if t375 < 0 then (spec_MostFlour.l0 k mid hi g w s l) else (spec_MostFlour.l0 k lo (wrap64 (mid - 1)) g w s l))) (fun k => ?_) ?_
          · simp only [spec_MostFlour.l0]
            rw [if_pos hlt, hm]
          refine Ev.bind (spec_FirstMissing_ev g w s l mid hl) ?_
          unfold firstMiss
          rw [if_pos hs]
          by_cases hf : missOf (amounts w s l mid) g < 0
          · simp only [if_pos hf]
            rw [if_pos (show fits g w s l mid = true by simp [fits, hf])]
            exact ih mid hi (by omega) (by omega) h2 h3 (by omega)
          · simp only [if_neg hf]
            rw [if_neg (show ¬ (fits g w s l mid = true) by simp [fits, hf]), w64 (by omega) (by omega)]
            exact ih lo (mid - 1) h0 h1 (by omega) (by omega) (by omega)
        · simp only [if_neg hlt]
          refine Ev.step (f := fun _ => some lo) (fun k => ?_) (Ev.now _)
          simp only [spec_MostFlour.l0]
          rw [if_neg hlt]
    exact key 1000000 0 1000000 (by omega) (by omega) (by omega) (by omega) (by omega)
  all_goals
    simp only [if_true, Bool.false_eq_true, if_false, Bool.not_false, false_and, and_false]
    refine Ev.step (f := fun _ => some (-1)) (fun k => ?_) (Ev.now _)
    simp [spec_MostFlour.j0]
theorem impl_MostFlour_ev (g : List Int) (w s l : Int) (hl : g.length ≤ 1048576) : Ev (fun k => impl_MostFlour.f k g w s l) (mostFl g w s l) := by
  unfold impl_MostFlour.f mostFl
  simp only [impl_StoreOk_eq, impl_DoughOk_eq, Option.bind_some]
  cases hs : storeOk g <;> cases hd : doughOk w s l
  case true.true =>
    have h4g := (storeOk_parts hs).1
    simp only [if_true, true_and, Bool.not_true]
    refine Ev.step (f := fun k => impl_MostFlour.l0 k 0 1000000 g w s l) (fun k => by simp [impl_MostFlour.j0]) ?_
    have key : ∀ (n : Nat) (lo hi : Int), 0 ≤ lo → lo ≤ 1000000 → 0 ≤ hi → hi ≤ 1000000 → hi - lo ≤ (n : Int) → Ev (fun k => impl_MostFlour.l0 k lo hi g w s l) (halving (fits g w s l) n lo hi) := by
      intro n
      induction n with
      | zero =>
        intro lo hi h0 h1 h2 h3 h4
        refine Ev.step (f := fun _ => some lo) (fun k => ?_) (Ev.now _)
        simp only [impl_MostFlour.l0]
        rw [if_neg (by omega)]
      | succ n ih =>
        intro lo hi h0 h1 h2 h3 h4
        simp only [halving]
        by_cases hlt : lo < hi
        · simp only [if_pos hlt]
          have hm := mid_wrap h0 h1 h2 h3
          generalize hmid : (lo + hi + 1) / 2 = mid at hm ⊢
          refine Ev.step (f := fun k => (impl_Amounts.f k w s l mid).bind fun t414 => ((impl_missing.f k g t414).bind fun t417 => (if t417 < 0 then (impl_MostFlour.l0 k mid hi g w s l) else (impl_MostFlour.l0 k lo (wrap64 (mid - 1)) g w s l)))) (fun k => ?_) ?_
          · simp only [impl_MostFlour.l0]
            rw [if_pos hlt, hm]
          refine Ev.bind (impl_Amounts_ev w s l mid) ?_
          have ha := amounts_length w s l mid
          refine Ev.bind (impl_missing_ev g _ (by omega) (by omega)) ?_
          by_cases hf : missOf (amounts w s l mid) g < 0
          · simp only [if_pos hf]
            rw [if_pos (show fits g w s l mid = true by simp [fits, hf])]
            exact ih mid hi (by omega) (by omega) h2 h3 (by omega)
          · simp only [if_neg hf]
            rw [if_neg (show ¬ (fits g w s l mid = true) by simp [fits, hf]), w64 (by omega) (by omega)]
            exact ih lo (mid - 1) h0 h1 (by omega) (by omega) (by omega)
        · simp only [if_neg hlt]
          refine Ev.step (f := fun _ => some lo) (fun k => ?_) (Ev.now _)
          simp only [impl_MostFlour.l0]
          rw [if_neg hlt]
    exact key 1000000 0 1000000 (by omega) (by omega) (by omega) (by omega) (by omega)
  all_goals
    simp only [if_true, Bool.false_eq_true, if_false, Bool.not_false, false_and, and_false]
    refine Ev.step (f := fun _ => some (-1)) (fun k => ?_) (Ev.now _)
    simp [impl_MostFlour.j0]
theorem szIntS_eq (l : List Int) (a : Int) (h0 : -1 ≤ a) (h1 : a ≤ 1048576) (hl : l.length ≤ 9223372036854775807) : laws_szIntS.f l a = some (if a < l.length then -1 else a - l.length) := by
  unfold laws_szIntS.f
  rw [w64 (by omega) (by omega)]
  by_cases h : a < l.length
  · rw [if_pos (by omega), if_pos h]
  · rw [if_neg (by omega), if_neg h]
theorem set_take_drop {α : Type} (l : List α) (j : Nat) (hj : j < l.length) (z : List α) (hz : z.length = l.length) : (l.take j ++ z.drop j).set j l[j] = l.take (j + 1) ++ z.drop (j + 1) := by
  have h1 : (l.take j).length = j := by rw [List.length_take]; omega
  rw [List.set_append_right _ _ (by omega), h1, Nat.sub_self, List.drop_eq_getElem_cons (by omega : j < z.length), List.set_cons_zero, List.take_succ_eq_append_getElem hj, List.append_assoc]
  rfl
theorem toIntS_ev (l : List Int) (hl : l.length ≤ 1048576) : Ev (fun k => laws_toIntS.f k l) l := by
  unfold laws_toIntS.f
  simp only [if_pos (show (0 : Int) ≤ (l.length : Int) by omega), if_pos (show ((l.length : Int)).toNat ≤ 35184372088832 by omega)]
  have key : ∀ j, j ≤ l.length → Ev (fun k => laws_toIntS.l0 k l (l.take j ++ (List.replicate l.length 0).drop j) (j : Int)) l := by
    refine down l.length ?_ ?_
    · refine Ev.step (f := fun _ => some l) (fun k => ?_) (Ev.now _)
      simp only [laws_toIntS.l0]
      rw [if_neg (by omega)]; simp
    · intro j hj ih
      refine Ev.step (fun k => ?_) ih
      simp only [laws_toIntS.l0]
      rw [if_pos (by omega), if_pos (by omega), if_pos (by simp; omega), wsucc j (by omega), rd_nat l j hj, Int.toNat_natCast, set_take_drop l j hj _ (by simp)]
  have := key 0 (Nat.zero_le _)
  simpa using this
theorem eqIntS_refl (l : List Int) (hl : l.length ≤ 9223372036854775807) : Ev (fun k => laws_eqIntS.f k l l) true := by
  unfold laws_eqIntS.f
  simp only [if_true]
  have key : ∀ j, j ≤ l.length → Ev (fun k => laws_eqIntS.l0 k l l (j : Int)) true := by
    refine down l.length ?_ ?_
    · refine Ev.step (f := fun _ => some true) (fun k => ?_) (Ev.now _)
      simp only [laws_eqIntS.l0]
      rw [if_neg (by omega)]
    · intro j hj ih
      refine Ev.step (fun k => ?_) ih
      simp only [laws_eqIntS.l0]
      rw [if_pos (by omega), if_pos (by omega), if_pos (by omega), if_true, wsucc j (by omega)]
  exact key 0 (Nat.zero_le _)
theorem szStock_eq (l : List Int) (a : Int) (h0 : -1 ≤ a) (h1 : a ≤ 1048576) (hl : l.length ≤ 9223372036854775807) : laws_szStock.f l a = some (if a < l.length then -1 else a - l.length) := by
  unfold laws_szStock.f
  rw [szIntS_eq l a h0 h1 hl, Option.bind_some]
  by_cases h : a < l.length
  · rw [if_pos h]; simp
  · rw [if_neg h, if_neg (by omega)]
theorem toStock_ev (l : List Int) (hl : l.length ≤ 1048576) : Ev (fun k => laws_toStock.f k l) l := by
  unfold laws_toStock.f
  exact Ev.bind (toIntS_ev l hl) (Ev.now _)
theorem eqStock_refl (l : List Int) (hl : l.length ≤ 9223372036854775807) : Ev (fun k => laws_eqStock.f k l l) true := by
  unfold laws_eqStock.f
  refine Ev.bind (eqIntS_refl l hl) ?_
  simp only [if_true]
  exact Ev.now _
theorem FnExactMostFlour : laws_FnExactMostFlour.Pure := by
  intro l w s v h _
  have hm : l.length ≤ 9223372036854775807 := h.1
  refine Ev.rounds (g := fun n => laws_FnExactMostFlour.f n l w s v) ?_
  unfold laws_FnExactMostFlour.f laws_toDough.f
  simp only [szStock_eq l 1048576 (by omega) (by omega) hm, Option.bind_some]
  by_cases hs : (1048576 : Int) < l.length
  · simp only [if_pos hs]; simpa using Ev.now true
  · simp only [if_neg hs, if_neg (show ¬ ((1048576 : Int) - l.length < 0) by omega)]
    have hl : l.length ≤ 1048576 := by omega
    refine Ev.bind (toStock_ev l hl) ?_
    refine Ev.bind (spec_MostFlour_ev l w s v hl) ?_
    refine Ev.bind (toStock_ev l hl) ?_
    refine Ev.bind (impl_MostFlour_ev l w s v hl) ?_
    simp only [if_true]
    refine Ev.bind (toStock_ev l hl) ?_
    refine Ev.bind (eqStock_refl l hm) ?_
    simp only [if_true]
    exact Ev.now _
end Go.Proofs.Ytnlioefgpgamdaa.Pure
