/- What FnExactTakeFor computes answers as the law says: over numbers and lists alone; there are no conditions but those of the statement. -/
import Derived.Test.YtnlioefgpgamdaaQ6
import Derived.Test.YtnlioefgpgamdaaQ8
import Derived.Test.YtnlioefgpgamdaaQ9
import Derived.Test.YtnlioefgpgamdaaQ16
import Derived.Test.YtnlioefgpgamdaaQ17
import Derived.Test.YtnlioefgpgamdaaQ18
import Derived.Test.YtnlioefgpgamdaaQ19
import Derived.Test.YtnlioefgpgamdaaQ20
import Derived.Test.YtnlioefgpgamdaaQ24
import Derived.Test.YtnlioefgpgamdaaQ30
import Derived.Test.YtnlioefgpgamdaaQ32
import Derived.Test.YtnlioefgpgamdaaQ33
import Derived.Test.YtnlioefgpgamdaaQ39
import Derived.Test.YtnlioefgpgamdaaQ40
import Derived.Test.YtnlioefgpgamdaaQ41
import Derived.Test.YtnlioefgpgamdaaQ42
namespace Go.Proofs.Ytnlioefgpgamdaa.Pure
open Go.RowKit Go.Proofs.Ytnlioefgpgamdaa.Q Go.Proofs.YtnlioefgpgamdaaW.PrintWords Go.Proofs.YtnlioefgpgamdaaW.PrintLast Go.Proofs.YtnlioefgpgamdaaW.PrintMore
set_option linter.unusedVariables false
set_option linter.unusedSimpArgs false
theorem w64 {x : Int} (h0 : -9223372036854775808 ≤ x) (h1 : x ≤ 9223372036854775807) : wrap64 x = x := by
  unfold wrap64
  omega
theorem down {Q : Nat → Prop} (n : Nat) (fin : Q n) (step : ∀ j, j < n → Q (j + 1) → Q j) : ∀ j, j ≤ n → Q j := by
  intro j hj
  obtain ⟨d, hd⟩ : ∃ d, j + d = n := ⟨n - j, by omega⟩
  clear hj
  induction d generalizing j with
  | zero => have : j = n := by omega
            rw [this]; exact fin
  | succ d ih => exact step j (by omega) (ih (j + 1) (by omega))
theorem wsucc (j : Nat) (h : j < 9223372036854775807) : wrap64 ((j : Int) + 1) = ((j + 1 : Nat) : Int) := by
  rw [w64 (by omega) (by omega)]; omega
theorem rd_nat (l : List Int) (j : Nat) (h : j < l.length) : rd l (j : Int) = l[j] := by
  unfold rd; rw [Int.toNat_natCast, List.getD_eq_getElem?_getD, List.getElem?_eq_getElem h]; rfl
theorem rd_lit (l : List Int) (i : Int) : rd l i = l.getD i.toNat 0 := rfl
theorem all_drop_cons {α : Type} (p : α → Bool) (l : List α) (j : Nat) (h : j < l.length) : (l.drop j).all p = (p l[j] && (l.drop (j + 1)).all p) := by
  rw [List.drop_eq_getElem_cons h, List.all_cons]
theorem all_drop_len {α : Type} (p : α → Bool) (l : List α) : (l.drop l.length).all p = true := by simp
theorem ev_some {α : Type} (r : α) : Ev (fun _ => some r) r := Ev.now r
theorem ev_pt {α : Type} {g : Option α} {r : α} (h : g = some r) : Ev (fun _ => g) r := ⟨0, fun _ _ => h⟩
theorem ev_eq {α : Type} {g : Nat → Option α} {r r' : α} (h : Ev g r) (e : r = r') : Ev g r' := e ▸ h
theorem set_take_drop {α : Type} (l : List α) (j : Nat) (hj : j < l.length) (z : List α) (hz : z.length = l.length) : (l.take j ++ z.drop j).set j l[j] = l.take (j + 1) ++ z.drop (j + 1) := by
  have h1 : (l.take j).length = j := by rw [List.length_take]; omega
  rw [List.set_append_right _ _ (by omega), h1, Nat.sub_self, List.drop_eq_getElem_cons (by omega : j < z.length), List.set_cons_zero, List.take_succ_eq_append_getElem hj, List.append_assoc]
  rfl
def subZ (l a : List Int) : List Int := List.zipWith (fun x y => wrap64 (x - y)) l a
def addZ (l a : List Int) : List Int := List.zipWith (fun x y => wrap64 (x + y)) l a
theorem rd_td (z l : List Int) (j : Nat) (hj : j < l.length) (hz : z.length = l.length) : rd (z.take j ++ l.drop j) (j : Int) = l[j] := by
  unfold rd
  rw [Int.toNat_natCast, List.getD_eq_getElem?_getD, List.getElem?_append_right (by rw [List.length_take]; omega), List.length_take, show j - min j z.length = 0 by omega, List.getElem?_drop]
  rw [Nat.add_zero, List.getElem?_eq_getElem hj]; rfl
theorem td_length (z l : List Int) (j : Nat) (hj : j ≤ l.length) (hz : z.length = l.length) : (z.take j ++ l.drop j).length = l.length := by simp; omega
theorem zip_len (f : Int → Int → Int) (l a : List Int) (h : l.length = a.length) : (List.zipWith f l a).length = l.length := by simp; omega
theorem zip_get (f : Int → Int → Int) (l a : List Int) (j : Nat) (hj : j < l.length) (ha : j < a.length) : (List.zipWith f l a)[j]'(by simp; omega) = f l[j] a[j] := by simp
theorem zip_set (f : Int → Int → Int) (l a : List Int) (j : Nat) (h : l.length = a.length) (hj : j < l.length) (x : Int) (hx : x = f l[j] (a[j]'(by omega))) : ((List.zipWith f l a).take j ++ l.drop j).set j x = (List.zipWith f l a).take (j + 1) ++ l.drop (j + 1) := by
  have hz := zip_len f l a h
  have := set_take_drop (List.zipWith f l a) j (by omega) l hz.symm
  rw [zip_get f l a j hj (by omega)] at this
  rw [hx]; exact this
theorem td_end (z l : List Int) (n : Nat) (hz : z.length = n) (hl : l.length = n) : z.take n ++ l.drop n = z := by
  rw [List.drop_of_length_le (by omega), List.take_of_length_le (by omega), List.append_nil]
def inR (lo hi n : Int) : Bool := decide (lo ≤ n ∧ n ≤ hi)
theorem l01In_eq (a b c : Int) : spec_l01In.f a b c = some (inR b c a) := by
  unfold spec_l01In.f inR
  by_cases h : b ≤ a
  · rw [if_pos h]; simp [h]
  · rw [if_neg h]; simp [h]
theorem allIn_eq (l : List Int) (a b : Int) : impl_allIn.f l a b = some (l.all (inR a b)) := rfl
theorem inR_iff {lo hi n : Int} : inR lo hi n = true ↔ lo ≤ n ∧ n ≤ hi := by unfold inR; simp
theorem in_eq (a b c : Int) : impl_in.f a b c = some (inR b c a) := by
  unfold impl_in.f inR
  by_cases h : b ≤ a
  · rw [if_pos h]; simp [h]
  · rw [if_neg h]; simp [h]
def doughOk (w s l : Int) : Bool := inR 300 1200 w && (inR 0 50 s && inR 0 500 l)
theorem spec_DoughOk_eq (w s l : Int) : spec_DoughOk.f w s l = some (doughOk w s l) := by
  unfold spec_DoughOk.f doughOk
  simp only [l01In_eq, Option.bind_some]
  cases inR 300 1200 w <;> cases inR 0 50 s <;> cases inR 0 500 l <;> simp
theorem impl_DoughOk_eq (w s l : Int) : impl_DoughOk.f w s l = some (doughOk w s l) := by
  unfold impl_DoughOk.f doughOk
  simp only [in_eq, Option.bind_some]
  cases inR 300 1200 w <;> cases inR 0 50 s <;> cases inR 0 500 l <;> simp
def partOf (f p : Int) : Int := if inR 0 1000000 f = true ∧ inR 0 2000 p = true then Int.tdiv (f * p + 500) 1000 else -1
theorem part_wrap {f p : Int} (h : inR 0 1000000 f = true) (h2 : inR 0 2000 p = true) : wrap64 (Int.tdiv (wrap64 ((wrap64 (f * p)) + 500)) 1000) = Int.tdiv (f * p + 500) 1000 := by
  have a := inR_iff.1 h
  have b := inR_iff.1 h2
  have h0 : 0 ≤ f * p := Int.mul_nonneg a.1 b.1
  have h1 : f * p ≤ 1000000 * 2000 := Int.mul_le_mul a.2 b.2 b.1 (by omega)
  rw [w64 (x := f * p) (by omega) (by omega), w64 (x := f * p + 500) (by omega) (by omega), Int.tdiv_eq_ediv_of_nonneg (by omega), w64 (by omega) (by omega)]
theorem spec_PartOf_eq (f p : Int) : spec_PartOf.f f p = some (partOf f p) := by
  unfold spec_PartOf.f partOf
  simp only [l01In_eq, Option.bind_some]
  cases h : inR 0 1000000 f <;> cases h2 : inR 0 2000 p
  case true.true => rw [part_wrap h h2]; simp
  all_goals simp
theorem impl_PartOf_eq (f p : Int) : impl_PartOf.f f p = some (partOf f p) := by
  unfold impl_PartOf.f partOf
  simp only [in_eq, Option.bind_some]
  cases h : inR 0 1000000 f <;> cases h2 : inR 0 2000 p
  case true.true => rw [part_wrap h h2]; simp
  all_goals simp
def amounts (w s l f : Int) : List Int := if doughOk w s l = true ∧ inR 0 1000000 f = true then [f, partOf f w, partOf f s, partOf f l] else []
theorem amounts_length (w s l f : Int) : (amounts w s l f).length ≤ 4 := by unfold amounts; split <;> simp
theorem spec_Amounts_ev (w s l f : Int) : Ev (fun k => spec_Amounts.f k w s l f) (amounts w s l f) := by
  unfold spec_Amounts.f amounts
  simp only [spec_DoughOk_eq, l01In_eq, Option.bind_some]
  cases h : doughOk w s l <;> cases h2 : inR 0 1000000 f
  case true.true =>
    refine Ev.step (f := fun _ => _) (fun k => ?_) (ev_some _)
    simp only [spec_Amounts.j0, spec_PartOf_eq, Option.bind_some]
    simp
  all_goals
    simp only [if_true, Bool.false_eq_true, if_false, Bool.not_false, false_and, and_false]
    refine Ev.step (f := fun _ => some []) (fun k => ?_) (Ev.now _)
    simp [spec_Amounts.j0]
theorem impl_Amounts_ev (w s l f : Int) : Ev (fun k => impl_Amounts.f k w s l f) (amounts w s l f) := by
  unfold impl_Amounts.f amounts
  simp only [impl_DoughOk_eq, in_eq, Option.bind_some]
  cases h : doughOk w s l <;> cases h2 : inR 0 1000000 f
  case true.true =>
    refine Ev.step (f := fun _ => _) (fun k => ?_) (ev_some _)
    simp only [impl_Amounts.j0, impl_PartOf_eq, Option.bind_some]
    simp
  all_goals
    simp only [if_true, Bool.false_eq_true, if_false, Bool.not_false, false_and, and_false]
    refine Ev.step (f := fun _ => some []) (fun k => ?_) (Ev.now _)
    simp [impl_Amounts.j0]
def storeOk (l : List Int) : Bool := (l.length == 4) && l.all (inR 0 1000000)
theorem impl_StoreOk_eq (l : List Int) : impl_StoreOk.f l = some (storeOk l) := by
  unfold impl_StoreOk.f storeOk
  rw [allIn_eq, Option.bind_some]
  by_cases h : l.length = 4
  · rw [if_pos (by omega)]; simp [h]
  · rw [if_neg (by omega)]; simp [h]
theorem spec_StoreOk_ev (l : List Int) (hl : l.length ≤ 1048576) : Ev (fun k => spec_StoreOk.f k l) (storeOk l) := by
  unfold spec_StoreOk.f
  have key : ∀ j, j ≤ l.length → Ev (fun k => spec_StoreOk.l0 k (j : Int) l) ((l.length == 4) && (l.drop j).all (inR 0 1000000)) := by
    refine down l.length ?_ ?_
    · refine Ev.step (f := fun _ => _) (fun k => ?_) (ev_some _)
      simp only [spec_StoreOk.l0]
      rw [if_neg (by omega)]
      simp only [List.drop_length, List.all_nil, Bool.and_true]
      have e : ((l.length : Int) == 4) = (l.length == 4) := by rw [Bool.eq_iff_iff, beq_iff_eq, beq_iff_eq]; omega
      rw [e]
    · intro j hj ih
      rw [all_drop_cons _ l j hj]
      cases hq : inR 0 1000000 l[j] with
      | true =>
        rw [Bool.true_and]
        refine Ev.step (fun k => ?_) ih
        simp only [spec_StoreOk.l0]
        rw [if_pos (by omega), if_pos (by omega), rd_nat l j hj, l01In_eq, hq, Option.bind_some, if_pos rfl, wsucc j (by omega)]
      | false =>
        rw [Bool.false_and, Bool.and_false]
        refine Ev.step (f := fun _ => some false) (fun k => ?_) (Ev.now _)
        simp only [spec_StoreOk.l0]
        rw [if_pos (by omega), if_pos (by omega), rd_nat l j hj, l01In_eq, hq, Option.bind_some, if_neg (by decide)]
  have := key 0 (Nat.zero_le _)
  simpa [storeOk] using this
theorem storeOk_parts {l : List Int} (h : storeOk l = true) : l.length = 4 ∧ ∀ (j : Nat) (hj : j < l.length), 0 ≤ l[j] ∧ l[j] ≤ 1000000 := by
  unfold storeOk at h
  simp only [Bool.and_eq_true, beq_iff_eq, List.all_eq_true] at h
  exact ⟨h.1, fun j hj => inR_iff.1 (h.2 _ (List.getElem_mem hj))⟩
def missFrom : List Int → List Int → Nat → Int
  | [], _, _ => -1
  | x :: r, g, j => if x > g.getD j 0 then (j : Int) else missFrom r g (j + 1)
def missOf (a g : List Int) : Int := missFrom a g 0
theorem impl_missing_ev (g a : List Int) (h : a.length ≤ g.length) (hl : a.length ≤ 1048576) : Ev (fun k => impl_missing.f k g a) (missOf a g) := by
  unfold impl_missing.f missOf
  have key : ∀ j, j ≤ a.length → Ev (fun k => impl_missing.l0 k a (a.length : Int) (j : Int) g) (missFrom (a.drop j) g j) := by
    refine down a.length ?_ ?_
    · refine Ev.step (f := fun _ => _) (fun k => ?_) (ev_some _)
      simp only [impl_missing.l0]
      rw [if_neg (by omega)]
      simp [missFrom]
    · intro j hj ih
      rw [List.drop_eq_getElem_cons hj]
      simp only [missFrom]
      have hg : rd g (j : Int) = g.getD j 0 := by unfold rd; rw [Int.toNat_natCast]
      by_cases hc : a[j] > g.getD j 0
      · rw [if_pos hc]
        refine Ev.step (f := fun _ => some (j : Int)) (fun k => ?_) (Ev.now _)
        simp only [impl_missing.l0]
        rw [if_pos (by omega), if_pos (by omega), if_pos (by omega), if_pos (by omega), rd_nat a j hj, hg, if_pos hc]
      · rw [if_neg hc]
        refine Ev.step (fun k => ?_) ih
        simp only [impl_missing.l0]
        rw [if_pos (by omega), if_pos (by omega), if_pos (by omega), if_pos (by omega), rd_nat a j hj, hg, if_neg hc, wsucc j (by omega)]
  exact key 0 (Nat.zero_le _)
def firstMiss (g : List Int) (w s l f : Int) : Int := if storeOk g = true then missOf (amounts w s l f) g else -1
theorem spec_FirstMissing_ev (g : List Int) (w s l f : Int) (hl : g.length ≤ 1048576) : Ev (fun k => spec_FirstMissing.f k g w s l f) (firstMiss g w s l f) := by
  unfold spec_FirstMissing.f firstMiss
  refine Ev.bind (spec_Amounts_ev w s l f) ?_
  have ha := amounts_length w s l f
  generalize amounts w s l f = a at ha
  by_cases hs : storeOk g = true
  · rw [if_pos hs]
    have h4 := (storeOk_parts hs).1
    unfold missOf
    have key : ∀ j, j ≤ a.length → Ev (fun k => spec_FirstMissing.l0 k a (j : Int) g) (missFrom (a.drop j) g j) := by
      refine down a.length ?_ ?_
      · refine Ev.step (f := fun k => spec_FirstMissing.j1 k a (a.length : Int) false g) (fun k => ?_) (Ev.step (f := fun _ => some (-1)) (fun k => ?_) (ev_eq (Ev.now _) (by simp [missFrom])))
        · simp only [spec_FirstMissing.l0]
          rw [if_neg (by omega)]
        · simp only [spec_FirstMissing.j1]
          simp
      · intro j hj ih
        rw [List.drop_eq_getElem_cons hj]
        simp only [missFrom]
        have hg : rd g (j : Int) = g.getD j 0 := by unfold rd; rw [Int.toNat_natCast]
        refine Ev.step (f := fun k => (spec_StoreOk.f k g).bind fun t => spec_FirstMissing.j1 k a (j : Int) t g) (fun k => ?_) ?_
        · simp only [spec_FirstMissing.l0]
          rw [if_pos (by omega)]
        refine Ev.bind (spec_StoreOk_ev g hl) ?_
        rw [hs]
        by_cases hc : a[j] > g.getD j 0
        · rw [if_pos hc]
          refine Ev.step (f := fun _ => some (j : Int)) (fun k => ?_) (Ev.now _)
          simp only [spec_FirstMissing.j1]
          rw [if_pos trivial, if_pos (by omega), if_pos (by omega), if_pos (by omega), rd_nat a j hj, hg, if_pos hc]
        · rw [if_neg hc]
          refine Ev.step (fun k => ?_) ih
          simp only [spec_FirstMissing.j1]
          rw [if_pos trivial, if_pos (by omega), if_pos (by omega), if_pos (by omega), rd_nat a j hj, hg, if_neg hc, wsucc j (by omega)]
    exact key 0 (Nat.zero_le _)
  · rw [if_neg hs]
    have hs' : storeOk g = false := by simpa using hs
    by_cases h0 : 0 < a.length
    · refine Ev.step (f := fun k => (spec_StoreOk.f k g).bind fun t => spec_FirstMissing.j1 k a 0 t g) (fun k => ?_) ?_
      · simp only [spec_FirstMissing.l0]
        rw [if_pos (by omega)]
      refine Ev.bind (spec_StoreOk_ev g hl) ?_
      rw [hs']
      refine Ev.step (f := fun _ => some (-1)) (fun k => ?_) (Ev.now _)
      simp [spec_FirstMissing.j1]
    · refine Ev.step (f := fun k => spec_FirstMissing.j1 k a 0 false g) (fun k => ?_) (Ev.step (f := fun _ => some (-1)) (fun k => ?_) (Ev.now _))
      · simp only [spec_FirstMissing.l0]
        rw [if_neg (by omega)]
      · simp [spec_FirstMissing.j1]
theorem impl_FirstMissing_ev (g : List Int) (w s l f : Int) (hl : g.length ≤ 1048576) : Ev (fun k => impl_FirstMissing.f k g w s l f) (firstMiss g w s l f) := by
  unfold impl_FirstMissing.f firstMiss
  refine Ev.bind (impl_Amounts_ev w s l f) ?_
  have ha := amounts_length w s l f
  generalize amounts w s l f = a at ha
  simp only [impl_StoreOk_eq, Option.bind_some]
  by_cases hs : storeOk g = true
  · have h4 := (storeOk_parts hs).1
    simp only [if_pos hs]
    cases a with
    | nil => simp only [nilB, List.isEmpty_nil, if_true]; exact ev_eq (Ev.now _) rfl
    | cons x r =>
      simp only [nilB, List.isEmpty_cons, Bool.false_eq_true, if_false]
      refine Ev.bind (impl_missing_ev g (x :: r) (by omega) (by omega)) ?_
      exact Ev.now _
  · simp only [if_neg hs]; exact Ev.now _
theorem impl_stockCopy_eq (l : List Int) (h : l.length ≤ 2097152) : impl_stockCopy.f l = some l := by
  unfold impl_stockCopy.f
  rw [Option.bind_some, if_pos (by simp; omega)]; rfl
theorem spec_l36Copy_eq (l : List Int) (h : l.length ≤ 2097152) : spec_l36Copy.f l = some l := by
  unfold spec_l36Copy.f
  rw [Option.bind_some, if_pos (by simp; omega)]; rfl
def takeSt (l : List Int) (w s v f : Int) : List Int × Bool := if storeOk l = true ∧ amounts w s v f ≠ [] ∧ missOf (amounts w s v f) l < 0 then (subZ l (amounts w s v f), true) else (l, false)
theorem amounts_four {w s v f : Int} (h : amounts w s v f ≠ []) : (amounts w s v f).length = 4 := by
  unfold amounts at h ⊢
  split
  · rfl
  · rename_i q; rw [if_neg q] at h; exact absurd rfl h
theorem takeSt_length (l : List Int) (w s v f : Int) : (takeSt l w s v f).1.length = l.length := by
  unfold takeSt
  split
  · rename_i q
    have h1 := (storeOk_parts q.1).1
    have h2 := amounts_four q.2.1
    unfold subZ
    rw [zip_len _ _ _ (by omega)]
  · rfl
theorem spec_take_loop (l a : List Int) (hl : l.length = 4) (ha : a.length = 4) : Ev (fun k => spec_TakeFor.l0 k a 0 l l) (subZ l a, true) := by
  have hz : (subZ l a).length = 4 := by unfold subZ; rw [zip_len _ _ _ (by omega)]; exact hl
  have key : ∀ j : Nat, j ≤ 4 → Ev (fun k => spec_TakeFor.l0 k a (j : Int) l ((subZ l a).take j ++ l.drop j)) (subZ l a, true) := by
    refine down 4 ?_ ?_
    · rw [td_end _ _ 4 hz hl]
      refine Ev.step (f := fun _ => some (subZ l a, true)) (fun k => ?_) (Ev.now _)
      simp only [spec_TakeFor.l0]
      rw [if_neg (by omega)]
    · intro j hj ih
      refine Ev.step (fun k => ?_) ih
      simp only [spec_TakeFor.l0]
      rw [td_length _ _ j (by omega) (by omega), if_pos (by omega), if_pos (by omega), if_pos (by omega), if_pos (by omega), if_pos (by omega), Int.toNat_natCast, rd_nat l j (by omega), rd_nat a j (by omega), wsucc j (by omega)]
      unfold subZ
      rw [zip_set _ l a j (by omega) (by omega) _ rfl]
  exact key 0 (Nat.zero_le _)
theorem impl_take_loop (l a : List Int) (hl : l.length = 4) (ha : a.length = 4) : Ev (fun k => impl_TakeFor.l0 k a (a.length : Int) 0 l) (subZ l a, true) := by
  have hz : (subZ l a).length = 4 := by unfold subZ; rw [zip_len _ _ _ (by omega)]; exact hl
  have key : ∀ j : Nat, j ≤ 4 → Ev (fun k => impl_TakeFor.l0 k a (a.length : Int) (j : Int) ((subZ l a).take j ++ l.drop j)) (subZ l a, true) := by
    refine down 4 ?_ ?_
    · rw [td_end _ _ 4 hz hl]
      refine Ev.step (f := fun _ => some (subZ l a, true)) (fun k => ?_) (Ev.now _)
      simp only [impl_TakeFor.l0]
      rw [if_neg (by omega)]
    · intro j hj ih
      refine Ev.step (fun k => ?_) ih
      simp only [impl_TakeFor.l0]
      rw [td_length _ _ j (by omega) (by omega), if_pos (by omega), if_pos (by omega), if_pos (by omega), if_pos (by omega), Int.toNat_natCast, rd_td _ l j (by omega) (by omega), rd_nat a j (by omega), wsucc j (by omega)]
      unfold subZ
      rw [zip_set _ l a j (by omega) (by omega) _ rfl]
  exact key 0 (Nat.zero_le _)
theorem spec_TakeFor_ev (l : List Int) (w s v f : Int) (hl : l.length ≤ 1048576) : Ev (fun k => spec_TakeFor.f k l w s v f) (takeSt l w s v f) := by
  unfold spec_TakeFor.f takeSt
  simp only [spec_l36Copy_eq l (Nat.le_trans hl (by decide)), Option.bind_some]
  refine Ev.bind (spec_Amounts_ev w s v f) ?_
  refine Ev.bind (spec_StoreOk_ev l hl) ?_
  have bad : ∀ a, Ev (fun k => spec_TakeFor.j0 k a true l l) (l, false) := by
    intro a
    refine Ev.step (f := fun _ => some (l, false)) (fun k => ?_) (Ev.now _)
    simp only [spec_TakeFor.j0, if_true]
  by_cases h1 : storeOk l = true
  · simp only [if_pos h1]
    by_cases h2 : amounts w s v f = []
    · rw [if_neg (fun q => q.2.1 h2)]
      simp only [h2, List.length_nil, Int.natCast_zero, if_true]
      exact bad []
    · have h4 := amounts_four h2
      simp only [if_neg (show ¬ ((amounts w s v f).length : Int) = 0 by omega)]
      refine Ev.bind (spec_FirstMissing_ev l w s v f hl) ?_
      unfold firstMiss
      rw [if_pos h1]
      by_cases h3 : missOf (amounts w s v f) l < 0
      · rw [if_pos ⟨h1, h2, h3⟩, decide_eq_false (show ¬ missOf (amounts w s v f) l ≥ 0 by omega)]
        refine Ev.step (f := fun k => spec_TakeFor.l0 k (amounts w s v f) 0 l l) (fun k => ?_) (spec_take_loop l _ (storeOk_parts h1).1 h4)
        simp only [spec_TakeFor.j0, Bool.false_eq_true, if_false]
      · rw [if_neg (fun q => h3 q.2.2), decide_eq_true (show missOf (amounts w s v f) l ≥ 0 by omega)]
        exact bad _
  · simp only [if_neg h1]
    rw [if_neg (fun q => h1 q.1)]
    exact bad _
theorem impl_TakeFor_ev (l : List Int) (w s v f : Int) (hl : l.length ≤ 1048576) : Ev (fun k => impl_TakeFor.f k l w s v f) (takeSt l w s v f) := by
  unfold impl_TakeFor.f takeSt
  refine Ev.bind (impl_Amounts_ev w s v f) ?_
  simp only [impl_stockCopy_eq l (Nat.le_trans hl (by decide)), impl_StoreOk_eq, Option.bind_some]
  have bad : ∀ a, Ev (fun k => impl_TakeFor.j0 k a true l) (l, false) := by
    intro a
    refine Ev.step (f := fun _ => some (l, false)) (fun k => ?_) (Ev.now _)
    simp only [impl_TakeFor.j0, if_true]
  by_cases h1 : storeOk l = true
  · simp only [if_pos h1]
    by_cases h2 : amounts w s v f = []
    · rw [if_neg (fun q => q.2.1 h2)]
      simp only [h2, nilB, List.isEmpty_nil, if_true]
      exact bad []
    · have h4 := amounts_four h2
      have hn : ¬ nilB (amounts w s v f) = true := by
        unfold nilB
        rw [List.isEmpty_iff]; exact h2
      simp only [if_neg hn]
      have hl4 := (storeOk_parts h1).1
      refine Ev.bind (impl_missing_ev l (amounts w s v f) (by omega) (by omega)) ?_
      by_cases h3 : missOf (amounts w s v f) l < 0
      · rw [if_pos ⟨h1, h2, h3⟩, decide_eq_false (show ¬ missOf (amounts w s v f) l ≥ 0 by omega)]
        refine Ev.step (f := fun k => impl_TakeFor.l0 k (amounts w s v f) ((amounts w s v f).length : Int) 0 l) (fun k => ?_) (impl_take_loop l _ hl4 h4)
        simp only [impl_TakeFor.j0, Bool.false_eq_true, if_false]
      · rw [if_neg (fun q => h3 q.2.2), decide_eq_true (show missOf (amounts w s v f) l ≥ 0 by omega)]
        exact bad _
  · simp only [if_neg h1]
    rw [if_neg (fun q => h1 q.1)]
    exact bad _
theorem szIntS_eq (l : List Int) (a : Int) (h0 : -1 ≤ a) (h1 : a ≤ 1048576) (hl : l.length ≤ 9223372036854775807) : laws_szIntS.f l a = some (if a < l.length then -1 else a - l.length) := by
  unfold laws_szIntS.f
  rw [w64 (by omega) (by omega)]
  by_cases h : a < l.length
  · rw [if_pos (by omega), if_pos h]
  · rw [if_neg (by omega), if_neg h]
theorem toIntS_ev (l : List Int) (hl : l.length ≤ 1048576) : Ev (fun k => laws_toIntS.f k l) l := by
  unfold laws_toIntS.f
  simp only [if_pos (show (0 : Int) ≤ (l.length : Int) by omega), if_pos (show ((l.length : Int)).toNat ≤ 35184372088832 by omega)]
  have key : ∀ j, j ≤ l.length → Ev (fun k => laws_toIntS.l0 k l (l.take j ++ (List.replicate l.length 0).drop j) (j : Int)) l := by
    refine down l.length ?_ ?_
    · refine Ev.step (f := fun _ => some l) (fun k => ?_) (Ev.now _)
      simp only [laws_toIntS.l0]
      rw [if_neg (by omega)]; simp
    · intro j hj ih
      refine Ev.step (fun k => ?_) ih
      simp only [laws_toIntS.l0]
      rw [if_pos (by omega), if_pos (by omega), if_pos (by simp; omega), wsucc j (by omega), rd_nat l j hj, Int.toNat_natCast, set_take_drop l j hj _ (by simp)]
  have := key 0 (Nat.zero_le _)
  simpa using this
theorem eqIntS_refl (l : List Int) (hl : l.length ≤ 9223372036854775807) : Ev (fun k => laws_eqIntS.f k l l) true := by
  unfold laws_eqIntS.f
  simp only [if_true]
  have key : ∀ j, j ≤ l.length → Ev (fun k => laws_eqIntS.l0 k l l (j : Int)) true := by
    refine down l.length ?_ ?_
    · refine Ev.step (f := fun _ => some true) (fun k => ?_) (Ev.now _)
      simp only [laws_eqIntS.l0]
      rw [if_neg (by omega)]
    · intro j hj ih
      refine Ev.step (fun k => ?_) ih
      simp only [laws_eqIntS.l0]
      rw [if_pos (by omega), if_pos (by omega), if_pos (by omega), if_true, wsucc j (by omega)]
  exact key 0 (Nat.zero_le _)
theorem szStock_eq (l : List Int) (a : Int) (h0 : -1 ≤ a) (h1 : a ≤ 1048576) (hl : l.length ≤ 9223372036854775807) : laws_szStock.f l a = some (if a < l.length then -1 else a - l.length) := by
  unfold laws_szStock.f
  rw [szIntS_eq l a h0 h1 hl, Option.bind_some]
  by_cases h : a < l.length
  · rw [if_pos h]; simp
  · rw [if_neg h, if_neg (by omega)]
theorem toStock_ev (l : List Int) (hl : l.length ≤ 1048576) : Ev (fun k => laws_toStock.f k l) l := by
  unfold laws_toStock.f
  exact Ev.bind (toIntS_ev l hl) (Ev.now _)
theorem eqStock_refl (l : List Int) (hl : l.length ≤ 9223372036854775807) : Ev (fun k => laws_eqStock.f k l l) true := by
  unfold laws_eqStock.f
  refine Ev.bind (eqIntS_refl l hl) ?_
  simp only [if_true]
  exact Ev.now _
def marks (n : Nat) (m : Int) : List Int := (List.range n).map fun (i : Nat) => m + (i : Int)
theorem marks_length (n : Nat) (m : Int) : (marks n m).length = n := by simp [marks]
theorem marks_get (n : Nat) (m : Int) (j : Nat) (h : j < n) : (marks n m)[j]'(by rw [marks_length]; exact h) = m + (j : Int) := by simp [marks]
theorem markIntS_ev (l : List Int) (m : Int) (hm0 : 0 ≤ m) (hm1 : m ≤ 1099511627776) (hl : l.length ≤ 1073741824) : Ev (fun k => laws_markIntS.f k l m) (m + l.length, marks l.length m) := by
  unfold laws_markIntS.f
  have key : ∀ j, j ≤ l.length → Ev (fun k => laws_markIntS.l0 k ((marks l.length m).take j ++ l.drop j) (m + (j : Int)) (j : Int)) (m + (l.length : Int), marks l.length m) := by
    refine down l.length ?_ ?_
    · refine Ev.step (f := fun _ => some (m + (l.length : Int), marks l.length m)) (fun k => ?_) (Ev.now _)
      simp only [laws_markIntS.l0]
      rw [if_neg (by simp [marks_length])]
      simp [List.take_of_length_le (Nat.le_of_eq (marks_length l.length m))]
    · intro j hj ih
      refine Ev.step (fun k => ?_) ih
      simp only [laws_markIntS.l0]
      have e1 : ((marks l.length m).take j ++ l.drop j).length = l.length := by simp [marks_length]; omega
      rw [e1, if_pos (by omega), if_pos (by omega), wsucc j (by omega), w64 (by omega) (by omega), Int.toNat_natCast]
      have e2 : ((marks l.length m).take j ++ l.drop j).set j (m + (j : Int)) = (marks l.length m).take (j + 1) ++ l.drop (j + 1) := by
        have := set_take_drop (marks l.length m) j (by rw [marks_length]; exact hj) l (marks_length _ _).symm
        rw [marks_get _ _ _ hj] at this
        exact this
      rw [e2]
      congr 1
      omega
  have := key 0 (Nat.zero_le _)
  simpa using this
theorem heldIntS_ev (n : Nat) (m : Int) (hm0 : 0 ≤ m) (hm1 : m ≤ 1099511627776) (hl : n ≤ 1073741824) : Ev (fun k => laws_heldIntS.f k (marks n m) m) (m + n) := by
  unfold laws_heldIntS.f
  have key : ∀ j, j ≤ n → Ev (fun k => laws_heldIntS.l0 k (marks n m) (m + (j : Int)) (j : Int)) (m + (n : Int)) := by
    refine down n ?_ ?_
    · refine Ev.step (f := fun _ => some (m + (n : Int))) (fun k => ?_) (Ev.now _)
      simp only [laws_heldIntS.l0]
      rw [if_neg (by rw [marks_length]; omega)]
    · intro j hj ih
      refine Ev.step (fun k => ?_) ih
      simp only [laws_heldIntS.l0]
      rw [marks_length, if_pos (by omega), if_pos (by omega), rd_nat _ j (by rw [marks_length]; exact hj), marks_get _ _ _ hj, if_pos rfl, wsucc j (by omega), w64 (by omega) (by omega)]
      congr 1
      omega
  have := key 0 (Nat.zero_le _)
  simpa using this
theorem markStock_ev (l : List Int) (m : Int) (hm0 : 0 ≤ m) (hm1 : m ≤ 1099511627776) (hl : l.length ≤ 1073741824) : Ev (fun k => laws_markStock.f k l m) (m + l.length, marks l.length m) := by
  unfold laws_markStock.f
  exact Ev.bind (markIntS_ev l m hm0 hm1 hl) (Ev.now _)
theorem heldStock_ev (n : Nat) (m : Int) (hm0 : 0 ≤ m) (hm1 : m ≤ 1099511627776) (hl : n ≤ 1073741824) : Ev (fun k => laws_heldStock.f k (marks n m) m) (m + n) := by
  unfold laws_heldStock.f
  refine Ev.bind (heldIntS_ev n m hm0 hm1 hl) ?_
  simp only [if_neg (show ¬ (m + (n : Int) < 0) by omega)]
  exact Ev.now _
theorem FnExactTakeFor : laws_FnExactTakeFor.Pure := by
  intro l w s v f h _ _
  have hm : l.length ≤ 9223372036854775807 := h.1
  refine Ev.rounds (g := fun n => laws_FnExactTakeFor.f n l w s v f) ?_
  unfold laws_FnExactTakeFor.f laws_toDough.f
  simp only [szStock_eq l 1048576 (by omega) (by omega) hm, Option.bind_some]
  by_cases hs : (1048576 : Int) < l.length
  · simp only [if_pos hs]; simpa using Ev.now true
  · simp only [if_neg hs, if_neg (show ¬ ((1048576 : Int) - l.length < 0) by omega)]
    have hl : l.length ≤ 1048576 := by omega
    have hf := takeSt_length l w s v f
    have e1 := eqStock_refl (takeSt l w s v f).1 (by omega)
    have e2 := markStock_ev (takeSt l w s v f).1 1 (by omega) (by omega) (by omega)
    have e3 := heldStock_ev (takeSt l w s v f).1.length 1 (by omega) (by omega) (by omega)
    have e4 := eqStock_refl l (by omega)
    have e5 := markStock_ev l 1 (by omega) (by omega) (by omega)
    have e6 := spec_TakeFor_ev l w s v f hl
    have e7 := impl_TakeFor_ev l w s v f hl
    have e8 := toStock_ev l hl
    generalize takeSt l w s v f = q at hf e1 e2 e3 e6 e7
    refine Ev.bind e8 ?_
    refine Ev.bind e6 ?_
    refine Ev.bind e8 ?_
    refine Ev.bind e7 ?_
    refine Ev.bind e1 ?_
    simp only [if_true, bne_self_eq_false]
    refine Ev.step (fun n => by rw [laws_FnExactTakeFor.j0]) ?_
    simp only [Bool.false_eq_true, if_false]
    refine Ev.bind e8 ?_
    refine Ev.bind e4 ?_
    simp only [if_true]
    refine Ev.bind e5 ?_
    simp only [if_neg (show ¬ ((1 : Int) + (l.length : Int) < 0) by omega)]
    refine Ev.bind e1 ?_
    simp only [if_true, bne_self_eq_false]
    refine Ev.step (fun n => by rw [laws_FnExactTakeFor.j1]) ?_
    simp only [Bool.false_eq_true, if_false]
    refine Ev.bind e2 ?_
    refine Ev.bind e3 ?_
    simp only [if_neg (show ¬ ((1 : Int) + (q.1.length : Int) < 0) by omega), if_true]
    refine Ev.bind e8 ?_
    simp only [laws_toDough.f, Option.bind_some]
    refine Ev.bind e7 ?_
    refine Ev.bind e1 ?_
    simp only [if_true, bne_self_eq_false]
    refine Ev.step (fun n => by rw [laws_FnExactTakeFor.j2]) ?_
    simp only [Bool.false_eq_true, if_false]
    refine Ev.bind e3 ?_
    simp only [if_neg (show ¬ ((1 : Int) + (q.1.length : Int) < 0) by omega), if_true]
    exact Ev.now _
end Go.Proofs.Ytnlioefgpgamdaa.Pure
