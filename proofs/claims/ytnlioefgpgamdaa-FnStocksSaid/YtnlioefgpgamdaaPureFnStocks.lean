/- What FnStocks computes answers as the law says: over numbers and lists alone; there are no conditions but those of the statement. -/
import Derived.Test.YtnlioefgpgamdaaQ0
import Derived.Test.YtnlioefgpgamdaaQ2
import Derived.Test.YtnlioefgpgamdaaQ6
import Derived.Test.YtnlioefgpgamdaaQ8
import Derived.Test.YtnlioefgpgamdaaQ9
import Derived.Test.YtnlioefgpgamdaaQ17
import Derived.Test.YtnlioefgpgamdaaQ18
import Derived.Test.YtnlioefgpgamdaaQ19
import Derived.Test.YtnlioefgpgamdaaQ20
import Derived.Test.YtnlioefgpgamdaaQ24
import Derived.Test.YtnlioefgpgamdaaQ25
import Derived.Test.YtnlioefgpgamdaaQ30
import Derived.Test.YtnlioefgpgamdaaQ31
import Derived.Test.YtnlioefgpgamdaaQ32
import Derived.Test.YtnlioefgpgamdaaQ33
namespace Go.Proofs.Ytnlioefgpgamdaa.Pure
open Go.RowKit Go.Proofs.Ytnlioefgpgamdaa.Q Go.Proofs.YtnlioefgpgamdaaW.PrintWords Go.Proofs.YtnlioefgpgamdaaW.PrintLast Go.Proofs.YtnlioefgpgamdaaW.PrintMore
set_option linter.unusedVariables false
set_option linter.unusedSimpArgs false
theorem w64 {x : Int} (h0 : -9223372036854775808 ≤ x) (h1 : x ≤ 9223372036854775807) : wrap64 x = x := by
  unfold wrap64
  omega
theorem down {Q : Nat → Prop} (n : Nat) (fin : Q n) (step : ∀ j, j < n → Q (j + 1) → Q j) : ∀ j, j ≤ n → Q j := by
  intro j hj
  obtain ⟨d, hd⟩ : ∃ d, j + d = n := ⟨n - j, by omega⟩
  clear hj
  induction d generalizing j with
  | zero => have : j = n := by omega
            rw [this]; exact fin
  | succ d ih => exact step j (by omega) (ih (j + 1) (by omega))
theorem wsucc (j : Nat) (h : j < 9223372036854775807) : wrap64 ((j : Int) + 1) = ((j + 1 : Nat) : Int) := by
  rw [w64 (by omega) (by omega)]; omega
theorem rd_nat (l : List Int) (j : Nat) (h : j < l.length) : rd l (j : Int) = l[j] := by
  unfold rd; rw [Int.toNat_natCast, List.getD_eq_getElem?_getD, List.getElem?_eq_getElem h]; rfl
theorem rd_lit (l : List Int) (i : Int) : rd l i = l.getD i.toNat 0 := rfl
theorem all_drop_cons {α : Type} (p : α → Bool) (l : List α) (j : Nat) (h : j < l.length) : (l.drop j).all p = (p l[j] && (l.drop (j + 1)).all p) := by
  rw [List.drop_eq_getElem_cons h, List.all_cons]
theorem all_drop_len {α : Type} (p : α → Bool) (l : List α) : (l.drop l.length).all p = true := by simp
theorem ev_some {α : Type} (r : α) : Ev (fun _ => some r) r := Ev.now r
theorem ev_pt {α : Type} {g : Option α} {r : α} (h : g = some r) : Ev (fun _ => g) r := ⟨0, fun _ _ => h⟩
theorem ev_eq {α : Type} {g : Nat → Option α} {r r' : α} (h : Ev g r) (e : r = r') : Ev g r' := e ▸ h
def inR (lo hi n : Int) : Bool := decide (lo ≤ n ∧ n ≤ hi)
theorem l01In_eq (a b c : Int) : spec_l01In.f a b c = some (inR b c a) := by
  unfold spec_l01In.f inR
  by_cases h : b ≤ a
  · rw [if_pos h]; simp [h]
  · rw [if_neg h]; simp [h]
theorem allIn_eq (l : List Int) (a b : Int) : impl_allIn.f l a b = some (l.all (inR a b)) := rfl
theorem inR_iff {lo hi n : Int} : inR lo hi n = true ↔ lo ≤ n ∧ n ≤ hi := by unfold inR; simp
theorem in_eq (a b c : Int) : impl_in.f a b c = some (inR b c a) := by
  unfold impl_in.f inR
  by_cases h : b ≤ a
  · rw [if_pos h]; simp [h]
  · rw [if_neg h]; simp [h]
def doughOk (w s l : Int) : Bool := inR 300 1200 w && (inR 0 50 s && inR 0 500 l)
theorem spec_DoughOk_eq (w s l : Int) : spec_DoughOk.f w s l = some (doughOk w s l) := by
  unfold spec_DoughOk.f doughOk
  simp only [l01In_eq, Option.bind_some]
  cases inR 300 1200 w <;> cases inR 0 50 s <;> cases inR 0 500 l <;> simp
theorem impl_DoughOk_eq (w s l : Int) : impl_DoughOk.f w s l = some (doughOk w s l) := by
  unfold impl_DoughOk.f doughOk
  simp only [in_eq, Option.bind_some]
  cases inR 300 1200 w <;> cases inR 0 50 s <;> cases inR 0 500 l <;> simp
def partOf (f p : Int) : Int := if inR 0 1000000 f = true ∧ inR 0 2000 p = true then Int.tdiv (f * p + 500) 1000 else -1
theorem part_wrap {f p : Int} (h : inR 0 1000000 f = true) (h2 : inR 0 2000 p = true) : wrap64 (Int.tdiv (wrap64 ((wrap64 (f * p)) + 500)) 1000) = Int.tdiv (f * p + 500) 1000 := by
  have a := inR_iff.1 h
  have b := inR_iff.1 h2
  have h0 : 0 ≤ f * p := Int.mul_nonneg a.1 b.1
  have h1 : f * p ≤ 1000000 * 2000 := Int.mul_le_mul a.2 b.2 b.1 (by omega)
  rw [w64 (x := f * p) (by omega) (by omega), w64 (x := f * p + 500) (by omega) (by omega), Int.tdiv_eq_ediv_of_nonneg (by omega), w64 (by omega) (by omega)]
theorem spec_PartOf_eq (f p : Int) : spec_PartOf.f f p = some (partOf f p) := by
  unfold spec_PartOf.f partOf
  simp only [l01In_eq, Option.bind_some]
  cases h : inR 0 1000000 f <;> cases h2 : inR 0 2000 p
  case true.true => rw [part_wrap h h2]; simp
  all_goals simp
theorem impl_PartOf_eq (f p : Int) : impl_PartOf.f f p = some (partOf f p) := by
  unfold impl_PartOf.f partOf
  simp only [in_eq, Option.bind_some]
  cases h : inR 0 1000000 f <;> cases h2 : inR 0 2000 p
  case true.true => rw [part_wrap h h2]; simp
  all_goals simp
def amounts (w s l f : Int) : List Int := if doughOk w s l = true ∧ inR 0 1000000 f = true then [f, partOf f w, partOf f s, partOf f l] else []
theorem amounts_length (w s l f : Int) : (amounts w s l f).length ≤ 4 := by unfold amounts; split <;> simp
theorem spec_Amounts_ev (w s l f : Int) : Ev (fun k => spec_Amounts.f k w s l f) (amounts w s l f) := by
  unfold spec_Amounts.f amounts
  simp only [spec_DoughOk_eq, l01In_eq, Option.bind_some]
  cases h : doughOk w s l <;> cases h2 : inR 0 1000000 f
  case true.true =>
    refine Ev.step (f := fun _ => _) (fun k => ?_) (ev_some _)
    simp only [spec_Amounts.j0, spec_PartOf_eq, Option.bind_some]
    simp
  all_goals
    simp only [if_true, Bool.false_eq_true, if_false, Bool.not_false, false_and, and_false]
    refine Ev.step (f := fun _ => some []) (fun k => ?_) (Ev.now _)
    simp [spec_Amounts.j0]
theorem impl_Amounts_ev (w s l f : Int) : Ev (fun k => impl_Amounts.f k w s l f) (amounts w s l f) := by
  unfold impl_Amounts.f amounts
  simp only [impl_DoughOk_eq, in_eq, Option.bind_some]
  cases h : doughOk w s l <;> cases h2 : inR 0 1000000 f
  case true.true =>
    refine Ev.step (f := fun _ => _) (fun k => ?_) (ev_some _)
    simp only [impl_Amounts.j0, impl_PartOf_eq, Option.bind_some]
    simp
  all_goals
    simp only [if_true, Bool.false_eq_true, if_false, Bool.not_false, false_and, and_false]
    refine Ev.step (f := fun _ => some []) (fun k => ?_) (Ev.now _)
    simp [impl_Amounts.j0]
def storeOk (l : List Int) : Bool := (l.length == 4) && l.all (inR 0 1000000)
theorem impl_StoreOk_eq (l : List Int) : impl_StoreOk.f l = some (storeOk l) := by
  unfold impl_StoreOk.f storeOk
  rw [allIn_eq, Option.bind_some]
  by_cases h : l.length = 4
  · rw [if_pos (by omega)]; simp [h]
  · rw [if_neg (by omega)]; simp [h]
theorem spec_StoreOk_ev (l : List Int) (hl : l.length ≤ 1048576) : Ev (fun k => spec_StoreOk.f k l) (storeOk l) := by
  unfold spec_StoreOk.f
  have key : ∀ j, j ≤ l.length → Ev (fun k => spec_StoreOk.l0 k (j : Int) l) ((l.length == 4) && (l.drop j).all (inR 0 1000000)) := by
    refine down l.length ?_ ?_
    · refine Ev.step (f := fun _ => _) (fun k => ?_) (ev_some _)
      simp only [spec_StoreOk.l0]
      rw [if_neg (by omega)]
      simp only [List.drop_length, List.all_nil, Bool.and_true]
      have e : ((l.length : Int) == 4) = (l.length == 4) := by rw [Bool.eq_iff_iff, beq_iff_eq, beq_iff_eq]; omega
      rw [e]
    · intro j hj ih
      rw [all_drop_cons _ l j hj]
      cases hq : inR 0 1000000 l[j] with
      | true =>
        rw [Bool.true_and]
        refine Ev.step (fun k => ?_) ih
        simp only [spec_StoreOk.l0]
        rw [if_pos (by omega), if_pos (by omega), rd_nat l j hj, l01In_eq, hq, Option.bind_some, if_pos rfl, wsucc j (by omega)]
      | false =>
        rw [Bool.false_and, Bool.and_false]
        refine Ev.step (f := fun _ => some false) (fun k => ?_) (Ev.now _)
        simp only [spec_StoreOk.l0]
        rw [if_pos (by omega), if_pos (by omega), rd_nat l j hj, l01In_eq, hq, Option.bind_some, if_neg (by decide)]
  have := key 0 (Nat.zero_le _)
  simpa [storeOk] using this
theorem storeOk_parts {l : List Int} (h : storeOk l = true) : l.length = 4 ∧ ∀ (j : Nat) (hj : j < l.length), 0 ≤ l[j] ∧ l[j] ≤ 1000000 := by
  unfold storeOk at h
  simp only [Bool.and_eq_true, beq_iff_eq, List.all_eq_true] at h
  exact ⟨h.1, fun j hj => inR_iff.1 (h.2 _ (List.getElem_mem hj))⟩
def missFrom : List Int → List Int → Nat → Int
  | [], _, _ => -1
  | x :: r, g, j => if x > g.getD j 0 then (j : Int) else missFrom r g (j + 1)
def missOf (a g : List Int) : Int := missFrom a g 0
theorem impl_missing_ev (g a : List Int) (h : a.length ≤ g.length) (hl : a.length ≤ 1048576) : Ev (fun k => impl_missing.f k g a) (missOf a g) := by
  unfold impl_missing.f missOf
  have key : ∀ j, j ≤ a.length → Ev (fun k => impl_missing.l0 k a (a.length : Int) (j : Int) g) (missFrom (a.drop j) g j) := by
    refine down a.length ?_ ?_
    · refine Ev.step (f := fun _ => _) (fun k => ?_) (ev_some _)
      simp only [impl_missing.l0]
      rw [if_neg (by omega)]
      simp [missFrom]
    · intro j hj ih
      rw [List.drop_eq_getElem_cons hj]
      simp only [missFrom]
      have hg : rd g (j : Int) = g.getD j 0 := by unfold rd; rw [Int.toNat_natCast]
      by_cases hc : a[j] > g.getD j 0
      · rw [if_pos hc]
        refine Ev.step (f := fun _ => some (j : Int)) (fun k => ?_) (Ev.now _)
        simp only [impl_missing.l0]
        rw [if_pos (by omega), if_pos (by omega), if_pos (by omega), if_pos (by omega), rd_nat a j hj, hg, if_pos hc]
      · rw [if_neg hc]
        refine Ev.step (fun k => ?_) ih
        simp only [impl_missing.l0]
        rw [if_pos (by omega), if_pos (by omega), if_pos (by omega), if_pos (by omega), rd_nat a j hj, hg, if_neg hc, wsucc j (by omega)]
  exact key 0 (Nat.zero_le _)
def firstMiss (g : List Int) (w s l f : Int) : Int := if storeOk g = true then missOf (amounts w s l f) g else -1
theorem spec_FirstMissing_ev (g : List Int) (w s l f : Int) (hl : g.length ≤ 1048576) : Ev (fun k => spec_FirstMissing.f k g w s l f) (firstMiss g w s l f) := by
  unfold spec_FirstMissing.f firstMiss
  refine Ev.bind (spec_Amounts_ev w s l f) ?_
  have ha := amounts_length w s l f
  generalize amounts w s l f = a at ha
  by_cases hs : storeOk g = true
  · rw [if_pos hs]
    have h4 := (storeOk_parts hs).1
    unfold missOf
    have key : ∀ j, j ≤ a.length → Ev (fun k => spec_FirstMissing.l0 k a (j : Int) g) (missFrom (a.drop j) g j) := by
      refine down a.length ?_ ?_
      · refine Ev.step (f := fun k => spec_FirstMissing.j1 k a (a.length : Int) false g) (fun k => ?_) (Ev.step (f := fun _ => some (-1)) (fun k => ?_) (ev_eq (Ev.now _) (by simp [missFrom])))
        · simp only [spec_FirstMissing.l0]
          rw [if_neg (by omega)]
        · simp only [spec_FirstMissing.j1]
          simp
      · intro j hj ih
        rw [List.drop_eq_getElem_cons hj]
        simp only [missFrom]
        have hg : rd g (j : Int) = g.getD j 0 := by unfold rd; rw [Int.toNat_natCast]
        refine Ev.step (f := fun k => (spec_StoreOk.f k g).bind fun t => spec_FirstMissing.j1 k a (j : Int) t g) (fun k => ?_) ?_
        · simp only [spec_FirstMissing.l0]
          rw [if_pos (by omega)]
        refine Ev.bind (spec_StoreOk_ev g hl) ?_
        rw [hs]
        by_cases hc : a[j] > g.getD j 0
        · rw [if_pos hc]
          refine Ev.step (f := fun _ => some (j : Int)) (fun k => ?_) (Ev.now _)
          simp only [spec_FirstMissing.j1]
          rw [if_pos trivial, if_pos (by omega), if_pos (by omega), if_pos (by omega), rd_nat a j hj, hg, if_pos hc]
        · rw [if_neg hc]
          refine Ev.step (fun k => ?_) ih
          simp only [spec_FirstMissing.j1]
          rw [if_pos trivial, if_pos (by omega), if_pos (by omega), if_pos (by omega), rd_nat a j hj, hg, if_neg hc, wsucc j (by omega)]
    exact key 0 (Nat.zero_le _)
  · rw [if_neg hs]
    have hs' : storeOk g = false := by simpa using hs
    by_cases h0 : 0 < a.length
    · refine Ev.step (f := fun k => (spec_StoreOk.f k g).bind fun t => spec_FirstMissing.j1 k a 0 t g) (fun k => ?_) ?_
      · simp only [spec_FirstMissing.l0]
        rw [if_pos (by omega)]
      refine Ev.bind (spec_StoreOk_ev g hl) ?_
      rw [hs']
      refine Ev.step (f := fun _ => some (-1)) (fun k => ?_) (Ev.now _)
      simp [spec_FirstMissing.j1]
    · refine Ev.step (f := fun k => spec_FirstMissing.j1 k a 0 false g) (fun k => ?_) (Ev.step (f := fun _ => some (-1)) (fun k => ?_) (Ev.now _))
      · simp only [spec_FirstMissing.l0]
        rw [if_neg (by omega)]
      · simp [spec_FirstMissing.j1]
/-- The greatest number at which a property holds, sought by halving. -/
def halving (p : Int → Bool) : Nat → Int → Int → Int
  | 0, lo, _ => lo
  | n + 1, lo, hi => if lo < hi then (if p ((lo + hi + 1) / 2) = true then halving p n ((lo + hi + 1) / 2) hi else halving p n lo ((lo + hi + 1) / 2 - 1)) else lo
def fits (g : List Int) (w s l : Int) (f : Int) : Bool := decide (missOf (amounts w s l f) g < 0)
def mostFl (g : List Int) (w s l : Int) : Int := if storeOk g = true ∧ doughOk w s l = true then halving (fits g w s l) 1000000 0 1000000 else -1
theorem mid_wrap {lo hi : Int} (h0 : 0 ≤ lo) (h1 : lo ≤ 1000000) (h2 : 0 ≤ hi) (h3 : hi ≤ 1000000) : wrap64 (Int.tdiv (wrap64 ((wrap64 (lo + hi)) + 1)) 2) = (lo + hi + 1) / 2 := by
  rw [w64 (x := lo + hi) (by omega) (by omega), w64 (x := lo + hi + 1) (by omega) (by omega), Int.tdiv_eq_ediv_of_nonneg (by omega), w64 (by omega) (by omega)]
theorem impl_MostFlour_ev (g : List Int) (w s l : Int) (hl : g.length ≤ 1048576) : Ev (fun k => impl_MostFlour.f k g w s l) (mostFl g w s l) := by
  unfold impl_MostFlour.f mostFl
  simp only [impl_StoreOk_eq, impl_DoughOk_eq, Option.bind_some]
  cases hs : storeOk g <;> cases hd : doughOk w s l
  case true.true =>
    have h4g := (storeOk_parts hs).1
    simp only [if_true, true_and, Bool.not_true]
    refine Ev.step (f := fun k => impl_MostFlour.l0 k 0 1000000 g w s l) (fun k => by simp [impl_MostFlour.j0]) ?_
    have key : ∀ (n : Nat) (lo hi : Int), 0 ≤ lo → lo ≤ 1000000 → 0 ≤ hi → hi ≤ 1000000 → hi - lo ≤ (n : Int) → Ev (fun k => impl_MostFlour.l0 k lo hi g w s l) (halving (fits g w s l) n lo hi) := by
      intro n
      induction n with
      | zero =>
        intro lo hi h0 h1 h2 h3 h4
        refine Ev.step (f := fun _ => some lo) (fun k => ?_) (Ev.now _)
        simp only [impl_MostFlour.l0]
        rw [if_neg (by omega)]
      | succ n ih =>
        intro lo hi h0 h1 h2 h3 h4
        simp only [halving]
        by_cases hlt : lo < hi
        · simp only [if_pos hlt]
          have hm := mid_wrap h0 h1 h2 h3
          generalize hmid : (lo + hi + 1) / 2 = mid at hm ⊢
          refine Ev.step (f := fun k => (impl_Amounts.f k w s l mid).bind fun t414 => ((impl_missing.f k g t414).bind fun t417 => (if t417 < 0 then (impl_MostFlour.l0 k mid hi g w s l) else (impl_MostFlour.l0 k lo (wrap64 (mid - 1)) g w s l)))) (fun k => ?_) ?_
          · simp only [impl_MostFlour.l0]
            rw [if_pos hlt, hm]
          refine Ev.bind (impl_Amounts_ev w s l mid) ?_
          have ha := amounts_length w s l mid
          refine Ev.bind (impl_missing_ev g _ (by omega) (by omega)) ?_
          by_cases hf : missOf (amounts w s l mid) g < 0
          · simp only [if_pos hf]
            rw [if_pos (show fits g w s l mid = true by simp [fits, hf])]
            exact ih mid hi (by omega) (by omega) h2 h3 (by omega)
          · simp only [if_neg hf]
            rw [if_neg (show ¬ (fits g w s l mid = true) by simp [fits, hf]), w64 (by omega) (by omega)]
            exact ih lo (mid - 1) h0 h1 (by omega) (by omega) (by omega)
        · simp only [if_neg hlt]
          refine Ev.step (f := fun _ => some lo) (fun k => ?_) (Ev.now _)
          simp only [impl_MostFlour.l0]
          rw [if_neg hlt]
    exact key 1000000 0 1000000 (by omega) (by omega) (by omega) (by omega) (by omega)
  all_goals
    simp only [if_true, Bool.false_eq_true, if_false, Bool.not_false, false_and, and_false]
    refine Ev.step (f := fun _ => some (-1)) (fun k => ?_) (Ev.now _)
    simp [impl_MostFlour.j0]
theorem set_take_drop {α : Type} (l : List α) (j : Nat) (hj : j < l.length) (z : List α) (hz : z.length = l.length) : (l.take j ++ z.drop j).set j l[j] = l.take (j + 1) ++ z.drop (j + 1) := by
  have h1 : (l.take j).length = j := by rw [List.length_take]; omega
  rw [List.set_append_right _ _ (by omega), h1, Nat.sub_self, List.drop_eq_getElem_cons (by omega : j < z.length), List.set_cons_zero, List.take_succ_eq_append_getElem hj, List.append_assoc]
  rfl
def subZ (l a : List Int) : List Int := List.zipWith (fun x y => wrap64 (x - y)) l a
def addZ (l a : List Int) : List Int := List.zipWith (fun x y => wrap64 (x + y)) l a
theorem rd_td (z l : List Int) (j : Nat) (hj : j < l.length) (hz : z.length = l.length) : rd (z.take j ++ l.drop j) (j : Int) = l[j] := by
  unfold rd
  rw [Int.toNat_natCast, List.getD_eq_getElem?_getD, List.getElem?_append_right (by rw [List.length_take]; omega), List.length_take, show j - min j z.length = 0 by omega, List.getElem?_drop]
  rw [Nat.add_zero, List.getElem?_eq_getElem hj]; rfl
theorem td_length (z l : List Int) (j : Nat) (hj : j ≤ l.length) (hz : z.length = l.length) : (z.take j ++ l.drop j).length = l.length := by simp; omega
theorem zip_len (f : Int → Int → Int) (l a : List Int) (h : l.length = a.length) : (List.zipWith f l a).length = l.length := by simp; omega
theorem zip_get (f : Int → Int → Int) (l a : List Int) (j : Nat) (hj : j < l.length) (ha : j < a.length) : (List.zipWith f l a)[j]'(by simp; omega) = f l[j] a[j] := by simp
theorem zip_set (f : Int → Int → Int) (l a : List Int) (j : Nat) (h : l.length = a.length) (hj : j < l.length) (x : Int) (hx : x = f l[j] (a[j]'(by omega))) : ((List.zipWith f l a).take j ++ l.drop j).set j x = (List.zipWith f l a).take (j + 1) ++ l.drop (j + 1) := by
  have hz := zip_len f l a h
  have := set_take_drop (List.zipWith f l a) j (by omega) l hz.symm
  rw [zip_get f l a j hj (by omega)] at this
  rw [hx]; exact this
theorem td_end (z l : List Int) (n : Nat) (hz : z.length = n) (hl : l.length = n) : z.take n ++ l.drop n = z := by
  rw [List.drop_of_length_le (by omega), List.take_of_length_le (by omega), List.append_nil]
def takeSt (l : List Int) (w s v f : Int) : List Int × Bool := if storeOk l = true ∧ amounts w s v f ≠ [] ∧ missOf (amounts w s v f) l < 0 then (subZ l (amounts w s v f), true) else (l, false)
theorem amounts_four {w s v f : Int} (h : amounts w s v f ≠ []) : (amounts w s v f).length = 4 := by
  unfold amounts at h ⊢
  split
  · rfl
  · rename_i q; rw [if_neg q] at h; exact absurd rfl h
theorem takeSt_length (l : List Int) (w s v f : Int) : (takeSt l w s v f).1.length = l.length := by
  unfold takeSt
  split
  · rename_i q
    have h1 := (storeOk_parts q.1).1
    have h2 := amounts_four q.2.1
    unfold subZ
    rw [zip_len _ _ _ (by omega)]
  · rfl
theorem impl_stockCopy_eq (l : List Int) (h : l.length ≤ 2097152) : impl_stockCopy.f l = some l := by
  unfold impl_stockCopy.f
  rw [Option.bind_some, if_pos (by simp; omega)]; rfl
theorem impl_take_loop (l a : List Int) (hl : l.length = 4) (ha : a.length = 4) : Ev (fun k => impl_TakeFor.l0 k a (a.length : Int) 0 l) (subZ l a, true) := by
  have hz : (subZ l a).length = 4 := by unfold subZ; rw [zip_len _ _ _ (by omega)]; exact hl
  have key : ∀ j : Nat, j ≤ 4 → Ev (fun k => impl_TakeFor.l0 k a (a.length : Int) (j : Int) ((subZ l a).take j ++ l.drop j)) (subZ l a, true) := by
    refine down 4 ?_ ?_
    · rw [td_end _ _ 4 hz hl]
      refine Ev.step (f := fun _ => some (subZ l a, true)) (fun k => ?_) (Ev.now _)
      simp only [impl_TakeFor.l0]
      rw [if_neg (by omega)]
    · intro j hj ih
      refine Ev.step (fun k => ?_) ih
      simp only [impl_TakeFor.l0]
      rw [td_length _ _ j (by omega) (by omega), if_pos (by omega), if_pos (by omega), if_pos (by omega), if_pos (by omega), Int.toNat_natCast, rd_td _ l j (by omega) (by omega), rd_nat a j (by omega), wsucc j (by omega)]
      unfold subZ
      rw [zip_set _ l a j (by omega) (by omega) _ rfl]
  exact key 0 (Nat.zero_le _)
theorem impl_TakeFor_ev (l : List Int) (w s v f : Int) (hl : l.length ≤ 1048576) : Ev (fun k => impl_TakeFor.f k l w s v f) (takeSt l w s v f) := by
  unfold impl_TakeFor.f takeSt
  refine Ev.bind (impl_Amounts_ev w s v f) ?_
  simp only [impl_stockCopy_eq l (Nat.le_trans hl (by decide)), impl_StoreOk_eq, Option.bind_some]
  have bad : ∀ a, Ev (fun k => impl_TakeFor.j0 k a true l) (l, false) := by
    intro a
    refine Ev.step (f := fun _ => some (l, false)) (fun k => ?_) (Ev.now _)
    simp only [impl_TakeFor.j0, if_true]
  by_cases h1 : storeOk l = true
  · simp only [if_pos h1]
    by_cases h2 : amounts w s v f = []
    · rw [if_neg (fun q => q.2.1 h2)]
      simp only [h2, nilB, List.isEmpty_nil, if_true]
      exact bad []
    · have h4 := amounts_four h2
      have hn : ¬ nilB (amounts w s v f) = true := by
        unfold nilB
        rw [List.isEmpty_iff]; exact h2
      simp only [if_neg hn]
      have hl4 := (storeOk_parts h1).1
      refine Ev.bind (impl_missing_ev l (amounts w s v f) (by omega) (by omega)) ?_
      by_cases h3 : missOf (amounts w s v f) l < 0
      · rw [if_pos ⟨h1, h2, h3⟩, decide_eq_false (show ¬ missOf (amounts w s v f) l ≥ 0 by omega)]
        refine Ev.step (f := fun k => impl_TakeFor.l0 k (amounts w s v f) ((amounts w s v f).length : Int) 0 l) (fun k => ?_) (impl_take_loop l _ hl4 h4)
        simp only [impl_TakeFor.j0, Bool.false_eq_true, if_false]
      · rw [if_neg (fun q => h3 q.2.2), decide_eq_true (show missOf (amounts w s v f) l ≥ 0 by omega)]
        exact bad _
  · simp only [if_neg h1]
    rw [if_neg (fun q => h1 q.1)]
    exact bad _
theorem rdDough_nat (l : List S56) (j : Nat) (h : j < l.length) : rd_T56 l (j : Int) = l[j] := by
  unfold rd_T56; rw [Int.toNat_natCast, List.getD_eq_getElem?_getD, List.getElem?_eq_getElem h]; rfl
theorem rdDough_set (l : List S56) (j : Nat) (e : S56) (h : j < l.length) : rd_T56 (l.set j e) (j : Int) = e := by
  rw [rdDough_nat _ j (by simpa using h)]; simp
def lackZ (l g : List Int) : List Int := List.zipWith (fun x y => mx 0 (wrap64 (x - y))) l g
def needs (g : List Int) : List S56 → List Int → List Int → List Int
  | d :: ds, f :: fs, acc => if amounts d.f0 d.f1 d.f2 f = [] then [] else needs g ds fs (addZ acc (amounts d.f0 d.f1 d.f2 f))
  | _, _, acc => lackZ acc g
def mustBuy (g : List Int) (ds : List S56) (fs : List Int) : List Int := if storeOk g = true ∧ ds.length ≤ 10 ∧ fs.length = ds.length then needs g ds fs (List.replicate 4 0) else []
theorem mx_comm (a b : Int) : mx a b = mx b a := by unfold mx; split <;> split <;> omega
theorem amounts_4 {w s v f : Int} (h : amounts w s v f ≠ []) : (amounts w s v f).length = 4 := by
  unfold amounts at h ⊢
  split
  · rfl
  · rename_i q; rw [if_neg q] at h; exact absurd rfl h
theorem needs_len (g : List Int) (hg : g.length = 4) : ∀ (ds : List S56) (fs acc : List Int), acc.length = 4 → (needs g ds fs acc).length ≤ 4
  | [], fs, acc, h => by unfold needs lackZ; rw [zip_len _ _ _ (by omega)]; omega
  | d :: ds, [], acc, h => by unfold needs lackZ; rw [zip_len _ _ _ (by omega)]; omega
  | d :: ds, f :: fs, acc, h => by
    unfold needs
    split
    · simp
    · rename_i q
      exact needs_len g hg ds fs _ (by unfold addZ; rw [zip_len _ _ _ (by rw [amounts_4 q]; exact h)]; exact h)
theorem mustBuy_len (g : List Int) (ds : List S56) (fs : List Int) : (mustBuy g ds fs).length ≤ 4 := by
  unfold mustBuy
  split
  · rename_i q; exact needs_len g (storeOk_parts q.1).1 ds fs _ (by simp)
  · simp
theorem impl_MustBuy_ev (g : List Int) (ds : List S56) (fs : List Int) (hg : g.length ≤ 1048576) : Ev (fun k => impl_MustBuy.f k g ds fs) (mustBuy g ds fs) := by
  unfold impl_MustBuy.f mustBuy
  simp only [impl_StoreOk_eq, Option.bind_some]
  have bad : Ev (fun k => impl_MustBuy.j0 k ds fs true g) [] := by
    refine Ev.step (f := fun _ => some []) (fun k => ?_) (Ev.now _)
    simp only [impl_MustBuy.j0, if_true]
  by_cases h1 : storeOk g = true
  case neg =>
    simp only [if_neg h1]
    rw [if_neg (fun q => h1 q.1)]; exact bad
  simp only [if_pos h1]
  by_cases h2 : ds.length ≤ 10
  case neg =>
    simp only [if_pos (show (ds.length : Int) > 10 by omega)]
    rw [if_neg (fun q => h2 q.2.1)]; exact bad
  simp only [if_neg (show ¬ (ds.length : Int) > 10 by omega)]
  by_cases h3 : fs.length = ds.length
  case neg =>
    rw [if_neg (fun q => h3 q.2.2), show ((fs.length : Int) != (ds.length : Int)) = true from bne_iff_ne.2 (by omega)]; exact bad
  rw [if_pos ⟨h1, h2, h3⟩, show ((fs.length : Int) != (ds.length : Int)) = false by rw [h3]; exact bne_self_eq_false _]
  have hg4 := (storeOk_parts h1).1
  refine Ev.step (f := fun k => impl_MustBuy.l0 k fs (List.replicate 4 0) ds (ds.length : Int) 0 g) (fun k => ?_) ?_
  · simp only [impl_MustBuy.j0, Bool.false_eq_true, if_false]
    rw [if_pos (by decide)]
  have key : ∀ j, j ≤ ds.length → ∀ acc : List Int, acc.length = 4 → Ev (fun k => impl_MustBuy.l0 k fs acc ds (ds.length : Int) (j : Int) g) (needs g (ds.drop j) (fs.drop j) acc) := by
    refine down ds.length ?_ ?_
    · intro acc ha
      rw [List.drop_of_length_le (Nat.le_refl _)]
      unfold needs
      have hz : (lackZ acc g).length = 4 := by unfold lackZ; rw [zip_len _ _ _ (by omega)]; exact ha
      refine Ev.step (f := fun k => impl_MustBuy.l2 k acc g (g.length : Int) 0) (fun k => ?_) ?_
      · simp only [impl_MustBuy.l0]
        rw [if_neg (by omega)]
      have fin : ∀ i, i ≤ 4 → Ev (fun k => impl_MustBuy.l2 k ((lackZ acc g).take i ++ acc.drop i) g (g.length : Int) (i : Int)) (lackZ acc g) := by
        refine down 4 ?_ ?_
        · rw [td_end _ _ 4 hz ha]
          refine Ev.step (f := fun _ => some (lackZ acc g)) (fun k => ?_) (Ev.now _)
          simp only [impl_MustBuy.l2]
          rw [if_neg (by omega)]
        · intro i hi ih
          refine Ev.step (fun k => ?_) ih
          simp only [impl_MustBuy.l2]
          rw [td_length _ _ i (by omega) (by omega), if_pos (by omega), if_pos (by omega), if_pos (by omega), if_pos (by omega), Int.toNat_natCast, rd_td _ acc i (by omega) (by omega), rd_nat g i (by omega), mx_comm, wsucc i (by omega)]
          unfold lackZ
          rw [zip_set _ acc g i (by omega) (by omega) _ rfl]
      exact fin 0 (Nat.zero_le _)
    · intro j hj ih acc ha
      rw [List.drop_eq_getElem_cons hj, List.drop_eq_getElem_cons (show j < fs.length by omega)]
      unfold needs
      refine Ev.step (f := fun k => (impl_Amounts.f k ds[j].f0 ds[j].f1 ds[j].f2 (fs[j]'(by omega))).bind fun t594 => (if (nilB t594) = true then (some ([] : List Int)) else (impl_MustBuy.l1 k fs acc ds (ds.length : Int) (j : Int) t594 (t594.length : Int) 0 g))) (fun k => ?_) (Ev.bind (impl_Amounts_ev _ _ _ _) ?_)
      · simp only [impl_MustBuy.l0]
        rw [if_pos (by omega), if_pos (by omega), if_pos (by omega), if_pos (by omega), rdDough_nat ds j hj, rd_nat fs j (by omega)]
      by_cases h5 : amounts ds[j].f0 ds[j].f1 ds[j].f2 (fs[j]'(by omega)) = []
      · rw [if_pos h5]
        simp only [h5, nilB, List.isEmpty_nil, if_true]
        exact Ev.now _
      · rw [if_neg h5]
        have h6 := amounts_4 h5
        have hn : ¬ nilB (amounts ds[j].f0 ds[j].f1 ds[j].f2 (fs[j]'(by omega))) = true := by
          unfold nilB
          rw [List.isEmpty_iff]; exact h5
        simp only [if_neg hn]
        clear hn
        generalize amounts ds[j].f0 ds[j].f1 ds[j].f2 (fs[j]'(by omega)) = a at h6 ⊢
        have hz : (addZ acc a).length = 4 := by unfold addZ; rw [zip_len _ _ _ (by omega)]; exact ha
        have row : ∀ i, i ≤ 4 → Ev (fun k => impl_MustBuy.l1 k fs ((addZ acc a).take i ++ acc.drop i) ds (ds.length : Int) (j : Int) a (a.length : Int) (i : Int) g) (needs g (ds.drop (j + 1)) (fs.drop (j + 1)) (addZ acc a)) := by
          refine down 4 ?_ ?_
          · rw [td_end _ _ 4 hz ha]
            refine Ev.step (fun k => ?_) (ih (addZ acc a) hz)
            simp only [impl_MustBuy.l1]
            rw [if_neg (by omega), wsucc j (by omega)]
          · intro i hi ih2
            refine Ev.step (fun k => ?_) ih2
            simp only [impl_MustBuy.l1]
            rw [td_length _ _ i (by omega) (by omega), if_pos (by omega), if_pos (by omega), if_pos (by omega), if_pos (by omega), Int.toNat_natCast, rd_td _ acc i (by omega) (by omega), rd_nat a i (by omega), wsucc i (by omega)]
            unfold addZ
            rw [zip_set _ acc a i (by omega) (by omega) _ rfl]
        exact row 0 (Nat.zero_le _)
  exact key 0 (Nat.zero_le _) (List.replicate 4 0) List.length_replicate
def fillSt (l : List Int) (k g : Int) : List Int × Bool := if storeOk l = true ∧ inR 0 3 k = true ∧ inR 0 1000000 g = true ∧ rd l k + g ≤ 1000000 then (l.set k.toNat (rd l k + g), true) else (l, false)
theorem fillSt_length (l : List Int) (k g : Int) : (fillSt l k g).1.length = l.length := by unfold fillSt; split <;> simp
theorem rd_of_ok {l : List Int} (h : storeOk l = true) (k : Int) (h0 : 0 ≤ k) (h1 : k ≤ 3) : 0 ≤ rd l k ∧ rd l k ≤ 1000000 := by
  obtain ⟨hl, hp⟩ := storeOk_parts h
  obtain ⟨j, rfl⟩ := Int.eq_ofNat_of_zero_le h0
  rw [rd_nat l j (by omega)]
  exact hp j (by omega)
theorem storeOk_set {l : List Int} (h : storeOk l = true) (k x : Int) (h0 : 0 ≤ k) (h1 : k ≤ 3) : storeOk (l.set k.toNat x) = inR 0 1000000 x := by
  obtain ⟨hl, hp⟩ := storeOk_parts h
  have hk : k.toNat < l.length := by omega
  cases hq : inR 0 1000000 x with
  | true =>
    unfold storeOk
    simp only [List.length_set, hl, beq_self_eq_true, Bool.true_and, List.all_eq_true]
    intro y hy
    rcases List.mem_or_eq_of_mem_set hy with hy | rfl
    · obtain ⟨j, hj, rfl⟩ := List.getElem_of_mem hy
      exact inR_iff.2 (hp j hj)
    · exact hq
  | false =>
    cases hs : storeOk (l.set k.toNat x) with
    | false => rfl
    | true =>
      obtain ⟨_, hp2⟩ := storeOk_parts hs
      have := hp2 k.toNat (by simpa using hk)
      rw [List.getElem_set_self] at this
      rw [inR_iff.2 this] at hq
      cases hq
theorem impl_FillStock_ev (l : List Int) (k g : Int) (hl : l.length ≤ 1048576) : Ev (fun n => impl_FillStock.f n l k g) (fillSt l k g) := by
  unfold impl_FillStock.f fillSt
  simp only [impl_stockCopy_eq l (by omega), impl_StoreOk_eq, in_eq, Option.bind_some]
  have no : Ev (fun n => impl_FillStock.j0 n k g true l l) (l, false) := Ev.step (f := fun _ => some (l, false)) (fun n => by simp only [impl_FillStock.j0]; rw [if_pos trivial]) (Ev.now _)
  cases hs : storeOk l
  · simp only [Bool.false_eq_true, if_false, false_and]; exact no
  · simp only [if_true]
    cases hk : inR 0 3 k
    · simp only [Bool.false_eq_true, if_false, false_and, and_false]; exact no
    · simp only [if_true]
      cases hg : inR 0 1000000 g
      · simp only [Bool.false_eq_true, if_false, false_and, and_false, Bool.not_false]; exact no
      · have a := inR_iff.1 hk
        have b := inR_iff.1 hg
        have hr := rd_of_ok hs k (by omega) (by omega)
        have h4 := (storeOk_parts hs).1
        simp only [true_and, Bool.not_true]
        refine Ev.step (f := fun _ => some (if rd l k + g ≤ 1000000 then (l.set k.toNat (rd l k + g), true) else (l, false))) (fun n => ?_) (Ev.now _)
        simp only [impl_FillStock.j0, Bool.false_eq_true, if_false]
        rw [if_pos (by omega), if_pos (by omega), w64 (by omega) (by omega), Option.bind_some, impl_StoreOk_eq, storeOk_set hs k _ (by omega) (by omega), Option.bind_some, impl_stockCopy_eq l (by omega), Option.bind_some]
        by_cases hc : rd l k + g ≤ 1000000
        · rw [if_pos (inR_iff.2 ⟨by omega, hc⟩), if_pos hc]
        · rw [if_neg (fun e => hc (inR_iff.1 e).2), if_neg hc]
theorem impl_FirstMissing_ev (g : List Int) (w s l f : Int) (hl : g.length ≤ 1048576) : Ev (fun k => impl_FirstMissing.f k g w s l f) (firstMiss g w s l f) := by
  unfold impl_FirstMissing.f firstMiss
  refine Ev.bind (impl_Amounts_ev w s l f) ?_
  have ha := amounts_length w s l f
  generalize amounts w s l f = a at ha
  simp only [impl_StoreOk_eq, Option.bind_some]
  by_cases hs : storeOk g = true
  · have h4 := (storeOk_parts hs).1
    simp only [if_pos hs]
    cases a with
    | nil => simp only [nilB, List.isEmpty_nil, if_true]; exact ev_eq (Ev.now _) rfl
    | cons x r =>
      simp only [nilB, List.isEmpty_cons, Bool.false_eq_true, if_false]
      refine Ev.bind (impl_missing_ev g (x :: r) (by omega) (by omega)) ?_
      exact Ev.now _
  · simp only [if_neg hs]; exact Ev.now _
theorem and255 (x : Int) : 0 ≤ Go.bits .and .i64 x 255 ∧ Go.bits .and .i64 x 255 ≤ 255 := by
  have h : (BitVec.ofInt 64 x &&& BitVec.ofInt 64 255).toNat ≤ 255 := by
    rw [BitVec.toNat_and]; exact Nat.le_trans Nat.and_le_right (by decide)
  have e : Go.bits .and .i64 x 255 = IntKind.i64.wrap ((BitVec.ofInt 64 x &&& BitVec.ofInt 64 255).toNat : Int) := rfl
  rw [e]
  generalize (BitVec.ofInt 64 x &&& BitVec.ofInt 64 255).toNat = n at h
  have e2 : (n : Int) % 2 ^ 64 = n := Int.emod_eq_of_lt (by omega) (by omega)
  have e3 : IntKind.i64.wrap (n : Int) = (n : Int) := by
    simp only [IntKind.wrap, IntKind.bits, IntKind.signed, e2]
    rw [if_neg]
    simp
    omega
  rw [e3]; omega
theorem byte_eq (b : List Int) (i h : Int) (hb : b.length ≤ 1048576) (hi : 0 ≤ i) : ∃ x i' h', spec_l01Byte.f b i h = some (x, i', h') ∧ 0 ≤ x ∧ x ≤ 255 ∧ 0 ≤ i' := by
  unfold spec_l01Byte.f
  by_cases c : i < (b.length : Int)
  · rw [if_pos c, if_pos hi]
    refine ⟨_, _, _, rfl, (and255 _).1, (and255 _).2, ?_⟩
    rw [w64 (by omega) (by omega)]; omega
  · rw [if_neg c]
    exact ⟨_, _, _, rfl, (and255 _).1, (and255 _).2, hi⟩
theorem below_eq (b : List Int) (i h n : Int) (hb : b.length ≤ 1048576) (hi : 0 ≤ i) (hn : 0 < n) : ∃ x i' h', spec_l01Below.f b i h n = some (x, i', h') ∧ 0 ≤ x ∧ x < n ∧ 0 ≤ i' := by
  unfold spec_l01Below.f
  rw [if_neg (by omega)]
  have md : ∀ y : Int, 0 ≤ y → 0 ≤ Int.tmod y n ∧ Int.tmod y n < n := fun y hy => by
    rw [Int.tmod_eq_emod_of_nonneg hy]
    exact ⟨Int.emod_nonneg _ (by omega), Int.emod_lt_of_pos _ hn⟩
  obtain ⟨x1, i1, h1, e1, a1, b1, c1⟩ := byte_eq b i h hb hi
  by_cases c : n ≤ 256
  · rw [if_pos c, e1, Option.bind_some, if_neg (by omega)]
    exact ⟨_, _, _, rfl, (md x1 a1).1, (md x1 a1).2, c1⟩
  · obtain ⟨x2, i2, h2, e2, a2, b2, c2⟩ := byte_eq b i1 h1 hb c1
    obtain ⟨x3, i3, h3, e3, a3, b3, c3⟩ := byte_eq b i2 h2 hb c2
    obtain ⟨x4, i4, h4, e4, a4, b4, c4⟩ := byte_eq b i3 h3 hb c3
    rw [if_neg c, e1, Option.bind_some, e2, Option.bind_some, e3, Option.bind_some, e4, Option.bind_some, if_neg (by omega)]
    rw [w64 (x := x1 * 16777216) (by omega) (by omega), w64 (x := x2 * 65536) (by omega) (by omega), w64 (x := x3 * 256) (by omega) (by omega), w64 (x := x1 * 16777216 + x2 * 65536) (by omega) (by omega), w64 (x := x1 * 16777216 + x2 * 65536 + x3 * 256) (by omega) (by omega), w64 (x := x1 * 16777216 + x2 * 65536 + x3 * 256 + x4) (by omega) (by omega)]
    exact ⟨_, _, _, rfl, (md _ (by omega)).1, (md _ (by omega)).2, c4⟩
theorem new_ev (l : List Int) (hl : l.length ≤ 1048576) : ∃ h, Ev (fun k => spec_l01New.f k l) (l, 0, h) := by
  unfold spec_l01New.f
  have key : ∀ j, j ≤ l.length → ∀ s : Int, ∃ h, Ev (fun k => spec_l01New.l0 k l s (j : Int)) (l, 0, h) := by
    refine down l.length ?_ ?_
    · intro s
      refine ⟨s, Ev.step (f := fun _ => some (l, 0, s)) (fun k => ?_) (Ev.now _)⟩
      simp only [spec_l01New.l0]
      rw [if_neg (by omega)]
    · intro j hj ih s
      by_cases c : (j : Int) < 4000
      · obtain ⟨h, e⟩ := ih (Go.bits .and .i64 (wrap64 ((wrap64 ((wrap64 (s * 131)) + (wrap64 (rd l (j : Int))))) + 7)) 1073741823)
        refine ⟨h, Ev.step (fun k => ?_) e⟩
        simp only [spec_l01New.l0]
        rw [if_pos (by omega), if_pos c, if_pos (by omega), wsucc j (by omega)]
      · refine ⟨s, Ev.step (f := fun _ => some (l, 0, s)) (fun k => ?_) (Ev.now _)⟩
        simp only [spec_l01New.l0]
        rw [if_pos (by omega), if_neg c]
  exact key 0 (Nat.zero_le _) _
theorem at0_eq (l : List Int) (hl : l.length ≤ 1048576) (hw : ∀ x ∈ l, 0 ≤ x ∧ x ≤ 255) : ∃ x, laws_at.f l 0 = some x ∧ 0 ≤ x ∧ x ≤ 255 := by
  unfold laws_at.f
  by_cases c : (l.length : Int) = 0
  · rw [if_pos c]; exact ⟨0, rfl, by decide, by decide⟩
  · rw [if_neg c, show wrap64 ((wrap64 ((0 : Int) * 5)) + 1) = 1 by rw [show (0 : Int) * 5 = 0 from rfl, w64 (x := 0) (by decide) (by decide)]; exact w64 (by decide) (by decide)]
    have e : Int.tmod 1 (l.length : Int) = 1 % (l.length : Int) := Int.tmod_eq_emod_of_nonneg (by decide)
    have h1 : 0 ≤ 1 % (l.length : Int) := Int.emod_nonneg _ c
    have h2 : 1 % (l.length : Int) < (l.length : Int) := Int.emod_lt_of_pos _ (by omega)
    rw [e, if_pos h1, if_pos h2]
    generalize 1 % (l.length : Int) = i at h1 h2
    obtain ⟨j, rfl⟩ : ∃ j : Nat, i = j := ⟨i.toNat, by omega⟩
    rw [rd_nat l j (by omega)]
    have := hw _ (List.getElem_mem (show j < l.length by omega))
    rw [w64 (by omega) (by omega)]
    exact ⟨_, rfl, this.1, this.2⟩
theorem drawStock_ev (l : List Int) (hl : l.length ≤ 1048576) : ∃ g0 g1 g2 g3 : Int, Ev (fun k => spec_DrawStock.f k l) [g0, g1, g2, g3] ∧ (0 ≤ g0 ∧ g0 ≤ 2000) ∧ (0 ≤ g1 ∧ g1 ≤ 2000) ∧ (0 ≤ g2 ∧ g2 ≤ 2000) ∧ (0 ≤ g3 ∧ g3 ≤ 2000) := by
  obtain ⟨h, e⟩ := new_ev l hl
  obtain ⟨x1, i1, h1, e1, a1, b1, c1⟩ := below_eq l 0 h 250 hl (by omega) (by omega)
  obtain ⟨x2, i2, h2, e2, a2, b2, c2⟩ := below_eq l i1 h1 250 hl c1 (by omega)
  obtain ⟨x3, i3, h3, e3, a3, b3, c3⟩ := below_eq l i2 h2 50 hl c2 (by omega)
  obtain ⟨x4, i4, h4, e4, a4, b4, c4⟩ := below_eq l i3 h3 200 hl c3 (by omega)
  refine ⟨8 * x1, 6 * x2, x3, 2 * x4, ?_, by omega, by omega, by omega, by omega⟩
  unfold spec_DrawStock.f
  refine Ev.bind e ?_
  unfold spec_l36Stock.f
  simp only [e1, e2, e3, e4, Option.bind_some]
  rw [w64 (x := 8 * x1) (by omega) (by omega), w64 (x := 6 * x2) (by omega) (by omega), w64 (x := 2 * x4) (by omega) (by omega)]
  exact Ev.now _
theorem drawDough_ev (l : List Int) (hl : l.length ≤ 1048576) : ∃ w s v : Int, Ev (fun k => spec_DrawDough.f k l) (w, s, v) ∧ (550 ≤ w ∧ w ≤ 800) ∧ (15 ≤ s ∧ s ≤ 25) ∧ (0 ≤ v ∧ v ≤ 250) := by
  obtain ⟨h, e⟩ := new_ev l hl
  obtain ⟨x1, i1, h1, e1, a1, b1, c1⟩ := below_eq l 0 h 250 hl (by omega) (by omega)
  obtain ⟨x2, i2, h2, e2, a2, b2, c2⟩ := below_eq l i1 h1 10 hl c1 (by omega)
  obtain ⟨x3, i3, h3, e3, a3, b3, c3⟩ := below_eq l i2 h2 250 hl c2 (by omega)
  refine ⟨550 + x1, 15 + x2, x3, ?_, by omega, by omega, by omega⟩
  unfold spec_DrawDough.f
  refine Ev.bind e ?_
  unfold spec_l02Dough.f
  simp only [e1, e2, e3, Option.bind_some]
  rw [w64 (x := 550 + x1) (by omega) (by omega), w64 (x := 15 + x2) (by omega) (by omega)]
  exact Ev.now _
/-- What a dough takes of one of its parts. -/
def pA (p F : Int) : Int := (F * p + 500) / 1000
theorem partOf_pA {F p : Int} (h0 : 0 ≤ F) (h1 : F ≤ 1000000) (p0 : 0 ≤ p) (p1 : p ≤ 2000) : partOf F p = pA p F := by
  unfold partOf pA
  rw [if_pos ⟨inR_iff.2 ⟨h0, h1⟩, inR_iff.2 ⟨p0, p1⟩⟩, Int.tdiv_eq_ediv_of_nonneg]
  have := Int.mul_nonneg h0 p0
  omega
theorem pA_mono {p F G : Int} (p0 : 0 ≤ p) (h : F ≤ G) : pA p F ≤ pA p G := by
  unfold pA
  have := Int.mul_le_mul_of_nonneg_right h p0
  omega
theorem pA_bound {p F : Int} (p0 : 0 ≤ p) (p1 : p ≤ 1000) (h0 : 0 ≤ F) : 0 ≤ pA p F ∧ pA p F ≤ F := by
  unfold pA
  have h1 := Int.mul_nonneg h0 p0
  have h2 := Int.mul_le_mul_of_nonneg_left p1 h0
  omega
theorem halving_spec (p : Int → Bool) (hm : ∀ F G : Int, 0 ≤ F → F ≤ G → G ≤ 1000000 → p G = true → p F = true) : ∀ (n : Nat) (lo hi : Int), 0 ≤ lo → lo ≤ hi → hi ≤ 1000000 → hi - lo ≤ n → p lo = true →
    lo ≤ halving p n lo hi ∧ halving p n lo hi ≤ hi ∧ p (halving p n lo hi) = true ∧ ∀ F, halving p n lo hi < F → F ≤ hi → p F = false := by
  intro n
  induction n with
  | zero =>
    intro lo hi h0 h1 h2 h3 h4
    unfold halving
    exact ⟨Int.le_refl _, h1, h4, fun F a b => by omega⟩
  | succ n ih =>
    intro lo hi h0 h1 h2 h3 h4
    unfold halving
    by_cases c : lo < hi
    · rw [if_pos c]
      by_cases d : p ((lo + hi + 1) / 2) = true
      · rw [if_pos d]
        obtain ⟨a1, a2, a3, a4⟩ := ih ((lo + hi + 1) / 2) hi (by omega) (by omega) h2 (by omega) d
        exact ⟨by omega, a2, a3, a4⟩
      · rw [if_neg d]
        obtain ⟨a1, a2, a3, a4⟩ := ih lo ((lo + hi + 1) / 2 - 1) h0 (by omega) (by omega) (by omega) h4
        refine ⟨a1, by omega, a3, fun F f1 f2 => ?_⟩
        by_cases e : F ≤ (lo + hi + 1) / 2 - 1
        · exact a4 F f1 e
        · cases hF : p F
          · rfl
          · exact absurd (hm _ F (by omega) (by omega) (by omega) hF) d
    · rw [if_neg c]
      exact ⟨Int.le_refl _, h1, h4, fun F a b => by omega⟩
theorem miss4 (a0 a1 a2 a3 g0 g1 g2 g3 : Int) : missOf [a0, a1, a2, a3] [g0, g1, g2, g3] = if a0 > g0 then 0 else if a1 > g1 then 1 else if a2 > g2 then 2 else if a3 > g3 then 3 else -1 := by
  simp [missOf, missFrom]
theorem miss4_neg (a0 a1 a2 a3 g0 g1 g2 g3 : Int) : missOf [a0, a1, a2, a3] [g0, g1, g2, g3] < 0 ↔ a0 ≤ g0 ∧ a1 ≤ g1 ∧ a2 ≤ g2 ∧ a3 ≤ g3 := by
  rw [miss4]
  repeat' split
  all_goals omega
theorem miss4_one (a0 a1 a2 a3 g0 g1 g2 g3 : Int) (h : missOf [a0, a1, a2, a3] [g0, g1, g2, g3] < 0) : missOf [a0, a1, a2, a3] [g0, g1, g2, g3] = -1 := by
  rw [miss4] at h ⊢
  repeat' split at h
  all_goals first | omega | (repeat' rw [if_neg (by assumption)])
theorem store4 {g0 g1 g2 g3 : Int} (h0 : 0 ≤ g0 ∧ g0 ≤ 1000000) (h1 : 0 ≤ g1 ∧ g1 ≤ 1000000) (h2 : 0 ≤ g2 ∧ g2 ≤ 1000000) (h3 : 0 ≤ g3 ∧ g3 ≤ 1000000) : storeOk [g0, g1, g2, g3] = true := by
  unfold storeOk
  simp only [List.length_cons, List.length_nil, List.all_cons, List.all_nil, Bool.and_true, Bool.and_eq_true, inR_iff]
  exact ⟨by decide, h0, h1, h2, h3⟩
theorem amounts4 {w s v F : Int} (hw : 550 ≤ w ∧ w ≤ 800) (hs : 15 ≤ s ∧ s ≤ 25) (hv : 0 ≤ v ∧ v ≤ 250) (h0 : 0 ≤ F) (h1 : F ≤ 1000000) : amounts w s v F = [F, pA w F, pA s F, pA v F] := by
  have hd : doughOk w s v = true := by
    unfold doughOk
    simp only [Bool.and_eq_true, inR_iff]
    omega
  unfold amounts
  rw [if_pos ⟨hd, inR_iff.2 ⟨h0, h1⟩⟩, partOf_pA h0 h1 (by omega) (by omega), partOf_pA h0 h1 (by omega) (by omega), partOf_pA h0 h1 (by omega) (by omega)]
theorem idx4 {j : Nat} (h : j < 4) : j = 0 ∨ j = 1 ∨ j = 2 ∨ j = 3 := by omega
theorem stocks_end (l : List Int) (g0 g1 g2 g3 w s v f G : Int) (a0 : 0 ≤ g0 ∧ g0 ≤ 2000) (a1 : 0 ≤ g1 ∧ g1 ≤ 2000) (a2 : 0 ≤ g2 ∧ g2 ≤ 2000) (a3 : 0 ≤ g3 ∧ g3 ≤ 2000)
    (hw : 550 ≤ w ∧ w ≤ 800) (hs : 15 ≤ s ∧ s ≤ 25) (hv : 0 ≤ v ∧ v ≤ 250) (hG : 0 ≤ G ∧ G ≤ 2040)
    (hf : decide (G ≤ f) = decide (G ≤ g0 ∧ pA w G ≤ g1 ∧ pA s G ≤ g2 ∧ pA v G ≤ g3)) :
    Ev (fun k => laws_FnStocks.l1 k f G [mx 0 (G - g0), mx 0 (pA w G - g1), mx 0 (pA s G - g2), mx 0 (pA v G - g3)] true 0 [g0, g1, g2, g3] w s v [g0, g1, g2, g3]) true := by
  have b1 := pA_bound (p := w) (F := G) (by omega) (by omega) hG.1
  have b2 := pA_bound (p := s) (F := G) (by omega) (by omega) hG.1
  have b3 := pA_bound (p := v) (F := G) (by omega) (by omega) hG.1
  have ha := amounts4 (F := G) hw hs hv hG.1 (by omega)
  have hst := store4 (g0 := g0) (g1 := g1) (g2 := g2) (g3 := g3) (by omega) (by omega) (by omega) (by omega)
  have hmx : ∀ x y : Int, mx 0 (x - y) = if x ≤ y then 0 else x - y := fun x y => by unfold mx; split <;> split <;> omega
  have e6 : ∀ X : List Int, X.length = 4 → Ev (fun k => impl_TakeFor.f k X w s v G) (takeSt X w s v G) := fun X hX => impl_TakeFor_ev X w s v G (by omega)
  have hsecond : (takeSt [g0, g1, g2, g3] w s v G).2 = decide (G ≤ g0 ∧ pA w G ≤ g1 ∧ pA s G ≤ g2 ∧ pA v G ≤ g3) := by
    unfold takeSt
    rw [ha]
    by_cases c : G ≤ g0 ∧ pA w G ≤ g1 ∧ pA s G ≤ g2 ∧ pA v G ≤ g3
    · rw [if_pos ⟨hst, by simp, (miss4_neg ..).2 c⟩, decide_eq_true c]
    · rw [if_neg (fun q => c ((miss4_neg ..).1 q.2.2)), decide_eq_false c]
  have hall : ([mx 0 (G - g0), mx 0 (pA w G - g1), mx 0 (pA s G - g2), mx 0 (pA v G - g3)].all fun x => x == 0) = decide (G ≤ g0 ∧ pA w G ≤ g1 ∧ pA s G ≤ g2 ∧ pA v G ≤ g3) := by
    rw [hmx, hmx, hmx, hmx, Bool.eq_iff_iff]
    simp only [List.all_cons, List.all_nil, Bool.and_true, Bool.and_eq_true, beq_iff_eq, decide_eq_true_eq]
    constructor
    · rintro ⟨q0, q1, q2, q3⟩
      refine ⟨?_, ?_, ?_, ?_⟩
      · split at q0 <;> omega
      · split at q1 <;> omega
      · split at q2 <;> omega
      · split at q3 <;> omega
    · rintro ⟨q0, q1, q2, q3⟩
      rw [if_pos q0, if_pos q1, if_pos q2, if_pos q3]
      exact ⟨rfl, rfl, rfl, rfl⟩
  have m0 := hmx G g0
  have m1 := hmx (pA w G) g1
  have m2 := hmx (pA s G) g2
  have m3 := hmx (pA v G) g3
  have hfirst : (takeSt [g0 + mx 0 (G - g0), g1 + mx 0 (pA w G - g1), g2 + mx 0 (pA s G - g2), g3 + mx 0 (pA v G - g3)] w s v G).2 = true := by
    unfold takeSt
    have hc0 : 0 ≤ g0 + mx 0 (G - g0) ∧ g0 + mx 0 (G - g0) ≤ 1000000 ∧ G ≤ g0 + mx 0 (G - g0) := by rw [m0]; split <;> omega
    have hc1 : 0 ≤ g1 + mx 0 (pA w G - g1) ∧ g1 + mx 0 (pA w G - g1) ≤ 1000000 ∧ pA w G ≤ g1 + mx 0 (pA w G - g1) := by rw [m1]; split <;> omega
    have hc2 : 0 ≤ g2 + mx 0 (pA s G - g2) ∧ g2 + mx 0 (pA s G - g2) ≤ 1000000 ∧ pA s G ≤ g2 + mx 0 (pA s G - g2) := by rw [m2]; split <;> omega
    have hc3 : 0 ≤ g3 + mx 0 (pA v G - g3) ∧ g3 + mx 0 (pA v G - g3) ≤ 1000000 ∧ pA v G ≤ g3 + mx 0 (pA v G - g3) := by rw [m3]; split <;> omega
    rw [if_pos ⟨store4 ⟨hc0.1, hc0.2.1⟩ ⟨hc1.1, hc1.2.1⟩ ⟨hc2.1, hc2.2.1⟩ ⟨hc3.1, hc3.2.1⟩, by rw [ha]; simp, by rw [ha]; exact (miss4_neg ..).2 ⟨hc0.2.2, hc1.2.2, hc2.2.2, hc3.2.2⟩⟩]
  have r0 : 0 ≤ mx 0 (G - g0) ∧ mx 0 (G - g0) ≤ 2040 := by rw [m0]; split <;> omega
  have r1 : 0 ≤ mx 0 (pA w G - g1) ∧ mx 0 (pA w G - g1) ≤ 2040 := by rw [m1]; split <;> omega
  have r2 : 0 ≤ mx 0 (pA s G - g2) ∧ mx 0 (pA s G - g2) ≤ 2040 := by rw [m2]; split <;> omega
  have r3 : 0 ≤ mx 0 (pA v G - g3) ∧ mx 0 (pA v G - g3) ≤ 2040 := by rw [m3]; split <;> omega
  generalize mx 0 (G - g0) = n0 at hall hfirst r0 ⊢
  generalize mx 0 (pA w G - g1) = n1 at hall hfirst r1 ⊢
  generalize mx 0 (pA s G - g2) = n2 at hall hfirst r2 ⊢
  generalize mx 0 (pA v G - g3) = n3 at hall hfirst r3 ⊢
  clear m0 m1 m2 m3 hmx
  have key : ∀ j : Nat, j ≤ 4 → Ev (fun k => laws_FnStocks.l1 k f G [n0, n1, n2, n3] (([n0, n1, n2, n3].take j).all fun x => x == 0) (j : Int) [g0, g1, g2, g3] w s v ([g0 + n0, g1 + n1, g2 + n2, g3 + n3].take j ++ [g0, g1, g2, g3].drop j)) true := by
    refine down 4 ?_ ?_
    · refine Ev.step (f := fun k => (impl_TakeFor.f k [g0 + n0, g1 + n1, g2 + n2, g3 + n3] w s v G).bind fun bt666 => ((impl_TakeFor.f k [g0, g1, g2, g3] w s v G).bind fun bt671 => (if bt666.2 = true then (if (bt671.2 == ([n0, n1, n2, n3].all fun x => x == 0)) = true then (some ((decide (G ≤ f)) == bt671.2)) else (some false)) else (some false)))) (fun k => ?_) ?_
      · simp only [laws_FnStocks.l1]
        rw [if_neg (by omega)]; rfl
      · refine Ev.bind (e6 _ rfl) ?_
        refine Ev.bind (e6 _ rfl) ?_
        simp only [hfirst, hsecond, hall, hf, if_true, beq_self_eq_true]
        exact Ev.now _
    · intro j hj ih
      have hfill : fillSt ([g0 + n0, g1 + n1, g2 + n2, g3 + n3].take j ++ [g0, g1, g2, g3].drop j) (j : Int) ([n0, n1, n2, n3].getD j 0) = ([g0 + n0, g1 + n1, g2 + n2, g3 + n3].take (j + 1) ++ [g0, g1, g2, g3].drop (j + 1), true) := by
        rcases idx4 hj with rfl | rfl | rfl | rfl
        · unfold fillSt
          rw [if_pos ⟨store4 (by omega) (by omega) (by omega) (by omega), by decide, inR_iff.2 (show 0 ≤ n0 ∧ n0 ≤ 1000000 by omega), show g0 + n0 ≤ 1000000 by omega⟩]; rfl
        · unfold fillSt
          rw [if_pos ⟨store4 (by omega) (by omega) (by omega) (by omega), by decide, inR_iff.2 (show 0 ≤ n1 ∧ n1 ≤ 1000000 by omega), show g1 + n1 ≤ 1000000 by omega⟩]; rfl
        · unfold fillSt
          rw [if_pos ⟨store4 (by omega) (by omega) (by omega) (by omega), by decide, inR_iff.2 (show 0 ≤ n2 ∧ n2 ≤ 1000000 by omega), show g2 + n2 ≤ 1000000 by omega⟩]; rfl
        · unfold fillSt
          rw [if_pos ⟨store4 (by omega) (by omega) (by omega) (by omega), by decide, inR_iff.2 (show 0 ≤ n3 ∧ n3 ≤ 1000000 by omega), show g3 + n3 ≤ 1000000 by omega⟩]; rfl
      have hnn : 0 ≤ [n0, n1, n2, n3].getD j 0 := by
        rcases idx4 hj with rfl | rfl | rfl | rfl
        · exact r0.1
        · exact r1.1
        · exact r2.1
        · exact r3.1
      have hnext : (([n0, n1, n2, n3].take (j + 1)).all fun x => x == 0) = ((([n0, n1, n2, n3].take j).all fun x => x == 0) && ([n0, n1, n2, n3].getD j 0 == 0)) := by
        rcases idx4 hj with rfl | rfl | rfl | rfl <;> simp [Bool.and_assoc]
      have hfe := impl_FillStock_ev ([g0 + n0, g1 + n1, g2 + n2, g3 + n3].take j ++ [g0, g1, g2, g3].drop j) (j : Int) ([n0, n1, n2, n3].getD j 0) (by simp; omega)
      rw [hfill] at hfe
      have erd : rd [n0, n1, n2, n3] (j : Int) = [n0, n1, n2, n3].getD j 0 := by unfold rd; rw [Int.toNat_natCast]
      rw [hnext] at ih
      generalize [n0, n1, n2, n3].getD j 0 = nj at hfe hnn erd ih
      generalize (([n0, n1, n2, n3].take j).all fun x => x == 0) = bj at ih ⊢
      refine Ev.step (f := fun k => (impl_FillStock.f k ([g0 + n0, g1 + n1, g2 + n2, g3 + n3].take j ++ [g0, g1, g2, g3].drop j) (j : Int) nj).bind fun bt659 => (if bt659.2 = true then (if nj < 0 then (some false) else (if bj = true then (laws_FnStocks.l1 k f G [n0, n1, n2, n3] (nj == 0) ((j + 1 : Nat) : Int) [g0, g1, g2, g3] w s v bt659.1) else (laws_FnStocks.l1 k f G [n0, n1, n2, n3] false ((j + 1 : Nat) : Int) [g0, g1, g2, g3] w s v bt659.1))) else (some false))) (fun k => ?_) (Ev.bind hfe ?_)
      · simp only [laws_FnStocks.l1]
        rw [if_pos (by omega), if_pos (by omega), if_pos (show (j : Int) < (([n0, n1, n2, n3] : List Int).length : Int) by simp; omega), erd, wsucc j (by omega)]
      · simp only [if_true, if_neg (show ¬ nj < 0 by omega)]
        cases bj
        · simp only [Bool.false_and] at ih
          simp only [Bool.false_eq_true, if_false]; exact ih
        · simp only [Bool.true_and] at ih
          simp only [if_true]; exact ih
  exact key 0 (Nat.zero_le _)
theorem FnStocks : laws_FnStocks.Pure := by
  intro l _ _ hwf
  refine Ev.rounds (g := fun n => laws_FnStocks.f n l) ?_
  unfold laws_FnStocks.f laws_big.f
  simp only [Option.bind_some]
  by_cases hb : (l.length : Int) > 1048576
  · simp only [decide_eq_true hb, if_true]; exact Ev.now _
  simp only [decide_eq_false hb, Bool.false_eq_true, if_false]
  have hl : l.length ≤ 1048576 := by omega
  obtain ⟨g0, g1, g2, g3, eg, a0, a1, a2, a3⟩ := drawStock_ev l hl
  obtain ⟨w, s, v, ed, hw, hs, hv⟩ := drawDough_ev l hl
  obtain ⟨y, ey, y0, y1⟩ := at0_eq l hl (fun x hx => bounds_u8 (hwf x hx))
  have hst := store4 (g0 := g0) (g1 := g1) (g2 := g2) (g3 := g3) (by omega) (by omega) (by omega) (by omega)
  have hd : doughOk w s v = true := by
    unfold doughOk
    simp only [Bool.and_eq_true, inR_iff]
    omega
  refine Ev.bind eg ?_
  refine Ev.bind ed ?_
  have hfit : ∀ F, 0 ≤ F → F ≤ 1000000 → (fits [g0, g1, g2, g3] w s v F = true ↔ F ≤ g0 ∧ pA w F ≤ g1 ∧ pA s F ≤ g2 ∧ pA v F ≤ g3) := by
    intro F h0 h1
    unfold fits
    rw [amounts4 hw hs hv h0 h1, decide_eq_true_eq, miss4_neg]
  have hmono : ∀ F G : Int, 0 ≤ F → F ≤ G → G ≤ 1000000 → fits [g0, g1, g2, g3] w s v G = true → fits [g0, g1, g2, g3] w s v F = true := by
    intro F G h0 h1 h2 h
    rw [hfit G (by omega) h2] at h
    rw [hfit F h0 (by omega)]
    have p1 := pA_mono (p := w) (by omega) h1
    have p2 := pA_mono (p := s) (by omega) h1
    have p3 := pA_mono (p := v) (by omega) h1
    omega
  have hz : fits [g0, g1, g2, g3] w s v 0 = true := by
    rw [hfit 0 (by omega) (by omega)]
    unfold pA
    simp only [Int.zero_mul]
    omega
  have hh := halving_spec _ hmono 1000000 0 1000000 (by omega) (by omega) (by omega) (by omega) hz
  have emf := impl_MostFlour_ev [g0, g1, g2, g3] w s v (by simp)
  unfold mostFl at emf
  rw [if_pos ⟨hst, hd⟩] at emf
  generalize halving (fits [g0, g1, g2, g3] w s v) 1000000 0 1000000 = f at hh emf
  obtain ⟨f0, f1, fp, fq⟩ := hh
  have fp' := (hfit f f0 f1).1 fp
  have b1 := pA_bound (p := w) (F := f) (by omega) (by omega) f0
  have b2 := pA_bound (p := s) (F := f) (by omega) (by omega) f0
  have b3 := pA_bound (p := v) (F := f) (by omega) (by omega) f0
  have fn := fq (f + 1) (by omega) (by omega)
  have haf := amounts4 hw hs hv f0 f1
  have han := amounts4 (F := f + 1) hw hs hv (by omega) (by omega)
  have ew : wrap64 (f + 1) = f + 1 := w64 (by omega) (by omega)
  have hmf : missOf (amounts w s v f) [g0, g1, g2, g3] < 0 := by rw [haf, miss4_neg]; exact fp'
  have hmn : ¬ missOf (amounts w s v (f + 1)) [g0, g1, g2, g3] < 0 := by
    unfold fits at fn
    exact of_decide_eq_false fn
  have et := impl_TakeFor_ev [g0, g1, g2, g3] w s v f (by simp)
  have en := impl_TakeFor_ev [g0, g1, g2, g3] w s v (f + 1) (by simp)
  have ht : takeSt [g0, g1, g2, g3] w s v f = ([g0 - f, g1 - pA w f, g2 - pA s f, g3 - pA v f], true) := by
    unfold takeSt
    rw [if_pos ⟨hst, by rw [haf]; simp, hmf⟩, haf]
    unfold subZ
    simp only [List.zipWith_cons_cons, List.zipWith_nil_left]
    rw [w64 (x := g0 - f) (by omega) (by omega), w64 (x := g1 - pA w f) (by omega) (by omega), w64 (x := g2 - pA s f) (by omega) (by omega), w64 (x := g3 - pA v f) (by omega) (by omega)]
  have hn2 : (takeSt [g0, g1, g2, g3] w s v (f + 1)).2 = false := by
    unfold takeSt
    rw [if_neg (fun q => hmn q.2.2)]
  rw [ht] at et
  refine Ev.bind emf ?_
  refine Ev.bind et ?_
  simp only [ew]
  refine Ev.bind en ?_
  simp only [if_neg (show ¬ f < 0 by omega), if_true, hn2, Bool.false_eq_true, if_false]
  have hs2 := store4 (g0 := g0 - f) (g1 := g1 - pA w f) (g2 := g2 - pA s f) (g3 := g3 - pA v f) (by omega) (by omega) (by omega) (by omega)
  simp only [impl_StoreOk_eq, hs2, Option.bind_some, if_true]
  have e1 := impl_FirstMissing_ev [g0, g1, g2, g3] w s v f (by simp)
  have e2 := impl_FirstMissing_ev [g0, g1, g2, g3] w s v (f + 1) (by simp)
  unfold firstMiss at e1 e2
  rw [if_pos hst] at e1 e2
  have em1 : missOf (amounts w s v f) [g0, g1, g2, g3] = -1 := by rw [haf] at hmf ⊢; exact miss4_one _ _ _ _ _ _ _ _ hmf
  refine Ev.bind e1 ?_
  simp only [em1, if_true]
  refine Ev.bind e2 ?_
  simp only [if_neg hmn]
  refine Ev.step (f := fun k => (spec_Amounts.f k w s v f).bind fun t641 => (laws_FnStocks.l0 k l f t641 0 [g0, g1, g2, g3] w s v [g0 - f, g1 - pA w f, g2 - pA s f, g3 - pA v f])) (fun k => ?_) ?_
  · simp only [laws_FnStocks.j0, List.length_cons, List.length_nil]
    rfl
  have eam := spec_Amounts_ev w s v f
  rw [haf] at eam
  refine Ev.bind eam ?_
  have hfin : Ev (fun k => laws_FnStocks.l0 k l f [f, pA w f, pA s f, pA v f] ((4 : Nat) : Int) [g0, g1, g2, g3] w s v [g0 - f, g1 - pA w f, g2 - pA s f, g3 - pA v f]) true := by
    have eG : wrap64 (y * 8) = 8 * y := by rw [w64 (by omega) (by omega)]; omega
    have haG := amounts4 (F := 8 * y) hw hs hv (by omega) (by omega)
    have c1 := pA_bound (p := w) (F := 8 * y) (by omega) (by omega) (by omega)
    have c2 := pA_bound (p := s) (F := 8 * y) (by omega) (by omega) (by omega)
    have c3 := pA_bound (p := v) (F := 8 * y) (by omega) (by omega) (by omega)
    have hmb : mustBuy [g0, g1, g2, g3] [(⟨w, s, v⟩ : S56)] [8 * y] = [mx 0 (8 * y - g0), mx 0 (pA w (8 * y) - g1), mx 0 (pA s (8 * y) - g2), mx 0 (pA v (8 * y) - g3)] := by
      unfold mustBuy
      rw [if_pos ⟨hst, by simp, rfl⟩]
      unfold needs
      simp only [haG]
      rw [if_neg (by simp)]
      unfold needs lackZ addZ
      simp only [List.replicate_succ, List.replicate_zero, List.zipWith_cons_cons, List.zipWith_nil_left, Int.zero_add]
      rw [w64 (x := 8 * y) (by omega) (by omega), w64 (x := pA w (8 * y)) (by omega) (by omega), w64 (x := pA s (8 * y)) (by omega) (by omega), w64 (x := pA v (8 * y)) (by omega) (by omega), w64 (x := 8 * y - g0) (by omega) (by omega), w64 (x := pA w (8 * y) - g1) (by omega) (by omega), w64 (x := pA s (8 * y) - g2) (by omega) (by omega), w64 (x := pA v (8 * y) - g3) (by omega) (by omega)]
    have emb := impl_MustBuy_ev [g0, g1, g2, g3] [(⟨w, s, v⟩ : S56)] [8 * y] (by simp)
    rw [hmb] at emb
    refine Ev.step (f := fun k => (impl_MustBuy.f k [g0, g1, g2, g3] [(⟨w, s, v⟩ : S56)] [8 * y]).bind fun t654 => (if (t654.length : Int) = 4 then (laws_FnStocks.l1 k f (8 * y) t654 true 0 [g0, g1, g2, g3] w s v [g0, g1, g2, g3]) else (some false))) (fun k => ?_) (Ev.bind emb ?_)
    · simp only [laws_FnStocks.l0]
      rw [if_neg (by omega), ey, Option.bind_some, eG]
    · refine Ev.congr (fun k => if_pos (by simp)) (stocks_end l g0 g1 g2 g3 w s v f (8 * y) a0 a1 a2 a3 hw hs hv (by omega) ?_)
      rw [decide_eq_decide]
      constructor
      · intro q
        exact (hfit (8 * y) (by omega) (by omega)).1 (hmono _ _ (by omega) q f1 fp)
      · intro q
        by_cases c : 8 * y ≤ f
        · exact c
        · have := fq (8 * y) (by omega) (by omega)
          rw [(hfit (8 * y) (by omega) (by omega)).2 q] at this
          cases this
  have key : ∀ j : Nat, j ≤ 4 → Ev (fun k => laws_FnStocks.l0 k l f [f, pA w f, pA s f, pA v f] (j : Int) [g0, g1, g2, g3] w s v [g0 - f, g1 - pA w f, g2 - pA s f, g3 - pA v f]) true := by
    refine down 4 hfin ?_
    intro j hj ih
    refine Ev.step (fun k => ?_) ih
    simp only [laws_FnStocks.l0]
    rw [if_pos (by omega), if_pos (by omega), if_pos (by simp; omega), if_pos (by simp; omega), if_pos (by simp; omega), wsucc j (by omega)]
    have hx : wrap64 (rd [g0 - f, g1 - pA w f, g2 - pA s f, g3 - pA v f] (j : Int) + rd [f, pA w f, pA s f, pA v f] (j : Int)) = rd [g0, g1, g2, g3] (j : Int) := by
      rcases idx4 hj with rfl | rfl | rfl | rfl
      · show wrap64 (g0 - f + f) = g0
        rw [w64 (by omega) (by omega)]; omega
      · show wrap64 (g1 - pA w f + pA w f) = g1
        rw [w64 (by omega) (by omega)]; omega
      · show wrap64 (g2 - pA s f + pA s f) = g2
        rw [w64 (by omega) (by omega)]; omega
      · show wrap64 (g3 - pA v f + pA v f) = g3
        rw [w64 (by omega) (by omega)]; omega
    rw [if_pos hx]
  exact key 0 (Nat.zero_le _)
end Go.Proofs.Ytnlioefgpgamdaa.Pure
