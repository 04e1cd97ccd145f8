/- What FnExactMustBuy computes answers as the law says: over numbers and lists alone; there are no conditions but those of the statement. -/
import Derived.Test.YtnlioefgpgamdaaQ0
import Derived.Test.YtnlioefgpgamdaaQ6
import Derived.Test.YtnlioefgpgamdaaQ8
import Derived.Test.YtnlioefgpgamdaaQ9
import Derived.Test.YtnlioefgpgamdaaQ16
import Derived.Test.YtnlioefgpgamdaaQ17
import Derived.Test.YtnlioefgpgamdaaQ18
import Derived.Test.YtnlioefgpgamdaaQ19
import Derived.Test.YtnlioefgpgamdaaQ34
import Derived.Test.YtnlioefgpgamdaaQ39
import Derived.Test.YtnlioefgpgamdaaQ42
import Derived.Test.YtnlioefgpgamdaaQ43
import Derived.Test.YtnlioefgpgamdaaQ44
import Derived.Test.YtnlioefgpgamdaaQ45
import Derived.Test.YtnlioefgpgamdaaQ46
namespace Go.Proofs.Ytnlioefgpgamdaa.Pure
open Go.RowKit Go.Proofs.Ytnlioefgpgamdaa.Q Go.Proofs.YtnlioefgpgamdaaW.PrintWords Go.Proofs.YtnlioefgpgamdaaW.PrintLast Go.Proofs.YtnlioefgpgamdaaW.PrintMore
set_option linter.unusedVariables false
set_option linter.unusedSimpArgs false
theorem w64 {x : Int} (h0 : -9223372036854775808 ≤ x) (h1 : x ≤ 9223372036854775807) : wrap64 x = x := by
  unfold wrap64
  omega
theorem down {Q : Nat → Prop} (n : Nat) (fin : Q n) (step : ∀ j, j < n → Q (j + 1) → Q j) : ∀ j, j ≤ n → Q j := by
  intro j hj
  obtain ⟨d, hd⟩ : ∃ d, j + d = n := ⟨n - j, by omega⟩
  clear hj
  induction d generalizing j with
  | zero => have : j = n := by omega
            rw [this]; exact fin
  | succ d ih => exact step j (by omega) (ih (j + 1) (by omega))
theorem wsucc (j : Nat) (h : j < 9223372036854775807) : wrap64 ((j : Int) + 1) = ((j + 1 : Nat) : Int) := by
  rw [w64 (by omega) (by omega)]; omega
theorem rd_nat (l : List Int) (j : Nat) (h : j < l.length) : rd l (j : Int) = l[j] := by
  unfold rd; rw [Int.toNat_natCast, List.getD_eq_getElem?_getD, List.getElem?_eq_getElem h]; rfl
theorem rd_lit (l : List Int) (i : Int) : rd l i = l.getD i.toNat 0 := rfl
theorem all_drop_cons {α : Type} (p : α → Bool) (l : List α) (j : Nat) (h : j < l.length) : (l.drop j).all p = (p l[j] && (l.drop (j + 1)).all p) := by
  rw [List.drop_eq_getElem_cons h, List.all_cons]
theorem all_drop_len {α : Type} (p : α → Bool) (l : List α) : (l.drop l.length).all p = true := by simp
theorem ev_some {α : Type} (r : α) : Ev (fun _ => some r) r := Ev.now r
theorem ev_pt {α : Type} {g : Option α} {r : α} (h : g = some r) : Ev (fun _ => g) r := ⟨0, fun _ _ => h⟩
theorem ev_eq {α : Type} {g : Nat → Option α} {r r' : α} (h : Ev g r) (e : r = r') : Ev g r' := e ▸ h
theorem set_take_drop {α : Type} (l : List α) (j : Nat) (hj : j < l.length) (z : List α) (hz : z.length = l.length) : (l.take j ++ z.drop j).set j l[j] = l.take (j + 1) ++ z.drop (j + 1) := by
  have h1 : (l.take j).length = j := by rw [List.length_take]; omega
  rw [List.set_append_right _ _ (by omega), h1, Nat.sub_self, List.drop_eq_getElem_cons (by omega : j < z.length), List.set_cons_zero, List.take_succ_eq_append_getElem hj, List.append_assoc]
  rfl
def subZ (l a : List Int) : List Int := List.zipWith (fun x y => wrap64 (x - y)) l a
def addZ (l a : List Int) : List Int := List.zipWith (fun x y => wrap64 (x + y)) l a
theorem rd_td (z l : List Int) (j : Nat) (hj : j < l.length) (hz : z.length = l.length) : rd (z.take j ++ l.drop j) (j : Int) = l[j] := by
  unfold rd
  rw [Int.toNat_natCast, List.getD_eq_getElem?_getD, List.getElem?_append_right (by rw [List.length_take]; omega), List.length_take, show j - min j z.length = 0 by omega, List.getElem?_drop]
  rw [Nat.add_zero, List.getElem?_eq_getElem hj]; rfl
theorem td_length (z l : List Int) (j : Nat) (hj : j ≤ l.length) (hz : z.length = l.length) : (z.take j ++ l.drop j).length = l.length := by simp; omega
theorem zip_len (f : Int → Int → Int) (l a : List Int) (h : l.length = a.length) : (List.zipWith f l a).length = l.length := by simp; omega
theorem zip_get (f : Int → Int → Int) (l a : List Int) (j : Nat) (hj : j < l.length) (ha : j < a.length) : (List.zipWith f l a)[j]'(by simp; omega) = f l[j] a[j] := by simp
theorem zip_set (f : Int → Int → Int) (l a : List Int) (j : Nat) (h : l.length = a.length) (hj : j < l.length) (x : Int) (hx : x = f l[j] (a[j]'(by omega))) : ((List.zipWith f l a).take j ++ l.drop j).set j x = (List.zipWith f l a).take (j + 1) ++ l.drop (j + 1) := by
  have hz := zip_len f l a h
  have := set_take_drop (List.zipWith f l a) j (by omega) l hz.symm
  rw [zip_get f l a j hj (by omega)] at this
  rw [hx]; exact this
theorem td_end (z l : List Int) (n : Nat) (hz : z.length = n) (hl : l.length = n) : z.take n ++ l.drop n = z := by
  rw [List.drop_of_length_le (by omega), List.take_of_length_le (by omega), List.append_nil]
def inR (lo hi n : Int) : Bool := decide (lo ≤ n ∧ n ≤ hi)
theorem l01In_eq (a b c : Int) : spec_l01In.f a b c = some (inR b c a) := by
  unfold spec_l01In.f inR
  by_cases h : b ≤ a
  · rw [if_pos h]; simp [h]
  · rw [if_neg h]; simp [h]
theorem allIn_eq (l : List Int) (a b : Int) : impl_allIn.f l a b = some (l.all (inR a b)) := rfl
theorem inR_iff {lo hi n : Int} : inR lo hi n = true ↔ lo ≤ n ∧ n ≤ hi := by unfold inR; simp
def storeOk (l : List Int) : Bool := (l.length == 4) && l.all (inR 0 1000000)
theorem impl_StoreOk_eq (l : List Int) : impl_StoreOk.f l = some (storeOk l) := by
  unfold impl_StoreOk.f storeOk
  rw [allIn_eq, Option.bind_some]
  by_cases h : l.length = 4
  · rw [if_pos (by omega)]; simp [h]
  · rw [if_neg (by omega)]; simp [h]
theorem spec_StoreOk_ev (l : List Int) (hl : l.length ≤ 1048576) : Ev (fun k => spec_StoreOk.f k l) (storeOk l) := by
  unfold spec_StoreOk.f
  have key : ∀ j, j ≤ l.length → Ev (fun k => spec_StoreOk.l0 k (j : Int) l) ((l.length == 4) && (l.drop j).all (inR 0 1000000)) := by
    refine down l.length ?_ ?_
    · refine Ev.step (f := fun _ => _) (fun k => ?_) (ev_some _)
      simp only [spec_StoreOk.l0]
      rw [if_neg (by omega)]
      simp only [List.drop_length, List.all_nil, Bool.and_true]
      have e : ((l.length : Int) == 4) = (l.length == 4) := by rw [Bool.eq_iff_iff, beq_iff_eq, beq_iff_eq]; omega
      rw [e]
    · intro j hj ih
      rw [all_drop_cons _ l j hj]
      cases hq : inR 0 1000000 l[j] with
      | true =>
        rw [Bool.true_and]
        refine Ev.step (fun k => ?_) ih
        simp only [spec_StoreOk.l0]
        rw [if_pos (by omega), if_pos (by omega), rd_nat l j hj, l01In_eq, hq, Option.bind_some, if_pos rfl, wsucc j (by omega)]
      | false =>
        rw [Bool.false_and, Bool.and_false]
        refine Ev.step (f := fun _ => some false) (fun k => ?_) (Ev.now _)
        simp only [spec_StoreOk.l0]
        rw [if_pos (by omega), if_pos (by omega), rd_nat l j hj, l01In_eq, hq, Option.bind_some, if_neg (by decide)]
  have := key 0 (Nat.zero_le _)
  simpa [storeOk] using this
theorem storeOk_parts {l : List Int} (h : storeOk l = true) : l.length = 4 ∧ ∀ (j : Nat) (hj : j < l.length), 0 ≤ l[j] ∧ l[j] ≤ 1000000 := by
  unfold storeOk at h
  simp only [Bool.and_eq_true, beq_iff_eq, List.all_eq_true] at h
  exact ⟨h.1, fun j hj => inR_iff.1 (h.2 _ (List.getElem_mem hj))⟩
theorem in_eq (a b c : Int) : impl_in.f a b c = some (inR b c a) := by
  unfold impl_in.f inR
  by_cases h : b ≤ a
  · rw [if_pos h]; simp [h]
  · rw [if_neg h]; simp [h]
def doughOk (w s l : Int) : Bool := inR 300 1200 w && (inR 0 50 s && inR 0 500 l)
theorem spec_DoughOk_eq (w s l : Int) : spec_DoughOk.f w s l = some (doughOk w s l) := by
  unfold spec_DoughOk.f doughOk
  simp only [l01In_eq, Option.bind_some]
  cases inR 300 1200 w <;> cases inR 0 50 s <;> cases inR 0 500 l <;> simp
theorem impl_DoughOk_eq (w s l : Int) : impl_DoughOk.f w s l = some (doughOk w s l) := by
  unfold impl_DoughOk.f doughOk
  simp only [in_eq, Option.bind_some]
  cases inR 300 1200 w <;> cases inR 0 50 s <;> cases inR 0 500 l <;> simp
def partOf (f p : Int) : Int := if inR 0 1000000 f = true ∧ inR 0 2000 p = true then Int.tdiv (f * p + 500) 1000 else -1
theorem part_wrap {f p : Int} (h : inR 0 1000000 f = true) (h2 : inR 0 2000 p = true) : wrap64 (Int.tdiv (wrap64 ((wrap64 (f * p)) + 500)) 1000) = Int.tdiv (f * p + 500) 1000 := by
  have a := inR_iff.1 h
  have b := inR_iff.1 h2
  have h0 : 0 ≤ f * p := Int.mul_nonneg a.1 b.1
  have h1 : f * p ≤ 1000000 * 2000 := Int.mul_le_mul a.2 b.2 b.1 (by omega)
  rw [w64 (x := f * p) (by omega) (by omega), w64 (x := f * p + 500) (by omega) (by omega), Int.tdiv_eq_ediv_of_nonneg (by omega), w64 (by omega) (by omega)]
theorem spec_PartOf_eq (f p : Int) : spec_PartOf.f f p = some (partOf f p) := by
  unfold spec_PartOf.f partOf
  simp only [l01In_eq, Option.bind_some]
  cases h : inR 0 1000000 f <;> cases h2 : inR 0 2000 p
  case true.true => rw [part_wrap h h2]; simp
  all_goals simp
theorem impl_PartOf_eq (f p : Int) : impl_PartOf.f f p = some (partOf f p) := by
  unfold impl_PartOf.f partOf
  simp only [in_eq, Option.bind_some]
  cases h : inR 0 1000000 f <;> cases h2 : inR 0 2000 p
  case true.true => rw [part_wrap h h2]; simp
  all_goals simp
def amounts (w s l f : Int) : List Int := if doughOk w s l = true ∧ inR 0 1000000 f = true then [f, partOf f w, partOf f s, partOf f l] else []
theorem amounts_length (w s l f : Int) : (amounts w s l f).length ≤ 4 := by unfold amounts; split <;> simp
theorem spec_Amounts_ev (w s l f : Int) : Ev (fun k => spec_Amounts.f k w s l f) (amounts w s l f) := by
  unfold spec_Amounts.f amounts
  simp only [spec_DoughOk_eq, l01In_eq, Option.bind_some]
  cases h : doughOk w s l <;> cases h2 : inR 0 1000000 f
  case true.true =>
    refine Ev.step (f := fun _ => _) (fun k => ?_) (ev_some _)
    simp only [spec_Amounts.j0, spec_PartOf_eq, Option.bind_some]
    simp
  all_goals
    simp only [if_true, Bool.false_eq_true, if_false, Bool.not_false, false_and, and_false]
    refine Ev.step (f := fun _ => some []) (fun k => ?_) (Ev.now _)
    simp [spec_Amounts.j0]
theorem impl_Amounts_ev (w s l f : Int) : Ev (fun k => impl_Amounts.f k w s l f) (amounts w s l f) := by
  unfold impl_Amounts.f amounts
  simp only [impl_DoughOk_eq, in_eq, Option.bind_some]
  cases h : doughOk w s l <;> cases h2 : inR 0 1000000 f
  case true.true =>
    refine Ev.step (f := fun _ => _) (fun k => ?_) (ev_some _)
    simp only [impl_Amounts.j0, impl_PartOf_eq, Option.bind_some]
    simp
  all_goals
    simp only [if_true, Bool.false_eq_true, if_false, Bool.not_false, false_and, and_false]
    refine Ev.step (f := fun _ => some []) (fun k => ?_) (Ev.now _)
    simp [impl_Amounts.j0]
theorem rdDough_nat (l : List S56) (j : Nat) (h : j < l.length) : rd_T56 l (j : Int) = l[j] := by
  unfold rd_T56; rw [Int.toNat_natCast, List.getD_eq_getElem?_getD, List.getElem?_eq_getElem h]; rfl
theorem rdDough_set (l : List S56) (j : Nat) (e : S56) (h : j < l.length) : rd_T56 (l.set j e) (j : Int) = e := by
  rw [rdDough_nat _ j (by simpa using h)]; simp
def lackZ (l g : List Int) : List Int := List.zipWith (fun x y => mx 0 (wrap64 (x - y))) l g
def needs (g : List Int) : List S56 → List Int → List Int → List Int
  | d :: ds, f :: fs, acc => if amounts d.f0 d.f1 d.f2 f = [] then [] else needs g ds fs (addZ acc (amounts d.f0 d.f1 d.f2 f))
  | _, _, acc => lackZ acc g
def mustBuy (g : List Int) (ds : List S56) (fs : List Int) : List Int := if storeOk g = true ∧ ds.length ≤ 10 ∧ fs.length = ds.length then needs g ds fs (List.replicate 4 0) else []
theorem mx_comm (a b : Int) : mx a b = mx b a := by unfold mx; split <;> split <;> omega
theorem amounts_4 {w s v f : Int} (h : amounts w s v f ≠ []) : (amounts w s v f).length = 4 := by
  unfold amounts at h ⊢
  split
  · rfl
  · rename_i q; rw [if_neg q] at h; exact absurd rfl h
theorem needs_len (g : List Int) (hg : g.length = 4) : ∀ (ds : List S56) (fs acc : List Int), acc.length = 4 → (needs g ds fs acc).length ≤ 4
  | [], fs, acc, h => by unfold needs lackZ; rw [zip_len _ _ _ (by omega)]; omega
  | d :: ds, [], acc, h => by unfold needs lackZ; rw [zip_len _ _ _ (by omega)]; omega
  | d :: ds, f :: fs, acc, h => by
    unfold needs
    split
    · simp
    · rename_i q
      exact needs_len g hg ds fs _ (by unfold addZ; rw [zip_len _ _ _ (by rw [amounts_4 q]; exact h)]; exact h)
theorem mustBuy_len (g : List Int) (ds : List S56) (fs : List Int) : (mustBuy g ds fs).length ≤ 4 := by
  unfold mustBuy
  split
  · rename_i q; exact needs_len g (storeOk_parts q.1).1 ds fs _ (by simp)
  · simp
theorem spec_MustBuy_ev (g : List Int) (ds : List S56) (fs : List Int) (hg : g.length ≤ 1048576) : Ev (fun k => spec_MustBuy.f k g ds fs) (mustBuy g ds fs) := by
  unfold spec_MustBuy.f mustBuy
  refine Ev.bind (spec_StoreOk_ev g hg) ?_
  have bad : Ev (fun k => spec_MustBuy.j0 k ds fs true g) [] := by
    refine Ev.step (f := fun _ => some []) (fun k => ?_) (Ev.now _)
    simp only [spec_MustBuy.j0, if_true]
  by_cases h1 : storeOk g = true
  case neg =>
    simp only [if_neg h1]
    rw [if_neg (fun q => h1 q.1)]; exact bad
  simp only [if_pos h1]
  by_cases h2 : ds.length ≤ 10
  case neg =>
    simp only [if_pos (show (ds.length : Int) > 10 by omega)]
    rw [if_neg (fun q => h2 q.2.1)]; exact bad
  simp only [if_neg (show ¬ (ds.length : Int) > 10 by omega)]
  by_cases h3 : fs.length = ds.length
  case neg =>
    rw [if_neg (fun q => h3 q.2.2), show ((fs.length : Int) != (ds.length : Int)) = true from bne_iff_ne.2 (by omega)]; exact bad
  rw [if_pos ⟨h1, h2, h3⟩, show ((fs.length : Int) != (ds.length : Int)) = false by rw [h3]; exact bne_self_eq_false _]
  have hg4 := (storeOk_parts h1).1
  refine Ev.step (f := fun k => spec_MustBuy.l0 k ds fs (List.replicate 4 0) 0 g) (fun k => ?_) ?_
  · simp only [spec_MustBuy.j0, Bool.false_eq_true, if_false]
    rw [if_pos (by decide)]
  have key : ∀ j, j ≤ ds.length → ∀ acc : List Int, acc.length = 4 → Ev (fun k => spec_MustBuy.l0 k ds fs acc (j : Int) g) (needs g (ds.drop j) (fs.drop j) acc) := by
    refine down ds.length ?_ ?_
    · intro acc ha
      rw [List.drop_of_length_le (Nat.le_refl _)]
      unfold needs
      have hz : (lackZ acc g).length = 4 := by unfold lackZ; rw [zip_len _ _ _ (by omega)]; exact ha
      refine Ev.step (f := fun k => spec_MustBuy.l2 k acc 0 g) (fun k => ?_) ?_
      · simp only [spec_MustBuy.l0]
        rw [if_neg (by omega)]
      have fin : ∀ i, i ≤ 4 → Ev (fun k => spec_MustBuy.l2 k ((lackZ acc g).take i ++ acc.drop i) (i : Int) g) (lackZ acc g) := by
        refine down 4 ?_ ?_
        · rw [td_end _ _ 4 hz ha]
          refine Ev.step (f := fun _ => some (lackZ acc g)) (fun k => ?_) (Ev.now _)
          simp only [spec_MustBuy.l2]
          rw [if_neg (by omega)]
        · intro i hi ih
          refine Ev.step (fun k => ?_) ih
          simp only [spec_MustBuy.l2]
          rw [td_length _ _ i (by omega) (by omega), if_pos (by omega), if_pos (by omega), if_pos (by omega), if_pos (by omega), Int.toNat_natCast, rd_td _ acc i (by omega) (by omega), rd_nat g i (by omega), wsucc i (by omega)]
          unfold lackZ
          rw [zip_set _ acc g i (by omega) (by omega) _ rfl]
      exact fin 0 (Nat.zero_le _)
    · intro j hj ih acc ha
      rw [List.drop_eq_getElem_cons hj, List.drop_eq_getElem_cons (show j < fs.length by omega)]
      unfold needs
      refine Ev.step (f := fun k => (spec_Amounts.f k ds[j].f0 ds[j].f1 ds[j].f2 (fs[j]'(by omega))).bind fun t824 => (if (t824.length : Int) = 0 then (some (([] : List Int))) else (spec_MustBuy.l1 k ds fs acc (j : Int) t824 0 g))) (fun k => ?_) (Ev.bind (spec_Amounts_ev _ _ _ _) ?_)
      · simp only [spec_MustBuy.l0]
        rw [if_pos (by omega), if_pos (by omega), if_pos (by omega), rdDough_nat ds j hj, rd_nat fs j (by omega)]
      by_cases h5 : amounts ds[j].f0 ds[j].f1 ds[j].f2 (fs[j]'(by omega)) = []
      · rw [if_pos h5]
        simp only [h5, List.length_nil, Int.natCast_zero, if_true]
        exact Ev.now _
      · rw [if_neg h5]
        have h6 := amounts_4 h5
        simp only [if_neg (show ¬ ((amounts ds[j].f0 ds[j].f1 ds[j].f2 (fs[j]'(by omega))).length : Int) = 0 by omega)]
        generalize amounts ds[j].f0 ds[j].f1 ds[j].f2 (fs[j]'(by omega)) = a at h6 ⊢
        have hz : (addZ acc a).length = 4 := by unfold addZ; rw [zip_len _ _ _ (by omega)]; exact ha
        have row : ∀ i, i ≤ 4 → Ev (fun k => spec_MustBuy.l1 k ds fs ((addZ acc a).take i ++ acc.drop i) (j : Int) a (i : Int) g) (needs g (ds.drop (j + 1)) (fs.drop (j + 1)) (addZ acc a)) := by
          refine down 4 ?_ ?_
          · rw [td_end _ _ 4 hz ha]
            refine Ev.step (fun k => ?_) (ih (addZ acc a) hz)
            simp only [spec_MustBuy.l1]
            rw [if_neg (by omega), wsucc j (by omega)]
          · intro i hi ih2
            refine Ev.step (fun k => ?_) ih2
            simp only [spec_MustBuy.l1]
            rw [td_length _ _ i (by omega) (by omega), if_pos (by omega), if_pos (by omega), if_pos (by omega), if_pos (by omega), Int.toNat_natCast, rd_td _ acc i (by omega) (by omega), rd_nat a i (by omega), wsucc i (by omega)]
            unfold addZ
            rw [zip_set _ acc a i (by omega) (by omega) _ rfl]
        exact row 0 (Nat.zero_le _)
  exact key 0 (Nat.zero_le _) (List.replicate 4 0) List.length_replicate
theorem impl_MustBuy_ev (g : List Int) (ds : List S56) (fs : List Int) (hg : g.length ≤ 1048576) : Ev (fun k => impl_MustBuy.f k g ds fs) (mustBuy g ds fs) := by
  unfold impl_MustBuy.f mustBuy
  simp only [impl_StoreOk_eq, Option.bind_some]
  have bad : Ev (fun k => impl_MustBuy.j0 k ds fs true g) [] := by
    refine Ev.step (f := fun _ => some []) (fun k => ?_) (Ev.now _)
    simp only [impl_MustBuy.j0, if_true]
  by_cases h1 : storeOk g = true
  case neg =>
    simp only [if_neg h1]
    rw [if_neg (fun q => h1 q.1)]; exact bad
  simp only [if_pos h1]
  by_cases h2 : ds.length ≤ 10
  case neg =>
    simp only [if_pos (show (ds.length : Int) > 10 by omega)]
    rw [if_neg (fun q => h2 q.2.1)]; exact bad
  simp only [if_neg (show ¬ (ds.length : Int) > 10 by omega)]
  by_cases h3 : fs.length = ds.length
  case neg =>
    rw [if_neg (fun q => h3 q.2.2), show ((fs.length : Int) != (ds.length : Int)) = true from bne_iff_ne.2 (by omega)]; exact bad
  rw [if_pos ⟨h1, h2, h3⟩, show ((fs.length : Int) != (ds.length : Int)) = false by rw [h3]; exact bne_self_eq_false _]
  have hg4 := (storeOk_parts h1).1
  refine Ev.step (f := fun k => impl_MustBuy.l0 k fs (List.replicate 4 0) ds (ds.length : Int) 0 g) (fun k => ?_) ?_
  · simp only [impl_MustBuy.j0, Bool.false_eq_true, if_false]
    rw [if_pos (by decide)]
  have key : ∀ j, j ≤ ds.length → ∀ acc : List Int, acc.length = 4 → Ev (fun k => impl_MustBuy.l0 k fs acc ds (ds.length : Int) (j : Int) g) (needs g (ds.drop j) (fs.drop j) acc) := by
    refine down ds.length ?_ ?_
    · intro acc ha
      rw [List.drop_of_length_le (Nat.le_refl _)]
      unfold needs
      have hz : (lackZ acc g).length = 4 := by unfold lackZ; rw [zip_len _ _ _ (by omega)]; exact ha
      refine Ev.step (f := fun k => impl_MustBuy.l2 k acc g (g.length : Int) 0) (fun k => ?_) ?_
      · simp only [impl_MustBuy.l0]
        rw [if_neg (by omega)]
      have fin : ∀ i, i ≤ 4 → Ev (fun k => impl_MustBuy.l2 k ((lackZ acc g).take i ++ acc.drop i) g (g.length : Int) (i : Int)) (lackZ acc g) := by
        refine down 4 ?_ ?_
        · rw [td_end _ _ 4 hz ha]
          refine Ev.step (f := fun _ => some (lackZ acc g)) (fun k => ?_) (Ev.now _)
          simp only [impl_MustBuy.l2]
          rw [if_neg (by omega)]
        · intro i hi ih
          refine Ev.step (fun k => ?_) ih
          simp only [impl_MustBuy.l2]
          rw [td_length _ _ i (by omega) (by omega), if_pos (by omega), if_pos (by omega), if_pos (by omega), if_pos (by omega), Int.toNat_natCast, rd_td _ acc i (by omega) (by omega), rd_nat g i (by omega), mx_comm, wsucc i (by omega)]
          unfold lackZ
          rw [zip_set _ acc g i (by omega) (by omega) _ rfl]
      exact fin 0 (Nat.zero_le _)
    · intro j hj ih acc ha
      rw [List.drop_eq_getElem_cons hj, List.drop_eq_getElem_cons (show j < fs.length by omega)]
      unfold needs
      refine Ev.step (f := fun k => (impl_Amounts.f k ds[j].f0 ds[j].f1 ds[j].f2 (fs[j]'(by omega))).bind fun t594 => (if (nilB t594) = true then (some ([] : List Int)) else (impl_MustBuy.l1 k fs acc ds (ds.length : Int) (j : Int) t594 (t594.length : Int) 0 g))) (fun k => ?_) (Ev.bind (impl_Amounts_ev _ _ _ _) ?_)
      · simp only [impl_MustBuy.l0]
        rw [if_pos (by omega), if_pos (by omega), if_pos (by omega), if_pos (by omega), rdDough_nat ds j hj, rd_nat fs j (by omega)]
      by_cases h5 : amounts ds[j].f0 ds[j].f1 ds[j].f2 (fs[j]'(by omega)) = []
      · rw [if_pos h5]
        simp only [h5, nilB, List.isEmpty_nil, if_true]
        exact Ev.now _
      · rw [if_neg h5]
        have h6 := amounts_4 h5
        have hn : ¬ nilB (amounts ds[j].f0 ds[j].f1 ds[j].f2 (fs[j]'(by omega))) = true := by
          unfold nilB
          rw [List.isEmpty_iff]; exact h5
        simp only [if_neg hn]
        clear hn
        generalize amounts ds[j].f0 ds[j].f1 ds[j].f2 (fs[j]'(by omega)) = a at h6 ⊢
        have hz : (addZ acc a).length = 4 := by unfold addZ; rw [zip_len _ _ _ (by omega)]; exact ha
        have row : ∀ i, i ≤ 4 → Ev (fun k => impl_MustBuy.l1 k fs ((addZ acc a).take i ++ acc.drop i) ds (ds.length : Int) (j : Int) a (a.length : Int) (i : Int) g) (needs g (ds.drop (j + 1)) (fs.drop (j + 1)) (addZ acc a)) := by
          refine down 4 ?_ ?_
          · rw [td_end _ _ 4 hz ha]
            refine Ev.step (fun k => ?_) (ih (addZ acc a) hz)
            simp only [impl_MustBuy.l1]
            rw [if_neg (by omega), wsucc j (by omega)]
          · intro i hi ih2
            refine Ev.step (fun k => ?_) ih2
            simp only [impl_MustBuy.l1]
            rw [td_length _ _ i (by omega) (by omega), if_pos (by omega), if_pos (by omega), if_pos (by omega), if_pos (by omega), Int.toNat_natCast, rd_td _ acc i (by omega) (by omega), rd_nat a i (by omega), wsucc i (by omega)]
            unfold addZ
            rw [zip_set _ acc a i (by omega) (by omega) _ rfl]
        exact row 0 (Nat.zero_le _)
  exact key 0 (Nat.zero_le _) (List.replicate 4 0) List.length_replicate
theorem szIntS_eq (l : List Int) (a : Int) (h0 : -1 ≤ a) (h1 : a ≤ 1048576) (hl : l.length ≤ 9223372036854775807) : laws_szIntS.f l a = some (if a < l.length then -1 else a - l.length) := by
  unfold laws_szIntS.f
  rw [w64 (by omega) (by omega)]
  by_cases h : a < l.length
  · rw [if_pos (by omega), if_pos h]
  · rw [if_neg (by omega), if_neg h]
theorem toIntS_ev (l : List Int) (hl : l.length ≤ 1048576) : Ev (fun k => laws_toIntS.f k l) l := by
  unfold laws_toIntS.f
  simp only [if_pos (show (0 : Int) ≤ (l.length : Int) by omega), if_pos (show ((l.length : Int)).toNat ≤ 35184372088832 by omega)]
  have key : ∀ j, j ≤ l.length → Ev (fun k => laws_toIntS.l0 k l (l.take j ++ (List.replicate l.length 0).drop j) (j : Int)) l := by
    refine down l.length ?_ ?_
    · refine Ev.step (f := fun _ => some l) (fun k => ?_) (Ev.now _)
      simp only [laws_toIntS.l0]
      rw [if_neg (by omega)]; simp
    · intro j hj ih
      refine Ev.step (fun k => ?_) ih
      simp only [laws_toIntS.l0]
      rw [if_pos (by omega), if_pos (by omega), if_pos (by simp; omega), wsucc j (by omega), rd_nat l j hj, Int.toNat_natCast, set_take_drop l j hj _ (by simp)]
  have := key 0 (Nat.zero_le _)
  simpa using this
theorem eqIntS_refl (l : List Int) (hl : l.length ≤ 9223372036854775807) : Ev (fun k => laws_eqIntS.f k l l) true := by
  unfold laws_eqIntS.f
  simp only [if_true]
  have key : ∀ j, j ≤ l.length → Ev (fun k => laws_eqIntS.l0 k l l (j : Int)) true := by
    refine down l.length ?_ ?_
    · refine Ev.step (f := fun _ => some true) (fun k => ?_) (Ev.now _)
      simp only [laws_eqIntS.l0]
      rw [if_neg (by omega)]
    · intro j hj ih
      refine Ev.step (fun k => ?_) ih
      simp only [laws_eqIntS.l0]
      rw [if_pos (by omega), if_pos (by omega), if_pos (by omega), if_true, wsucc j (by omega)]
  exact key 0 (Nat.zero_le _)
theorem szStock_eq (l : List Int) (a : Int) (h0 : -1 ≤ a) (h1 : a ≤ 1048576) (hl : l.length ≤ 9223372036854775807) : laws_szStock.f l a = some (if a < l.length then -1 else a - l.length) := by
  unfold laws_szStock.f
  rw [szIntS_eq l a h0 h1 hl, Option.bind_some]
  by_cases h : a < l.length
  · rw [if_pos h]; simp
  · rw [if_neg h, if_neg (by omega)]
theorem toStock_ev (l : List Int) (hl : l.length ≤ 1048576) : Ev (fun k => laws_toStock.f k l) l := by
  unfold laws_toStock.f
  exact Ev.bind (toIntS_ev l hl) (Ev.now _)
theorem eqStock_refl (l : List Int) (hl : l.length ≤ 9223372036854775807) : Ev (fun k => laws_eqStock.f k l l) true := by
  unfold laws_eqStock.f
  refine Ev.bind (eqIntS_refl l hl) ?_
  simp only [if_true]
  exact Ev.now _
def marks (n : Nat) (m : Int) : List Int := (List.range n).map fun (i : Nat) => m + (i : Int)
theorem marks_length (n : Nat) (m : Int) : (marks n m).length = n := by simp [marks]
theorem marks_get (n : Nat) (m : Int) (j : Nat) (h : j < n) : (marks n m)[j]'(by rw [marks_length]; exact h) = m + (j : Int) := by simp [marks]
theorem markIntS_ev (l : List Int) (m : Int) (hm0 : 0 ≤ m) (hm1 : m ≤ 1099511627776) (hl : l.length ≤ 1073741824) : Ev (fun k => laws_markIntS.f k l m) (m + l.length, marks l.length m) := by
  unfold laws_markIntS.f
  have key : ∀ j, j ≤ l.length → Ev (fun k => laws_markIntS.l0 k ((marks l.length m).take j ++ l.drop j) (m + (j : Int)) (j : Int)) (m + (l.length : Int), marks l.length m) := by
    refine down l.length ?_ ?_
    · refine Ev.step (f := fun _ => some (m + (l.length : Int), marks l.length m)) (fun k => ?_) (Ev.now _)
      simp only [laws_markIntS.l0]
      rw [if_neg (by simp [marks_length])]
      simp [List.take_of_length_le (Nat.le_of_eq (marks_length l.length m))]
    · intro j hj ih
      refine Ev.step (fun k => ?_) ih
      simp only [laws_markIntS.l0]
      have e1 : ((marks l.length m).take j ++ l.drop j).length = l.length := by simp [marks_length]; omega
      rw [e1, if_pos (by omega), if_pos (by omega), wsucc j (by omega), w64 (by omega) (by omega), Int.toNat_natCast]
      have e2 : ((marks l.length m).take j ++ l.drop j).set j (m + (j : Int)) = (marks l.length m).take (j + 1) ++ l.drop (j + 1) := by
        have := set_take_drop (marks l.length m) j (by rw [marks_length]; exact hj) l (marks_length _ _).symm
        rw [marks_get _ _ _ hj] at this
        exact this
      rw [e2]
      congr 1
      omega
  have := key 0 (Nat.zero_le _)
  simpa using this
theorem heldIntS_ev (n : Nat) (m : Int) (hm0 : 0 ≤ m) (hm1 : m ≤ 1099511627776) (hl : n ≤ 1073741824) : Ev (fun k => laws_heldIntS.f k (marks n m) m) (m + n) := by
  unfold laws_heldIntS.f
  have key : ∀ j, j ≤ n → Ev (fun k => laws_heldIntS.l0 k (marks n m) (m + (j : Int)) (j : Int)) (m + (n : Int)) := by
    refine down n ?_ ?_
    · refine Ev.step (f := fun _ => some (m + (n : Int))) (fun k => ?_) (Ev.now _)
      simp only [laws_heldIntS.l0]
      rw [if_neg (by rw [marks_length]; omega)]
    · intro j hj ih
      refine Ev.step (fun k => ?_) ih
      simp only [laws_heldIntS.l0]
      rw [marks_length, if_pos (by omega), if_pos (by omega), rd_nat _ j (by rw [marks_length]; exact hj), marks_get _ _ _ hj, if_pos rfl, wsucc j (by omega), w64 (by omega) (by omega)]
      congr 1
      omega
  have := key 0 (Nat.zero_le _)
  simpa using this
theorem markStock_ev (l : List Int) (m : Int) (hm0 : 0 ≤ m) (hm1 : m ≤ 1099511627776) (hl : l.length ≤ 1073741824) : Ev (fun k => laws_markStock.f k l m) (m + l.length, marks l.length m) := by
  unfold laws_markStock.f
  exact Ev.bind (markIntS_ev l m hm0 hm1 hl) (Ev.now _)
theorem heldStock_ev (n : Nat) (m : Int) (hm0 : 0 ≤ m) (hm1 : m ≤ 1099511627776) (hl : n ≤ 1073741824) : Ev (fun k => laws_heldStock.f k (marks n m) m) (m + n) := by
  unfold laws_heldStock.f
  refine Ev.bind (heldIntS_ev n m hm0 hm1 hl) ?_
  simp only [if_neg (show ¬ (m + (n : Int) < 0) by omega)]
  exact Ev.now _
theorem szDoughS_eq (l : List S51) (a : Int) (h0 : -1 ≤ a) (h1 : a ≤ 1048576) (hl : l.length ≤ 9223372036854775807) : laws_szDoughS.f l a = some (if a < l.length then -1 else a - l.length) := by
  unfold laws_szDoughS.f
  rw [w64 (by omega) (by omega)]
  by_cases h : a < l.length
  · rw [if_pos (by omega), if_pos h]
  · rw [if_neg (by omega), if_neg h]
theorem rdLDough_nat (l : List S51) (j : Nat) (h : j < l.length) : rd_T51 l (j : Int) = l[j] := by
  unfold rd_T51; rw [Int.toNat_natCast, List.getD_eq_getElem?_getD, List.getElem?_eq_getElem h]; rfl
def cvDough (l : List S51) : List S56 := l.map fun x => ⟨x.f0, x.f1, x.f2⟩
theorem cvDough_length (l : List S51) : (cvDough l).length = l.length := by simp [cvDough]
theorem cvDough_get (l : List S51) (j : Nat) (h : j < l.length) : (cvDough l)[j]'(by rw [cvDough_length]; exact h) = ⟨l[j].f0, l[j].f1, l[j].f2⟩ := by simp [cvDough]
theorem toDoughS_ev (l : List S51) (hl : l.length ≤ 1048576) : Ev (fun k => laws_toDoughS.f k l) (cvDough l) := by
  refine Ev.congr (f := fun k => laws_toDoughS.l0 k l (List.replicate l.length z56) 0) (fun k => by unfold laws_toDoughS.f; rw [if_pos (by omega), if_pos (by omega), Int.toNat_natCast]) ?_
  have key : ∀ j, j ≤ l.length → Ev (fun k => laws_toDoughS.l0 k l ((cvDough l).take j ++ (List.replicate l.length z56).drop j) (j : Int)) (cvDough l) := by
    refine down l.length ?_ ?_
    · refine Ev.step (f := fun _ => some (cvDough l)) (fun k => ?_) (Ev.now _)
      simp only [laws_toDoughS.l0]
      rw [if_neg (by omega)]
      simp [List.take_of_length_le (Nat.le_of_eq (cvDough_length l))]
    · intro j hj ih
      refine Ev.step (fun k => ?_) ih
      simp only [laws_toDoughS.l0]
      rw [if_pos (by omega), if_pos (by omega)]
      simp only [laws_toDough.f, Option.bind_some]
      rw [if_pos (by simp [cvDough_length]; omega), wsucc j (by omega), rdLDough_nat l j hj, Int.toNat_natCast]
      have := set_take_drop (cvDough l) j (by rw [cvDough_length]; exact hj) (List.replicate l.length z56) (by simp [cvDough_length])
      rw [cvDough_get l j hj] at this
      rw [this]
  have := key 0 (Nat.zero_le _)
  simpa using this
theorem eqDoughS_refl (l : List S56) (hl : l.length ≤ 9223372036854775807) : Ev (fun k => laws_eqDoughS.f k l l) true := by
  unfold laws_eqDoughS.f
  simp only [if_true]
  have key : ∀ j, j ≤ l.length → Ev (fun k => laws_eqDoughS.l0 k l l (j : Int)) true := by
    refine down l.length ?_ ?_
    · refine Ev.step (f := fun _ => some true) (fun k => ?_) (Ev.now _)
      simp only [laws_eqDoughS.l0]
      rw [if_neg (by omega)]
    · intro j hj ih
      refine Ev.step (fun k => ?_) ih
      simp only [laws_eqDoughS.l0]
      rw [if_pos (by omega), if_pos (by omega), if_pos (by omega), wsucc j (by omega)]
      simp only [laws_eqDough.f, if_true, Option.bind_some]
  exact key 0 (Nat.zero_le _)
def marksDough (n : Nat) (m : Int) : List S56 := (List.range n).map fun (i : Nat) => ⟨m + 3 * (i : Int) + 0, m + 3 * (i : Int) + 1, m + 3 * (i : Int) + 2⟩
theorem marksDough_length (n : Nat) (m : Int) : (marksDough n m).length = n := by simp [marksDough]
theorem marksDough_get (n : Nat) (m : Int) (j : Nat) (h : j < n) : (marksDough n m)[j]'(by rw [marksDough_length]; exact h) = ⟨m + 3 * (j : Int) + 0, m + 3 * (j : Int) + 1, m + 3 * (j : Int) + 2⟩ := by simp [marksDough]
theorem markDoughS_ev (l : List S56) (m : Int) (hm0 : 0 ≤ m) (hm1 : m ≤ 1099511627776) (hl : l.length ≤ 1073741824) : Ev (fun k => laws_markDoughS.f k l m) (m + 3 * (l.length : Int), marksDough l.length m) := by
  unfold laws_markDoughS.f
  have key : ∀ j, j ≤ l.length → Ev (fun k => laws_markDoughS.l0 k ((marksDough l.length m).take j ++ l.drop j) (m + 3 * (j : Int)) (j : Int)) (m + 3 * (l.length : Int), marksDough l.length m) := by
    refine down l.length ?_ ?_
    · refine Ev.step (f := fun _ => some (m + 3 * (l.length : Int), marksDough l.length m)) (fun k => ?_) (Ev.now _)
      simp only [laws_markDoughS.l0]
      rw [if_neg (by simp [marksDough_length])]
      simp [List.take_of_length_le (Nat.le_of_eq (marksDough_length l.length m))]
    · intro j hj ih
      refine Ev.step (fun k => ?_) ih
      simp only [laws_markDoughS.l0]
      have e1 : ((marksDough l.length m).take j ++ l.drop j).length = l.length := by simp [marksDough_length]; omega
      have e2 := set_take_drop (marksDough l.length m) j (by rw [marksDough_length]; exact hj) l (marksDough_length _ _).symm
      rw [marksDough_get _ _ _ hj] at e2
      have hjl : j < ((marksDough l.length m).take j ++ l.drop j).length := by omega
      generalize ((marksDough l.length m).take j ++ l.drop j) = q at e1 e2 hjl ⊢
      rw [e1, if_pos (by omega), if_pos (by omega), wsucc j (by omega), Int.toNat_natCast]
      simp only [Option.bind_some, List.set_set, rdDough_set _ j _ (by first | exact hjl | (simp only [List.length_set]; exact hjl))]
      have w1 : wrap64 (m + 3 * (j : Int) + 1) = m + 3 * (j : Int) + 1 := w64 (by omega) (by omega)
      have w2 : wrap64 (m + 3 * (j : Int) + 1 + 1) = m + 3 * (j : Int) + 2 := by rw [w64 (by omega) (by omega)]; omega
      have w3 : wrap64 (m + 3 * (j : Int) + 2 + 1) = m + 3 * (j : Int) + 3 := by rw [w64 (by omega) (by omega)]; omega
      simp only [w1, w2, w3]
      rw [show m + 3 * (j : Int) + 3 = m + 3 * ((j + 1 : Nat) : Int) by omega]
      rw [← e2]
      simp
  have := key 0 (Nat.zero_le _)
  simpa using this
theorem FnExactMustBuy : laws_FnExactMustBuy.Pure := by
  intro g ds fs h hd hf
  have hm : g.length ≤ 9223372036854775807 := h.1
  refine Ev.rounds (g := fun n => laws_FnExactMustBuy.f n g ds fs) ?_
  unfold laws_FnExactMustBuy.f
  by_cases s0 : (fs.length : Int) > 1048576
  · simp only [if_pos s0]; exact Ev.now _
  simp only [if_neg s0, szStock_eq g 1048576 (by omega) (by omega) hm, Option.bind_some]
  by_cases s1 : (1048576 : Int) < g.length
  · simp only [if_pos s1]; simpa using Ev.now true
  simp only [if_neg s1, if_neg (show ¬ ((1048576 : Int) - g.length < 0) by omega), szDoughS_eq ds (1048576 - g.length) (by omega) (by omega) hd.1, Option.bind_some]
  by_cases s2 : (1048576 : Int) - g.length < ds.length
  · simp only [if_pos s2]; simpa using Ev.now true
  simp only [if_neg s2, if_neg (show ¬ ((1048576 : Int) - g.length - ds.length < 0) by omega)]
  have hc := cvDough_length ds
  have hr := mustBuy_len g (cvDough ds) fs
  have e1 := eqIntS_refl (mustBuy g (cvDough ds) fs) (by omega)
  have e2 := markIntS_ev (mustBuy g (cvDough ds) fs) 1 (by omega) (by omega) (by omega)
  have e3 := heldIntS_ev (mustBuy g (cvDough ds) fs).length 1 (by omega) (by omega) (by omega)
  have e6 := spec_MustBuy_ev g (cvDough ds) fs (by omega)
  have e7 := impl_MustBuy_ev g (cvDough ds) fs (by omega)
  have t1 := toStock_ev g (by omega)
  have t2 := toDoughS_ev ds (by omega)
  have t3 := toIntS_ev fs (by omega)
  have q1 := eqStock_refl g (by omega)
  have q2 := eqDoughS_refl (cvDough ds) (by omega)
  have q3 := eqIntS_refl fs (by omega)
  have m1 := markStock_ev g 1 (by omega) (by omega) (by omega)
  have m2 := markDoughS_ev (cvDough ds) (1 + (g.length : Int)) (by omega) (by omega) (by omega)
  have m3 := markIntS_ev fs (1 + (g.length : Int) + 3 * ((cvDough ds).length : Int)) (by omega) (by omega) (by omega)
  generalize mustBuy g (cvDough ds) fs = q at hr e1 e2 e3 e6 e7
  refine Ev.bind t1 ?_
  refine Ev.bind t2 ?_
  refine Ev.bind t3 ?_
  refine Ev.bind e6 ?_
  refine Ev.bind t1 ?_
  refine Ev.bind t2 ?_
  refine Ev.bind t3 ?_
  refine Ev.bind e7 ?_
  refine Ev.bind e1 ?_
  simp only [if_true]
  refine Ev.bind t1 ?_
  refine Ev.bind q1 ?_
  simp only [if_true]
  refine Ev.bind t2 ?_
  refine Ev.bind q2 ?_
  simp only [if_true]
  refine Ev.bind t3 ?_
  refine Ev.bind q3 ?_
  simp only [if_true]
  refine Ev.bind m1 ?_
  refine Ev.bind m2 ?_
  refine Ev.bind m3 ?_
  simp only [if_neg (show ¬ ((1 : Int) + (g.length : Int) + 3 * ((cvDough ds).length : Int) + (fs.length : Int) < 0) by omega)]
  refine Ev.bind e1 ?_
  simp only [Bool.not_true]
  refine Ev.step (fun n => by rw [laws_FnExactMustBuy.j0]) ?_
  simp only [Bool.false_eq_true, if_false]
  refine Ev.bind e2 ?_
  refine Ev.bind e3 ?_
  simp only [if_neg (show ¬ ((1 : Int) + (q.length : Int) < 0) by omega), if_true]
  refine Ev.bind t1 ?_
  refine Ev.bind t2 ?_
  refine Ev.bind t3 ?_
  refine Ev.bind e7 ?_
  refine Ev.bind e1 ?_
  simp only [if_true]
  refine Ev.bind e3 ?_
  simp only [if_neg (show ¬ ((1 : Int) + (q.length : Int) < 0) by omega), if_true]
  exact Ev.now _
end Go.Proofs.Ytnlioefgpgamdaa.Pure
