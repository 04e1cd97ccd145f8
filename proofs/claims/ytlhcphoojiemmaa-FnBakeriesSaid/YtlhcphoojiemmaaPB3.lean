/- What baking computes: the dough for a loaf, the flour, the amounts, taking them, and baking itself. -/
import Derived.Test.YtlhcphoojiemmaaPB2
namespace Go.Proofs.YtlhcphoojiemmaaX
open Go
set_option linter.unusedVariables false
theorem loaf_iff (l : Loaf) : loafOk l = true ↔ (10 ≤ l.Weight ∧ l.Weight ≤ 5000) ∧ (0 ≤ l.Loss ∧ l.Loss ≤ 40) := by simp [loafOk, inR]
theorem dough_iff (d : Dough) : doughOk d = true ↔ (300 ≤ d.Water ∧ d.Water ≤ 1200) ∧ (0 ≤ d.Salt ∧ d.Salt ≤ 50) ∧ (0 ≤ d.Leaven ∧ d.Leaven ≤ 500) := by simp [doughOk, inR]
def wOf (l : Loaf) (x : Int) : Int := x - (x * l.Loss + 99) / 100
theorem mul_in {x y a b : Int} (h1 : 0 ≤ x) (h2 : x ≤ a) (h3 : 0 ≤ y) (h4 : y ≤ b) : 0 ≤ x * y ∧ x * y ≤ a * b :=
  ⟨Int.mul_nonneg h1 h3, Int.mul_le_mul h2 h4 h3 (Int.le_trans h1 h2)⟩
theorem spec_BakedWeight_in (k : Nat) (l : Loaf) (x : Int) (h : loafOk l = true) (h1 : 0 ≤ x) (h2 : x ≤ 9000) : spec_BakedWeight k l x = some (wOf l x) := by
  simp only [spec_BakedWeight, spec_LoafOk_eq, spec_l01In_eq, Option.bind_some, h]
  rw [show inR x 0 10000 = true from inR_iff.2 ⟨h1, by omega⟩, if_pos (by decide)]
  rw [loaf_iff] at h
  obtain ⟨m1, m2⟩ := mul_in h1 h2 h.2.1 h.2.2
  simp only [Bool.not_true, cond_false]
  rw [wr_id (n := x * l.Loss) (by omega) (by omega), wr_id (n := x * l.Loss + 99) (by omega) (by omega), Int.tdiv_eq_ediv_of_nonneg (by omega), wr_id (n := (x * l.Loss + 99) / 100) (by omega) (by omega), wr_id (by omega) (by omega)]
  rfl
theorem impl_baked_in (k : Nat) (l : Loaf) (x : Int) (h : loafOk l = true) (h1 : 0 ≤ x) (h2 : x ≤ 9000) : impl_Loaf_baked k l x = some (wOf l x) := by
  unfold impl_Loaf_baked impl_up
  rw [loaf_iff] at h
  obtain ⟨m1, m2⟩ := mul_in h1 h2 h.2.1 h.2.2
  rw [if_pos (by decide), Option.bind_some, wr_id (n := x * l.Loss) (by omega) (by omega), wr_id (n := x * l.Loss + 100) (by omega) (by omega), show x * l.Loss + 100 - 1 = x * l.Loss + 99 by omega, wr_id (n := x * l.Loss + 99) (by omega) (by omega), Int.tdiv_eq_ediv_of_nonneg (by omega), wr_id (n := (x * l.Loss + 99) / 100) (by omega) (by omega), wr_id (by omega) (by omega)]
  rfl
theorem dough_lp (k : Nat) (l : Loaf) (h : loafOk l = true) : ∀ (m : Nat) (x : Int), 0 ≤ x → x ≤ 9000 → 9000 - x ≤ (m : Int) → ∃ r, spec_DoughFor_l0 k m l x = some r ∧ impl_DoughFor_l0 k m l x = some r ∧ 0 ≤ r ∧ r ≤ 9000
  | 0, x, h1, h2, h3 => by
    have hx : x = 9000 := by omega
    have hw : decide (wOf l x < l.Weight) = false := by
      have hl := (loaf_iff l).1 h
      unfold wOf
      apply decide_eq_false
      rw [hx]
      omega
    simp only [spec_DoughFor_l0, spec_DoughFor_s0, impl_DoughFor_l0, impl_DoughFor_s0, spec_BakedWeight_in k l x h h1 h2, impl_baked_in k l x h h1 h2, Option.bind_some, hw, cond_false]
    exact ⟨x, rfl, rfl, h1, h2⟩
  | m + 1, x, h1, h2, h3 => by
    simp only [spec_DoughFor_l0, spec_DoughFor_s0, impl_DoughFor_l0, impl_DoughFor_s0, spec_BakedWeight_in k l x h h1 h2, impl_baked_in k l x h h1 h2, Option.bind_some]
    by_cases hx : x = 9000
    · have hw : decide (wOf l x < l.Weight) = false := by
        have hl := (loaf_iff l).1 h
        unfold wOf
        apply decide_eq_false
        rw [hx]
        omega
      rw [hw]
      exact ⟨x, rfl, rfl, h1, h2⟩
    · cases decide (wOf l x < l.Weight)
      · exact ⟨x, rfl, rfl, h1, h2⟩
      · rw [wr_id (n := x + 1) (by omega) (by omega)]
        exact dough_lp k l h m (x + 1) (by omega) (by omega) (by omega)
theorem doughFor_eq (k : Nat) (hk : 9000 ≤ k) (l : Loaf) (h : loafOk l = true) : ∃ r, spec_DoughFor k l = some r ∧ impl_DoughFor k l = some r ∧ 0 ≤ r ∧ r ≤ 9000 := by
  have hl := (loaf_iff l).1 h
  obtain ⟨r, h1, h2, h3⟩ := dough_lp k l h k l.Weight (by omega) (by omega) (by omega)
  refine ⟨r, ?_, ?_, h3⟩
  · unfold spec_DoughFor spec_DoughFor_m
    rw [spec_LoafOk_eq, Option.bind_some, h]
    exact h1
  · unfold impl_DoughFor impl_DoughFor_m
    rw [impl_LoafOk_eq, Option.bind_some, h]
    exact h2
theorem flourFor_eq (k : Nat) (d : Dough) (w : Int) (hd : doughOk d = true) : ∃ r, spec_FlourFor k d w = some r ∧ impl_FlourFor k d w = some r ∧ (r = -1 ∨ (0 ≤ r ∧ r ≤ 1000000)) := by
  have h := (dough_iff d).1 hd
  have hy : wr (wr (wr (1000 + d.Water) + d.Salt) + d.Leaven) = 1000 + d.Water + d.Salt + d.Leaven := by
    rw [wr_id (n := 1000 + d.Water) (by omega) (by omega), wr_id (n := 1000 + d.Water + d.Salt) (by omega) (by omega), wr_id (by omega) (by omega)]
  simp only [spec_FlourFor, spec_WholeParts, impl_FlourFor, impl_WholeParts, spec_DoughOk_eq, impl_DoughOk_eq, spec_l01In_eq, impl_in_eq, hd, Option.bind_some, Bool.not_true, cond_false, impl_up, hy]
  generalize hp : 1000 + d.Water + d.Salt + d.Leaven = p
  rw [decide_eq_false (by omega)]
  cases hw : inR w 0 1000000
  · exact ⟨-1, rfl, rfl, .inl rfl⟩
  · rw [inR_iff] at hw
    simp only [Bool.not_true, cond_false]
    rw [if_pos (by omega), if_pos (by omega)]
    have e : w * 1000 = 1000 * w := Int.mul_comm _ _
    rw [e, wr_id (n := 1000 * w) (by omega) (by omega), wr_id (n := 1000 * w + p) (by omega) (by omega), wr_id (n := 1000 * w + p - 1) (by omega) (by omega), Int.tdiv_eq_ediv_of_nonneg (by omega)]
    have q1 : 0 ≤ (1000 * w + p - 1) / p := Int.ediv_nonneg (by omega) (by omega)
    have q2 : (1000 * w + p - 1) / p ≤ 1000000 := Int.ediv_le_of_le_mul (by omega) (by omega)
    rw [wr_id (by omega) (by omega)]
    exact ⟨_, rfl, rfl, .inr ⟨q1, q2⟩⟩
theorem dough_of {b : Bakery} (h : bakeryOk b = true) : storeOk b.Stock = true ∧ doughOk b.Dough = true ∧ loafOk b.Loaf = true := by
  simp only [bakeryOk, Bool.and_eq_true] at h
  exact ⟨h.1, h.2.1, h.2.2.1⟩
theorem flourNeeded_eq (k : Nat) (hk : 9000 ≤ k) (b : Bakery) (n : Int) (h1 : b.Stock.Grams.length ≤ k) (h2 : b.Stock.Grams.length ≤ 4194304) (h3 : b.Book.Events.length ≤ k) (h4 : b.Book.Events.length ≤ 4194304) :
    ∃ r, spec_FlourNeeded k b n = some r ∧ impl_FlourNeeded k b n = some r ∧ (r = -1 ∨ (0 ≤ r ∧ r ≤ 1000000 ∧ bakeryOk b = true)) := by
  simp only [spec_FlourNeeded, impl_FlourNeeded, spec_BakeryOk_eq k b h1 h2 h3 h4, impl_BakeryOk_eq k (by omega) b h1 h2 h3 h4, spec_l01In_eq, impl_in_eq, Option.bind_some]
  cases hb : bakeryOk b
  · exact ⟨-1, rfl, rfl, .inl rfl⟩
  cases inR n 0 1000
  · exact ⟨-1, rfl, rfl, .inl rfl⟩
  obtain ⟨_, hd, hl⟩ := dough_of hb
  obtain ⟨x, x1, x2, _⟩ := doughFor_eq k hk b.Loaf hl
  obtain ⟨y, y1, y2, y3⟩ := flourFor_eq k b.Dough (wr (x * n)) hd
  simp only [Bool.not_true, cond_false, x1, x2, Option.bind_some, y1, y2]
  exact ⟨y, rfl, rfl, y3.imp id fun h => ⟨h.1, h.2, trivial⟩⟩
def partOf (f p : Int) : Int := (f * p + 500) / 1000
theorem part_in {f p : Int} (hf : inR f 0 1000000 = true) (hp : 0 ≤ p ∧ p ≤ 2000) (k : Nat) : spec_PartOf k f p = some (partOf f p) ∧ impl_PartOf k f p = some (partOf f p) ∧ 0 ≤ partOf f p ∧ partOf f p ≤ 4000000 := by
  have hpp : inR p 0 2000 = true := inR_iff.2 hp
  have hff := inR_iff.1 hf
  obtain ⟨m1, m2⟩ := mul_in hff.1 hff.2 hp.1 hp.2
  have key : wr (Int.tdiv (wr (wr (f * p) + 500)) 1000) = partOf f p := by
    rw [wr_id (n := f * p) (by omega) (by omega), wr_id (n := f * p + 500) (by omega) (by omega), Int.tdiv_eq_ediv_of_nonneg (by omega), wr_id (by omega) (by omega)]; rfl
  refine ⟨?_, ?_, by unfold partOf; omega, by unfold partOf; omega⟩
  · simp only [spec_PartOf, spec_l01In_eq, hf, hpp, Option.bind_some, Bool.not_true, cond_false]
    rw [if_pos (by decide), key]
  · simp only [impl_PartOf, impl_in_eq, hf, hpp, Option.bind_some, Bool.not_true, cond_false]
    rw [if_pos (by decide), key]
theorem takeFor_eq (k : Nat) (hk : 5 ≤ k) (s : Stock) (d : Dough) (f : Int) (hs : storeOk s = true) (hd : doughOk d = true) :
    ∃ r, spec_TakeFor k s d f = some r ∧ impl_TakeFor k s d f = some r ∧ (r.2 = true → storeOk r.1 = true) ∧ r.1.Grams.length = s.Grams.length ∧ (r.2 = true → 0 ≤ f ∧ f ≤ s.Grams.getD 0 0 ∧ r.1.Grams.getD 0 0 = s.Grams.getD 0 0 - f) := by
  obtain ⟨hl, _⟩ := storeOk_get hs 0 (by omega)
  have hS := spec_StoreOk_eq k s (by omega) (by omega)
  have hI := impl_StoreOk_eq k s (by omega) (by omega)
  have hC1 := l36Copy_eq k s (by omega)
  have hC2 := stockCopy_eq k s (by omega)
  rw [hs] at hS hI
  have hdd := (dough_iff d).1 hd
  cases hf : inR f 0 1000000
  · refine ⟨(s, false), ?_, ?_, fun h => by simp at h, rfl, fun h => by simp at h⟩
    · simp only [spec_TakeFor, spec_TakeFor_m, spec_Amounts, hC1, hS, spec_DoughOk_eq, spec_l01In_eq, hd, hf, Option.bind_some, Bool.not_true, Bool.not_false, cond_false, cond_true]
      rfl
    · simp only [impl_TakeFor, impl_TakeFor_m, impl_Amounts, hC2, hI, impl_DoughOk_eq, impl_in_eq, hd, hf, Option.bind_some, Bool.not_true, Bool.not_false, cond_false, cond_true]
      rfl
  · obtain ⟨a1, a2, a3, a4⟩ := part_in hf (p := d.Water) (by omega) k
    obtain ⟨b1, b2, b3, b4⟩ := part_in hf (p := d.Salt) (by omega) k
    obtain ⟨c1, c2, c3, c4⟩ := part_in hf (p := d.Leaven) (by omega) k
    have hff := inR_iff.1 hf
    have hA1 : spec_Amounts k d f = some [f, partOf f d.Water, partOf f d.Salt, partOf f d.Leaven] := by
      simp only [spec_Amounts, spec_DoughOk_eq, spec_l01In_eq, hd, hf, Option.bind_some, Bool.not_true, cond_false, a1, b1, c1]
    have hA2 : impl_Amounts k d f = some (.inr [f, partOf f d.Water, partOf f d.Salt, partOf f d.Leaven]) := by
      simp only [impl_Amounts, impl_DoughOk_eq, impl_in_eq, hd, hf, Option.bind_some, Bool.not_true, cond_false, a2, b2, c2]
    generalize partOf f d.Water = p1 at *
    generalize partOf f d.Salt = p2 at *
    generalize partOf f d.Leaven = p3 at *
    obtain ⟨g⟩ := s
    match g, hl with
    | [x0, x1, x2, x3], _ =>
      have r0 := (storeOk_get hs 0 (by omega)).2
      have r1 := (storeOk_get hs 1 (by omega)).2
      have r2 := (storeOk_get hs 2 (by omega)).2
      have r3 := (storeOk_get hs 3 (by omega)).2
      simp only [List.getD_cons_zero, List.getD_cons_succ] at r0 r1 r2 r3
      obtain ⟨m, rfl⟩ : ∃ m, k = m + 5 := ⟨k - 5, by omega⟩
      have w1 : wr 1 = 1 := by decide
      have w2 : wr 2 = 2 := by decide
      have w3 : wr 3 = 3 := by decide
      have w4 : wr 4 = 4 := by decide
      have hM : ∃ q, spec_FirstMissing (m + 5) ⟨[x0, x1, x2, x3]⟩ d f = some q ∧ impl_missing (m + 5) ⟨[x0, x1, x2, x3]⟩ [f, p1, p2, p3] = some q ∧ ((0 ≤ q) ∨ (q < 0 ∧ f ≤ x0 ∧ p1 ≤ x1 ∧ p2 ≤ x2 ∧ p3 ≤ x3)) := by
        simp only [spec_FirstMissing, spec_FirstMissing_m, hA1, Option.bind_some, impl_missing, impl_missing_m, spec_FirstMissing_l0, spec_FirstMissing_s0, impl_missing_l0, impl_missing_s0, hS, cond_true]
        by_cases q0 : x0 < f
        · exact ⟨0, by simp [q0], by simp [q0], .inl (by omega)⟩
        by_cases q1 : x1 < p1
        · exact ⟨1, by simp [q0, q1, w1], by simp [q0, q1, w1], .inl (by omega)⟩
        by_cases q2 : x2 < p2
        · exact ⟨2, by simp [q0, q1, q2, w1, w2], by simp [q0, q1, q2, w1, w2], .inl (by omega)⟩
        by_cases q3 : x3 < p3
        · exact ⟨3, by simp [q0, q1, q2, q3, w1, w2, w3], by simp [q0, q1, q2, q3, w1, w2, w3], .inl (by omega)⟩
        exact ⟨-1, by simp [q0, q1, q2, q3, w1, w2, w3, w4], by simp [q0, q1, q2, q3, w1, w2, w3, w4], .inr (by omega)⟩
      obtain ⟨q, hq1, hq2, hq3⟩ := hM
      rcases hq3 with hq | ⟨hq, h0, h1, h2, h3⟩
      · refine ⟨(⟨[x0, x1, x2, x3]⟩, false), ?_, ?_, fun h => by simp at h, rfl, fun h => by simp at h⟩
        · simp only [spec_TakeFor, spec_TakeFor_m, hC1, hS, hA1, hq1, Option.bind_some, Bool.not_true, cond_false]
          rw [decide_eq_true hq]
          rfl
        · simp only [impl_TakeFor, impl_TakeFor_m, hC2, hI, hA2, hq2, Option.bind_some, Bool.not_true, cond_false, Sum.elim_inr]
          rw [if_pos (by simp)]
          rw [decide_eq_true hq]
          rfl
      · have v0 : wr (x0 - f) = x0 - f := wr_id (by omega) (by omega)
        have v1 : wr (x1 - p1) = x1 - p1 := wr_id (by omega) (by omega)
        have v2 : wr (x2 - p2) = x2 - p2 := wr_id (by omega) (by omega)
        have v3 : wr (x3 - p3) = x3 - p3 := wr_id (by omega) (by omega)
        refine ⟨(⟨[x0 - f, x1 - p1, x2 - p2, x3 - p3]⟩, true), ?_, ?_, fun _ => ?_, rfl, fun _ => ⟨hff.1, h0, rfl⟩⟩
        · simp only [spec_TakeFor, spec_TakeFor_m, hC1, hS, hA1, hq1, Option.bind_some, Bool.not_true, cond_false]
          rw [decide_eq_false (show ¬ (0 ≤ q) by omega)]
          simp [spec_TakeFor_l0, spec_TakeFor_s0, w1, w2, w3, w4, v0, v1, v2, v3]
        · simp only [impl_TakeFor, impl_TakeFor_m, hC2, hI, hA2, hq2, Option.bind_some, Bool.not_true, cond_false, Sum.elim_inr]
          rw [if_pos (by simp)]
          rw [decide_eq_false (show ¬ (0 ≤ q) by omega)]
          simp [impl_TakeFor_l0, impl_TakeFor_s0, w1, w2, w3, w4, v0, v1, v2, v3]
        · simp [storeOk, inR]
          omega
def bakeG (b : Bakery) (t : Stock × Bool) (n : Int) : Bakery × Bool :=
  cond t.2 (cond (enterK b ⟨1, n⟩ 0).2 (⟨t.1, (enterK b ⟨1, n⟩ 0).1.Dough, (enterK b ⟨1, n⟩ 0).1.Loaf, (enterK b ⟨1, n⟩ 0).1.Book, (enterK b ⟨1, n⟩ 0).1.Money⟩, true) (b, false)) (b, false)
theorem bake_full (k : Nat) (hk : 9000 ≤ k) (b : Bakery) (n : Int) (hb : bakeryOk b = true) (h1 : b.Stock.Grams.length ≤ k) (h2 : b.Stock.Grams.length ≤ 4194304) (h3 : b.Book.Events.length + 1 ≤ k) (h4 : b.Book.Events.length + 1 ≤ 4194304) :
    ∃ y t, spec_FlourNeeded k b n = some y ∧ impl_FlourNeeded k b n = some y ∧ spec_TakeFor k b.Stock b.Dough y = some t ∧ spec_BakeLoaves k b n = some (bakeG b t n) ∧ impl_BakeLoaves k b n = some (bakeG b t n) ∧ (t.2 = true → storeOk t.1 = true) ∧ t.1.Grams.length = b.Stock.Grams.length ∧
      (t.2 = true → 0 ≤ y ∧ y ≤ b.Stock.Grams.getD 0 0 ∧ t.1.Grams.getD 0 0 = b.Stock.Grams.getD 0 0 - y) := by
  obtain ⟨y, y1, y2, y3⟩ := flourNeeded_eq k hk b n h1 h2 (by omega) (by omega)
  have hcp := l38Copy_eq k b h2 (by omega)
  have hcp2 := bakeryCopy_eq k b h2 (by omega)
  have hbk := impl_BakeryOk_eq k (by omega) b h1 h2 (by omega) (by omega)
  have hen := spec_l38Enter_eq k b ⟨1, n⟩ 0 h1 h2 h3 h4
  have hie := impl_Enter_eq k (by omega) b.Book ⟨1, n⟩ h3 h4
  have hel := enterB_len b.Book ⟨1, n⟩
  rw [hb] at hbk
  obtain ⟨hs, hd, _⟩ := dough_of hb
  have hm := money_of hb
  obtain ⟨t, t1, t2, t3, t4, t5⟩ := takeFor_eq k (by omega) b.Stock b.Dough y hs hd
  refine ⟨y, t, y1, y2, t1, ?_, ?_, t3, t4, t5⟩
  all_goals (obtain ⟨t, o⟩ := t; dsimp only at t3 t4 t5)
  · have hspec : spec_BakeLoaves k b n = some (cond (decide (y < 0)) (b, false) (bakeG b (t, o) n)) := by
      simp only [spec_BakeLoaves, y1, t1, hen, hcp, Option.bind_some, cond_not, cond_some]
      rfl
    rw [hspec]
    cases o with
    | false => unfold bakeG; cases decide (y < 0) <;> rfl
    | true => rw [decide_eq_false (by have := (t5 rfl).1; omega)]; rfl
  · have hw : wr (b.Money + 0) = b.Money := by rw [Int.add_zero]; exact wr_id (by omega) (by omega)
    have himp : impl_BakeLoaves k b n = some (cond o (cond (enterB b.Book ⟨1, n⟩).2 (cond (bakeryOk ⟨t, b.Dough, b.Loaf, (enterB b.Book ⟨1, n⟩).1, b.Money⟩) (⟨t, b.Dough, b.Loaf, (enterB b.Book ⟨1, n⟩).1, b.Money⟩, true) (b, false)) (b, false)) (b, false)) := by
      simp only [impl_BakeLoaves, impl_changed_59, impl_BakeLoaves_1, impl_Bakery_enter, hcp2, hbk, y2, t2, Option.bind_some, Bool.not_true, cond_false, hie]
      cases o with
      | false => rfl
      | true =>
        simp only [cond_true, Option.bind_some]
        rw [impl_BakeryOk_eq k (by omega) _ (by dsimp only; omega) (by dsimp only; omega) (by dsimp only; omega) (by dsimp only; omega)]
        cases (enterB b.Book ⟨1, n⟩).2 with
        | false => rfl
        | true =>
          simp only [Bool.not_true, cond_false, cond_true, Option.bind_some, cond_not, cond_some]
    rw [himp]
    congr 1
    unfold bakeG enterK
    rw [hb, hw]
    cases o with
    | false => rfl
    | true =>
      have hst := t3 rfl
      cases (enterB b.Book ⟨1, n⟩).2 with
      | false => rfl
      | true =>
        have e : bakeryOk ⟨t, b.Dough, b.Loaf, (enterB b.Book ⟨1, n⟩).1, b.Money⟩ = bakeryOk ⟨b.Stock, b.Dough, b.Loaf, (enterB b.Book ⟨1, n⟩).1, b.Money⟩ := by
          unfold bakeryOk
          dsimp only
          rw [hst, hs]
        rw [e]
        cases bakeryOk ⟨b.Stock, b.Dough, b.Loaf, (enterB b.Book ⟨1, n⟩).1, b.Money⟩ <;> rfl
theorem bakeG_len (b : Bakery) (t : Stock × Bool) (n : Int) (h : t.1.Grams.length = b.Stock.Grams.length) : (bakeG b t n).1.Stock.Grams.length = b.Stock.Grams.length ∧ (bakeG b t n).1.Book.Events.length ≤ b.Book.Events.length + 1 := by
  obtain ⟨t, o⟩ := t
  unfold bakeG
  cases o with
  | false => exact ⟨rfl, Nat.le_succ _⟩
  | true => cases (enterK b ⟨1, n⟩ 0).2 with
    | false => exact ⟨rfl, Nat.le_succ _⟩
    | true => exact ⟨h, (enterK_len b ⟨1, n⟩ 0).2⟩
theorem bakeLoaves_eq (k : Nat) (hk : 9000 ≤ k) (b : Bakery) (n : Int) (h1 : b.Stock.Grams.length ≤ k) (h2 : b.Stock.Grams.length ≤ 4194304) (h3 : b.Book.Events.length + 1 ≤ k) (h4 : b.Book.Events.length + 1 ≤ 4194304) :
    ∃ r, spec_BakeLoaves k b n = some r ∧ impl_BakeLoaves k b n = some r ∧ r.1.Stock.Grams.length = b.Stock.Grams.length ∧ r.1.Book.Events.length ≤ b.Book.Events.length + 1 := by
  cases hb : bakeryOk b with
  | false =>
    obtain ⟨y, y1, y2, y3⟩ := flourNeeded_eq k hk b n h1 h2 (by omega) (by omega)
    have hcp := l38Copy_eq k b h2 (by omega)
    have hcp2 := bakeryCopy_eq k b h2 (by omega)
    have hbk := impl_BakeryOk_eq k (by omega) b h1 h2 (by omega) (by omega)
    rw [hb] at hbk
    have hy : y = -1 := by
      rcases y3 with e | e
      · exact e
      · rw [hb] at e; simp at e
    refine ⟨(b, false), ?_, ?_, rfl, Nat.le_succ _⟩
    · simp only [spec_BakeLoaves, y1, hy, Option.bind_some, hcp]
      rfl
    · simp only [impl_BakeLoaves, impl_changed_59, hcp2, hbk, Option.bind_some, Bool.not_false, cond_true]
  | true =>
    obtain ⟨y, t, _, _, _, e1, e2, _, l, _⟩ := bake_full k hk b n hb h1 h2 h3 h4
    exact ⟨_, e1, e2, (bakeG_len b t n l).1, (bakeG_len b t n l).2⟩
end Go.Proofs.YtlhcphoojiemmaaX
