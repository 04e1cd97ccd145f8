/- The program's acts alone (where the reference's are not at hand): each ends, and a bakery that stands still stands. -/
import Derived.Test.YtfbnbdcjnbgibaaGreatDoorPB7
namespace Go.Proofs.YtfbnbdcjnbgibaaGreatDoorX
open Go
set_option linter.unusedVariables false
theorem dough_lpI (k : Nat) (l : Loaf) (h : loafOk l = true) : ∀ (m : Nat) (x : Int), 0 ≤ x → x ≤ 9000 → 9000 - x ≤ (m : Int) → ∃ r, impl_DoughFor_l0 k m l x = some r ∧ 0 ≤ r ∧ r ≤ 9000
  | 0, x, h1, h2, h3 => by
    have hx : x = 9000 := by omega
    have hw : decide (wOf l x < l.Weight) = false := by
      have hl := (loaf_iff l).1 h
      unfold wOf
      apply decide_eq_false
      rw [hx]
      omega
    simp only [impl_DoughFor_l0, impl_DoughFor_s0, impl_baked_in k l x h h1 h2, Option.bind_some, hw, cond_false]
    exact ⟨x, rfl, h1, h2⟩
  | m + 1, x, h1, h2, h3 => by
    simp only [impl_DoughFor_l0, impl_DoughFor_s0, impl_baked_in k l x h h1 h2, Option.bind_some]
    by_cases hx : x = 9000
    · have hw : decide (wOf l x < l.Weight) = false := by
        have hl := (loaf_iff l).1 h
        unfold wOf
        apply decide_eq_false
        rw [hx]
        omega
      rw [hw]
      exact ⟨x, rfl, h1, h2⟩
    · cases decide (wOf l x < l.Weight)
      · exact ⟨x, rfl, h1, h2⟩
      · rw [wr_id (n := x + 1) (by omega) (by omega)]
        exact dough_lpI k l h m (x + 1) (by omega) (by omega) (by omega)
theorem doughForI (k : Nat) (hk : 9000 ≤ k) (l : Loaf) (h : loafOk l = true) : ∃ r, impl_DoughFor k l = some r := by
  have hl := (loaf_iff l).1 h
  obtain ⟨r, h2, h3⟩ := dough_lpI k l h k l.Weight (by omega) (by omega) (by omega)
  refine ⟨r, ?_⟩
  unfold impl_DoughFor impl_DoughFor_m
  rw [impl_LoafOk_eq, Option.bind_some, h]
  exact h2
theorem flourForI (k : Nat) (d : Dough) (w : Int) (hd : doughOk d = true) : ∃ r, impl_FlourFor k d w = some r := by
  have h := (dough_iff d).1 hd
  have hy : wr (wr (wr (1000 + d.Water) + d.Salt) + d.Leaven) = 1000 + d.Water + d.Salt + d.Leaven := by
    rw [wr_id (n := 1000 + d.Water) (by omega) (by omega), wr_id (n := 1000 + d.Water + d.Salt) (by omega) (by omega), wr_id (by omega) (by omega)]
  simp only [impl_FlourFor, impl_WholeParts, impl_DoughOk_eq, impl_in_eq, hd, Option.bind_some, Bool.not_true, cond_false, impl_up, hy]
  generalize hp : 1000 + d.Water + d.Salt + d.Leaven = p
  cases hw : inR w 0 1000000
  · exact ⟨-1, rfl⟩
  · simp only [Bool.not_true, cond_false]
    rw [if_pos (by omega)]
    exact ⟨_, rfl⟩
theorem flourNeededI (k : Nat) (hk : 9000 ≤ k) (b : Bakery) (n : Int) (h1 : b.Stock.Grams.length ≤ k) (h2 : b.Stock.Grams.length ≤ 4194304) (h3 : b.Book.Events.length ≤ k) (h4 : b.Book.Events.length ≤ 4194304) : ∃ r, impl_FlourNeeded k b n = some r := by
  simp only [impl_FlourNeeded, impl_BakeryOk_eq k (by omega) b h1 h2 h3 h4, impl_in_eq, Option.bind_some]
  cases hb : bakeryOk b
  · exact ⟨-1, rfl⟩
  cases inR n 0 1000
  · exact ⟨-1, rfl⟩
  obtain ⟨_, hd, hl⟩ := dough_of hb
  obtain ⟨x, x2⟩ := doughForI k hk b.Loaf hl
  obtain ⟨y, y2⟩ := flourForI k b.Dough (wr (x * n)) hd
  simp only [Bool.not_true, cond_false, x2, Option.bind_some, y2]
  exact ⟨y, rfl⟩
theorem partI {f p : Int} (hf : inR f 0 1000000 = true) (hp : 0 ≤ p ∧ p ≤ 2000) (k : Nat) : ∃ r, impl_PartOf k f p = some r := by
  have hpp : inR p 0 2000 = true := inR_iff.2 hp
  simp only [impl_PartOf, impl_in_eq, hf, hpp, Option.bind_some, Bool.not_true, cond_false]
  rw [if_pos (by decide)]
  exact ⟨_, rfl⟩
theorem takeForI (k : Nat) (hk : 5 ≤ k) (s : Stock) (d : Dough) (f : Int) (hs : storeOk s = true) (hd : doughOk d = true) : ∃ r, impl_TakeFor k s d f = some r ∧ r.1.Grams.length = s.Grams.length := by
  obtain ⟨hl, _⟩ := storeOk_get hs 0 (by omega)
  have hI := impl_StoreOk_eq k s (by omega) (by omega)
  have hC2 := stockCopy_eq k s (by omega)
  rw [hs] at hI
  have hdd := (dough_iff d).1 hd
  cases hf : inR f 0 1000000
  · refine ⟨(s, false), ?_, rfl⟩
    simp only [impl_TakeFor, impl_TakeFor_m, impl_Amounts, hC2, hI, impl_DoughOk_eq, impl_in_eq, hd, hf, Option.bind_some, Bool.not_true, Bool.not_false, cond_false, cond_true]
    rfl
  · obtain ⟨p1, a2⟩ := partI hf (p := d.Water) (by omega) k
    obtain ⟨p2, b2⟩ := partI hf (p := d.Salt) (by omega) k
    obtain ⟨p3, c2⟩ := partI hf (p := d.Leaven) (by omega) k
    have hA2 : impl_Amounts k d f = some (.inr [f, p1, p2, p3]) := by
      simp only [impl_Amounts, impl_DoughOk_eq, impl_in_eq, hd, hf, Option.bind_some, Bool.not_true, cond_false, a2, b2, c2]
    obtain ⟨g⟩ := s
    match g, hl with
    | [x0, x1, x2, x3], _ =>
      obtain ⟨m, rfl⟩ : ∃ m, k = m + 5 := ⟨k - 5, by omega⟩
      have w1 : wr 1 = 1 := by decide
      have w2 : wr 2 = 2 := by decide
      have w3 : wr 3 = 3 := by decide
      have w4 : wr 4 = 4 := by decide
      have hM : ∃ q, impl_missing (m + 5) ⟨[x0, x1, x2, x3]⟩ [f, p1, p2, p3] = some q := by
        simp only [impl_missing, impl_missing_m, impl_missing_l0, impl_missing_s0]
        by_cases q0 : x0 < f
        · exact ⟨0, by simp [q0]⟩
        by_cases q1 : x1 < p1
        · exact ⟨1, by simp [q0, q1, w1]⟩
        by_cases q2 : x2 < p2
        · exact ⟨2, by simp [q0, q1, q2, w1, w2]⟩
        by_cases q3 : x3 < p3
        · exact ⟨3, by simp [q0, q1, q2, q3, w1, w2, w3]⟩
        exact ⟨-1, by simp [q0, q1, q2, q3, w1, w2, w3, w4]⟩
      obtain ⟨q, hq2⟩ := hM
      cases hq : decide ((0 : Int) ≤ q)
      · refine ⟨(⟨[wr (x0 - f), wr (x1 - p1), wr (x2 - p2), wr (x3 - p3)]⟩, true), ?_, rfl⟩
        simp only [impl_TakeFor, impl_TakeFor_m, hC2, hI, hA2, hq2, Option.bind_some, Bool.not_true, cond_false, Sum.elim_inr]
        rw [if_pos (by simp), hq]
        simp [impl_TakeFor_l0, impl_TakeFor_s0, w1, w2, w3, w4]
      · refine ⟨(⟨[x0, x1, x2, x3]⟩, false), ?_, rfl⟩
        simp only [impl_TakeFor, impl_TakeFor_m, hC2, hI, hA2, hq2, Option.bind_some, Bool.not_true, cond_false, Sum.elim_inr]
        rw [if_pos (by simp), hq]
        rfl
theorem bakeI (k : Nat) (hk : 9000 ≤ k) (b : Bakery) (n : Int) (hb : bakeryOk b = true) (h1 : b.Stock.Grams.length ≤ k) (h2 : b.Stock.Grams.length ≤ 4194304) (h3 : b.Book.Events.length + 1 ≤ k) (h4 : b.Book.Events.length + 1 ≤ 4194304) :
    ∃ r, impl_BakeLoaves k b n = some r ∧ bakeryOk r.1 = true ∧ r.1.Stock.Grams.length = b.Stock.Grams.length ∧ r.1.Book.Events.length ≤ b.Book.Events.length + 1 := by
  obtain ⟨y, y2⟩ := flourNeededI k hk b n h1 h2 (by omega) (by omega)
  have hcp2 := bakeryCopy_eq k b h2 (by omega)
  have hbk := impl_BakeryOk_eq k (by omega) b h1 h2 (by omega) (by omega)
  have hie := impl_Enter_eq k (by omega) b.Book ⟨1, n⟩ h3 h4
  have hel := enterB_len b.Book ⟨1, n⟩
  rw [hb] at hbk
  obtain ⟨hs, hd, _⟩ := dough_of hb
  obtain ⟨t, t2, t4⟩ := takeForI k (by omega) b.Stock b.Dough y hs hd
  obtain ⟨t, o⟩ := t
  dsimp only at t4
  have himp : impl_BakeLoaves k b n = some (cond o (cond (enterB b.Book ⟨1, n⟩).2 (cond (bakeryOk ⟨t, b.Dough, b.Loaf, (enterB b.Book ⟨1, n⟩).1, b.Money⟩) (⟨t, b.Dough, b.Loaf, (enterB b.Book ⟨1, n⟩).1, b.Money⟩, true) (b, false)) (b, false)) (b, false)) := by
    simp only [impl_BakeLoaves, impl_changed_47, impl_BakeLoaves_1, impl_Bakery_enter, hcp2, hbk, y2, t2, Option.bind_some, Bool.not_true, cond_false, hie]
    cases o with
    | false => rfl
    | true =>
      simp only [cond_true, Option.bind_some]
      rw [impl_BakeryOk_eq k (by omega) _ (by dsimp only; omega) (by dsimp only; omega) (by dsimp only; omega) (by dsimp only; omega)]
      cases (enterB b.Book ⟨1, n⟩).2 with
      | false => rfl
      | true =>
        simp only [Bool.not_true, cond_false, cond_true, Option.bind_some, cond_not, cond_some]
  refine ⟨_, himp, ?_⟩
  cases o with
  | false => exact ⟨hb, rfl, Nat.le_succ _⟩
  | true => cases (enterB b.Book ⟨1, n⟩).2 with
    | false => exact ⟨hb, rfl, Nat.le_succ _⟩
    | true => cases hq : bakeryOk ⟨t, b.Dough, b.Loaf, (enterB b.Book ⟨1, n⟩).1, b.Money⟩ with
      | false => exact ⟨hb, rfl, Nat.le_succ _⟩
      | true => exact ⟨hq, t4, hel⟩
theorem didI (k : Nat) (hk : 9000 ≤ k) (b : Bakery) (a : Deed) (hb : bakeryOk b = true) (h1 : b.Stock.Grams.length ≤ k) (h2 : b.Stock.Grams.length ≤ 4194304) (h3 : b.Book.Events.length + 1 ≤ k) (h4 : b.Book.Events.length + 1 ≤ 4194304) :
    ∃ r, impl_DoAct k b a = some r ∧ bakeryOk r.1 = true ∧ r.1.Stock.Grams.length = b.Stock.Grams.length ∧ r.1.Book.Events.length ≤ b.Book.Events.length + 1 := by
  unfold impl_DoAct
  rw [impl_BakeryOk_eq k (by omega) b h1 h2 (by omega) (by omega), bakeryCopy_eq k b h2 (by omega), impl_ActOk_eq, hb]
  simp only [Option.bind_some, Bool.not_true, cond_false]
  cases ha : actOk a
  · exact ⟨(b, -1), rfl, hb, rfl, Nat.le_succ _⟩
  simp only [Bool.not_true, cond_false]
  by_cases k1 : a.Kind = 1
  · rw [decide_eq_true k1]
    obtain ⟨⟨r, o⟩, e2, l0, l1, l2⟩ := bakeI k hk b a.A hb h1 h2 h3 h4
    rw [e2]
    exact ⟨(r, cond o 1 0), by cases o <;> rfl, l0, l1, l2⟩
  rw [decide_eq_false k1]
  have sl : ∀ c : Bool, bakeryOk (sellL b a.A c).1 = true := fun c => by
    unfold sellL
    cases inR a.A 0 1000
    · exact hb
    · cases c
      · exact enterK_ok b _ _ hb
      · exact enterK_ok b _ _ hb
  by_cases k2 : a.Kind = 2
  · rw [decide_eq_true k2, impl_SellLoaves_eq k (by omega) b a.A false h1 h2 h3 h4]
    obtain ⟨l1, l2⟩ := sellL_len b a.A false
    refine ⟨((sellL b a.A false).1, cond (sellL b a.A false).2 1 0), ?_, sl false, l1, l2⟩
    cases h : (sellL b a.A false).2 <;> simp [h]
  rw [decide_eq_false k2]
  by_cases k3 : a.Kind = 3
  · rw [decide_eq_true k3, impl_SellLoaves_eq k (by omega) b a.A true h1 h2 h3 h4]
    obtain ⟨l1, l2⟩ := sellL_len b a.A true
    refine ⟨((sellL b a.A true).1, cond (sellL b a.A true).2 1 0), ?_, sl true, l1, l2⟩
    cases h : (sellL b a.A true).2 <;> simp [h]
  rw [decide_eq_false k3]
  by_cases k4 : a.Kind = 4
  · rw [decide_eq_true k4, impl_NightOver_eq k (by omega) b h1 h2 h3 h4]
    obtain ⟨l1, l2⟩ := enterK_len b ⟨4, 0⟩ 0
    refine ⟨((enterK b ⟨4, 0⟩ 0).1, cond (enterK b ⟨4, 0⟩ 0).2 1 0), ?_, enterK_ok b _ _ hb, l1, l2⟩
    cases h : (enterK b ⟨4, 0⟩ 0).2 <;> simp [h]
  rw [decide_eq_false k4]
  by_cases k5 : a.Kind = 5
  · rw [decide_eq_true k5, impl_BuyStock_eq k (by omega) b a.A a.B h1 h2 (by omega) (by omega)]
    obtain ⟨l1, l2⟩ := buyG_len b a.A a.B
    refine ⟨((buyG b a.A a.B).1, cond (buyG b a.A a.B).2 1 0), ?_, ?_, l1, by simp only; omega⟩
    · cases h : (buyG b a.A a.B).2 <;> simp [h]
    · rcases buyG_cases b a.A a.B hb with h | ⟨h, h', _⟩
      · rw [h]; exact hb
      · rw [h]; exact h'
  rw [decide_eq_false k5]
  obtain ⟨r, e2⟩ := flourNeededI k hk b a.A h1 h2 (by omega) (by omega)
  rw [e2]
  exact ⟨(b, r), rfl, hb, rfl, Nat.le_succ _⟩
theorem runActs_okI (k : Nat) (hk : 9000 ≤ k) (b0 : Bakery) : ∀ (m : Nat) (B A : List Deed) (b : Bakery) (L : List Int), bakeryOk b = true → B.length ≤ m → A.length + B.length ≤ 40 → L.length + B.length ≤ 40 → b.Stock.Grams.length = 4 → b.Book.Events.length + B.length ≤ 80 →
    ∃ r, runI k m b0 (A ++ B) (A.length : Int) b L = some r ∧ bakeryOk r.1 = true ∧ r.2.length = L.length + B.length ∧ r.1.Stock.Grams.length = 4 ∧ r.1.Book.Events.length ≤ b.Book.Events.length + B.length := by
  intro m
  induction m with
  | zero =>
    intro B A b L hb h _ _ g1 g2
    have hB : B = [] := List.eq_nil_of_length_eq_zero (by omega)
    subst hB
    exact ⟨(b, L), runI_end .., hb, by simp, g1, by simp⟩
  | succ m ih =>
    intro B A b L hb h hA hL g1 g2
    cases B with
    | nil => exact ⟨(b, L), runI_end .., hb, by simp, g1, by simp⟩
    | cons a B =>
      simp only [List.length_cons] at h hA hL g2
      obtain ⟨r, e2, hr, l1, l2⟩ := didI k hk b a hb (by omega) (by omega) (by omega) (by omega)
      obtain ⟨q, q1, q2, q3, q4, q5⟩ := ih B (A ++ [a]) r.1 (L ++ [r.2]) hr (by omega) (by simp; omega) (by simp; omega) (by omega) (by omega)
      rw [runI_step k m b0 b A B a L r (by omega) (by omega) e2]
      exact ⟨q, q1, q2, by rw [q3]; simp; omega, q4, by simp; omega⟩
theorem runActs_standI (k : Nat) (hk : 9000 ≤ k) (b : Bakery) (acts : List Deed) (hb : bakeryOk b = true) (hl : b.Stock.Grams.length = 4) (he : b.Book.Events.length ≤ 40) (ha : acts.length ≤ 40) :
    ∃ r, impl_RunActs k b acts = some r ∧ bakeryOk r.1 = true ∧ r.2.length = acts.length ∧ r.1.Stock.Grams.length = 4 ∧ r.1.Book.Events.length ≤ b.Book.Events.length + acts.length := by
  unfold impl_RunActs impl_RunActs_m
  rw [bakeryCopy_eq k b (by omega) (by omega), impl_BakeryOk_eq k (by omega) b (by omega) (by omega) (by omega) (by omega), hb]
  simp only [Option.bind_some, Bool.not_true, cond_false]
  rw [decide_eq_false (by omega)]
  obtain ⟨r, e, h1, h2, h3, h4⟩ := runActs_okI k hk b k acts [] b [] hb (by omega) (by simp; omega) (by simp; omega) hl (by omega)
  exact ⟨r, e, h1, by rw [h2]; simp, h3, h4⟩
end Go.Proofs.YtfbnbdcjnbgibaaGreatDoorX
