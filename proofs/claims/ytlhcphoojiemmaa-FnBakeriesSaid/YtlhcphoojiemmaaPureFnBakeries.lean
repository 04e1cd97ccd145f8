/- The law of the bakeries, on the plain side: nothing is baked without flour, and nothing is sold that is not there. -/
import Derived.Test.YtlhcphoojiemmaaTold
import Derived.Test.YtlhcphoojiemmaaPB7
import Derived.Test.YtlhcphoojiemmaaF7
namespace Go.Proofs.YtlhcphoojiemmaaX.Pure
open Go Go.Proofs
set_option linter.unusedVariables false
theorem flourFor_val (k : Nat) (d : Dough) (w : Int) (hd : doughOk d = true) (h0 : 0 ≤ w) (h1 : w ≤ 1000000) : ∃ r, impl_FlourFor k d w = some r ∧ 0 ≤ r ∧ (w = 0 → r = 0) := by
  have h := (dough_iff d).1 hd
  have hy : wr (wr (wr (1000 + d.Water) + d.Salt) + d.Leaven) = 1000 + d.Water + d.Salt + d.Leaven := by
    rw [wr_id (n := 1000 + d.Water) (by omega) (by omega), wr_id (n := 1000 + d.Water + d.Salt) (by omega) (by omega), wr_id (by omega) (by omega)]
  simp only [impl_FlourFor, impl_WholeParts, impl_DoughOk_eq, impl_in_eq, hd, Option.bind_some, Bool.not_true, cond_false, impl_up, hy]
  generalize hp : 1000 + d.Water + d.Salt + d.Leaven = p
  rw [inR_iff.2 ⟨h0, h1⟩]
  simp only [Bool.not_true, cond_false]
  rw [if_pos (by omega)]
  rw [wr_id (n := 1000 * w) (by omega) (by omega), wr_id (n := 1000 * w + p) (by omega) (by omega), wr_id (n := 1000 * w + p - 1) (by omega) (by omega), Int.tdiv_eq_ediv_of_nonneg (by omega)]
  have q1 : 0 ≤ (1000 * w + p - 1) / p := Int.ediv_nonneg (by omega) (by omega)
  have q2 : (1000 * w + p - 1) / p ≤ 1000000 := Int.ediv_le_of_le_mul (by omega) (by omega)
  rw [wr_id (by omega) (by omega)]
  refine ⟨_, rfl, q1, fun hw => ?_⟩
  subst hw
  exact Int.ediv_eq_zero_of_lt (by omega) (by omega)
theorem flour_val (k : Nat) (hk : 9000 ≤ k) (b : Bakery) (n : Int) (hb : bakeryOk b = true) (h1 : b.Stock.Grams.length ≤ 4194304) (h2 : b.Stock.Grams.length ≤ k) (h3 : b.Book.Events.length ≤ k) (h4 : b.Book.Events.length ≤ 4194304) (n0 : 0 ≤ n) (n1 : n ≤ 100) : ∃ r, impl_FlourNeeded k b n = some r ∧ 0 ≤ r ∧ (n = 0 → r = 0) := by
  simp only [impl_FlourNeeded, impl_BakeryOk_eq k (by omega) b h2 h1 h3 h4, impl_in_eq, Option.bind_some, hb]
  obtain ⟨_, hd, hl⟩ := dough_of hb
  obtain ⟨x, x1, x2, x3, x4⟩ := doughFor_eq k hk b.Loaf hl
  obtain ⟨m1, m2⟩ := mul_in x3 x4 n0 n1
  rw [inR_iff.2 (show 0 ≤ n ∧ n ≤ 1000 by omega)]
  simp only [Bool.not_true, cond_false, x2, Option.bind_some]
  rw [wr_id (n := x * n) (by omega) (by omega)]
  obtain ⟨r, r1, r2, r3⟩ := flourFor_val k b.Dough (x * n) hd m1 (by omega)
  rw [r1]
  exact ⟨r, rfl, r2, fun hn => r3 (by rw [hn, Int.mul_zero])⟩
theorem enterK_good (b : Bakery) (e : Event) (m : Int) (hb : bakeryOk b = true) (hl : b.Book.Events.length < 40) (he : (eventOn b.Book.Rack e).2.2.2.2 = true) (h0 : 0 ≤ m) (h1 : m ≤ 1000000) :
    (enterK b e m).2 = decide (b.Money + m ≤ 1000000) := by
  have hq := (ok_iff b).1 hb
  unfold enterK
  rw [hb, enterB_eq b.Book e hq.2.2.2.1, he, decide_eq_true hl, wr_id (n := b.Money + m) (by omega) (by omega)]
  simp only [Bool.and_self, cond_true]
  by_cases hm : b.Money + m ≤ 1000000
  · have : bakeryOk ⟨b.Stock, b.Dough, b.Loaf, stepB b.Book e, b.Money + m⟩ = true := (ok_iff _).2 ⟨hq.1, hq.2.1, hq.2.2.1, stepB_ok _ _ hq.2.2.2.1 hl he, by dsimp only; omega, hm⟩
    rw [this, decide_eq_true hm]; rfl
  · have : bakeryOk ⟨b.Stock, b.Dough, b.Loaf, stepB b.Book e, b.Money + m⟩ = false := by
      cases h : bakeryOk ⟨b.Stock, b.Dough, b.Loaf, stepB b.Book e, b.Money + m⟩
      · rfl
      · exact absurd ((ok_iff _).1 h).2.2.2.2.2 hm
    rw [this, decide_eq_false hm]; rfl
theorem enterK_bad (b : Bakery) (e : Event) (m : Int) (hb : bakeryOk b = true) (he : (eventOn b.Book.Rack e).2.2.2.2 = false) : (enterK b e m).2 = false := by
  have hq := (ok_iff b).1 hb
  unfold enterK
  rw [hb, enterB_eq b.Book e hq.2.2.2.1, he, Bool.and_false]; rfl
theorem money_in (b : Bakery) (e : Event) (m : Int) (hb : bakeryOk b = true) (h : (enterK b e m).2 = true) : enterK b e m = (⟨b.Stock, b.Dough, b.Loaf, stepB b.Book e, wr (b.Money + m)⟩, true) := by
  rcases enterK_cases b e m hb with h' | ⟨h', _⟩
  · rw [h'] at h; cases h
  · exact h'
theorem c0_true (code : List Int) (hu : ∀ x ∈ code, 0 ≤ x ∧ x ≤ 255) (hl : code.length ≤ 1048576) (b : Bakery) (hS : Stands b) : laws_FnBakeries_c0 9100 code b = some true := by
  have hb := hS.1
  have h4 := hS.2.2.1
  have hev := hS.2.1.2.1
  have hq := (ok_iff b).1 hb
  unfold laws_FnBakeries_c0 laws_FnBakeries_c0_s
  obtain ⟨v2, e2, v20, v21⟩ := laws_at_eq 9100 code hu hl 2 (by decide) (by decide)
  obtain ⟨v3, e3, v30, v31⟩ := laws_at_eq 9100 code hu hl 3 (by decide) (by decide)
  rw [e2]
  simp only [Option.bind_some]
  rw [if_pos (by decide), e3]
  simp only [Option.bind_some]
  have i0 : 0 ≤ Int.tmod v2 4 := Int.tmod_nonneg _ v20
  have i1 : Int.tmod v2 4 < 4 := Int.tmod_lt_of_pos _ (by decide)
  generalize Int.tmod v2 4 = i at i0 i1 ⊢
  rw [wr_id (n := v3 * 10) (by omega) (by omega), impl_BuyStock_eq 9100 (by decide) b i (v3 * 10) (by omega) (by omega) (by omega) (by omega)]
  simp only [Option.bind_some]
  rw [if_pos (by decide)]
  generalize hg : v3 * 10 = g
  have g0 : 0 ≤ g ∧ g ≤ 2550 := by omega
  have hG : 0 ≤ b.Stock.Grams.getD i.toNat 0 ∧ b.Stock.Grams.getD i.toNat 0 ≤ 4000 := by
    refine ⟨(storeOk_get hq.1 i.toNat (by omega)).2.1, hS.2.2.2 _ ?_⟩
    rw [List.getD_eq_getElem?_getD, List.getElem?_eq_getElem (by omega)]
    exact List.getElem_mem _
  have hw : wr (b.Stock.Grams.getD i.toNat 0 + g) = b.Stock.Grams.getD i.toNat 0 + g := wr_id (by omega) (by omega)
  have hf : fillG b.Stock i g = (⟨b.Stock.Grams.set i.toNat (b.Stock.Grams.getD i.toNat 0 + g)⟩, true) := by
    unfold fillG
    rw [hq.1, inR_iff.2 (show 0 ≤ i ∧ i ≤ 3 by omega), inR_iff.2 (show 0 ≤ g ∧ g ≤ 1000000 by omega), hw, decide_eq_false (by omega)]; rfl
  have hc : wr (Int.tdiv (wr (g + 99)) 100) = (g + 99) / 100 := by
    rw [wr_id (n := g + 99) (by omega) (by omega), Int.tdiv_eq_ediv_of_nonneg (by omega), wr_id (by omega) (by omega)]
  have hs : storeOk ⟨b.Stock.Grams.set i.toNat (b.Stock.Grams.getD i.toNat 0 + g)⟩ = true := by
    have ha : b.Stock.Grams.all (fun x => inR x 0 1000000) = true := by
      have := hq.1
      simp only [storeOk, Bool.and_eq_true] at this
      exact this.1
    unfold storeOk
    dsimp only
    rw [all_set _ _ _ _ ha (by omega), List.length_set, h4, inR_iff.2 (show 0 ≤ b.Stock.Grams.getD i.toNat 0 + g ∧ b.Stock.Grams.getD i.toNat 0 + g ≤ 1000000 by omega)]; rfl
  have hbuy : buyG b i g = cond (decide ((g + 99) / 100 ≤ b.Money)) (⟨⟨b.Stock.Grams.set i.toNat (b.Stock.Grams.getD i.toNat 0 + g)⟩, b.Dough, b.Loaf, b.Book, wr (b.Money - (g + 99) / 100)⟩, true) (b, false) := by
    unfold buyG
    rw [hb, hf, hc]
    simp only [cond_true]
    have hwm : wr (b.Money - (g + 99) / 100) = b.Money - (g + 99) / 100 := wr_id (by omega) (by omega)
    by_cases hm : (g + 99) / 100 ≤ b.Money
    · have : bakeryOk ⟨⟨b.Stock.Grams.set i.toNat (b.Stock.Grams.getD i.toNat 0 + g)⟩, b.Dough, b.Loaf, b.Book, wr (b.Money - (g + 99) / 100)⟩ = true := (ok_iff _).2 ⟨hs, hq.2.1, hq.2.2.1, hq.2.2.2.1, by rw [hwm]; dsimp only; omega, by rw [hwm]; dsimp only; omega⟩
      rw [this, decide_eq_true hm]
    · have : bakeryOk ⟨⟨b.Stock.Grams.set i.toNat (b.Stock.Grams.getD i.toNat 0 + g)⟩, b.Dough, b.Loaf, b.Book, wr (b.Money - (g + 99) / 100)⟩ = false := by
        cases h : bakeryOk ⟨⟨b.Stock.Grams.set i.toNat (b.Stock.Grams.getD i.toNat 0 + g)⟩, b.Dough, b.Loaf, b.Book, wr (b.Money - (g + 99) / 100)⟩
        · rfl
        · have := ((ok_iff _).1 h).2.2.2.2.1
          rw [hwm] at this; dsimp only at this; omega
      rw [this, decide_eq_false hm]
  obtain ⟨z, z1, z2, z3⟩ := flour_val 9100 (by decide) b 0 hb (by omega) (by omega) (by omega) (by omega) (Int.le_refl _) (by decide)
  have hj : laws_FnBakeries_j3 9100 b = some true := by
    unfold laws_FnBakeries_j3
    rw [z1, z3 rfl]; rfl
  by_cases hm : (g + 99) / 100 ≤ b.Money
  · have hset : (b.Stock.Grams.set i.toNat (b.Stock.Grams.getD i.toNat 0 + g)).getD i.toNat 0 = b.Stock.Grams.getD i.toNat 0 + g := by
      rw [List.getD_eq_getElem?_getD, List.getElem?_set_self (by omega)]; rfl
    have hb1 : buyG b i g = (⟨⟨b.Stock.Grams.set i.toNat (b.Stock.Grams.getD i.toNat 0 + g)⟩, b.Dough, b.Loaf, b.Book, wr (b.Money - (g + 99) / 100)⟩, true) := by rw [hbuy, decide_eq_true hm]; rfl
    rw [hc, hb1, hj, decide_eq_true hm]
    simp only [beq_self_eq_true, Bool.not_true, cond_true, cond_false, hset, hw, decide_true, List.length_set]
    rw [decide_eq_true (show (b.Stock.Grams.length : Int) = 4 by omega), if_pos ⟨i0, by omega⟩, if_pos ⟨i0, by omega⟩]
    rfl
  · have hb1 : buyG b i g = (b, false) := by rw [hbuy, decide_eq_false hm]; rfl
    rw [hc, hb1, hj, decide_eq_false hm]
    rfl
theorem c1_true (code : List Int) (hu : ∀ x ∈ code, 0 ≤ x ∧ x ≤ 255) (hl : code.length ≤ 1048576) (b : Bakery) (hS : Stands b) : laws_FnBakeries_c1 9100 code b = some true := by
  have hb := hS.1
  have h4 := hS.2.2.1
  have hev := hS.2.1.2.1
  have hq := (ok_iff b).1 hb
  have hr := (book_led b.Book hq.2.2.2.1).2.1
  unfold laws_FnBakeries_c1 laws_FnBakeries_c1_s
  rw [impl_NightOver_eq 9100 (by decide) b (by omega) (by omega) (by omega) (by omega), c0_true code hu hl b hS]
  simp only [Option.bind_some]
  have on := on_night b.Book.Rack hr
  have h2 := enterK_good b ⟨4, 0⟩ 0 hb (by omega) (by rw [on]) (Int.le_refl _) (by decide)
  rw [Int.add_zero, decide_eq_true hq.2.2.2.2.2] at h2
  have hw : wr (b.Money + 0) = b.Money := by rw [Int.add_zero]; exact wr_id (by omega) (by omega)
  rw [money_in b _ _ hb h2, hw, decide_eq_true (by omega)]
  simp only [beq_self_eq_true, Bool.not_true, cond_true, cond_false, stepB, on, decide_true]
theorem sell_eq (b : Bakery) (hS : Stands b) (m : Int) (m0 : 0 ≤ m) (m1 : m < 20) : impl_SellLoaves 9100 b m false = some (enterK b ⟨2, m⟩ (wr (4 * m))) ∧ impl_SellLoaves 9100 b m true = some (enterK b ⟨3, m⟩ (wr (2 * m))) := by
  have h4 := hS.2.2.1
  have hev := hS.2.1.2.1
  have hi : inR m 0 1000 = true := inR_iff.2 ⟨m0, by omega⟩
  refine ⟨?_, ?_⟩
  · rw [impl_SellLoaves_eq 9100 (by decide) b m false (by omega) (by omega) (by omega) (by omega)]; unfold sellL; rw [hi]; rfl
  · rw [impl_SellLoaves_eq 9100 (by decide) b m true (by omega) (by omega) (by omega) (by omega)]; unfold sellL; rw [hi]; rfl
theorem c2_true (code : List Int) (hu : ∀ x ∈ code, 0 ≤ x ∧ x ≤ 255) (hl : code.length ≤ 1048576) (b : Bakery) (hS : Stands b) : laws_FnBakeries_c2 9100 code b = some true := by
  have hb := hS.1
  have h4 := hS.2.2.1
  have hev := hS.2.1.2.1
  have hq := (ok_iff b).1 hb
  have hr := (book_led b.Book hq.2.2.2.1).2.1
  have hrr := small_rack hS.2.1 (Nat.le_refl _)
  unfold laws_FnBakeries_c2 laws_FnBakeries_c2_s
  obtain ⟨v, e, v0, v1⟩ := laws_at_eq 9100 code hu hl 1 (by decide) (by decide)
  rw [e]
  simp only [Option.bind_some]
  rw [if_pos (by decide)]
  have m0 : 0 ≤ Int.tmod v 20 := Int.tmod_nonneg _ v0
  have m1 : Int.tmod v 20 < 20 := Int.tmod_lt_of_pos _ (by decide)
  obtain ⟨s1, s2⟩ := sell_eq b hS _ m0 m1
  rw [s1, s2]
  simp only [Option.bind_some]
  have c1 := c1_true code hu hl b hS
  have room : decide (((b.Book.Events.length : Int) : Int) < 40) = true := decide_eq_true (by omega)
  -- the plain sale and the cheap sale
  have a1 : (enterK b ⟨2, Int.tmod v 20⟩ (wr (4 * Int.tmod v 20))).2 = (decide (Int.tmod v 20 ≤ b.Book.Rack.Fresh + b.Book.Rack.Day) && decide (b.Money + 4 * Int.tmod v 20 ≤ 1000000)) := by
    have o := on_sell b.Book.Rack (Int.tmod v 20) hr m0 (by omega)
    by_cases h : Int.tmod v 20 ≤ b.Book.Rack.Fresh + b.Book.Rack.Day
    · rw [decide_eq_true h] at o ⊢
      rw [wr_id (n := 4 * Int.tmod v 20) (by omega) (by omega), enterK_good b _ _ hb (by omega) (by rw [o]; rfl) (by omega) (by omega), Bool.true_and]
    · rw [decide_eq_false h] at o ⊢
      rw [enterK_bad b _ _ hb (by rw [o]; rfl)]; rfl
  have a2 : (enterK b ⟨3, Int.tmod v 20⟩ (wr (2 * Int.tmod v 20))).2 = (decide (Int.tmod v 20 ≤ b.Book.Rack.Old + b.Book.Rack.Day) && decide (b.Money + 2 * Int.tmod v 20 ≤ 1000000)) := by
    have o := on_cheap b.Book.Rack (Int.tmod v 20) hr m0 (by omega)
    by_cases h : Int.tmod v 20 ≤ b.Book.Rack.Old + b.Book.Rack.Day
    · rw [decide_eq_true h] at o ⊢
      rw [wr_id (n := 2 * Int.tmod v 20) (by omega) (by omega), enterK_good b _ _ hb (by omega) (by rw [o]; rfl) (by omega) (by omega), Bool.true_and]
    · rw [decide_eq_false h] at o ⊢
      rw [enterK_bad b _ _ hb (by rw [o]; rfl)]; rfl
  have w1 : wr (b.Money + wr (4 * Int.tmod v 20)) = b.Money + 4 * Int.tmod v 20 := by rw [wr_id (n := 4 * Int.tmod v 20) (by omega) (by omega), wr_id (by omega) (by omega)]
  have w2 : wr (b.Money + wr (2 * Int.tmod v 20)) = b.Money + 2 * Int.tmod v 20 := by rw [wr_id (n := 2 * Int.tmod v 20) (by omega) (by omega), wr_id (by omega) (by omega)]
  have w3 : wr (b.Book.Rack.Fresh + b.Book.Rack.Day) = b.Book.Rack.Fresh + b.Book.Rack.Day := wr_id (by omega) (by omega)
  have w4 : wr (b.Book.Rack.Old + b.Book.Rack.Day) = b.Book.Rack.Old + b.Book.Rack.Day := wr_id (by omega) (by omega)
  have j0 : laws_FnBakeries_j0 9100 (laws_FnBakeries_c1 9100) code b v (enterK b ⟨3, Int.tmod v 20⟩ (wr (2 * Int.tmod v 20))) = some true := by
    unfold laws_FnBakeries_j0
    rw [c1]
    cases h : (enterK b ⟨3, Int.tmod v 20⟩ (wr (2 * Int.tmod v 20))).2
    · rfl
    · rw [money_in b _ _ hb h]
      simp only [decide_true, Bool.not_true, cond_true, cond_false]
  have j1 : laws_FnBakeries_j1 9100 (laws_FnBakeries_c1 9100) code b v (enterK b ⟨3, Int.tmod v 20⟩ (wr (2 * Int.tmod v 20))) = some true := by
    unfold laws_FnBakeries_j1
    rw [j0, room, w4, a2, w2]
    cases decide (Int.tmod v 20 ≤ b.Book.Rack.Old + b.Book.Rack.Day) <;> simp
  have j2 : laws_FnBakeries_j2 9100 (laws_FnBakeries_c1 9100) code b v (enterK b ⟨2, Int.tmod v 20⟩ (wr (4 * Int.tmod v 20))) (enterK b ⟨3, Int.tmod v 20⟩ (wr (2 * Int.tmod v 20))) = some true := by
    unfold laws_FnBakeries_j2
    rw [j1]
    cases h : (enterK b ⟨2, Int.tmod v 20⟩ (wr (4 * Int.tmod v 20))).2
    · rfl
    · rw [money_in b _ _ hb h]
      simp only [decide_true, Bool.not_true, cond_true, cond_false]
  rw [j2, room, w3, a1, w1]
  cases decide (Int.tmod v 20 ≤ b.Book.Rack.Fresh + b.Book.Rack.Day) <;> simp
theorem FnBakeries (y0 : (List Int)) (h0 : (OkL U8) y0) : ∃ k, laws_FnBakeries k y0 = some true := by
  refine ⟨9100, ?_⟩
  unfold laws_FnBakeries laws_FnBakeries_m laws_big
  simp only [Option.bind_some]
  by_cases hbig : (1048576 : Int) < (y0.length : Int)
  · rw [decide_eq_true hbig]; rfl
  rw [decide_eq_false hbig]
  simp only [cond_false]
  have hlen : y0.length ≤ 1048576 := by omega
  obtain ⟨b, e, hS⟩ := DrawBakery_eq 9100 (by decide) y0 hlen
  have hb := hS.1
  have h4 := hS.2.2.1
  have hev := hS.2.1.2.1
  have hq := (ok_iff b).1 hb
  have hr := (book_led b.Book hq.2.2.2.1).2.1
  have hrr := small_rack hS.2.1 (Nat.le_refl _)
  obtain ⟨v, ev, v0, v1⟩ := laws_at_eq 9100 y0 h0.2 hlen 0 (by decide) (by decide)
  rw [e]
  simp only [Option.bind_some]
  rw [ev]
  simp only [Option.bind_some]
  rw [if_pos (by decide)]
  have n0 : 0 ≤ Int.tmod v 10 := Int.tmod_nonneg _ v0
  have n1 : Int.tmod v 10 < 10 := Int.tmod_lt_of_pos _ (by decide)
  obtain ⟨y, t, f1, f2, t1, _, b2, t3, t4, t5⟩ := bake_full 9100 (by decide) b (Int.tmod v 10) hb (by omega) (by omega) (by omega) (by omega)
  obtain ⟨z, z1, z2, _⟩ := flour_val 9100 (by decide) b (Int.tmod v 10) hb (by omega) (by omega) (by omega) (by omega) n0 (by omega)
  rw [f2] at z1
  cases z1
  rw [f2, b2]
  simp only [Option.bind_some]
  rw [t1]
  simp only [Option.bind_some]
  rw [decide_eq_false (show ¬ y < 0 by omega), impl_BakeryOk_eq 9100 (by decide) b (by omega) (by omega) (by omega) (by omega), hb]
  simp only [Option.bind_some, Bool.not_true, cond_false]
  have c2 := c2_true y0 h0.2 hlen b hS
  have room : decide (((b.Book.Events.length : Int) : Int) < 40) = true := decide_eq_true (by omega)
  have on : eventOn b.Book.Rack ⟨1, Int.tmod v 10⟩ = (⟨b.Book.Rack.Fresh + Int.tmod v 10, b.Book.Rack.Day, b.Book.Rack.Old⟩, Int.tmod v 10, 0, 0, true) := by
    rw [on_bake b.Book.Rack _ hr n0 (by omega), decide_eq_true (by omega)]; rfl
  have h2 := enterK_good b ⟨1, Int.tmod v 10⟩ 0 hb (by omega) (by rw [on]) (Int.le_refl _) (by decide)
  rw [Int.add_zero, decide_eq_true hq.2.2.2.2.2] at h2
  have hw : wr (b.Money + 0) = b.Money := by rw [Int.add_zero]; exact wr_id (by omega) (by omega)
  have hE := money_in b _ _ hb h2
  rw [hw] at hE
  obtain ⟨t, o⟩ := t
  dsimp only at t1 t3 t4 t5
  cases o with
  | false =>
    have hB : bakeG b (t, false) (Int.tmod v 10) = (b, false) := rfl
    rw [hB]
    simp only [cond_false, beq_self_eq_true, Bool.not_true]
    unfold laws_FnBakeries_c3 laws_FnBakeries_c3_s
    simp only [cond_false]
    exact c2
  | true =>
    have hB : bakeG b (t, true) (Int.tmod v 10) = (⟨t, b.Dough, b.Loaf, stepB b.Book ⟨1, Int.tmod v 10⟩, b.Money⟩, true) := by
      unfold bakeG
      rw [hE]; rfl
    rw [hB, room]
    simp only [cond_true, beq_self_eq_true, Bool.not_true, cond_false]
    unfold laws_FnBakeries_c3 laws_FnBakeries_c3_s
    have hG := (storeOk_get hq.1 0 (by omega)).2
    obtain ⟨u1, u2, u3⟩ := t5 rfl
    simp only [cond_true, stepB, on, decide_true, Bool.not_true, cond_false]
    rw [wr_id (n := b.Book.Rack.Fresh + Int.tmod v 10) (by omega) (by omega), decide_eq_true rfl, decide_eq_true (by omega), if_pos ⟨Int.le_refl _, by omega⟩, if_pos ⟨Int.le_refl _, by omega⟩, u3, wr_id (n := b.Stock.Grams.getD 0 0 - y) (by omega) (by omega), decide_eq_true rfl]
    simp only [Bool.not_true, cond_false]
    exact c2
end Go.Proofs.YtlhcphoojiemmaaX.Pure
