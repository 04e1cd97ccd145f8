/- The law of the histories, on the plain side: what was baked is sold, thrown away or on the shelf, nothing is baked without flour, and money is exact. -/
import Derived.Test.YtlhcphoojiemmaaTold
import Derived.Test.YtlhcphoojiemmaaPB7
namespace Go.Proofs.YtlhcphoojiemmaaX.Pure
open Go Go.Proofs
set_option linter.unusedVariables false
theorem same_lp (k : Nat) : ∀ (m : Nat) (B A : List Int), B.length ≤ m → (A ++ B).length ≤ 4194304 → laws_sameInts_l0 k m (A ++ B) (A ++ B) (A.length : Int) = some true
  | 0, [], A, _, _ => by simp only [laws_sameInts_l0, laws_sameInts_s0, lt_end, cond_false]
  | m + 1, [], A, _, _ => by simp only [laws_sameInts_l0, laws_sameInts_s0, lt_end, cond_false]
  | m + 1, b :: B, A, h1, h2 => by
    have ih := same_lp k m B (A ++ [b]) (by simp at h1; omega) (by simpa using h2)
    simp only [laws_sameInts_l0, laws_sameInts_s0, lt_mid, cond_true, g_mid, if_true, getD_mid, decide_true, Bool.not_true, cond_false]
    rw [wr_suc A b (by simp at h2; omega), app_mid A b B, ih]
theorem same_self (k : Nat) (l : List Int) (h1 : l.length ≤ k) (h2 : l.length ≤ 4194304) : laws_sameInts k l l = some true := by
  unfold laws_sameInts laws_sameInts_m
  simp only [decide_true, Bool.not_true, cond_false]
  exact same_lp k k l [] h1 (by simpa using h2)
noncomputable def top (k m : Nat) (code : List Int) (y2 : Bakery × List Deed) (i : Int) (b : Bakery) : Option Bool :=
  laws_FnTop_l0 k m code y2 b.Money i b.Stock.Grams b.Book.Events b.Dough.Water b.Dough.Salt b.Dough.Leaven b.Loaf.Weight b.Loaf.Loss b.Book.Rack.Fresh b.Book.Rack.Day b.Book.Rack.Old b.Book.Baked b.Book.Sold b.Book.Thrown b.Money
noncomputable def topS (k : Nat) (code : List Int) (y2 : Bakery × List Deed) (J : Int → Int → (List Int) → (List Event) → Int → Int → Int → Int → Int → Int → Int → Int → Int → Int → Int → Int → Option (Bool)) (i : Int) (b : Bakery) : Option Bool :=
  laws_FnTop_s0 k code y2 J b.Money i b.Stock.Grams b.Book.Events b.Dough.Water b.Dough.Salt b.Dough.Leaven b.Loaf.Weight b.Loaf.Loss b.Book.Rack.Fresh b.Book.Rack.Day b.Book.Rack.Old b.Book.Baked b.Book.Sold b.Book.Thrown b.Money
theorem topS_end (k : Nat) (hk : 9000 ≤ k) (code : List Int) (y2 : Bakery × List Deed) (J : Int → Int → (List Int) → (List Event) → Int → Int → Int → Int → Int → Int → Int → Int → Int → Int → Int → Int → Option (Bool)) (b : Bakery) (hb : bakeryOk b = true) (hl : b.Stock.Grams.length = 4) (he : b.Book.Events.length ≤ 60) :
    topS k code y2 J (y2.2.length : Int) b = some true := by
  unfold topS laws_FnTop_s0
  rw [decide_eq_false (by omega)]
  simp only [cond_false]
  have e : impl_BakeryOk k (⟨⟨b.Stock.Grams⟩, ⟨b.Dough.Water, b.Dough.Salt, b.Dough.Leaven⟩, ⟨b.Loaf.Weight, b.Loaf.Loss⟩, ⟨b.Book.Events, ⟨b.Book.Rack.Fresh, b.Book.Rack.Day, b.Book.Rack.Old⟩, b.Book.Baked, b.Book.Sold, b.Book.Thrown⟩, b.Money⟩ : Bakery) = some true := by
    rw [← hb]; exact impl_BakeryOk_eq k (by omega) b (by omega) (by omega) (by omega) (by omega)
  have e2 : impl_BookOk k (⟨b.Book.Events, ⟨b.Book.Rack.Fresh, b.Book.Rack.Day, b.Book.Rack.Old⟩, b.Book.Baked, b.Book.Sold, b.Book.Thrown⟩ : Book) = some true := by
    rw [← ((ok_iff b).1 hb).2.2.2.1]; exact impl_BookOk_eq k (by omega) b.Book (by omega) (by omega)
  rw [e, Option.bind_some, cond_true, e2]; rfl
theorem topS_step (k : Nat) (hk : 9000 ≤ k) (code : List Int) (y2 : Bakery × List Deed) (J : Int → Int → (List Int) → (List Event) → Int → Int → Int → Int → Int → Int → Int → Int → Int → Int → Int → Int → Option (Bool)) (A B : List Deed) (a : Deed) (h2 : y2.2 = A ++ a :: B) (hA : A.length ≤ 1000) (b : Bakery) (hb : bakeryOk b = true) (hl : b.Stock.Grams.length = 4) (he : b.Book.Events.length ≤ 60) (hf : Fair a) :
    ∃ r : Bakery, bakeryOk r = true ∧ r.Stock.Grams.length = 4 ∧ r.Book.Events.length ≤ b.Book.Events.length + 1 ∧
      topS k code y2 J (A.length : Int) b = J r.Money ((A ++ [a]).length : Int) r.Stock.Grams r.Book.Events r.Dough.Water r.Dough.Salt r.Dough.Leaven r.Loaf.Weight r.Loaf.Loss r.Book.Rack.Fresh r.Book.Rack.Day r.Book.Rack.Old r.Book.Baked r.Book.Sold r.Book.Thrown r.Money := by
  obtain ⟨⟨r, o⟩, e1, e2, hd, l1, l2⟩ := did k hk b a hb (by omega) (by omega) (by omega) (by omega)
  obtain ⟨f, f1, f2, f3⟩ := flourNeeded_eq k hk b a.A (by omega) (by omega) (by omega) (by omega)
  have hr := did_ok hb hd
  dsimp only at hr l1 l2
  refine ⟨r, hr, by omega, by omega, ?_⟩
  have hm := money_of hb
  unfold topS laws_FnTop_s0
  rw [h2, lt_mid, if_pos ((g_mid A a B).mpr trivial), getD_mid, wr_suc A a (by omega)]
  have f1' : spec_FlourNeeded k (⟨⟨b.Stock.Grams⟩, ⟨b.Dough.Water, b.Dough.Salt, b.Dough.Leaven⟩, ⟨b.Loaf.Weight, b.Loaf.Loss⟩, ⟨b.Book.Events, ⟨b.Book.Rack.Fresh, b.Book.Rack.Day, b.Book.Rack.Old⟩, b.Book.Baked, b.Book.Sold, b.Book.Thrown⟩, b.Money⟩ : Bakery) a.A = some f := f1
  have e1' : spec_DoAct k (⟨⟨b.Stock.Grams⟩, ⟨b.Dough.Water, b.Dough.Salt, b.Dough.Leaven⟩, ⟨b.Loaf.Weight, b.Loaf.Loss⟩, ⟨b.Book.Events, ⟨b.Book.Rack.Fresh, b.Book.Rack.Day, b.Book.Rack.Old⟩, b.Book.Baked, b.Book.Sold, b.Book.Thrown⟩, b.Money⟩ : Bakery) a = some (r, o) := e1
  have e2' : impl_DoAct k (⟨⟨b.Stock.Grams⟩, ⟨b.Dough.Water, b.Dough.Salt, b.Dough.Leaven⟩, ⟨b.Loaf.Weight, b.Loaf.Loss⟩, ⟨b.Book.Events, ⟨b.Book.Rack.Fresh, b.Book.Rack.Day, b.Book.Rack.Old⟩, b.Book.Baked, b.Book.Sold, b.Book.Thrown⟩, b.Money⟩ : Bakery) a = some (r, o) := e2
  rw [f1', e1', e2']
  have hbk := impl_BakeryOk_eq k (by omega) r (by omega) (by omega) (by omega) (by omega)
  rw [hr] at hbk
  obtain ⟨c1, c2, c3, c4, c5, c6⟩ := book_led r.Book ((ok_iff r).1 hr).2.2.2.1
  have cr := (rackOk_iff _).1 c2
  have hw : wr (wr (wr (wr (r.Book.Sold + r.Book.Thrown) + r.Book.Rack.Fresh) + r.Book.Rack.Day) + r.Book.Rack.Old) = r.Book.Baked := by
    rw [wr_id (n := r.Book.Sold + r.Book.Thrown) (by omega) (by omega), wr_id (n := r.Book.Sold + r.Book.Thrown + r.Book.Rack.Fresh) (by omega) (by omega), wr_id (n := r.Book.Sold + r.Book.Thrown + r.Book.Rack.Fresh + r.Book.Rack.Day) (by omega) (by omega), wr_id (by omega) (by omega)]; omega
  simp only [Option.bind_some, cond_true, decide_true, Bool.not_true, cond_false, hbk, hw, Bool.and_self, same_self k r.Stock.Grams (by omega) (by omega)]
  have z01 : decide ((0 : Int) = 1) = false := rfl
  have hg : ∀ l : List Int, l.length = 4 → (0 ≤ (0 : Int) ∧ (0 : Int) < (l.length : Int)) := fun l h => ⟨Int.le_refl _, by omega⟩
  rcases hd with ⟨hk1, y, t, g1, t1, t2, e⟩ | ⟨hk1, e⟩ | ⟨hk1, e⟩ | ⟨hk1, e⟩ | ⟨hk1, e⟩ | ⟨hk1, y, g1, e⟩ | ⟨ha, _⟩
  · -- baking
    have z16 : decide ((1 : Int) = 6) = false := rfl
    rw [f1] at g1
    cases g1
    rcases bakeG_cases b t a.A hb t1 with h | ⟨h, h', ht, hev⟩
    · rw [h] at e; cases e
      simp only [cond_false, z01, decide_true, Bool.not_true, hk1, z16]
    · rw [h] at e; cases e
      obtain ⟨t3, t4, t5⟩ := t2 ht
      have st := (ok_iff b).1 hb
      have g0 := (storeOk_get st.1 0 (by omega)).2
      have hev2 : (eventOn b.Book.Rack ⟨1, a.A⟩).2.1 = a.A := by
        have hr0 := (book_led b.Book st.2.2.2.1).2.1
        have hL := (on_other _ _ hev).2.1
        dsimp only at hL
        rw [on_bake _ _ hr0 hL.1 hL.2] at hev ⊢
        cases hq : decide (b.Book.Rack.Fresh + a.A ≤ 10000)
        · rw [hq] at hev; cases hev
        · rfl
      simp only [cond_true, decide_true, hk1, cond_false]
      rw [if_pos (hg _ hl), decide_eq_false (by omega)]
      simp only [cond_false, stepB, hev2, decide_true, Bool.not_true]
      rw [if_pos (hg _ (by dsimp only at l1; omega)), if_pos (hg _ hl), t5, wr_id (n := b.Stock.Grams.getD 0 0 - f) (by omega) (by omega)]
      simp only [decide_true, Bool.not_true, cond_false, z16]
  · -- selling
    have z21 : decide ((2 : Int) = 1) = false := rfl
    have z26 : decide ((2 : Int) = 6) = false := rfl
    rcases enterK_cases b ⟨2, a.A⟩ (wr (4 * a.A)) hb with h | ⟨h, h', hev, _⟩
    · rw [h] at e; cases e
      simp only [cond_false, z01, decide_true, Bool.not_true, hk1, z26]
    · rw [h] at e; cases e
      simp only [cond_true, decide_true, hk1, cond_false, z21, z26, Bool.not_true]
  · -- cheap
    have z31 : decide ((3 : Int) = 1) = false := rfl
    have z32 : decide ((3 : Int) = 2) = false := rfl
    have z36 : decide ((3 : Int) = 6) = false := rfl
    rcases enterK_cases b ⟨3, a.A⟩ (wr (2 * a.A)) hb with h | ⟨h, h', hev, _⟩
    · rw [h] at e; cases e
      simp only [cond_false, z01, decide_true, Bool.not_true, hk1, z36]
    · rw [h] at e; cases e
      simp only [cond_true, decide_true, hk1, cond_false, z31, z32, z36, Bool.not_true]
  · -- morning
    have z41 : decide ((4 : Int) = 1) = false := rfl
    have z42 : decide ((4 : Int) = 2) = false := rfl
    have z43 : decide ((4 : Int) = 3) = false := rfl
    have z45 : decide ((4 : Int) = 5) = false := rfl
    have z46 : decide ((4 : Int) = 6) = false := rfl
    have w0 : wr (b.Money + 0) = b.Money := by rw [Int.add_zero]; exact wr_id (by omega) (by omega)
    rcases enterK_cases b ⟨4, 0⟩ 0 hb with h | ⟨h, h', hev, _⟩
    · rw [h] at e; cases e
      simp only [cond_false, z01, decide_true, Bool.not_true, hk1, z46]
    · rw [h] at e; cases e
      simp only [cond_true, decide_true, hk1, cond_false, z41, z42, z43, z45, z46, Bool.not_true, w0]
  · -- buying
    have z51 : decide ((5 : Int) = 1) = false := rfl
    have z52 : decide ((5 : Int) = 2) = false := rfl
    have z53 : decide ((5 : Int) = 3) = false := rfl
    have z56 : decide ((5 : Int) = 6) = false := rfl
    rcases buyG_cases b a.A a.B hb with h | ⟨h, h', _⟩
    · rw [h] at e; cases e
      simp only [cond_false, z01, decide_true, Bool.not_true, hk1, z56]
    · rw [h] at e; cases e
      simp only [cond_true, decide_true, hk1, cond_false, z51, z52, z53, z56, Bool.not_true]
      rw [if_pos (by decide)]
  · -- flour
    have z61 : decide ((6 : Int) = 1) = false := rfl
    have z62 : decide ((6 : Int) = 2) = false := rfl
    have z63 : decide ((6 : Int) = 3) = false := rfl
    have z65 : decide ((6 : Int) = 5) = false := rfl
    have hfy : y = f := Option.some.inj (g1.symm.trans f1)
    subst hfy
    cases e
    cases decide (o = 1)
    · simp only [cond_true, decide_true, hk1, cond_false, Bool.not_true]
    · simp only [cond_true, decide_true, hk1, cond_false, z61, z62, z63, z65, Bool.not_true]
  · rw [hf.2.2.2.2.2] at ha; cases ha
theorem top_lp (k : Nat) (hk : 9000 ≤ k) (code : List Int) (y2 : Bakery × List Deed) : ∀ (m : Nat) (B A : List Deed) (b : Bakery), y2.2 = A ++ B → B.length ≤ m → A.length + B.length ≤ 1000 → bakeryOk b = true → b.Stock.Grams.length = 4 → b.Book.Events.length + B.length ≤ 60 → (∀ a ∈ B, Fair a) → top k m code y2 (A.length : Int) b = some true := by
  intro m
  induction m with
  | zero =>
    intro B A b h2 hm hA hb hl he hf
    have hB : B = [] := List.eq_nil_of_length_eq_zero (by omega)
    subst hB
    have e : (A.length : Int) = (y2.2.length : Int) := by rw [h2]; simp
    rw [e]
    exact topS_end k hk code y2 _ b hb hl (by simpa using he)
  | succ m ih =>
    intro B A b h2 hm hA hb hl he hf
    cases B with
    | nil =>
      have e : (A.length : Int) = (y2.2.length : Int) := by rw [h2]; simp
      rw [e]
      exact topS_end k hk code y2 _ b hb hl (by simpa using he)
    | cons a B =>
      simp only [List.length_cons] at hm hA he
      obtain ⟨r, r1, r2, r3, r4⟩ := topS_step k hk code y2 (laws_FnTop_l0 k m code y2) A B a h2 (by omega) b hb hl (by omega) (hf a (by simp))
      refine Eq.trans ?_ (ih B (A ++ [a]) r (by rw [h2]; simp) (by omega) (by simp; omega) r1 r2 (by omega) (fun z hz => hf z (by simp [hz])))
      exact r4
theorem FnTop (y0 : (List Int)) (h0 : (OkL U8) y0) : ∃ k, laws_FnTop k y0 = some true := by
  refine ⟨9100, ?_⟩
  unfold laws_FnTop laws_FnTop_m laws_big
  simp only [Option.bind_some]
  by_cases hbig : (1048576 : Int) < (y0.length : Int)
  · rw [decide_eq_true hbig]; rfl
  rw [decide_eq_false hbig]
  simp only [cond_false]
  obtain ⟨b, l, e, hS, hl, hf⟩ := DrawActs_eq 9100 (by decide) y0 (by omega)
  have hev := hS.2.1.2.1
  rw [e]
  exact top_lp 9100 (by decide) y0 (b, l) 9100 l [] b rfl (by omega) (by simp; omega) hS.1 hS.2.2.1 (by omega) hf
end Go.Proofs.YtlhcphoojiemmaaX.Pure
