/- The acts of a bakery that stands: what each leaves, and that it stands afterwards; the drawn bakeries and acts. -/
import Derived.Test.YtlenacakmmikiaaDoorPB5
import Derived.Test.YtlenacakmmikiaaDoorPB6
import Derived.Test.YtlenacakmmikiaaDoorPB2o
namespace Go.Proofs.YtlenacakmmikiaaDoorX
open Go
set_option linter.unusedVariables false
theorem ok_iff (b : Bakery) : bakeryOk b = true ↔ storeOk b.Stock = true ∧ doughOk b.Dough = true ∧ loafOk b.Loaf = true ∧ bookOk b.Book = true ∧ 0 ≤ b.Money ∧ b.Money ≤ 1000000 := by
  simp only [bakeryOk, Bool.and_eq_true, inR_iff]
theorem enterK_cases (b : Bakery) (e : Event) (m : Int) (hb : bakeryOk b = true) : enterK b e m = (b, false) ∨
    (enterK b e m = (⟨b.Stock, b.Dough, b.Loaf, stepB b.Book e, wr (b.Money + m)⟩, true) ∧ bakeryOk ⟨b.Stock, b.Dough, b.Loaf, stepB b.Book e, wr (b.Money + m)⟩ = true ∧ (eventOn b.Book.Rack e).2.2.2.2 = true ∧ b.Book.Events.length < 40) := by
  have hk := ((ok_iff b).1 hb).2.2.2.1
  unfold enterK
  rw [hb, enterB_eq b.Book e hk]
  cases hc : (decide (b.Book.Events.length < 40) && (eventOn b.Book.Rack e).2.2.2.2)
  · exact .inl rfl
  · simp only [Bool.and_eq_true, decide_eq_true_eq] at hc
    simp only [cond_true]
    cases hq : bakeryOk ⟨b.Stock, b.Dough, b.Loaf, stepB b.Book e, wr (b.Money + m)⟩
    · exact .inl rfl
    · exact .inr ⟨rfl, rfl, hc.2, hc.1⟩
theorem enterK_ok (b : Bakery) (e : Event) (m : Int) (hb : bakeryOk b = true) : bakeryOk (enterK b e m).1 = true := by
  rcases enterK_cases b e m hb with h | ⟨h, h', _⟩
  · rw [h]; exact hb
  · rw [h]; exact h'
theorem bakeG_cases (b : Bakery) (t : Stock × Bool) (n : Int) (hb : bakeryOk b = true) (ht : t.2 = true → storeOk t.1 = true) : bakeG b t n = (b, false) ∨
    (bakeG b t n = (⟨t.1, b.Dough, b.Loaf, stepB b.Book ⟨1, n⟩, b.Money⟩, true) ∧ bakeryOk ⟨t.1, b.Dough, b.Loaf, stepB b.Book ⟨1, n⟩, b.Money⟩ = true ∧ t.2 = true ∧ (eventOn b.Book.Rack ⟨1, n⟩).2.2.2.2 = true) := by
  obtain ⟨s, o⟩ := t
  unfold bakeG
  cases o with
  | false => exact .inl rfl
  | true =>
    have hm := money_of hb
    have hw : wr (b.Money + 0) = b.Money := by rw [Int.add_zero]; exact wr_id (by omega) (by omega)
    rcases enterK_cases b ⟨1, n⟩ 0 hb with h | ⟨h, h', he, _⟩
    · rw [h]; exact .inl rfl
    · rw [h, hw] at *
      refine .inr ⟨rfl, ?_, rfl, he⟩
      rw [ok_iff] at h' ⊢
      exact ⟨ht rfl, h'.2⟩
theorem buyG_cases (b : Bakery) (i g : Int) (hb : bakeryOk b = true) : buyG b i g = (b, false) ∨
    (buyG b i g = (⟨(fillG b.Stock i g).1, b.Dough, b.Loaf, b.Book, wr (b.Money - wr (Int.tdiv (wr (g + 99)) 100))⟩, true) ∧ bakeryOk ⟨(fillG b.Stock i g).1, b.Dough, b.Loaf, b.Book, wr (b.Money - wr (Int.tdiv (wr (g + 99)) 100))⟩ = true ∧ (fillG b.Stock i g).2 = true) := by
  unfold buyG
  rw [hb]
  simp only [cond_true]
  cases hf : (fillG b.Stock i g).2
  · exact .inl rfl
  · simp only [cond_true]
    cases hq : bakeryOk ⟨(fillG b.Stock i g).1, b.Dough, b.Loaf, b.Book, wr (b.Money - wr (Int.tdiv (wr (g + 99)) 100))⟩
    · exact .inl rfl
    · exact .inr (by simp)
/-! ### What is drawn -/
def Stands (b : Bakery) : Prop := bakeryOk b = true ∧ Small b.Book 11 ∧ b.Stock.Grams.length = 4 ∧ (∀ x ∈ b.Stock.Grams, x ≤ 4000)
theorem l36Stock_dr (k : Nat) (c : l01Cur) (h0 : 0 ≤ c.i) (hb : c.b.length ≤ 1048576) : Dr (spec_l36Stock k c) (fun s => storeOk s = true ∧ s.Grams.length = 4 ∧ ∀ x ∈ s.Grams, x ≤ 4000) := by
  unfold spec_l36Stock
  refine (l01Below_dr k c 250 h0 hb).bind fun a1 i1 h1 hi1 ha1 => ?_
  refine (l01Below_dr k ⟨c.b, i1, h1⟩ 250 hi1 hb).bind fun a2 i2 h2 hi2 ha2 => ?_
  refine (l01Below_dr k ⟨c.b, i2, h2⟩ 50 hi2 hb).bind fun a3 i3 h3 hi3 ha3 => ?_
  refine (l01Below_dr k ⟨c.b, i3, h3⟩ 200 hi3 hb).bind fun a4 i4 h4 hi4 ha4 => ?_
  have b1 := ha1.1 (by decide)
  have b2 := ha2.1 (by decide)
  have b3 := ha3.1 (by decide)
  have b4 := ha4.1 (by decide)
  dsimp only
  rw [wr_id (n := 8 * a1) (by omega) (by omega), wr_id (n := 6 * a2) (by omega) (by omega), wr_id (n := 2 * a4) (by omega) (by omega)]
  refine ⟨_, _, _, rfl, hi4, ?_, rfl, ?_⟩
  · simp [storeOk, inR]; omega
  · intro x hx
    simp only [List.mem_cons, List.not_mem_nil, or_false] at hx
    omega
theorem l02Dough_dr (k : Nat) (c : l01Cur) (h0 : 0 ≤ c.i) (hb : c.b.length ≤ 1048576) : Dr (spec_l02Dough k c) (fun d => doughOk d = true) := by
  unfold spec_l02Dough
  refine (l01Below_dr k c 250 h0 hb).bind fun a1 i1 h1 hi1 ha1 => ?_
  refine (l01Below_dr k ⟨c.b, i1, h1⟩ 10 hi1 hb).bind fun a2 i2 h2 hi2 ha2 => ?_
  refine (l01Below_dr k ⟨c.b, i2, h2⟩ 250 hi2 hb).bind fun a3 i3 h3 hi3 ha3 => ?_
  have b1 := ha1.1 (by decide)
  have b2 := ha2.1 (by decide)
  have b3 := ha3.1 (by decide)
  dsimp only
  rw [wr_id (n := 550 + a1) (by omega) (by omega), wr_id (n := 15 + a2) (by omega) (by omega)]
  refine ⟨_, _, _, rfl, hi3, (dough_iff _).2 ?_⟩
  dsimp only; omega
theorem l01PickInt_dr (k : Nat) (c : l01Cur) (l : List Int) (h0 : 0 ≤ c.i) (hb : c.b.length ≤ 1048576) (hl : 0 < l.length) : Dr (spec_l01PickInt k c l) (fun x => x ∈ l) := by
  unfold spec_l01PickInt
  refine (l01Below_dr k c _ h0 hb).bind fun a1 i1 h1 hi1 ha1 => ?_
  have b1 := ha1.1 (by omega)
  dsimp only
  rw [if_pos ⟨b1.1, b1.2⟩]
  refine ⟨_, _, _, rfl, hi1, ?_⟩
  rw [List.getD_eq_getElem?_getD, List.getElem?_eq_getElem (by omega)]
  exact List.getElem_mem _
theorem l38Bakery_dr (k : Nat) (hk : 12 ≤ k) (c : l01Cur) (h0 : 0 ≤ c.i) (hb : c.b.length ≤ 1048576) : Dr (spec_l38Bakery k c) Stands := by
  unfold spec_l38Bakery
  refine (l36Stock_dr k c h0 hb).bind fun s i1 h1 hi1 hs => ?_
  refine (l02Dough_dr k ⟨c.b, i1, h1⟩ hi1 hb).bind fun d i2 h2 hi2 hd => ?_
  refine (l01Below_dr k ⟨c.b, i2, h2⟩ 200 hi2 hb).bind fun a3 i3 h3 hi3 ha3 => ?_
  refine (l01Below_dr k ⟨c.b, i3, h3⟩ 20 hi3 hb).bind fun a4 i4 h4 hi4 ha4 => ?_
  refine (l37Book_dr k hk ⟨c.b, i4, h4⟩ hi4 hb).bind fun bk i5 h5 hi5 hbk => ?_
  refine (l01PickInt_dr k ⟨c.b, i5, h5⟩ _ hi5 hb (by decide)).bind fun m i6 h6 hi6 hm => ?_
  have b3 := ha3.1 (by decide)
  have b4 := ha4.1 (by decide)
  dsimp only
  rw [wr_id (n := 50 + a3) (by omega) (by omega)]
  refine ⟨_, _, _, rfl, hi6, (ok_iff _).2 ⟨hs.1, hd, (loaf_iff _).2 ?_, hbk.1, ?_⟩, hbk, hs.2⟩
  · dsimp only; omega
  · simp only [List.mem_cons, List.not_mem_nil, or_false] at hm
    dsimp only; omega
def sampleB : Bakery := ⟨⟨[4000, 3000, 100, 800]⟩, ⟨650, 20, 200⟩, ⟨500, 15⟩, ⟨[], ⟨0, 0, 0⟩, 0, 0, 0⟩, 50⟩
theorem sampleB_ok : bakeryOk sampleB = true := by decide
theorem spec_SampleBakery_eq (k : Nat) (hk : 4 ≤ k) : spec_SampleBakery k = some sampleB := by
  unfold spec_SampleBakery
  rw [spec_OpenBakery_eq k _ _ _ _ (by simpa using hk) (by simp)]; rfl
theorem sample_stands : Stands sampleB := ⟨sampleB_ok, small_nil.mono (by decide), rfl, by
  intro x hx
  simp only [sampleB, List.mem_cons, List.not_mem_nil, or_false] at hx
  omega⟩
theorem l39Bakery_dr (k : Nat) (hk : 12 ≤ k) (c : l01Cur) (h0 : 0 ≤ c.i) (hb : c.b.length ≤ 1048576) : Dr (spec_l39Bakery k c) Stands := by
  unfold spec_l39Bakery spec_l01Once
  rw [Option.bind_assoc]
  refine (l01Below_dr k c 2 h0 hb).bind fun a1 i1 h1 hi1 ha1 => ?_
  dsimp only
  simp only [Option.bind_some]
  cases decide (a1 = 0)
  · simp only [cond_false]
    refine (l38Bakery_dr k hk ⟨c.b, i1, h1⟩ hi1 hb).bind fun b i2 h2 hi2 hs => ?_
    exact ⟨_, _, _, rfl, hi2, hs⟩
  · simp only [cond_true]
    rw [spec_SampleBakery_eq k (by omega)]
    exact ⟨_, _, _, rfl, hi1, sample_stands⟩
/-- An act as they are drawn. -/
def Fair (a : Deed) : Prop := (a.Kind = 1 ∨ a.Kind = 2 ∨ a.Kind = 3 ∨ a.Kind = 4 ∨ a.Kind = 5 ∨ a.Kind = 6) ∧ 0 ≤ a.A ∧ a.A ≤ 20 ∧ 0 ≤ a.B ∧ a.B ≤ 2490 ∧ actOk a = true
theorem l39Act_dr (k : Nat) (c : l01Cur) (h0 : 0 ≤ c.i) (hb : c.b.length ≤ 1048576) : Dr (spec_l39Act k c) Fair := by
  unfold spec_l39Act
  refine (l01Below_dr k c 8 h0 hb).bind fun a i h hi ha => ?_
  dsimp only
  have z : Dr (some ((⟨4, 0, 0⟩ : Deed), (i, h))) Fair := ⟨_, _, _, rfl, hi, by unfold Fair; decide⟩
  have q : ∀ kd n : Int, (kd = 1 ∨ kd = 2 ∨ kd = 3 ∨ kd = 6) → 0 < n → n ≤ 20 → Dr ((spec_l01Below k (⟨c.b, i, h⟩ : l01Cur) n).bind fun y => some ((⟨kd, y.1, 0⟩ : Deed), (y.2.1, y.2.2))) Fair := fun kd n hkd n0 n1 =>
    (l01Below_dr k ⟨c.b, i, h⟩ n hi hb).bind fun x i' h' hi' hx => ⟨_, _, _, rfl, hi', by
      have := hx.1 n0
      refine ⟨by dsimp only; omega, this.1, by dsimp only; omega, by dsimp only; omega, by dsimp only; omega, ?_⟩
      have hr : inR x 0 1000 = true := inR_iff.2 ⟨by omega, by omega⟩
      unfold actOk
      dsimp only
      rw [hr]
      rcases hkd with e | e | e | e <;> subst e <;> rfl⟩
  have p : Dr ((spec_l01Below k (⟨c.b, i, h⟩ : l01Cur) 4).bind fun y => (spec_l01Below k (⟨c.b, y.2.1, y.2.2⟩ : l01Cur) 250).bind fun y' => some ((⟨5, y.1, (wr ((10 : Int) * y'.1))⟩ : Deed), (y'.2.1, y'.2.2))) Fair :=
    (l01Below_dr k ⟨c.b, i, h⟩ 4 hi hb).bind fun x i' h' hi' hx => (l01Below_dr k ⟨c.b, i', h'⟩ 250 hi' hb).bind fun x' i'' h'' hi'' hx' => by
      have b1 := hx.1 (by decide)
      have b2 := hx'.1 (by decide)
      dsimp only
      rw [wr_id (n := 10 * x') (by omega) (by omega)]
      refine ⟨_, _, _, rfl, hi'', by dsimp only; omega, b1.1, by dsimp only; omega, by dsimp only; omega, by dsimp only; omega, ?_⟩
      unfold actOk
      dsimp only
      rw [inR_iff.2 (show 0 ≤ x ∧ x ≤ 3 by omega), inR_iff.2 (show 0 ≤ 10 * x' ∧ 10 * x' ≤ 100000 by omega)]; rfl
  cases decide (a = 0) <;> cases decide (a = 1) <;> cases decide (a = 2) <;> cases decide (a = 3) <;> cases decide (a = 4) <;> cases decide (a = 5) <;> cases decide (a = 6) <;>
    first | exact z | exact p | exact q 1 8 (by decide) (by decide) (by decide) | exact q 2 7 (by decide) (by decide) (by decide) | exact q 3 5 (by decide) (by decide) (by decide) | exact q 6 20 (by decide) (by decide) (by decide)
theorem l39List_lp (k : Nat) (y1 : Int × (Int × Int)) (c : l01Cur) (hb : c.b.length ≤ 1048576) : ∀ (m : Nat) (x i h : Int) (L : List Deed), 0 ≤ i → 0 ≤ x → y1.1 ≤ 13 → y1.1 - x ≤ (m : Int) → (L.length : Int) + (y1.1 - x) ≤ 13 → L.length ≤ 13 → (∀ a ∈ L, Fair a) → Dr (spec_l39List_l0 k m c y1 x i h L) (fun l => l.length ≤ 13 ∧ ∀ a ∈ l, Fair a) := by
  intro m
  induction m with
  | zero =>
    intro x i h L hi hx hy hm hL hl hf
    unfold spec_l39List_l0 spec_l39List_s0
    rw [decide_eq_false (by omega)]
    exact ⟨_, _, _, rfl, hi, hl, hf⟩
  | succ m ih =>
    intro x i h L hi hx hy hm hL hl hf
    unfold spec_l39List_l0 spec_l39List_s0
    by_cases hlt : x < y1.1
    · rw [decide_eq_true hlt]
      simp only [cond_true]
      refine (l39Act_dr k ⟨c.b, i, h⟩ hi hb).bind fun a i' h' hi' ha => ?_
      dsimp only
      rw [if_pos (by simp [maxRow]; omega), wr_id (n := x + 1) (by omega) (by omega)]
      refine ih (x + 1) i' h' (L ++ [a]) hi' (by omega) hy (by omega) (by simp; omega) (by simp; omega) ?_
      intro z hz
      rcases List.mem_append.1 hz with hz | hz
      · exact hf z hz
      · rw [List.mem_singleton.1 hz]; exact ha
    · rw [decide_eq_false hlt]
      exact ⟨_, _, _, rfl, hi, hl, hf⟩
theorem l39List_dr (k : Nat) (hk : 14 ≤ k) (c : l01Cur) (h0 : 0 ≤ c.i) (hb : c.b.length ≤ 1048576) : Dr (spec_l39List k c) (fun l => l.length ≤ 13 ∧ ∀ a ∈ l, Fair a) := by
  unfold spec_l39List spec_l39List_m
  refine (l01Below_dr k c 14 h0 hb).bind fun a i h hi ha => ?_
  have := ha.1 (by decide)
  exact l39List_lp k _ c hb k 0 i h [] hi (Int.le_refl _) (by dsimp only; omega) (by dsimp only; omega) (by simp; omega) (by simp) (by simp)
theorem DrawActs_eq (k : Nat) (hk : 4000 ≤ k) (code : List Int) (hb : code.length ≤ 1048576) : ∃ b l, spec_DrawActs k code = some (b, l) ∧ Stands b ∧ l.length ≤ 13 ∧ ∀ a ∈ l, Fair a := by
  unfold spec_DrawActs
  obtain ⟨h, e⟩ := l01New_eq k hk code
  rw [e]
  simp only [Option.bind_some]
  obtain ⟨b, i1, h1, e1, hi1, hs⟩ := l39Bakery_dr k (by omega) ⟨code, 0, h⟩ (Int.le_refl _) hb
  rw [e1]
  simp only [Option.bind_some]
  obtain ⟨l, i2, h2, e2, hi2, hl⟩ := l39List_dr k (by omega) ⟨code, i1, h1⟩ hi1 hb
  rw [e2]
  exact ⟨b, l, rfl, hs, hl.1, hl.2⟩
end Go.Proofs.YtlenacakmmikiaaDoorX
