/- The book: what entering an event does to a book that stands, and what is known of such a book. -/
import Derived.Test.YtlenacakmmikiaaDoorPB0
namespace Go.Proofs.YtlenacakmmikiaaDoorX
open Go
set_option linter.unusedVariables false
def stepB (b : Book) (e : Event) : Book := ⟨b.Events ++ [e], (eventOn b.Rack e).1, wr (b.Baked + (eventOn b.Rack e).2.1), wr (b.Sold + (eventOn b.Rack e).2.2.1), wr (b.Thrown + (eventOn b.Rack e).2.2.2.1)⟩
theorem goC_snoc (ev ev' : List Event) (e : Event) : ∀ (B : List Event) (r : Rack) (a b c : Int), goC ev' (B ++ [e]) r a b c = (goC ev B r a b c).bind fun g => cond (eventOn g.Rack e).2.2.2.2 (some ⟨ev', (eventOn g.Rack e).1, wr (g.Baked + (eventOn g.Rack e).2.1), wr (g.Sold + (eventOn g.Rack e).2.2.1), wr (g.Thrown + (eventOn g.Rack e).2.2.2.1)⟩) none
  | [], r, a, b, c => rfl
  | x :: B, r, a, b, c => by
    simp only [List.cons_append, goC]
    cases (eventOn r x).2.2.2.2
    · rfl
    · exact goC_snoc ev ev' e B _ _ _ _
theorem bookOk_iff (b : Book) : bookOk b = true ↔ countB b.Events = some b := by
  unfold bookOk
  cases hc : countB b.Events with
  | none => simp
  | some g =>
    have hev := (countB_ev _ g hc).1
    obtain ⟨ge, ⟨g1, g2, g3⟩, ga, gb, gc⟩ := g
    obtain ⟨be, ⟨b1, b2, b3⟩, ba, bb, bc⟩ := b
    simp only at hev
    simp only [Bool.and_eq_true, decide_eq_true_eq, Option.some.injEq]
    constructor
    · rintro ⟨⟨h1, h2, h3⟩, h4, h5, h6⟩
      subst hev h1 h2 h3 h4 h5 h6; rfl
    · intro h; cases h; exact ⟨⟨rfl, rfl, rfl⟩, rfl, rfl, rfl⟩
theorem countB_step (b : Book) (e : Event) (hb : bookOk b = true) : countB (b.Events ++ [e]) = if b.Events.length < 40 then (cond (eventOn b.Rack e).2.2.2.2 (some (stepB b e)) none) else none := by
  have h := (bookOk_iff b).1 hb
  unfold countB at h ⊢
  split at h
  · by_cases h40 : b.Events.length < 40
    · rw [if_pos (by simp; omega), if_pos h40, goC_snoc b.Events, h]; rfl
    · rw [if_neg (by simp; omega), if_neg h40]
  · cases h
theorem enterB_eq (b : Book) (e : Event) (hb : bookOk b = true) : enterB b e = cond (decide (b.Events.length < 40) && (eventOn b.Rack e).2.2.2.2) (stepB b e, true) (b, false) := by
  unfold enterB
  rw [hb, countB_step b e hb]
  by_cases h40 : b.Events.length < 40
  · rw [if_pos h40, decide_eq_true h40]
    cases (eventOn b.Rack e).2.2.2.2 <;> rfl
  · rw [if_neg h40, decide_eq_false h40]; rfl
theorem stepB_ok (b : Book) (e : Event) (hb : bookOk b = true) (hl : b.Events.length < 40) (he : (eventOn b.Rack e).2.2.2.2 = true) : bookOk (stepB b e) = true := by
  rw [bookOk_iff]
  show countB (b.Events ++ [e]) = _
  rw [countB_step b e hb, if_pos hl, he]; rfl
theorem enterB_ok (b : Book) (e : Event) (hb : bookOk b = true) : bookOk (enterB b e).1 = true := by
  rw [enterB_eq b e hb]
  cases h : (decide (b.Events.length < 40) && (eventOn b.Rack e).2.2.2.2)
  · exact hb
  · simp only [Bool.and_eq_true, decide_eq_true_eq] at h
    exact stepB_ok b e hb h.1 h.2
/-! ### What the selling moves -/
theorem sellFresh_led (r : Rack) (n : Int) (hr : rackOk r = true) (h0 : 0 ≤ n) (h1 : n ≤ 10000) :
    rackOk (sellFresh r n).1 = true ∧ 0 ≤ (sellFresh r n).2 ∧ (sellFresh r n).2 ≤ n ∧ (sellFresh r n).2 + (sellFresh r n).1.Fresh + (sellFresh r n).1.Day = r.Fresh + r.Day ∧ (sellFresh r n).1.Old = r.Old ∧ (n ≤ r.Fresh + r.Day → (sellFresh r n).2 = n) ∧ (r.Fresh + r.Day < n → (sellFresh r n).2 < n) := by
  refine ⟨sellFresh_ok r n hr, ?_⟩
  unfold sellFresh
  rw [hr, inR_iff.2 ⟨h0, h1⟩]
  rw [rackOk_iff] at hr
  simp only [Bool.and_self, cond_true]
  have m1 := mn_in h0 hr.1.1
  have w1 : wr (n - mn n r.Fresh) = n - mn n r.Fresh := wr_id (by omega) (by omega)
  rw [w1]
  have m2 := mn_in (a := n - mn n r.Fresh) (by omega) hr.2.1.1
  rw [wr_id (n := r.Fresh - mn n r.Fresh) (by omega) (by omega), wr_id (n := r.Day - mn (n - mn n r.Fresh) r.Day) (by omega) (by omega), wr_id (n := mn n r.Fresh + mn (n - mn n r.Fresh) r.Day) (by omega) (by omega)]
  have e1 : mn n r.Fresh = if r.Fresh < n then r.Fresh else n := rfl
  have e2 : mn (n - mn n r.Fresh) r.Day = if r.Day < (n - mn n r.Fresh) then r.Day else (n - mn n r.Fresh) := rfl
  refine ⟨by omega, by omega, by omega, trivial, ?_, ?_⟩
  · intro h; split at e1 <;> split at e2 <;> omega
  · intro h; split at e1 <;> split at e2 <;> omega
theorem sellCheap_led (r : Rack) (n : Int) (hr : rackOk r = true) (h0 : 0 ≤ n) (h1 : n ≤ 10000) :
    rackOk (sellCheap r n).1 = true ∧ 0 ≤ (sellCheap r n).2 ∧ (sellCheap r n).2 ≤ n ∧ (sellCheap r n).2 + (sellCheap r n).1.Day + (sellCheap r n).1.Old = r.Day + r.Old ∧ (sellCheap r n).1.Fresh = r.Fresh ∧ (n ≤ r.Old + r.Day → (sellCheap r n).2 = n) ∧ (r.Old + r.Day < n → (sellCheap r n).2 < n) ∧ (n = r.Old → (sellCheap r n).1.Old = 0) := by
  refine ⟨sellCheap_ok r n hr, ?_⟩
  unfold sellCheap
  rw [hr, inR_iff.2 ⟨h0, h1⟩]
  rw [rackOk_iff] at hr
  simp only [Bool.and_self, cond_true]
  have m1 := mn_in h0 hr.2.2.1
  have w1 : wr (n - mn n r.Old) = n - mn n r.Old := wr_id (by omega) (by omega)
  rw [w1]
  have m2 := mn_in (a := n - mn n r.Old) (by omega) hr.2.1.1
  rw [wr_id (n := r.Old - mn n r.Old) (by omega) (by omega), wr_id (n := r.Day - mn (n - mn n r.Old) r.Day) (by omega) (by omega), wr_id (n := mn n r.Old + mn (n - mn n r.Old) r.Day) (by omega) (by omega)]
  have e1 : mn n r.Old = if r.Old < n then r.Old else n := rfl
  have e2 : mn (n - mn n r.Old) r.Day = if r.Day < (n - mn n r.Old) then r.Day else (n - mn n r.Old) := rfl
  refine ⟨by omega, by omega, by omega, trivial, ?_, ?_, ?_⟩
  · intro h; split at e1 <;> split at e2 <;> omega
  · intro h; split at e1 <;> split at e2 <;> omega
  · intro h; split at e1 <;> omega
theorem nextMorning_zero (r : Rack) (hr : rackOk r = true) : nextMorning r 0 = (⟨0, r.Fresh, r.Day⟩, r.Old) := by
  unfold nextMorning; rw [hr]; rfl
/-- The kinds of events, one by one. -/
theorem on_bake (r : Rack) (n : Int) (hr : rackOk r = true) (h0 : 0 ≤ n) (h1 : n ≤ 1000) : eventOn r ⟨1, n⟩ = cond (decide (r.Fresh + n ≤ 10000)) (⟨r.Fresh + n, r.Day, r.Old⟩, n, 0, 0, true) (r, 0, 0, 0, false) := by
  have hr' := (rackOk_iff r).1 hr
  unfold eventOn
  dsimp only
  rw [hr, inR_iff.2 ⟨h0, h1⟩, wr_id (n := r.Fresh + n) (by omega) (by omega)]
  have : rackOk ⟨r.Fresh + n, r.Day, r.Old⟩ = decide (r.Fresh + n ≤ 10000) := by
    by_cases h : r.Fresh + n ≤ 10000
    · rw [decide_eq_true h, rackOk_iff]; dsimp only; omega
    · rw [decide_eq_false h]
      cases hq : rackOk ⟨r.Fresh + n, r.Day, r.Old⟩
      · rfl
      · rw [rackOk_iff] at hq; dsimp only at hq; omega
  rw [this]; rfl
theorem on_sell (r : Rack) (n : Int) (hr : rackOk r = true) (h0 : 0 ≤ n) (h1 : n ≤ 1000) : eventOn r ⟨2, n⟩ = cond (decide (n ≤ r.Fresh + r.Day)) ((sellFresh r n).1, 0, n, 0, true) (r, 0, 0, 0, false) := by
  obtain ⟨_, _, _, _, _, s1, s2⟩ := sellFresh_led r n hr h0 (by omega)
  unfold eventOn
  dsimp only
  rw [hr, inR_iff.2 ⟨h0, h1⟩]
  by_cases h : n ≤ r.Fresh + r.Day
  · rw [decide_eq_true h, decide_eq_true (s1 h), s1 h]; rfl
  · rw [decide_eq_false h, decide_eq_false (p := (sellFresh r n).2 = n) (by have := s2 (by omega); omega)]; rfl
theorem on_cheap (r : Rack) (n : Int) (hr : rackOk r = true) (h0 : 0 ≤ n) (h1 : n ≤ 1000) : eventOn r ⟨3, n⟩ = cond (decide (n ≤ r.Old + r.Day)) ((sellCheap r n).1, 0, n, 0, true) (r, 0, 0, 0, false) := by
  obtain ⟨_, _, _, _, _, s1, s2, _⟩ := sellCheap_led r n hr h0 (by omega)
  unfold eventOn
  dsimp only
  rw [hr, inR_iff.2 ⟨h0, h1⟩]
  by_cases h : n ≤ r.Old + r.Day
  · rw [decide_eq_true h, decide_eq_true (s1 h), s1 h]; rfl
  · rw [decide_eq_false h, decide_eq_false (p := (sellCheap r n).2 = n) (by have := s2 (by omega); omega)]; rfl
theorem on_night (r : Rack) (hr : rackOk r = true) : eventOn r ⟨4, 0⟩ = (⟨0, r.Fresh, r.Day⟩, 0, 0, r.Old, true) := by
  unfold eventOn
  dsimp only
  rw [hr, nextMorning_zero r hr]; rfl
theorem on_other (r : Rack) (e : Event) (h : (eventOn r e).2.2.2.2 = true) : rackOk r = true ∧ (0 ≤ e.Loaves ∧ e.Loaves ≤ 1000) ∧ (e.Kind = 1 ∨ e.Kind = 2 ∨ e.Kind = 3 ∨ e = ⟨4, 0⟩) := by
  unfold eventOn at h
  cases hr : rackOk r
  · rw [hr] at h; cases h
  cases hL : inR e.Loaves 0 1000
  · rw [hr, hL] at h; cases h
  refine ⟨rfl, inR_iff.1 hL, ?_⟩
  rw [hr, hL] at h
  by_cases k1 : e.Kind = 1
  · exact .inl k1
  by_cases k2 : e.Kind = 2
  · exact .inr (.inl k2)
  by_cases k3 : e.Kind = 3
  · exact .inr (.inr (.inl k3))
  by_cases k4 : e.Kind = 4
  · by_cases l : e.Loaves = 0
    · obtain ⟨a, b⟩ := e; simp only at k4 l; subst k4 l; exact .inr (.inr (.inr rfl))
    · rw [decide_eq_false k1, decide_eq_false k2, decide_eq_false k3, decide_eq_true k4, decide_eq_false l] at h; cases h
  · rw [decide_eq_false k1, decide_eq_false k2, decide_eq_false k3, decide_eq_false k4] at h; cases h
/-- Nothing is lost: an event that fits moves loaves between what is baked, sold, thrown away and on the shelf. -/
theorem eventOn_led (r : Rack) (e : Event) (h : (eventOn r e).2.2.2.2 = true) : rackOk (eventOn r e).1 = true ∧ 0 ≤ (eventOn r e).2.1 ∧ (eventOn r e).2.1 ≤ e.Loaves ∧ 0 ≤ (eventOn r e).2.2.1 ∧ (eventOn r e).2.2.1 ≤ 10000 ∧ 0 ≤ (eventOn r e).2.2.2.1 ∧ (eventOn r e).2.2.2.1 ≤ 10000 ∧
    r.Fresh + r.Day + r.Old + (eventOn r e).2.1 = (eventOn r e).2.2.1 + (eventOn r e).2.2.2.1 + ((eventOn r e).1.Fresh + (eventOn r e).1.Day + (eventOn r e).1.Old) := by
  obtain ⟨hr, ⟨h0, h1⟩, hk⟩ := on_other r e h
  have hr' := (rackOk_iff r).1 hr
  obtain ⟨kd, n⟩ := e
  simp only at h0 h1
  rcases hk with k | k | k | k
  · simp only at k; subst k
    rw [on_bake r n hr h0 h1] at h ⊢
    by_cases q : r.Fresh + n ≤ 10000
    · rw [decide_eq_true q]
      simp only [cond_true]
      refine ⟨(rackOk_iff _).2 ?_, ?_⟩
      · dsimp only; omega
      · omega
    · rw [decide_eq_false q] at h; cases h
  · simp only at k; subst k
    obtain ⟨s1, s2, s3, s4, s5, s6, s7⟩ := sellFresh_led r n hr h0 (by omega)
    rw [on_sell r n hr h0 h1] at h ⊢
    by_cases q : n ≤ r.Fresh + r.Day
    · rw [decide_eq_true q]
      simp only [cond_true]
      have := s6 q
      exact ⟨s1, by omega, by omega, by omega, by omega, by omega, by omega, by omega⟩
    · rw [decide_eq_false q] at h; cases h
  · simp only at k; subst k
    obtain ⟨s1, s2, s3, s4, s5, s6, s7, s8⟩ := sellCheap_led r n hr h0 (by omega)
    rw [on_cheap r n hr h0 h1] at h ⊢
    by_cases q : n ≤ r.Old + r.Day
    · rw [decide_eq_true q]
      simp only [cond_true]
      have := s6 q
      exact ⟨s1, by omega, by omega, by omega, by omega, by omega, by omega, by omega⟩
    · rw [decide_eq_false q] at h; cases h
  · cases k
    rw [on_night r hr]
    refine ⟨(rackOk_iff _).2 ?_, ?_⟩
    · dsimp only; omega
    · dsimp only; omega
def Led (r : Rack) (a b c : Int) (n : Nat) : Prop := rackOk r = true ∧ 0 ≤ b ∧ 0 ≤ c ∧ a = b + c + r.Fresh + r.Day + r.Old ∧ a ≤ 1000 * (n : Int)
theorem led_step {r : Rack} {a b c : Int} {n : Nat} (hn : n ≤ 40) (h : Led r a b c n) (e : Event) (he : (eventOn r e).2.2.2.2 = true) :
    wr (a + (eventOn r e).2.1) = a + (eventOn r e).2.1 ∧ wr (b + (eventOn r e).2.2.1) = b + (eventOn r e).2.2.1 ∧ wr (c + (eventOn r e).2.2.2.1) = c + (eventOn r e).2.2.2.1 ∧
    Led (eventOn r e).1 (a + (eventOn r e).2.1) (b + (eventOn r e).2.2.1) (c + (eventOn r e).2.2.2.1) (n + 1) := by
  obtain ⟨h1, h2, h3, h4, h5⟩ := h
  obtain ⟨g1, g2, g3, g4, g5, g6, g7, g8⟩ := eventOn_led r e he
  have hL := (on_other r e he).2.1
  have hr := (rackOk_iff r).1 h1
  refine ⟨wr_id (by omega) (by omega), wr_id (by omega) (by omega), wr_id (by omega) (by omega), g1, by omega, by omega, by omega, ?_⟩
  omega
theorem goC_led (ev : List Event) : ∀ (B : List Event) (r : Rack) (a b c : Int) (n : Nat) (g : Book), Led r a b c n → n + B.length ≤ 40 → goC ev B r a b c = some g → Led g.Rack g.Baked g.Sold g.Thrown (n + B.length)
  | [], r, a, b, c, n, g, h, _, hg => by cases hg; exact h
  | e :: B, r, a, b, c, n, g, h, hn, hg => by
    unfold goC at hg
    simp only [List.length_cons] at hn
    cases he : (eventOn r e).2.2.2.2
    · rw [he] at hg; cases hg
    · rw [he] at hg
      obtain ⟨w1, w2, w3, h'⟩ := led_step (by omega) h e he
      simp only [w1, w2, w3, cond_true] at hg
      have := goC_led ev B _ _ _ _ (n + 1) g h' (by omega) hg
      have e1 : n + 1 + B.length = n + (e :: B).length := by simp; omega
      rw [← e1]; exact this
theorem book_led (b : Book) (hb : bookOk b = true) : b.Events.length ≤ 40 ∧ Led b.Rack b.Baked b.Sold b.Thrown b.Events.length := by
  have h := (bookOk_iff b).1 hb
  have hl := (countB_ev _ b h).2
  refine ⟨hl, ?_⟩
  unfold countB at h
  rw [if_pos hl] at h
  have := goC_led b.Events b.Events ⟨0, 0, 0⟩ 0 0 0 0 b ⟨rfl, Int.le_refl _, Int.le_refl _, rfl, by simp⟩ (by omega) h
  simpa using this
/-- A book after one more event, its numbers free of overflow. -/
theorem stepB_eq (b : Book) (e : Event) (hb : bookOk b = true) (he : (eventOn b.Rack e).2.2.2.2 = true) : stepB b e = ⟨b.Events ++ [e], (eventOn b.Rack e).1, b.Baked + (eventOn b.Rack e).2.1, b.Sold + (eventOn b.Rack e).2.2.1, b.Thrown + (eventOn b.Rack e).2.2.2.1⟩ := by
  obtain ⟨hl, h⟩ := book_led b hb
  obtain ⟨w1, w2, w3, _⟩ := led_step hl h e he
  unfold stepB
  rw [w1, w2, w3]
/-- A book that stands and holds few loaves. -/
def Small (b : Book) (m : Nat) : Prop := bookOk b = true ∧ b.Events.length ≤ m ∧ b.Baked ≤ 59 * (m : Int)
theorem small_rack {b : Book} {m : Nat} (h : Small b m) (hm : m ≤ 11) : 0 ≤ b.Rack.Fresh ∧ 0 ≤ b.Rack.Day ∧ 0 ≤ b.Rack.Old ∧ 0 ≤ b.Sold ∧ 0 ≤ b.Thrown ∧ b.Baked = b.Sold + b.Thrown + b.Rack.Fresh + b.Rack.Day + b.Rack.Old ∧ b.Baked ≤ 649 := by
  obtain ⟨_, h1, h2, h3, h4, _⟩ := book_led b h.1
  have hr := (rackOk_iff _).1 h1
  have := h.2.2
  omega
theorem small_step {b : Book} {m : Nat} (h : Small b m) (e : Event) (he : e.Loaves ≤ 59) (hm : m ≤ 11) : Small (enterB b e).1 (m + 1) := by
  refine ⟨enterB_ok b e h.1, ?_⟩
  have h2 := h.2
  rw [enterB_eq b e h.1]
  cases hc : (decide (b.Events.length < 40) && (eventOn b.Rack e).2.2.2.2)
  · simp only [cond_false]; omega
  · simp only [Bool.and_eq_true, decide_eq_true_eq] at hc
    simp only [cond_true]
    rw [stepB_eq b e h.1 hc.2]
    have := eventOn_led b.Rack e hc.2
    simp only [List.length_append, List.length_singleton]
    omega
end Go.Proofs.YtlenacakmmikiaaDoorX
