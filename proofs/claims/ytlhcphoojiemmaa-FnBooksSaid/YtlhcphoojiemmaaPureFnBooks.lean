/- The law of the book, on the plain side: what was baked is sold, thrown away or on the shelf; an event that fits is entered and can be struck; the days are counted. -/
import Derived.Test.YtlhcphoojiemmaaTold
import Derived.Test.YtlhcphoojiemmaaPB5
namespace Go.Proofs.YtlhcphoojiemmaaX.Pure
open Go Go.Proofs
set_option linter.unusedVariables false
theorem days_l0 (k : Nat) (code : List Int) (b : Book) (y5 y7 y8 y9 : Book × Bool) (y10 : Rack × Int × Int × Int × Bool) (hl : b.Events.length ≤ 4194304) : ∀ (m : Nat) (B A : List Event) (x : Int), b.Events = A ++ B → B.length ≤ m → 0 ≤ x → x ≤ (A.length : Int) →
    laws_FnBooks_l0 k m code b y5 y7 y8 y9 y10 x (A.length : Int) = laws_FnBooks_s0 k code b y5 y7 y8 y9 y10 (fun _ _ => none) (x + nights B) (b.Events.length : Int)
  | 0, [], A, x, e, _, h0, h1 => by unfold laws_FnBooks_l0 laws_FnBooks_s0; rw [e]; simp [nights]
  | m + 1, [], A, x, e, _, h0, h1 => by unfold laws_FnBooks_l0 laws_FnBooks_s0; rw [e]; simp [nights]
  | m + 1, v :: B, A, x, e, h, h0, h1 => by
    have hA : A.length + (B.length + 1) ≤ 4194304 := by rw [e] at hl; simpa using hl
    have ih := fun x => days_l0 k code b y5 y7 y8 y9 y10 hl m B (A ++ [v]) x (by rw [e]; simp) (by simp at h; omega)
    have st : laws_FnBooks_l0 k (m + 1) code b y5 y7 y8 y9 y10 x (A.length : Int) = laws_FnBooks_l0 k m code b y5 y7 y8 y9 y10 (x + cond (decide (v.Kind = 4)) 1 0) ((A ++ [v]).length : Int) := by
      show laws_FnBooks_s0 k code b y5 y7 y8 y9 y10 (laws_FnBooks_l0 k m code b y5 y7 y8 y9 y10) x (A.length : Int) = _
      unfold laws_FnBooks_s0
      rw [e, lt_mid]
      simp only [cond_true, g_mid, if_true, getD_mid, wr_suc A v (by omega), laws_btoi]
      cases decide (v.Kind = 4)
      · simp only [cond_false, Option.bind_some]
        rw [wr_id (n := x + 0) (by omega) (by omega)]
      · simp only [cond_true, Option.bind_some]
        rw [wr_id (n := x + 1) (by omega) (by omega)]
    rw [st, ih _ (by cases decide (v.Kind = 4) <;> simp only [cond_true, cond_false] <;> omega) (by simp only [List.length_append, List.length_singleton]; cases decide (v.Kind = 4) <;> simp only [cond_true, cond_false] <;> omega)]
    simp only [nights, Int.add_assoc]
theorem FnBooks (y0 : (List Int)) (h0 : (OkL U8) y0) : ∃ k, laws_FnBooks k y0 = some true := by
  refine ⟨5000, ?_⟩
  unfold laws_FnBooks laws_FnBooks_m laws_big
  simp only [Option.bind_some]
  by_cases hbig : (1048576 : Int) < (y0.length : Int)
  · rw [decide_eq_true hbig]; rfl
  rw [decide_eq_false hbig]
  simp only [cond_false]
  have hlen : y0.length ≤ 1048576 := by omega
  obtain ⟨b, eb, hS⟩ := DrawBook_eq 5000 (by decide) y0 hlen
  have hb := hS.1
  obtain ⟨r1, r2, r3, r4, r5, r6, r7⟩ := small_rack hS (Nat.le_refl _)
  have hl := hS.2.1
  have hr : rackOk b.Rack = true := (book_led b hb).2.1
  rw [eb]
  simp only [Option.bind_some]
  rw [impl_BookOk_eq 5000 (by decide) b (by omega) (by omega), hb]
  simp only [Option.bind_some, Bool.not_true, cond_false]
  rw [wr_id (n := b.Sold + b.Thrown) (by omega) (by omega), wr_id (n := b.Sold + b.Thrown + b.Rack.Fresh) (by omega) (by omega), wr_id (n := b.Sold + b.Thrown + b.Rack.Fresh + b.Rack.Day) (by omega) (by omega), wr_id (n := b.Sold + b.Thrown + b.Rack.Fresh + b.Rack.Day + b.Rack.Old) (by omega) (by omega), decide_eq_true r6]
  simp only [Bool.not_true, cond_false]
  obtain ⟨v, ev, v0, v1⟩ := laws_at_eq 5000 y0 h0.2 hlen 0 (by decide) (by decide)
  rw [ev]
  simp only [Option.bind_some]
  rw [if_pos (by decide)]
  have n0 : 0 ≤ Int.tmod v 50 := Int.tmod_nonneg _ v0
  have n1 : Int.tmod v 50 < 50 := Int.tmod_lt_of_pos _ (by decide)
  generalize Int.tmod v 50 = n at n0 n1 ⊢
  have en : ∀ e, impl_Enter 5000 b e = some (enterB b e) := fun e => impl_Enter_eq 5000 (by decide) b e (by omega) (by omega)
  have h40 : b.Events.length < 40 := by omega
  -- baking
  have o1 : eventOn b.Rack ⟨1, n⟩ = (⟨b.Rack.Fresh + n, b.Rack.Day, b.Rack.Old⟩, n, 0, 0, true) := by
    rw [on_bake b.Rack n hr n0 (by omega), decide_eq_true (by omega)]; rfl
  have k1 : (eventOn b.Rack ⟨1, n⟩).2.2.2.2 = true := by rw [o1]
  have e1 : enterB b ⟨1, n⟩ = (stepB b ⟨1, n⟩, true) := by rw [enterB_eq b _ hb, decide_eq_true h40, k1]; rfl
  have s1 := strike_eq 5000 (by decide) b ⟨1, n⟩ hb h40 k1 (by decide)
  have b1 : stepB b ⟨1, n⟩ = ⟨b.Events ++ [⟨1, n⟩], ⟨b.Rack.Fresh + n, b.Rack.Day, b.Rack.Old⟩, b.Baked + n, b.Sold + 0, b.Thrown + 0⟩ := by rw [stepB_eq b _ hb k1, o1]
  rw [en, e1]
  simp only [Option.bind_some]
  rw [decide_eq_true (show (b.Events.length : Int) < 40 by omega), s1]
  simp only [Option.bind_some, beq_self_eq_true, Bool.not_true, cond_false, cond_true]
  rw [b1, wr_id (n := b.Rack.Fresh + n) (by omega) (by omega), wr_id (n := b.Baked + n) (by omega) (by omega)]
  simp only [decide_true, Bool.not_true, cond_false, Bool.and_self]
  -- what follows
  unfold laws_FnBooks_j2
  have w1 : wr (b.Rack.Fresh + b.Rack.Day) = b.Rack.Fresh + b.Rack.Day := wr_id (by omega) (by omega)
  have w2 : wr (b.Rack.Fresh + b.Rack.Day + 1) = b.Rack.Fresh + b.Rack.Day + 1 := wr_id (by omega) (by omega)
  rw [w1, w2, en, en, en, impl_EventOn_eq 5000 (by decide)]
  simp only [Option.bind_some]
  have dl := days_l0 5000 y0 b (⟨b.Events ++ [⟨1, n⟩], ⟨b.Rack.Fresh + n, b.Rack.Day, b.Rack.Old⟩, b.Baked + n, b.Sold + 0, b.Thrown + 0⟩, true) (enterB b ⟨2, b.Rack.Fresh + b.Rack.Day⟩) (enterB b ⟨2, b.Rack.Fresh + b.Rack.Day + 1⟩) (enterB b ⟨4, 0⟩) (eventOn b.Rack ⟨3, b.Rack.Old⟩) (by omega) 5000 b.Events [] 0 rfl (by omega) (Int.le_refl _) (by decide)
  simp only [List.length_nil, Int.zero_add] at dl
  refine dl.trans ?_
  unfold laws_FnBooks_s0
  rw [decide_eq_false (p := (b.Events.length : Int) < (b.Events.length : Int)) (by omega)]
  simp only [cond_false]
  -- selling
  obtain ⟨f1, f2, f3, f4, f5, f6, f7⟩ := sellFresh_led b.Rack (b.Rack.Fresh + b.Rack.Day) hr (by omega) (by omega)
  have f8 := f6 (Int.le_refl _)
  have fr := (rackOk_iff _).1 f1
  have o2 : eventOn b.Rack ⟨2, b.Rack.Fresh + b.Rack.Day⟩ = ((sellFresh b.Rack (b.Rack.Fresh + b.Rack.Day)).1, 0, b.Rack.Fresh + b.Rack.Day, 0, true) := by
    rw [on_sell b.Rack _ hr (by omega) (by omega), decide_eq_true (by omega)]; rfl
  have k2 : (eventOn b.Rack ⟨2, b.Rack.Fresh + b.Rack.Day⟩).2.2.2.2 = true := by rw [o2]
  have e2 : enterB b ⟨2, b.Rack.Fresh + b.Rack.Day⟩ = (stepB b ⟨2, b.Rack.Fresh + b.Rack.Day⟩, true) := by rw [enterB_eq b _ hb, decide_eq_true h40, k2]; rfl
  have b2 : stepB b ⟨2, b.Rack.Fresh + b.Rack.Day⟩ = ⟨b.Events ++ [⟨2, b.Rack.Fresh + b.Rack.Day⟩], (sellFresh b.Rack (b.Rack.Fresh + b.Rack.Day)).1, b.Baked + 0, b.Sold + (b.Rack.Fresh + b.Rack.Day), b.Thrown + 0⟩ := by rw [stepB_eq b _ hb k2, o2]
  have o3 : eventOn b.Rack ⟨2, b.Rack.Fresh + b.Rack.Day + 1⟩ = (b.Rack, 0, 0, 0, false) := by
    rw [on_sell b.Rack _ hr (by omega) (by omega), decide_eq_false (by omega)]; rfl
  have e3 : enterB b ⟨2, b.Rack.Fresh + b.Rack.Day + 1⟩ = (b, false) := by
    rw [enterB_eq b _ hb, o3]; simp
  have o4 := on_night b.Rack hr
  have k4 : (eventOn b.Rack ⟨4, 0⟩).2.2.2.2 = true := by rw [o4]
  have e4 : enterB b ⟨4, 0⟩ = (stepB b ⟨4, 0⟩, true) := by rw [enterB_eq b _ hb, decide_eq_true h40, k4]; rfl
  have b4 : stepB b ⟨4, 0⟩ = ⟨b.Events ++ [⟨4, 0⟩], ⟨0, b.Rack.Fresh, b.Rack.Day⟩, b.Baked + 0, b.Sold + 0, b.Thrown + b.Rack.Old⟩ := by rw [stepB_eq b _ hb k4, o4]
  obtain ⟨_, _, _, _, _, _, _, c8⟩ := sellCheap_led b.Rack b.Rack.Old hr (by omega) (by omega)
  have o5 : eventOn b.Rack ⟨3, b.Rack.Old⟩ = ((sellCheap b.Rack b.Rack.Old).1, 0, b.Rack.Old, 0, true) := by
    rw [on_cheap b.Rack _ hr (by omega) (by omega), decide_eq_true (by omega)]; rfl
  rw [e2, b2]
  simp only [beq_self_eq_true, Bool.not_true, cond_true, cond_false]
  rw [decide_eq_true (show (sellFresh b.Rack (b.Rack.Fresh + b.Rack.Day)).1.Fresh = 0 by omega), decide_eq_true (show (sellFresh b.Rack (b.Rack.Fresh + b.Rack.Day)).1.Day = 0 by omega), wr_id (n := b.Sold + b.Rack.Fresh) (by omega) (by omega), wr_id (n := b.Sold + b.Rack.Fresh + b.Rack.Day) (by omega) (by omega), decide_eq_true (show b.Sold + (b.Rack.Fresh + b.Rack.Day) = b.Sold + b.Rack.Fresh + b.Rack.Day by omega)]
  simp only [cond_true]
  unfold laws_FnBooks_j1
  rw [e3, e4, b4]
  simp only [beq_self_eq_true, Bool.not_true, Bool.not_false, cond_true, cond_false]
  rw [wr_id (n := b.Thrown + b.Rack.Old) (by omega) (by omega)]
  simp only [decide_true, cond_true]
  unfold laws_FnBooks_j0
  rw [o5]
  simp only [cond_true, decide_true]
  rw [decide_eq_true (c8 rfl)]
  simp only [cond_true]
  rw [impl_BookOk_eq 5000 (by decide) _ (by dsimp only; omega) (by dsimp only; omega), wr_id (n := b.Baked + 1) (by omega) (by omega)]
  have bad : bookOk ⟨b.Events, b.Rack, b.Baked + 1, b.Sold, b.Thrown⟩ = false := by
    cases h : bookOk ⟨b.Events, b.Rack, b.Baked + 1, b.Sold, b.Thrown⟩ with
    | false => rfl
    | true =>
      have g := (bookOk_iff _).1 h
      rw [(bookOk_iff b).1 hb] at g
      have := congrArg Book.Baked (Option.some.inj g)
      dsimp only at this; omega
  rw [bad, impl_DaysIn_eq 5000 (by decide) b hb]
  simp
end Go.Proofs.YtlhcphoojiemmaaX.Pure
