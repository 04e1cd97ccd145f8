/- Where the plain side begins: every function that was printed. (No law of this seat compares results field by field.) What lies in a range. Which acts are right. What the reference's and the program's functions of stock, dough, loaf, rack, book and bakery compute. What the changes of the bakery compute: the night, buying, selling. What filling a stock, buying and opening compute. What opening a bakery computes. What baking computes: the dough for a loaf, the flour, the amounts, taking them, and baking itself. The book: what entering an event does to a book that stands, and what is known of such a book. The draws: what the reference draws out of a code, as far as the laws need it. Acts: what one act does to a bakery, and what many do; lists of numbers compared. Many acts, and replays: the reference beside the program. The acts of a bakery that stands: what each leaves, and that it stands afterwards; the drawn bakeries and acts. The program's acts alone (where the reference's are not at hand): each ends, and a bakery that stands still stands. The numbers that the program's acts answer are small. -/
import Derived.Test.YtlenacakmmikiaaGreatDoorPL0
import Derived.Test.YtlenacakmmikiaaGreatDoorF5

namespace Go.Proofs.YtlenacakmmikiaaGreatDoorX
open Go
theorem spec_l01In_eq (k : Nat) (x lo hi : Int) : spec_l01In k x lo hi = some (inR x lo hi) := by unfold spec_l01In; rw [cond_and]; rfl
theorem impl_in_eq (k : Nat) (x lo hi : Int) : impl_in k x lo hi = some (inR x lo hi) := by unfold impl_in; rw [cond_and]; rfl
end Go.Proofs.YtlenacakmmikiaaGreatDoorX
namespace Go.Proofs.YtlenacakmmikiaaGreatDoorX
open Go
def actOk (a : Deed) : Bool :=
  cond (decide (a.Kind = 1) || decide (a.Kind = 2) || decide (a.Kind = 3) || decide (a.Kind = 6)) (inR a.A 0 1000 && decide (a.B = 0))
    (cond (decide (a.Kind = 4)) (decide (a.A = 0) && decide (a.B = 0)) (cond (decide (a.Kind = 5)) (inR a.A 0 3 && inR a.B 0 100000) false))
theorem impl_ActOk_eq (k : Nat) (a : Deed) : impl_ActOk k a = some (actOk a) := by
  unfold impl_ActOk actOk
  simp only [impl_in_eq, Option.bind_some, cond_and]
  by_cases k1 : a.Kind = 1
  · simp [k1]
  by_cases k2 : a.Kind = 2
  · simp [k2]
  by_cases k3 : a.Kind = 3
  · simp [k3]
  by_cases k6 : a.Kind = 6
  · simp [k6]
  by_cases k5 : a.Kind = 5
  · simp [k5]
  by_cases k4 : a.Kind = 4
  · simp [k4]
  · simp [k1, k2, k3, k4, k5, k6]
theorem actOk_kind {a : Deed} (h : actOk a = true) (k1 : ¬ a.Kind = 1) (k2 : ¬ a.Kind = 2) (k3 : ¬ a.Kind = 3) (k4 : ¬ a.Kind = 4) (k5 : ¬ a.Kind = 5) : a.Kind = 6 := by
  apply Classical.byContradiction
  intro k6
  simp [actOk, k1, k2, k3, k4, k5, k6] at h
end Go.Proofs.YtlenacakmmikiaaGreatDoorX
namespace Go.Proofs.YtlenacakmmikiaaGreatDoorX
open Go
set_option linter.unusedVariables false
theorem stockCopy_eq (k : Nat) (s : Stock) (h : s.Grams.length ≤ 4194304) : impl_stockCopy k s = some s := by
  unfold impl_stockCopy; rw [if_pos (by simp [maxRow]; omega)]; rfl
theorem l37Copy_eq (k : Nat) (s : Book) (h : s.Events.length ≤ 4194304) : spec_l37Copy k s = some s := by
  unfold spec_l37Copy; rw [if_pos (by simp [maxRow]; omega)]; rfl
theorem bookCopy_eq (k : Nat) (s : Book) (h : s.Events.length ≤ 4194304) : impl_bookCopy k s = some s := by
  unfold impl_bookCopy; rw [if_pos (by simp [maxRow]; omega)]; rfl
theorem bakeryCopy_eq (k : Nat) (b : Bakery) (h1 : b.Stock.Grams.length ≤ 4194304) (h2 : b.Book.Events.length ≤ 4194304) : impl_bakeryCopy k b = some b := by
  unfold impl_bakeryCopy; rw [stockCopy_eq k _ h1, Option.bind_some, bookCopy_eq k _ h2]; rfl

def doughOk (d : Dough) : Bool := inR d.Water 300 1200 && (inR d.Salt 0 50 && inR d.Leaven 0 500)
theorem spec_DoughOk_eq (k : Nat) (d : Dough) : spec_DoughOk k d = some (doughOk d) := by
  simp only [spec_DoughOk, spec_l01In_eq, Option.bind_some, cond_and, doughOk]
theorem impl_DoughOk_eq (k : Nat) (d : Dough) : impl_DoughOk k d = some (doughOk d) := by
  simp only [impl_DoughOk, impl_in_eq, Option.bind_some, cond_and, doughOk]
def loafOk (l : Loaf) : Bool := inR l.Weight 10 5000 && inR l.Loss 0 40
theorem spec_LoafOk_eq (k : Nat) (l : Loaf) : spec_LoafOk k l = some (loafOk l) := by
  simp only [spec_LoafOk, spec_l01In_eq, Option.bind_some, cond_and, loafOk]
theorem impl_LoafOk_eq (k : Nat) (l : Loaf) : impl_LoafOk k l = some (loafOk l) := by
  simp only [impl_LoafOk, impl_in_eq, Option.bind_some, cond_and, loafOk]

/-! ### Ranges over lists -/
theorem indexFunc_lp (k : Nat) (lo hi : Int) : ∀ (m : Nat) (B A : List Int), B.length ≤ m → (A ++ B).length ≤ 4194304 → ∃ r, slices_IndexFunc_int_int_130_l0 k m (A ++ B) lo hi (A.length : Int) = some r ∧ decide (0 ≤ r) = B.any (fun x => !inR x lo hi)
  | 0, [], A, _, _ => by simp only [slices_IndexFunc_int_int_130_l0, slices_IndexFunc_int_int_130_s0, lt_end, cond_false]; exact ⟨_, rfl, rfl⟩
  | m + 1, [], A, _, _ => by simp only [slices_IndexFunc_int_int_130_l0, slices_IndexFunc_int_int_130_s0, lt_end, cond_false]; exact ⟨_, rfl, rfl⟩
  | m + 1, b :: B, A, h1, h2 => by
    obtain ⟨r, h3, h4⟩ := indexFunc_lp k lo hi m B (A ++ [b]) (by simp at h1; omega) (by simpa using h2)
    simp only [slices_IndexFunc_int_int_130_l0, slices_IndexFunc_int_int_130_s0, lt_mid, cond_true, g_mid, if_true, getD_mid, impl_allIn_1, impl_in_eq, Option.bind_some]
    cases hb : inR b lo hi
    · exact ⟨_, rfl, by simp [hb]⟩
    · simp only [Bool.not_true, cond_false]
      rw [wr_suc A b (by simp at h2; omega), app_mid A b B]
      exact ⟨r, h3, by rw [h4]; simp [hb]⟩
theorem impl_allIn_eq (k : Nat) (l : List Int) (lo hi : Int) (h1 : l.length ≤ k) (h2 : l.length ≤ 4194304) : impl_allIn k l lo hi = some (l.all (fun x => inR x lo hi)) := by
  obtain ⟨r, h3, h4⟩ := indexFunc_lp k lo hi k l [] h1 h2
  have h5 : slices_IndexFunc_int_int_130 k l lo hi = some r := h3
  simp only [impl_allIn, slices_ContainsFunc_int_int_130, h5, Option.bind_some, h4]
  rw [List.all_eq_not_any_not]
def storeOk (s : Stock) : Bool := s.Grams.all (fun x => inR x 0 1000000) && decide (s.Grams.length = 4)
theorem storeOk_lp (k : Nat) : ∀ (m : Nat) (B A : List Int), B.length ≤ m → (A ++ B).length ≤ 4194304 → spec_StoreOk_l0 k m ⟨A ++ B⟩ (A.length : Int) = some (B.all (fun x => inR x 0 1000000) && decide ((A ++ B).length = 4))
  | 0, [], A, _, _ => by simp only [spec_StoreOk_l0, spec_StoreOk_s0, lt_end, cond_false, List.all_nil, Bool.true_and]; congr 2; exact propext (by omega)
  | m + 1, [], A, _, _ => by simp only [spec_StoreOk_l0, spec_StoreOk_s0, lt_end, cond_false, List.all_nil, Bool.true_and]; congr 2; exact propext (by omega)
  | m + 1, b :: B, A, h1, h2 => by
    have ih := storeOk_lp k m B (A ++ [b]) (by simp at h1; omega) (by simpa using h2)
    simp only [spec_StoreOk_l0, spec_StoreOk_s0, lt_mid, cond_true, g_mid, if_true, getD_mid, spec_l01In_eq, Option.bind_some]
    rw [wr_suc A b (by simp at h2; omega), app_mid A b B, ih]
    cases hb : inR b 0 1000000 <;> simp [hb]
theorem spec_StoreOk_eq (k : Nat) (s : Stock) (h1 : s.Grams.length ≤ k) (h2 : s.Grams.length ≤ 4194304) : spec_StoreOk k s = some (storeOk s) := storeOk_lp k k s.Grams [] h1 h2
theorem impl_StoreOk_eq (k : Nat) (s : Stock) (h1 : s.Grams.length ≤ k) (h2 : s.Grams.length ≤ 4194304) : impl_StoreOk k s = some (storeOk s) := by
  simp only [impl_StoreOk, impl_allIn_eq k _ _ _ h1 h2, Option.bind_some, cond_and, storeOk]
  rw [Bool.and_comm]
  congr 3
  exact propext (by omega)

theorem mn_comm (a b : Int) : mn a b = mn b a := by unfold mn; split <;> split <;> omega
theorem mn_in {a b : Int} (h1 : 0 ≤ a) (h2 : 0 ≤ b) : 0 ≤ mn a b ∧ mn a b ≤ a ∧ mn a b ≤ b := by unfold mn; split <;> omega

/-! ### The rack -/
def rackOk (r : Rack) : Bool := inR r.Fresh 0 10000 && (inR r.Day 0 10000 && inR r.Old 0 10000)
theorem spec_RackOk_eq (k : Nat) (r : Rack) : spec_RackOk k r = some (rackOk r) := by
  simp only [spec_RackOk, spec_l01In_eq, Option.bind_some, cond_and, rackOk]
theorem impl_RackOk_eq (k : Nat) (hk : 3 ≤ k) (r : Rack) : impl_RackOk k r = some (rackOk r) := by
  unfold impl_RackOk
  rw [impl_allIn_eq k _ _ _ (by simpa using hk) (by simp)]
  simp [rackOk]
def sellFresh (r : Rack) (n : Int) : Rack × Int :=
  cond (rackOk r && inR n 0 10000) (⟨wr (r.Fresh - mn n r.Fresh), wr (r.Day - mn (wr (n - mn n r.Fresh)) r.Day), r.Old⟩, wr (mn n r.Fresh + mn (wr (n - mn n r.Fresh)) r.Day)) (r, -1)
def sellCheap (r : Rack) (n : Int) : Rack × Int :=
  cond (rackOk r && inR n 0 10000) (⟨r.Fresh, wr (r.Day - mn (wr (n - mn n r.Old)) r.Day), wr (r.Old - mn n r.Old)⟩, wr (mn n r.Old + mn (wr (n - mn n r.Old)) r.Day)) (r, -1)
def nextMorning (r : Rack) (n : Int) : Rack × Int := cond (rackOk r && inR n 0 10000) (⟨n, r.Fresh, r.Day⟩, r.Old) (r, -1)
theorem spec_SellFresh_eq (k : Nat) (r : Rack) (n : Int) : spec_SellFresh k r n = some (sellFresh r n) := by
  simp only [spec_SellFresh, spec_RackOk_eq, spec_l01In_eq, Option.bind_some, sellFresh]
  cases rackOk r <;> cases inR n 0 10000 <;> rfl
theorem spec_SellCheap_eq (k : Nat) (r : Rack) (n : Int) : spec_SellCheap k r n = some (sellCheap r n) := by
  simp only [spec_SellCheap, spec_RackOk_eq, spec_l01In_eq, Option.bind_some, sellCheap]
  cases rackOk r <;> cases inR n 0 10000 <;> rfl
theorem spec_NextMorning_eq (k : Nat) (r : Rack) (n : Int) : spec_NextMorning k r n = some (nextMorning r n) := by
  simp only [spec_NextMorning, spec_RackOk_eq, spec_l01In_eq, Option.bind_some, nextMorning]
  cases rackOk r <;> cases inR n 0 10000 <;> rfl
theorem impl_SellFresh_eq (k : Nat) (hk : 3 ≤ k) (r : Rack) (n : Int) : impl_SellFresh k r n = some (sellFresh r n) := by
  simp only [impl_SellFresh, impl_RackOk_eq k hk, impl_in_eq, Option.bind_some, sellFresh, impl_taken, mn_comm r.Fresh, mn_comm r.Day]
  cases rackOk r <;> cases inR n 0 10000 <;> rfl
theorem impl_SellCheap_eq (k : Nat) (hk : 3 ≤ k) (r : Rack) (n : Int) : impl_SellCheap k r n = some (sellCheap r n) := by
  simp only [impl_SellCheap, impl_RackOk_eq k hk, impl_in_eq, Option.bind_some, sellCheap, impl_taken, mn_comm r.Old, mn_comm r.Day]
  cases rackOk r <;> cases inR n 0 10000 <;> rfl
theorem impl_NextMorning_eq (k : Nat) (hk : 3 ≤ k) (r : Rack) (n : Int) : impl_NextMorning k r n = some (nextMorning r n) := by
  simp only [impl_NextMorning, impl_RackOk_eq k hk, impl_in_eq, Option.bind_some, nextMorning]
  cases rackOk r <;> cases inR n 0 10000 <;> rfl
theorem rackOk_iff (r : Rack) : rackOk r = true ↔ (0 ≤ r.Fresh ∧ r.Fresh ≤ 10000) ∧ (0 ≤ r.Day ∧ r.Day ≤ 10000) ∧ (0 ≤ r.Old ∧ r.Old ≤ 10000) := by simp [rackOk, inR]
theorem sellFresh_ok (r : Rack) (n : Int) (h : rackOk r = true) : rackOk (sellFresh r n).1 = true := by
  unfold sellFresh
  cases hn : inR n 0 10000
  · rw [Bool.and_false]; exact h
  · rw [h]
    rw [rackOk_iff] at h
    rw [inR_iff] at hn
    show rackOk ⟨_, _, _⟩ = true
    rw [rackOk_iff]
    dsimp only
    have m1 := mn_in hn.1 h.1.1
    have w1 : wr (n - mn n r.Fresh) = n - mn n r.Fresh := wr_id (by omega) (by omega)
    rw [w1]
    have m2 := mn_in (a := n - mn n r.Fresh) (by omega) h.2.1.1
    rw [wr_id (n := r.Fresh - mn n r.Fresh) (by omega) (by omega), wr_id (n := r.Day - mn (n - mn n r.Fresh) r.Day) (by omega) (by omega)]
    omega
theorem sellCheap_ok (r : Rack) (n : Int) (h : rackOk r = true) : rackOk (sellCheap r n).1 = true := by
  unfold sellCheap
  cases hn : inR n 0 10000
  · rw [Bool.and_false]; exact h
  · rw [h]
    rw [rackOk_iff] at h
    rw [inR_iff] at hn
    show rackOk ⟨_, _, _⟩ = true
    rw [rackOk_iff]
    dsimp only
    have m1 := mn_in hn.1 h.2.2.1
    have w1 : wr (n - mn n r.Old) = n - mn n r.Old := wr_id (by omega) (by omega)
    rw [w1]
    have m2 := mn_in (a := n - mn n r.Old) (by omega) h.2.1.1
    rw [wr_id (n := r.Old - mn n r.Old) (by omega) (by omega), wr_id (n := r.Day - mn (n - mn n r.Old) r.Day) (by omega) (by omega)]
    omega
theorem nextMorning_ok (r : Rack) (n : Int) (h : rackOk r = true) : rackOk (nextMorning r n).1 = true := by
  unfold nextMorning
  cases hn : inR n 0 10000
  · rw [Bool.and_false]; exact h
  · rw [h]
    rw [rackOk_iff] at h
    rw [inR_iff] at hn
    show rackOk ⟨_, _, _⟩ = true
    rw [rackOk_iff]
    dsimp only
    omega

/-! ### Events -/
def eventOn (p0 : Rack) (p1 : Event) : Rack × Int × Int × Int × Bool :=
  cond (rackOk p0 && inR p1.Loaves 0 1000)
    (cond (decide (p1.Kind = 1)) (cond (rackOk ⟨wr (p0.Fresh + p1.Loaves), p0.Day, p0.Old⟩) (⟨wr (p0.Fresh + p1.Loaves), p0.Day, p0.Old⟩, p1.Loaves, 0, 0, true) (p0, 0, 0, 0, false))
      (cond (decide (p1.Kind = 2)) (cond (decide ((sellFresh p0 p1.Loaves).2 = p1.Loaves)) ((sellFresh p0 p1.Loaves).1, 0, (sellFresh p0 p1.Loaves).2, 0, true) (p0, 0, 0, 0, false))
        (cond (decide (p1.Kind = 3)) (cond (decide ((sellCheap p0 p1.Loaves).2 = p1.Loaves)) ((sellCheap p0 p1.Loaves).1, 0, (sellCheap p0 p1.Loaves).2, 0, true) (p0, 0, 0, 0, false))
          (cond (decide (p1.Kind = 4)) (cond (decide (p1.Loaves = 0)) ((nextMorning p0 0).1, 0, 0, (nextMorning p0 0).2, true) (p0, 0, 0, 0, false)) (p0, 0, 0, 0, false)))))
    (p0, 0, 0, 0, false)
theorem spec_EventOn_eq (k : Nat) (r : Rack) (e : Event) : spec_EventOn k r e = some (eventOn r e) := by
  simp only [spec_EventOn, spec_RackOk_eq, spec_l01In_eq, spec_SellFresh_eq, spec_SellCheap_eq, spec_NextMorning_eq, Option.bind_some, cond_some, cond_not, eventOn]
  cases rackOk r <;> cases inR e.Loaves 0 1000 <;> rfl
theorem impl_EventOn_eq (k : Nat) (hk : 3 ≤ k) (r : Rack) (e : Event) : impl_EventOn k r e = some (eventOn r e) := by
  simp only [impl_EventOn, impl_RackOk_eq k hk, impl_in_eq, impl_SellFresh_eq k hk, impl_SellCheap_eq k hk, impl_NextMorning_eq k hk, Option.bind_some, cond_some, cond_not, eventOn]
  cases h : rackOk r
  · rfl
  · rw [sellFresh_ok _ _ h, sellCheap_ok _ _ h, nextMorning_ok _ _ h]
    cases inR e.Loaves 0 1000 <;> rfl

/-! ### The book -/
def goC (ev : List Event) : List Event → Rack → Int → Int → Int → Option Book
  | [], r, a, b, c => some ⟨ev, r, a, b, c⟩
  | e :: B, r, a, b, c => cond (eventOn r e).2.2.2.2 (goC ev B (eventOn r e).1 (wr (a + (eventOn r e).2.1)) (wr (b + (eventOn r e).2.2.1)) (wr (c + (eventOn r e).2.2.2.1))) none
def countB (ev : List Event) : Option Book := if ev.length ≤ 40 then goC ev ev ⟨0, 0, 0⟩ 0 0 0 else none
theorem spec_count_lp (k : Nat) : ∀ (m : Nat) (B A : List Event) (f d o a b c : Int), B.length ≤ m → (A ++ B).length ≤ 4194304 →
    ∃ bk, spec_l37Count_l0 k m (A ++ B) (A.length : Int) f d o a b c = some (bk, (goC (A ++ B) B ⟨f, d, o⟩ a b c).isSome) ∧ ∀ g, goC (A ++ B) B ⟨f, d, o⟩ a b c = some g → bk = g
  | 0, [], A, f, d, o, a, b, c, _, _ => by simp only [spec_l37Count_l0, spec_l37Count_s0, lt_end, cond_false]; exact ⟨_, rfl, fun g hg => by cases hg; rfl⟩
  | m + 1, [], A, f, d, o, a, b, c, _, _ => by simp only [spec_l37Count_l0, spec_l37Count_s0, lt_end, cond_false]; exact ⟨_, rfl, fun g hg => by cases hg; rfl⟩
  | m + 1, e :: B, A, f, d, o, a, b, c, h1, h2 => by
    obtain ⟨bk, h3, h4⟩ := spec_count_lp k m B (A ++ [e]) (eventOn ⟨f, d, o⟩ e).1.Fresh (eventOn ⟨f, d, o⟩ e).1.Day (eventOn ⟨f, d, o⟩ e).1.Old (wr (a + (eventOn ⟨f, d, o⟩ e).2.1)) (wr (b + (eventOn ⟨f, d, o⟩ e).2.2.1)) (wr (c + (eventOn ⟨f, d, o⟩ e).2.2.2.1)) (by simp at h1; omega) (by simpa using h2)
    simp only [spec_l37Count_l0, spec_l37Count_s0, lt_mid, cond_true, g_mid, if_true, getD_mid, spec_EventOn_eq, Option.bind_some, goC]
    rw [wr_suc A e (by simp at h2; omega)]
    rw [← app_mid A e B] at h3 h4
    cases he : (eventOn ⟨f, d, o⟩ e).2.2.2.2
    · exact ⟨_, rfl, fun g hg => by cases hg⟩
    · exact ⟨bk, h3, h4⟩
theorem impl_count_lp (k : Nat) (hk : 3 ≤ k) : ∀ (m : Nat) (B A : List Event) (f d o a b c : Int), B.length ≤ m → (A ++ B).length ≤ 4194304 →
    ∃ bk, impl_counted_l0 k m (A ++ B) (A.length : Int) f d o a b c = some (bk, ((goC (A ++ B) B ⟨f, d, o⟩ a b c).isSome && decide ((A ++ B).length ≤ 40))) ∧ ∀ g, goC (A ++ B) B ⟨f, d, o⟩ a b c = some g → bk = g
  | 0, [], A, f, d, o, a, b, c, _, _ => by
    simp only [impl_counted_l0, impl_counted_s0, lt_end, cond_false, goC, Option.isSome_some, Bool.true_and]
    refine ⟨_, ?_, fun g hg => by cases hg; rfl⟩
    congr 3; exact propext (by omega)
  | m + 1, [], A, f, d, o, a, b, c, _, _ => by
    simp only [impl_counted_l0, impl_counted_s0, lt_end, cond_false, goC, Option.isSome_some, Bool.true_and]
    refine ⟨_, ?_, fun g hg => by cases hg; rfl⟩
    congr 3; exact propext (by omega)
  | m + 1, e :: B, A, f, d, o, a, b, c, h1, h2 => by
    obtain ⟨bk, h3, h4⟩ := impl_count_lp k hk m B (A ++ [e]) (eventOn ⟨f, d, o⟩ e).1.Fresh (eventOn ⟨f, d, o⟩ e).1.Day (eventOn ⟨f, d, o⟩ e).1.Old (wr (a + (eventOn ⟨f, d, o⟩ e).2.1)) (wr (b + (eventOn ⟨f, d, o⟩ e).2.2.1)) (wr (c + (eventOn ⟨f, d, o⟩ e).2.2.2.1)) (by simp at h1; omega) (by simpa using h2)
    simp only [impl_counted_l0, impl_counted_s0, lt_mid, cond_true, g_mid, if_true, getD_mid, impl_EventOn_eq k hk, Option.bind_some, goC]
    rw [wr_suc A e (by simp at h2; omega)]
    rw [← app_mid A e B] at h3 h4
    cases he : (eventOn ⟨f, d, o⟩ e).2.2.2.2
    · exact ⟨_, rfl, fun g hg => by cases hg⟩
    · exact ⟨bk, h3, h4⟩
theorem spec_count_eq (k : Nat) (ev : List Event) (h1 : ev.length ≤ k) (h2 : ev.length ≤ 4194304) : ∃ bk, spec_l37Count k ev = some (bk, (countB ev).isSome) ∧ ∀ g, countB ev = some g → bk = g := by
  unfold spec_l37Count spec_l37Count_m countB
  rw [if_pos (by simp [maxRow]; omega)]
  by_cases h : ev.length ≤ 40
  · rw [if_pos h, decide_eq_false (by omega)]
    obtain ⟨bk, h3, h4⟩ := spec_count_lp k k ev [] 0 0 0 0 0 0 h1 h2
    exact ⟨bk, h3, h4⟩
  · rw [if_neg h, decide_eq_true (by omega)]
    exact ⟨_, rfl, fun g hg => by cases hg⟩
theorem impl_count_eq (k : Nat) (hk : 3 ≤ k) (ev : List Event) (h1 : ev.length ≤ k) (h2 : ev.length ≤ 4194304) : ∃ bk, impl_counted k ev = some (bk, (countB ev).isSome) ∧ ∀ g, countB ev = some g → bk = g := by
  unfold impl_counted impl_counted_m countB
  rw [if_pos (by simp [maxRow]; omega)]
  obtain ⟨bk, h3, h4⟩ := impl_count_lp k hk k ev [] 0 0 0 0 0 0 h1 h2
  simp only [List.nil_append, List.length_nil] at h3 h4
  refine ⟨bk, h3.trans ?_, fun g hg => ?_⟩
  · by_cases h : ev.length ≤ 40 <;> simp [h]
  · split at hg
    · exact h4 g hg
    · cases hg
def bookOk (b : Book) : Bool := match countB b.Events with
  | none => false
  | some g => (decide (g.Rack.Fresh = b.Rack.Fresh) && (decide (g.Rack.Day = b.Rack.Day) && decide (g.Rack.Old = b.Rack.Old))) && (decide (g.Baked = b.Baked) && (decide (g.Sold = b.Sold) && decide (g.Thrown = b.Thrown)))
theorem spec_BookOk_eq (k : Nat) (b : Book) (h1 : b.Events.length ≤ k) (h2 : b.Events.length ≤ 4194304) : spec_BookOk k b = some (bookOk b) := by
  obtain ⟨bk, h3, h4⟩ := spec_count_eq k b.Events h1 h2
  simp only [spec_BookOk, h3, Option.bind_some, bookOk, cond_and]
  cases hc : countB b.Events with
  | none => rfl
  | some g => rw [h4 g hc]; rfl
theorem impl_BookOk_eq (k : Nat) (hk : 3 ≤ k) (b : Book) (h1 : b.Events.length ≤ k) (h2 : b.Events.length ≤ 4194304) : impl_BookOk k b = some (bookOk b) := by
  obtain ⟨bk, h3, h4⟩ := impl_count_eq k hk b.Events h1 h2
  simp only [impl_BookOk, h3, Option.bind_some, bookOk, cond_and]
  cases hc : countB b.Events with
  | none => rfl
  | some g => rw [h4 g hc]; rfl
def enterB (b : Book) (e : Event) : Book × Bool := cond (bookOk b) (match countB (b.Events ++ [e]) with | none => (b, false) | some g => (g, true)) (b, false)
theorem spec_Enter_eq (k : Nat) (b : Book) (e : Event) (h1 : b.Events.length + 1 ≤ k) (h2 : b.Events.length + 1 ≤ 4194304) : spec_Enter k b e = some (enterB b e) := by
  unfold spec_Enter
  rw [if_pos (by simp [maxRow]; omega), if_pos (by simp [maxRow]; omega)]
  obtain ⟨bk, h3, h4⟩ := spec_count_eq k (b.Events ++ [e]) (by simp; omega) (by simp; omega)
  rw [List.nil_append, h3, Option.bind_some, spec_BookOk_eq k b (by omega) (by omega), l37Copy_eq k b (by omega)]
  unfold enterB
  cases hb : bookOk b with
  | false => rfl
  | true =>
    cases hc : countB (b.Events ++ [e]) with
    | none => rfl
    | some g => rw [h4 g hc]; rfl
theorem impl_Enter_eq (k : Nat) (hk : 3 ≤ k) (b : Book) (e : Event) (h1 : b.Events.length + 1 ≤ k) (h2 : b.Events.length + 1 ≤ 4194304) : impl_Enter k b e = some (enterB b e) := by
  unfold impl_Enter
  obtain ⟨bk, h3, h4⟩ := impl_count_eq k hk (b.Events ++ [e]) (by simp; omega) (by simp; omega)
  rw [impl_BookOk_eq k hk b (by omega) (by omega), bookCopy_eq k b (by omega)]
  simp only [Option.bind_some]
  rw [if_pos (by simp [maxRow]; omega), h3]
  unfold enterB
  cases hb : bookOk b with
  | false => rfl
  | true =>
    cases hc : countB (b.Events ++ [e]) with
    | none => rfl
    | some g => rw [h4 g hc]; rfl
theorem goC_ev (ev : List Event) : ∀ (B : List Event) (r : Rack) (a b c : Int) (g : Book), goC ev B r a b c = some g → g.Events = ev
  | [], r, a, b, c, g, h => by cases h; rfl
  | e :: B, r, a, b, c, g, h => by
    unfold goC at h
    cases he : (eventOn r e).2.2.2.2
    · rw [he] at h; cases h
    · rw [he] at h; exact goC_ev ev B _ _ _ _ _ h
theorem countB_ev (ev : List Event) (g : Book) (h : countB ev = some g) : g.Events = ev ∧ ev.length ≤ 40 := by
  unfold countB at h
  split at h
  · rename_i hl; exact ⟨goC_ev ev _ _ _ _ _ _ h, hl⟩
  · cases h
theorem enterB_len (b : Book) (e : Event) : (enterB b e).1.Events.length ≤ b.Events.length + 1 := by
  unfold enterB
  cases bookOk b with
  | false => simp
  | true =>
    cases hc : countB (b.Events ++ [e]) with
    | none => simp
    | some g => simp [(countB_ev _ g hc).1]

/-! ### The bakery -/
def bakeryOk (b : Bakery) : Bool := storeOk b.Stock && (doughOk b.Dough && (loafOk b.Loaf && (bookOk b.Book && inR b.Money 0 1000000)))
theorem spec_BakeryOk_eq (k : Nat) (b : Bakery) (h1 : b.Stock.Grams.length ≤ k) (h2 : b.Stock.Grams.length ≤ 4194304) (h3 : b.Book.Events.length ≤ k) (h4 : b.Book.Events.length ≤ 4194304) : spec_BakeryOk k b = some (bakeryOk b) := by
  simp only [spec_BakeryOk, spec_StoreOk_eq k _ h1 h2, spec_DoughOk_eq, spec_LoafOk_eq, spec_BookOk_eq k _ h3 h4, spec_l01In_eq, Option.bind_some, cond_and, bakeryOk]
theorem impl_BakeryOk_eq (k : Nat) (hk : 3 ≤ k) (b : Bakery) (h1 : b.Stock.Grams.length ≤ k) (h2 : b.Stock.Grams.length ≤ 4194304) (h3 : b.Book.Events.length ≤ k) (h4 : b.Book.Events.length ≤ 4194304) : impl_BakeryOk k b = some (bakeryOk b) := by
  simp only [impl_BakeryOk, impl_StoreOk_eq k _ h1 h2, impl_DoughOk_eq, impl_LoafOk_eq, impl_BookOk_eq k hk _ h3 h4, impl_in_eq, Option.bind_some, cond_and, bakeryOk]
theorem money_of {b : Bakery} (h : bakeryOk b = true) : 0 ≤ b.Money ∧ b.Money ≤ 1000000 := by
  simp only [bakeryOk, Bool.and_eq_true] at h
  exact inR_iff.1 h.2.2.2.2
def enterK (b : Bakery) (e : Event) (money : Int) : Bakery × Bool :=
  cond (bakeryOk b) (cond (enterB b.Book e).2 (cond (bakeryOk ⟨b.Stock, b.Dough, b.Loaf, (enterB b.Book e).1, wr (b.Money + money)⟩) (⟨b.Stock, b.Dough, b.Loaf, (enterB b.Book e).1, wr (b.Money + money)⟩, true) (b, false)) (b, false)) (b, false)
theorem enterK_len (b : Bakery) (e : Event) (m : Int) : (enterK b e m).1.Stock.Grams.length = b.Stock.Grams.length ∧ (enterK b e m).1.Book.Events.length ≤ b.Book.Events.length + 1 := by
  have hl := enterB_len b.Book e
  unfold enterK
  cases bakeryOk b with
  | false => exact ⟨rfl, Nat.le_succ _⟩
  | true => cases (enterB b.Book e).2 with
    | false => exact ⟨rfl, Nat.le_succ _⟩
    | true => cases bakeryOk ⟨b.Stock, b.Dough, b.Loaf, (enterB b.Book e).1, wr (b.Money + m)⟩ with
      | false => exact ⟨rfl, Nat.le_succ _⟩
      | true => exact ⟨rfl, hl⟩
end Go.Proofs.YtlenacakmmikiaaGreatDoorX
namespace Go.Proofs.YtlenacakmmikiaaGreatDoorX
open Go
set_option linter.unusedVariables false
theorem goC_bad (ev : List Event) (e : Event) (he : inR e.Loaves 0 1000 = false) : ∀ (B : List Event) (r : Rack) (a b c : Int), goC ev (B ++ [e]) r a b c = none
  | [], r, a, b, c => by
    have : (eventOn r e).2.2.2.2 = false := by simp [eventOn, he]
    simp [goC, this]
  | x :: B, r, a, b, c => by
    simp only [List.cons_append, goC, goC_bad ev e he B]
    cases (eventOn r x).2.2.2.2 <;> rfl
theorem enterB_bad (b : Book) (e : Event) (he : inR e.Loaves 0 1000 = false) : (enterB b e).2 = false := by
  have : countB (b.Events ++ [e]) = none := by
    unfold countB
    split
    · exact goC_bad _ e he _ _ _ _ _
    · rfl
  unfold enterB
  rw [this]
  cases bookOk b <;> rfl
theorem impl_NightOver_eq (k : Nat) (hk : 3 ≤ k) (b : Bakery) (h1 : b.Stock.Grams.length ≤ k) (h2 : b.Stock.Grams.length ≤ 4194304) (h3 : b.Book.Events.length + 1 ≤ k) (h4 : b.Book.Events.length + 1 ≤ 4194304) : impl_NightOver k b = some (enterK b ⟨4, 0⟩ 0) := by
  have hl := enterB_len b.Book ⟨4, 0⟩
  simp only [impl_NightOver, impl_changed_107, impl_NightOver_1, impl_Bakery_enter, bakeryCopy_eq k b h2 (by omega), impl_BakeryOk_eq k hk b h1 h2 (by omega) (by omega), impl_Enter_eq k hk b.Book _ h3 h4, Option.bind_some, Option.bind_assoc]
  rw [impl_BakeryOk_eq k hk _ (by exact h1) (by exact h2) (by dsimp only; omega) (by dsimp only; omega)]
  unfold enterK
  cases hb : bakeryOk b with
  | false => rfl
  | true =>
    have hm := money_of hb
    have hw : wr (b.Money + 0) = b.Money := by rw [Int.add_zero]; exact wr_id (by omega) (by omega)
    rw [hw]
    cases (enterB b.Book ⟨4, 0⟩).2 with
    | false => rfl
    | true =>
      simp only [Bool.not_true, cond_false, cond_true, Option.bind_some]
      cases hc : bakeryOk ⟨b.Stock, b.Dough, b.Loaf, (enterB b.Book ⟨4, 0⟩).1, b.Money⟩ with
      | false => rfl
      | true => rfl
def sellL (b : Bakery) (n : Int) (cheap : Bool) : Bakery × Bool := cond (inR n 0 1000) (cond cheap (enterK b ⟨3, n⟩ (wr (2 * n))) (enterK b ⟨2, n⟩ (wr (4 * n)))) (b, false)
theorem sellL_len (b : Bakery) (n : Int) (c : Bool) : (sellL b n c).1.Stock.Grams.length = b.Stock.Grams.length ∧ (sellL b n c).1.Book.Events.length ≤ b.Book.Events.length + 1 := by
  unfold sellL
  cases inR n 0 1000
  · exact ⟨rfl, Nat.le_succ _⟩
  · cases c
    · exact enterK_len _ _ _
    · exact enterK_len _ _ _
theorem enter_sell (k : Nat) (hk : 3 ≤ k) (b : Bakery) (e : Event) (m : Int) (h1 : b.Stock.Grams.length ≤ k) (h2 : b.Stock.Grams.length ≤ 4194304) (h3 : b.Book.Events.length + 1 ≤ k) (h4 : b.Book.Events.length + 1 ≤ 4194304) :
    (cond (!bakeryOk b) (some (b, false)) (cond (!(enterB b.Book e).2) (some (b, false)) ((impl_BakeryOk k ⟨b.Stock, b.Dough, b.Loaf, (enterB b.Book e).1, wr (b.Money + m)⟩).bind fun y6 => cond (!y6) (some (b, false)) (some ((⟨b.Stock, b.Dough, b.Loaf, (enterB b.Book e).1, wr (b.Money + m)⟩ : Bakery), true))))) = some (enterK b e m) := by
  have hl := enterB_len b.Book e
  rw [impl_BakeryOk_eq k hk _ (by exact h1) (by exact h2) (by dsimp only; omega) (by dsimp only; omega)]
  unfold enterK
  cases hb : bakeryOk b with
  | false => rfl
  | true => cases (enterB b.Book e).2 with
    | false => rfl
    | true =>
      simp only [Bool.not_true, cond_false, cond_true, Option.bind_some]
      cases hc : bakeryOk ⟨b.Stock, b.Dough, b.Loaf, (enterB b.Book e).1, wr (b.Money + m)⟩ with
      | false => rfl
      | true => rfl
theorem impl_SellLoaves_eq (k : Nat) (hk : 3 ≤ k) (b : Bakery) (n : Int) (c : Bool) (h1 : b.Stock.Grams.length ≤ k) (h2 : b.Stock.Grams.length ≤ 4194304) (h3 : b.Book.Events.length + 1 ≤ k) (h4 : b.Book.Events.length + 1 ≤ 4194304) : impl_SellLoaves k b n c = some (sellL b n c) := by
  have bad : inR n 0 1000 = false → ∀ kind m, enterK b ⟨kind, n⟩ m = (b, false) := fun hn kind m => by
    unfold enterK
    rw [enterB_bad b.Book ⟨kind, n⟩ hn]
    cases bakeryOk b <;> rfl
  have key : impl_SellLoaves k b n c = some (cond c (enterK b ⟨3, n⟩ (wr (2 * n))) (enterK b ⟨2, n⟩ (wr (4 * n)))) := by
    simp only [impl_SellLoaves, impl_changed_106, impl_SellLoaves_1, impl_Bakery_enter, bakeryCopy_eq k b h2 (by omega), impl_BakeryOk_eq k hk b h1 h2 (by omega) (by omega), impl_Enter_eq k hk b.Book _ h3 h4, Option.bind_some]
    cases c
    · have := enter_sell k hk b ⟨2, n⟩ (wr (4 * n)) h1 h2 h3 h4
      simp only [cond_false, cond_true, Option.bind_some]
      rw [this]; rfl
    · have := enter_sell k hk b ⟨3, n⟩ (wr (2 * n)) h1 h2 h3 h4
      simp only [cond_false, cond_true, Option.bind_some]
      rw [this]; rfl
  rw [key]
  unfold sellL
  cases hn : inR n 0 1000
  · rw [bad hn, bad hn]; cases c <;> rfl
  · rfl
end Go.Proofs.YtlenacakmmikiaaGreatDoorX
namespace Go.Proofs.YtlenacakmmikiaaGreatDoorX
open Go
set_option linter.unusedVariables false
theorem all_set (P : Int → Bool) (v : Int) : ∀ (l : List Int) (i : Nat), l.all P = true → i < l.length → (l.set i v).all P = P v
  | [], i, _, h => by simp at h
  | a :: l, 0, h, _ => by
    simp only [List.all_cons, Bool.and_eq_true] at h
    simp only [List.set_cons_zero, List.all_cons, h.2, Bool.and_true]
  | a :: l, i + 1, h, hl => by
    simp only [List.all_cons, Bool.and_eq_true] at h
    simp only [List.set_cons_succ, List.all_cons, h.1, Bool.true_and]
    exact all_set P v l i h.2 (by simpa using hl)
theorem storeOk_get {s : Stock} (h : storeOk s = true) (i : Nat) (hi : i < 4) : s.Grams.length = 4 ∧ 0 ≤ s.Grams.getD i 0 ∧ s.Grams.getD i 0 ≤ 1000000 := by
  simp only [storeOk, Bool.and_eq_true, decide_eq_true_eq] at h
  have hl : i < s.Grams.length := by omega
  have := List.all_eq_true.1 h.1 _ (List.getElem_mem hl)
  rw [inR_iff] at this
  rw [List.getD_eq_getElem?_getD, List.getElem?_eq_getElem hl]
  exact ⟨h.2, this⟩
def fillG (s : Stock) (i g : Int) : Stock × Bool :=
  cond (storeOk s && (inR i 0 3 && inR g 0 1000000)) (cond (decide (1000000 < wr (s.Grams.getD i.toNat 0 + g))) (s, false) (⟨s.Grams.set i.toNat (wr (s.Grams.getD i.toNat 0 + g))⟩, true)) (s, false)
theorem impl_FillStock_eq (k : Nat) (s : Stock) (i g : Int) (h1 : s.Grams.length ≤ k) (h2 : s.Grams.length ≤ 4194304) : impl_FillStock k s i g = some (fillG s i g) := by
  simp only [impl_FillStock, stockCopy_eq k s h2, impl_StoreOk_eq k s h1 h2, impl_in_eq, Option.bind_some, fillG]
  rw [impl_StoreOk_eq k _ (by simpa using h1) (by simpa using h2)]
  cases hs : storeOk s
  · rfl
  cases hi : inR i 0 3
  · rfl
  cases hg : inR g 0 1000000
  · rfl
  rw [inR_iff] at hi hg
  obtain ⟨hl, h3, h4⟩ := storeOk_get hs i.toNat (by omega)
  have hb : 0 ≤ i ∧ i < (s.Grams.length : Int) := ⟨hi.1, by omega⟩
  simp only [if_pos hb, Bool.not_true, cond_false, Bool.and_self, cond_true, Option.bind_some]
  have hw : wr (s.Grams.getD i.toNat 0 + g) = s.Grams.getD i.toNat 0 + g := wr_id (by omega) (by omega)
  rw [hw]
  have ha : s.Grams.all (fun x => inR x 0 1000000) = true := by
    simp only [storeOk, Bool.and_eq_true] at hs
    exact hs.1
  have hst : storeOk ⟨s.Grams.set i.toNat (s.Grams.getD i.toNat 0 + g)⟩ = decide (s.Grams.getD i.toNat 0 + g ≤ 1000000) := by
    unfold storeOk
    dsimp only
    rw [all_set _ _ _ _ ha (by omega), List.length_set, hl]
    unfold inR
    rw [decide_eq_true (show 0 ≤ s.Grams.getD i.toNat 0 + g by omega)]
    simp
  rw [hst]
  by_cases hc : s.Grams.getD i.toNat 0 + g ≤ 1000000
  · rw [decide_eq_true hc, decide_eq_false (by omega)]; rfl
  · rw [decide_eq_false hc, decide_eq_true (by omega)]; rfl
theorem fillG_len (s : Stock) (i g : Int) : (fillG s i g).1.Grams.length = s.Grams.length := by
  unfold fillG
  cases storeOk s && (inR i 0 3 && inR g 0 1000000)
  · rfl
  · cases decide (1000000 < wr (s.Grams.getD i.toNat 0 + g))
    · simp
    · rfl
theorem fillG_ok (s : Stock) (i g : Int) (h : (fillG s i g).2 = true) : 0 ≤ g ∧ g ≤ 1000000 := by
  unfold fillG at h
  cases hg : inR g 0 1000000
  · rw [hg] at h; simp at h
  · exact inR_iff.1 hg
def buyG (b : Bakery) (i g : Int) : Bakery × Bool :=
  cond (bakeryOk b) (cond (fillG b.Stock i g).2 (cond (bakeryOk ⟨(fillG b.Stock i g).1, b.Dough, b.Loaf, b.Book, wr (b.Money - wr (Int.tdiv (wr (g + 99)) 100))⟩) (⟨(fillG b.Stock i g).1, b.Dough, b.Loaf, b.Book, wr (b.Money - wr (Int.tdiv (wr (g + 99)) 100))⟩, true) (b, false)) (b, false)) (b, false)
theorem buyG_len (b : Bakery) (i g : Int) : (buyG b i g).1.Stock.Grams.length = b.Stock.Grams.length ∧ (buyG b i g).1.Book.Events.length = b.Book.Events.length := by
  have hl := fillG_len b.Stock i g
  unfold buyG
  cases bakeryOk b
  · exact ⟨rfl, rfl⟩
  cases (fillG b.Stock i g).2
  · exact ⟨rfl, rfl⟩
  cases bakeryOk ⟨(fillG b.Stock i g).1, b.Dough, b.Loaf, b.Book, wr (b.Money - wr (Int.tdiv (wr (g + 99)) 100))⟩
  · exact ⟨rfl, rfl⟩
  · exact ⟨hl, rfl⟩
theorem impl_BuyStock_eq (k : Nat) (hk : 3 ≤ k) (b : Bakery) (i g : Int) (h1 : b.Stock.Grams.length ≤ k) (h2 : b.Stock.Grams.length ≤ 4194304) (h3 : b.Book.Events.length ≤ k) (h4 : b.Book.Events.length ≤ 4194304) : impl_BuyStock k b i g = some (buyG b i g) := by
  have hl := fillG_len b.Stock i g
  simp only [impl_BuyStock, impl_changed_108, impl_BuyStock_1, impl_up, bakeryCopy_eq k b h2 h4, impl_FillStock_eq k b.Stock i g h1 h2, impl_BakeryOk_eq k hk b h1 h2 h3 h4, Option.bind_some]
  unfold buyG
  cases bakeryOk b
  · rfl
  cases hf : (fillG b.Stock i g).2
  · rfl
  have hg := fillG_ok _ _ _ hf
  have e1 : wr (wr (g + 100) - 1) = wr (g + 99) := by
    rw [wr_id (n := g + 100) (by omega) (by omega), show g + 100 - 1 = g + 99 by omega]
  simp only [Bool.not_true, cond_false, cond_true, Option.bind_some, e1]
  rw [if_pos (by decide)]
  simp only [Option.bind_some, Bool.not_true, cond_false]
  rw [impl_BakeryOk_eq k hk _ (by dsimp only; omega) (by dsimp only; omega) (by exact h3) (by exact h4)]
  simp only [Option.bind_some, cond_not, cond_some]
end Go.Proofs.YtlenacakmmikiaaGreatDoorX
namespace Go.Proofs.YtlenacakmmikiaaGreatDoorX
open Go
set_option linter.unusedVariables false
def openG (g : List Int) (d : Dough) (l : Loaf) (m : Int) : Bakery × Bool :=
  cond (bakeryOk ⟨⟨g⟩, d, l, ⟨[], ⟨0, 0, 0⟩, 0, 0, 0⟩, m⟩) (⟨⟨g⟩, d, l, ⟨[], ⟨0, 0, 0⟩, 0, 0, 0⟩, m⟩, true) (⟨⟨[]⟩, ⟨0, 0, 0⟩, ⟨0, 0⟩, ⟨[], ⟨0, 0, 0⟩, 0, 0, 0⟩, 0⟩, false)
theorem openG_len (g : List Int) (d : Dough) (l : Loaf) (m : Int) : (openG g d l m).1.Stock.Grams.length ≤ g.length ∧ (openG g d l m).1.Book.Events.length = 0 := by
  unfold openG
  cases bakeryOk ⟨⟨g⟩, d, l, ⟨[], ⟨0, 0, 0⟩, 0, 0, 0⟩, m⟩
  · exact ⟨Nat.zero_le _, rfl⟩
  · exact ⟨Nat.le_refl _, rfl⟩
theorem spec_OpenBakery_eq (k : Nat) (g : List Int) (d : Dough) (l : Loaf) (m : Int) (h1 : g.length ≤ k) (h2 : g.length ≤ 4194304) : spec_OpenBakery k g d l m = some (openG g d l m) := by
  unfold spec_OpenBakery
  rw [if_pos (by simp [maxRow]; omega), spec_BakeryOk_eq k _ (by exact h1) (by exact h2) (Nat.zero_le _) (Nat.zero_le _)]
  simp only [Option.bind_some, cond_not, cond_some, List.nil_append, openG]
theorem impl_OpenBakery_eq (k : Nat) (hk : 3 ≤ k) (g : List Int) (d : Dough) (l : Loaf) (m : Int) (h1 : g.length ≤ k) (h2 : g.length ≤ 4194304) : impl_OpenBakery k g d l m = some (openG g d l m) := by
  unfold impl_OpenBakery
  rw [bakeryCopy_eq k _ (by exact h2) (Nat.zero_le _), Option.bind_some, impl_BakeryOk_eq k hk _ (by exact h1) (by exact h2) (Nat.zero_le _) (Nat.zero_le _)]
  simp only [Option.bind_some, cond_not, cond_some, openG]
end Go.Proofs.YtlenacakmmikiaaGreatDoorX
namespace Go.Proofs.YtlenacakmmikiaaGreatDoorX
open Go
set_option linter.unusedVariables false
theorem loaf_iff (l : Loaf) : loafOk l = true ↔ (10 ≤ l.Weight ∧ l.Weight ≤ 5000) ∧ (0 ≤ l.Loss ∧ l.Loss ≤ 40) := by simp [loafOk, inR]
theorem dough_iff (d : Dough) : doughOk d = true ↔ (300 ≤ d.Water ∧ d.Water ≤ 1200) ∧ (0 ≤ d.Salt ∧ d.Salt ≤ 50) ∧ (0 ≤ d.Leaven ∧ d.Leaven ≤ 500) := by simp [doughOk, inR]
def wOf (l : Loaf) (x : Int) : Int := x - (x * l.Loss + 99) / 100
theorem mul_in {x y a b : Int} (h1 : 0 ≤ x) (h2 : x ≤ a) (h3 : 0 ≤ y) (h4 : y ≤ b) : 0 ≤ x * y ∧ x * y ≤ a * b :=
  ⟨Int.mul_nonneg h1 h3, Int.mul_le_mul h2 h4 h3 (Int.le_trans h1 h2)⟩
theorem impl_baked_in (k : Nat) (l : Loaf) (x : Int) (h : loafOk l = true) (h1 : 0 ≤ x) (h2 : x ≤ 9000) : impl_Loaf_baked k l x = some (wOf l x) := by
  unfold impl_Loaf_baked impl_up
  rw [loaf_iff] at h
  obtain ⟨m1, m2⟩ := mul_in h1 h2 h.2.1 h.2.2
  rw [if_pos (by decide), Option.bind_some, wr_id (n := x * l.Loss) (by omega) (by omega), wr_id (n := x * l.Loss + 100) (by omega) (by omega), show x * l.Loss + 100 - 1 = x * l.Loss + 99 by omega, wr_id (n := x * l.Loss + 99) (by omega) (by omega), Int.tdiv_eq_ediv_of_nonneg (by omega), wr_id (n := (x * l.Loss + 99) / 100) (by omega) (by omega), wr_id (by omega) (by omega)]
  rfl
theorem dough_of {b : Bakery} (h : bakeryOk b = true) : storeOk b.Stock = true ∧ doughOk b.Dough = true ∧ loafOk b.Loaf = true := by
  simp only [bakeryOk, Bool.and_eq_true] at h
  exact ⟨h.1, h.2.1, h.2.2.1⟩
def partOf (f p : Int) : Int := (f * p + 500) / 1000
def bakeG (b : Bakery) (t : Stock × Bool) (n : Int) : Bakery × Bool :=
  cond t.2 (cond (enterK b ⟨1, n⟩ 0).2 (⟨t.1, (enterK b ⟨1, n⟩ 0).1.Dough, (enterK b ⟨1, n⟩ 0).1.Loaf, (enterK b ⟨1, n⟩ 0).1.Book, (enterK b ⟨1, n⟩ 0).1.Money⟩, true) (b, false)) (b, false)
theorem bakeG_len (b : Bakery) (t : Stock × Bool) (n : Int) (h : t.1.Grams.length = b.Stock.Grams.length) : (bakeG b t n).1.Stock.Grams.length = b.Stock.Grams.length ∧ (bakeG b t n).1.Book.Events.length ≤ b.Book.Events.length + 1 := by
  obtain ⟨t, o⟩ := t
  unfold bakeG
  cases o with
  | false => exact ⟨rfl, Nat.le_succ _⟩
  | true => cases (enterK b ⟨1, n⟩ 0).2 with
    | false => exact ⟨rfl, Nat.le_succ _⟩
    | true => exact ⟨h, (enterK_len b ⟨1, n⟩ 0).2⟩
end Go.Proofs.YtlenacakmmikiaaGreatDoorX
namespace Go.Proofs.YtlenacakmmikiaaGreatDoorX
open Go
set_option linter.unusedVariables false
def stepB (b : Book) (e : Event) : Book := ⟨b.Events ++ [e], (eventOn b.Rack e).1, wr (b.Baked + (eventOn b.Rack e).2.1), wr (b.Sold + (eventOn b.Rack e).2.2.1), wr (b.Thrown + (eventOn b.Rack e).2.2.2.1)⟩
theorem goC_snoc (ev ev' : List Event) (e : Event) : ∀ (B : List Event) (r : Rack) (a b c : Int), goC ev' (B ++ [e]) r a b c = (goC ev B r a b c).bind fun g => cond (eventOn g.Rack e).2.2.2.2 (some ⟨ev', (eventOn g.Rack e).1, wr (g.Baked + (eventOn g.Rack e).2.1), wr (g.Sold + (eventOn g.Rack e).2.2.1), wr (g.Thrown + (eventOn g.Rack e).2.2.2.1)⟩) none
  | [], r, a, b, c => rfl
  | x :: B, r, a, b, c => by
    simp only [List.cons_append, goC]
    cases (eventOn r x).2.2.2.2
    · rfl
    · exact goC_snoc ev ev' e B _ _ _ _
theorem bookOk_iff (b : Book) : bookOk b = true ↔ countB b.Events = some b := by
  unfold bookOk
  cases hc : countB b.Events with
  | none => simp
  | some g =>
    have hev := (countB_ev _ g hc).1
    obtain ⟨ge, ⟨g1, g2, g3⟩, ga, gb, gc⟩ := g
    obtain ⟨be, ⟨b1, b2, b3⟩, ba, bb, bc⟩ := b
    simp only at hev
    simp only [Bool.and_eq_true, decide_eq_true_eq, Option.some.injEq]
    constructor
    · rintro ⟨⟨h1, h2, h3⟩, h4, h5, h6⟩
      subst hev h1 h2 h3 h4 h5 h6; rfl
    · intro h; cases h; exact ⟨⟨rfl, rfl, rfl⟩, rfl, rfl, rfl⟩
theorem countB_step (b : Book) (e : Event) (hb : bookOk b = true) : countB (b.Events ++ [e]) = if b.Events.length < 40 then (cond (eventOn b.Rack e).2.2.2.2 (some (stepB b e)) none) else none := by
  have h := (bookOk_iff b).1 hb
  unfold countB at h ⊢
  split at h
  · by_cases h40 : b.Events.length < 40
    · rw [if_pos (by simp; omega), if_pos h40, goC_snoc b.Events, h]; rfl
    · rw [if_neg (by simp; omega), if_neg h40]
  · cases h
theorem enterB_eq (b : Book) (e : Event) (hb : bookOk b = true) : enterB b e = cond (decide (b.Events.length < 40) && (eventOn b.Rack e).2.2.2.2) (stepB b e, true) (b, false) := by
  unfold enterB
  rw [hb, countB_step b e hb]
  by_cases h40 : b.Events.length < 40
  · rw [if_pos h40, decide_eq_true h40]
    cases (eventOn b.Rack e).2.2.2.2 <;> rfl
  · rw [if_neg h40, decide_eq_false h40]; rfl
theorem stepB_ok (b : Book) (e : Event) (hb : bookOk b = true) (hl : b.Events.length < 40) (he : (eventOn b.Rack e).2.2.2.2 = true) : bookOk (stepB b e) = true := by
  rw [bookOk_iff]
  show countB (b.Events ++ [e]) = _
  rw [countB_step b e hb, if_pos hl, he]; rfl
theorem enterB_ok (b : Book) (e : Event) (hb : bookOk b = true) : bookOk (enterB b e).1 = true := by
  rw [enterB_eq b e hb]
  cases h : (decide (b.Events.length < 40) && (eventOn b.Rack e).2.2.2.2)
  · exact hb
  · simp only [Bool.and_eq_true, decide_eq_true_eq] at h
    exact stepB_ok b e hb h.1 h.2
/-! ### What the selling moves -/
theorem sellFresh_led (r : Rack) (n : Int) (hr : rackOk r = true) (h0 : 0 ≤ n) (h1 : n ≤ 10000) :
    rackOk (sellFresh r n).1 = true ∧ 0 ≤ (sellFresh r n).2 ∧ (sellFresh r n).2 ≤ n ∧ (sellFresh r n).2 + (sellFresh r n).1.Fresh + (sellFresh r n).1.Day = r.Fresh + r.Day ∧ (sellFresh r n).1.Old = r.Old ∧ (n ≤ r.Fresh + r.Day → (sellFresh r n).2 = n) ∧ (r.Fresh + r.Day < n → (sellFresh r n).2 < n) := by
  refine ⟨sellFresh_ok r n hr, ?_⟩
  unfold sellFresh
  rw [hr, inR_iff.2 ⟨h0, h1⟩]
  rw [rackOk_iff] at hr
  simp only [Bool.and_self, cond_true]
  have m1 := mn_in h0 hr.1.1
  have w1 : wr (n - mn n r.Fresh) = n - mn n r.Fresh := wr_id (by omega) (by omega)
  rw [w1]
  have m2 := mn_in (a := n - mn n r.Fresh) (by omega) hr.2.1.1
  rw [wr_id (n := r.Fresh - mn n r.Fresh) (by omega) (by omega), wr_id (n := r.Day - mn (n - mn n r.Fresh) r.Day) (by omega) (by omega), wr_id (n := mn n r.Fresh + mn (n - mn n r.Fresh) r.Day) (by omega) (by omega)]
  have e1 : mn n r.Fresh = if r.Fresh < n then r.Fresh else n := rfl
  have e2 : mn (n - mn n r.Fresh) r.Day = if r.Day < (n - mn n r.Fresh) then r.Day else (n - mn n r.Fresh) := rfl
  refine ⟨by omega, by omega, by omega, trivial, ?_, ?_⟩
  · intro h; split at e1 <;> split at e2 <;> omega
  · intro h; split at e1 <;> split at e2 <;> omega
theorem sellCheap_led (r : Rack) (n : Int) (hr : rackOk r = true) (h0 : 0 ≤ n) (h1 : n ≤ 10000) :
    rackOk (sellCheap r n).1 = true ∧ 0 ≤ (sellCheap r n).2 ∧ (sellCheap r n).2 ≤ n ∧ (sellCheap r n).2 + (sellCheap r n).1.Day + (sellCheap r n).1.Old = r.Day + r.Old ∧ (sellCheap r n).1.Fresh = r.Fresh ∧ (n ≤ r.Old + r.Day → (sellCheap r n).2 = n) ∧ (r.Old + r.Day < n → (sellCheap r n).2 < n) ∧ (n = r.Old → (sellCheap r n).1.Old = 0) := by
  refine ⟨sellCheap_ok r n hr, ?_⟩
  unfold sellCheap
  rw [hr, inR_iff.2 ⟨h0, h1⟩]
  rw [rackOk_iff] at hr
  simp only [Bool.and_self, cond_true]
  have m1 := mn_in h0 hr.2.2.1
  have w1 : wr (n - mn n r.Old) = n - mn n r.Old := wr_id (by omega) (by omega)
  rw [w1]
  have m2 := mn_in (a := n - mn n r.Old) (by omega) hr.2.1.1
  rw [wr_id (n := r.Old - mn n r.Old) (by omega) (by omega), wr_id (n := r.Day - mn (n - mn n r.Old) r.Day) (by omega) (by omega), wr_id (n := mn n r.Old + mn (n - mn n r.Old) r.Day) (by omega) (by omega)]
  have e1 : mn n r.Old = if r.Old < n then r.Old else n := rfl
  have e2 : mn (n - mn n r.Old) r.Day = if r.Day < (n - mn n r.Old) then r.Day else (n - mn n r.Old) := rfl
  refine ⟨by omega, by omega, by omega, trivial, ?_, ?_, ?_⟩
  · intro h; split at e1 <;> split at e2 <;> omega
  · intro h; split at e1 <;> split at e2 <;> omega
  · intro h; split at e1 <;> omega
theorem nextMorning_zero (r : Rack) (hr : rackOk r = true) : nextMorning r 0 = (⟨0, r.Fresh, r.Day⟩, r.Old) := by
  unfold nextMorning; rw [hr]; rfl
/-- The kinds of events, one by one. -/
theorem on_bake (r : Rack) (n : Int) (hr : rackOk r = true) (h0 : 0 ≤ n) (h1 : n ≤ 1000) : eventOn r ⟨1, n⟩ = cond (decide (r.Fresh + n ≤ 10000)) (⟨r.Fresh + n, r.Day, r.Old⟩, n, 0, 0, true) (r, 0, 0, 0, false) := by
  have hr' := (rackOk_iff r).1 hr
  unfold eventOn
  dsimp only
  rw [hr, inR_iff.2 ⟨h0, h1⟩, wr_id (n := r.Fresh + n) (by omega) (by omega)]
  have : rackOk ⟨r.Fresh + n, r.Day, r.Old⟩ = decide (r.Fresh + n ≤ 10000) := by
    by_cases h : r.Fresh + n ≤ 10000
    · rw [decide_eq_true h, rackOk_iff]; dsimp only; omega
    · rw [decide_eq_false h]
      cases hq : rackOk ⟨r.Fresh + n, r.Day, r.Old⟩
      · rfl
      · rw [rackOk_iff] at hq; dsimp only at hq; omega
  rw [this]; rfl
theorem on_sell (r : Rack) (n : Int) (hr : rackOk r = true) (h0 : 0 ≤ n) (h1 : n ≤ 1000) : eventOn r ⟨2, n⟩ = cond (decide (n ≤ r.Fresh + r.Day)) ((sellFresh r n).1, 0, n, 0, true) (r, 0, 0, 0, false) := by
  obtain ⟨_, _, _, _, _, s1, s2⟩ := sellFresh_led r n hr h0 (by omega)
  unfold eventOn
  dsimp only
  rw [hr, inR_iff.2 ⟨h0, h1⟩]
  by_cases h : n ≤ r.Fresh + r.Day
  · rw [decide_eq_true h, decide_eq_true (s1 h), s1 h]; rfl
  · rw [decide_eq_false h, decide_eq_false (p := (sellFresh r n).2 = n) (by have := s2 (by omega); omega)]; rfl
theorem on_cheap (r : Rack) (n : Int) (hr : rackOk r = true) (h0 : 0 ≤ n) (h1 : n ≤ 1000) : eventOn r ⟨3, n⟩ = cond (decide (n ≤ r.Old + r.Day)) ((sellCheap r n).1, 0, n, 0, true) (r, 0, 0, 0, false) := by
  obtain ⟨_, _, _, _, _, s1, s2, _⟩ := sellCheap_led r n hr h0 (by omega)
  unfold eventOn
  dsimp only
  rw [hr, inR_iff.2 ⟨h0, h1⟩]
  by_cases h : n ≤ r.Old + r.Day
  · rw [decide_eq_true h, decide_eq_true (s1 h), s1 h]; rfl
  · rw [decide_eq_false h, decide_eq_false (p := (sellCheap r n).2 = n) (by have := s2 (by omega); omega)]; rfl
theorem on_night (r : Rack) (hr : rackOk r = true) : eventOn r ⟨4, 0⟩ = (⟨0, r.Fresh, r.Day⟩, 0, 0, r.Old, true) := by
  unfold eventOn
  dsimp only
  rw [hr, nextMorning_zero r hr]; rfl
theorem on_other (r : Rack) (e : Event) (h : (eventOn r e).2.2.2.2 = true) : rackOk r = true ∧ (0 ≤ e.Loaves ∧ e.Loaves ≤ 1000) ∧ (e.Kind = 1 ∨ e.Kind = 2 ∨ e.Kind = 3 ∨ e = ⟨4, 0⟩) := by
  unfold eventOn at h
  cases hr : rackOk r
  · rw [hr] at h; cases h
  cases hL : inR e.Loaves 0 1000
  · rw [hr, hL] at h; cases h
  refine ⟨rfl, inR_iff.1 hL, ?_⟩
  rw [hr, hL] at h
  by_cases k1 : e.Kind = 1
  · exact .inl k1
  by_cases k2 : e.Kind = 2
  · exact .inr (.inl k2)
  by_cases k3 : e.Kind = 3
  · exact .inr (.inr (.inl k3))
  by_cases k4 : e.Kind = 4
  · by_cases l : e.Loaves = 0
    · obtain ⟨a, b⟩ := e; simp only at k4 l; subst k4 l; exact .inr (.inr (.inr rfl))
    · rw [decide_eq_false k1, decide_eq_false k2, decide_eq_false k3, decide_eq_true k4, decide_eq_false l] at h; cases h
  · rw [decide_eq_false k1, decide_eq_false k2, decide_eq_false k3, decide_eq_false k4] at h; cases h
/-- Nothing is lost: an event that fits moves loaves between what is baked, sold, thrown away and on the shelf. -/
theorem eventOn_led (r : Rack) (e : Event) (h : (eventOn r e).2.2.2.2 = true) : rackOk (eventOn r e).1 = true ∧ 0 ≤ (eventOn r e).2.1 ∧ (eventOn r e).2.1 ≤ e.Loaves ∧ 0 ≤ (eventOn r e).2.2.1 ∧ (eventOn r e).2.2.1 ≤ 10000 ∧ 0 ≤ (eventOn r e).2.2.2.1 ∧ (eventOn r e).2.2.2.1 ≤ 10000 ∧
    r.Fresh + r.Day + r.Old + (eventOn r e).2.1 = (eventOn r e).2.2.1 + (eventOn r e).2.2.2.1 + ((eventOn r e).1.Fresh + (eventOn r e).1.Day + (eventOn r e).1.Old) := by
  obtain ⟨hr, ⟨h0, h1⟩, hk⟩ := on_other r e h
  have hr' := (rackOk_iff r).1 hr
  obtain ⟨kd, n⟩ := e
  simp only at h0 h1
  rcases hk with k | k | k | k
  · simp only at k; subst k
    rw [on_bake r n hr h0 h1] at h ⊢
    by_cases q : r.Fresh + n ≤ 10000
    · rw [decide_eq_true q]
      simp only [cond_true]
      refine ⟨(rackOk_iff _).2 ?_, ?_⟩
      · dsimp only; omega
      · omega
    · rw [decide_eq_false q] at h; cases h
  · simp only at k; subst k
    obtain ⟨s1, s2, s3, s4, s5, s6, s7⟩ := sellFresh_led r n hr h0 (by omega)
    rw [on_sell r n hr h0 h1] at h ⊢
    by_cases q : n ≤ r.Fresh + r.Day
    · rw [decide_eq_true q]
      simp only [cond_true]
      have := s6 q
      exact ⟨s1, by omega, by omega, by omega, by omega, by omega, by omega, by omega⟩
    · rw [decide_eq_false q] at h; cases h
  · simp only at k; subst k
    obtain ⟨s1, s2, s3, s4, s5, s6, s7, s8⟩ := sellCheap_led r n hr h0 (by omega)
    rw [on_cheap r n hr h0 h1] at h ⊢
    by_cases q : n ≤ r.Old + r.Day
    · rw [decide_eq_true q]
      simp only [cond_true]
      have := s6 q
      exact ⟨s1, by omega, by omega, by omega, by omega, by omega, by omega, by omega⟩
    · rw [decide_eq_false q] at h; cases h
  · cases k
    rw [on_night r hr]
    refine ⟨(rackOk_iff _).2 ?_, ?_⟩
    · dsimp only; omega
    · dsimp only; omega
def Led (r : Rack) (a b c : Int) (n : Nat) : Prop := rackOk r = true ∧ 0 ≤ b ∧ 0 ≤ c ∧ a = b + c + r.Fresh + r.Day + r.Old ∧ a ≤ 1000 * (n : Int)
theorem led_step {r : Rack} {a b c : Int} {n : Nat} (hn : n ≤ 40) (h : Led r a b c n) (e : Event) (he : (eventOn r e).2.2.2.2 = true) :
    wr (a + (eventOn r e).2.1) = a + (eventOn r e).2.1 ∧ wr (b + (eventOn r e).2.2.1) = b + (eventOn r e).2.2.1 ∧ wr (c + (eventOn r e).2.2.2.1) = c + (eventOn r e).2.2.2.1 ∧
    Led (eventOn r e).1 (a + (eventOn r e).2.1) (b + (eventOn r e).2.2.1) (c + (eventOn r e).2.2.2.1) (n + 1) := by
  obtain ⟨h1, h2, h3, h4, h5⟩ := h
  obtain ⟨g1, g2, g3, g4, g5, g6, g7, g8⟩ := eventOn_led r e he
  have hL := (on_other r e he).2.1
  have hr := (rackOk_iff r).1 h1
  refine ⟨wr_id (by omega) (by omega), wr_id (by omega) (by omega), wr_id (by omega) (by omega), g1, by omega, by omega, by omega, ?_⟩
  omega
theorem goC_led (ev : List Event) : ∀ (B : List Event) (r : Rack) (a b c : Int) (n : Nat) (g : Book), Led r a b c n → n + B.length ≤ 40 → goC ev B r a b c = some g → Led g.Rack g.Baked g.Sold g.Thrown (n + B.length)
  | [], r, a, b, c, n, g, h, _, hg => by cases hg; exact h
  | e :: B, r, a, b, c, n, g, h, hn, hg => by
    unfold goC at hg
    simp only [List.length_cons] at hn
    cases he : (eventOn r e).2.2.2.2
    · rw [he] at hg; cases hg
    · rw [he] at hg
      obtain ⟨w1, w2, w3, h'⟩ := led_step (by omega) h e he
      simp only [w1, w2, w3, cond_true] at hg
      have := goC_led ev B _ _ _ _ (n + 1) g h' (by omega) hg
      have e1 : n + 1 + B.length = n + (e :: B).length := by simp; omega
      rw [← e1]; exact this
theorem book_led (b : Book) (hb : bookOk b = true) : b.Events.length ≤ 40 ∧ Led b.Rack b.Baked b.Sold b.Thrown b.Events.length := by
  have h := (bookOk_iff b).1 hb
  have hl := (countB_ev _ b h).2
  refine ⟨hl, ?_⟩
  unfold countB at h
  rw [if_pos hl] at h
  have := goC_led b.Events b.Events ⟨0, 0, 0⟩ 0 0 0 0 b ⟨rfl, Int.le_refl _, Int.le_refl _, rfl, by simp⟩ (by omega) h
  simpa using this
/-- A book after one more event, its numbers free of overflow. -/
theorem stepB_eq (b : Book) (e : Event) (hb : bookOk b = true) (he : (eventOn b.Rack e).2.2.2.2 = true) : stepB b e = ⟨b.Events ++ [e], (eventOn b.Rack e).1, b.Baked + (eventOn b.Rack e).2.1, b.Sold + (eventOn b.Rack e).2.2.1, b.Thrown + (eventOn b.Rack e).2.2.2.1⟩ := by
  obtain ⟨hl, h⟩ := book_led b hb
  obtain ⟨w1, w2, w3, _⟩ := led_step hl h e he
  unfold stepB
  rw [w1, w2, w3]
/-- A book that stands and holds few loaves. -/
def Small (b : Book) (m : Nat) : Prop := bookOk b = true ∧ b.Events.length ≤ m ∧ b.Baked ≤ 59 * (m : Int)
theorem small_rack {b : Book} {m : Nat} (h : Small b m) (hm : m ≤ 11) : 0 ≤ b.Rack.Fresh ∧ 0 ≤ b.Rack.Day ∧ 0 ≤ b.Rack.Old ∧ 0 ≤ b.Sold ∧ 0 ≤ b.Thrown ∧ b.Baked = b.Sold + b.Thrown + b.Rack.Fresh + b.Rack.Day + b.Rack.Old ∧ b.Baked ≤ 649 := by
  obtain ⟨_, h1, h2, h3, h4, _⟩ := book_led b h.1
  have hr := (rackOk_iff _).1 h1
  have := h.2.2
  omega
theorem small_step {b : Book} {m : Nat} (h : Small b m) (e : Event) (he : e.Loaves ≤ 59) (hm : m ≤ 11) : Small (enterB b e).1 (m + 1) := by
  refine ⟨enterB_ok b e h.1, ?_⟩
  have h2 := h.2
  rw [enterB_eq b e h.1]
  cases hc : (decide (b.Events.length < 40) && (eventOn b.Rack e).2.2.2.2)
  · simp only [cond_false]; omega
  · simp only [Bool.and_eq_true, decide_eq_true_eq] at hc
    simp only [cond_true]
    rw [stepB_eq b e h.1 hc.2]
    have := eventOn_led b.Rack e hc.2
    simp only [List.length_append, List.length_singleton]
    omega
end Go.Proofs.YtlenacakmmikiaaGreatDoorX
namespace Go.Proofs.YtlenacakmmikiaaGreatDoorX
open Go
set_option linter.unusedVariables false
theorem bAnd_255 (a : Int) : 0 ≤ bAnd .i64 a 255 ∧ bAnd .i64 a 255 ≤ 255 := by
  have h : (BitVec.ofInt IntKind.i64.bits a &&& BitVec.ofInt IntKind.i64.bits 255).toNat ≤ 255 := by
    rw [BitVec.toNat_and]
    exact Nat.le_trans Nat.and_le_right (by decide)
  show 0 ≤ wr _ ∧ wr _ ≤ 255
  rw [wr_id (by omega) (by omega)]
  omega
def Dr {α : Type} (f : Option (α × (Int × Int))) (P : α → Prop) : Prop := ∃ a i h, f = some (a, (i, h)) ∧ 0 ≤ i ∧ P a
theorem Dr.bind {α β : Type} {f : Option (α × (Int × Int))} {g : α × (Int × Int) → Option (β × (Int × Int))} {P : α → Prop} {Q : β → Prop} (hf : Dr f P) (hg : ∀ a i h, 0 ≤ i → P a → Dr (g (a, (i, h))) Q) : Dr (f.bind g) Q := by
  obtain ⟨a, i, h, e, hi, ha⟩ := hf
  rw [e]
  exact hg a i h hi ha
theorem Dr.mono {α : Type} {f : Option (α × (Int × Int))} {P Q : α → Prop} (hf : Dr f P) (hg : ∀ a, P a → Q a) : Dr f Q := by
  obtain ⟨a, i, h, e, hi, ha⟩ := hf
  exact ⟨a, i, h, e, hi, hg a ha⟩
theorem l01Byte_dr (k : Nat) (c : l01Cur) (h0 : 0 ≤ c.i) (hb : c.b.length ≤ 1048576) : Dr (spec_l01Byte k c) (fun r => 0 ≤ r ∧ r ≤ 255) := by
  unfold spec_l01Byte
  rw [if_pos (by decide), if_pos (by decide)]
  cases hc : decide ((c.i : Int) < ((c.b).length : Int))
  · exact ⟨_, _, _, rfl, h0, bAnd_255 _⟩
  · simp only [decide_eq_true_eq] at hc
    simp only [cond_true]
    rw [if_pos ⟨h0, hc⟩]
    exact ⟨_, _, _, rfl, by rw [wr_id (by omega) (by omega)]; omega, bAnd_255 _⟩
theorem l01Below_dr (k : Nat) (c : l01Cur) (n : Int) (h0 : 0 ≤ c.i) (hb : c.b.length ≤ 1048576) : Dr (spec_l01Below k c n) (fun r => (0 < n → 0 ≤ r ∧ r < n) ∧ (n ≤ 0 → r = 0)) := by
  unfold spec_l01Below
  by_cases hn : n ≤ 0
  · rw [decide_eq_true hn]
    exact ⟨_, _, _, rfl, h0, fun h => by omega, fun _ => rfl⟩
  · rw [decide_eq_false hn]
    simp only [cond_false]
    by_cases h256 : n ≤ 256
    · rw [decide_eq_true h256]
      simp only [cond_true]
      refine (l01Byte_dr k c h0 hb).bind fun a i h hi ha => ?_
      dsimp only
      rw [if_pos (by omega)]
      exact ⟨_, _, _, rfl, hi, fun _ => ⟨Int.tmod_nonneg _ ha.1, Int.tmod_lt_of_pos _ (by omega)⟩, fun h => by omega⟩
    · rw [decide_eq_false h256]
      simp only [cond_false]
      refine (l01Byte_dr k c h0 hb).bind fun a1 i1 h1 hi1 ha1 => ?_
      refine (l01Byte_dr k ⟨c.b, i1, h1⟩ hi1 hb).bind fun a2 i2 h2 hi2 ha2 => ?_
      refine (l01Byte_dr k ⟨c.b, i2, h2⟩ hi2 hb).bind fun a3 i3 h3 hi3 ha3 => ?_
      refine (l01Byte_dr k ⟨c.b, i3, h3⟩ hi3 hb).bind fun a4 i4 h4 hi4 ha4 => ?_
      dsimp only
      rw [if_pos (by omega)]
      refine ⟨_, _, _, rfl, hi4, fun _ => ⟨Int.tmod_nonneg _ ?_, Int.tmod_lt_of_pos _ (by omega)⟩, fun h => by omega⟩
      rw [wr_id (n := a1 * 16777216) (by omega) (by omega), wr_id (n := a2 * 65536) (by omega) (by omega), wr_id (n := a1 * 16777216 + a2 * 65536) (by omega) (by omega), wr_id (n := a3 * 256) (by omega) (by omega), wr_id (n := a1 * 16777216 + a2 * 65536 + a3 * 256) (by omega) (by omega), wr_id (n := a1 * 16777216 + a2 * 65536 + a3 * 256 + a4) (by omega) (by omega)]
      omega
theorem l01New_lp (k : Nat) (code : List Int) : ∀ (m : Nat) (h x : Int), 0 ≤ x → x ≤ 4000 → 4000 - x ≤ (m : Int) → ∃ h', spec_l01New_l0 k m code h x = some (0, h')
  | 0, h, x, h0, h1, h2 => by
    unfold spec_l01New_l0 spec_l01New_s0
    rw [decide_eq_false (p := x < 4000) (by omega)]
    cases decide ((x : Int) < ((code).length : Int)) <;> exact ⟨_, rfl⟩
  | m + 1, h, x, h0, h1, h2 => by
    unfold spec_l01New_l0 spec_l01New_s0
    by_cases hx : x < (code.length : Int)
    · rw [decide_eq_true hx]
      by_cases hy : x < 4000
      · rw [decide_eq_true hy, if_pos ⟨h0, hx⟩]
        simp only [cond_true]
        rw [wr_id (n := x + 1) (by omega) (by omega)]
        exact l01New_lp k code m _ _ (by omega) (by omega) (by omega)
      · rw [decide_eq_false hy]; exact ⟨_, rfl⟩
    · rw [decide_eq_false hx]; exact ⟨_, rfl⟩
theorem l01New_eq (k : Nat) (hk : 4000 ≤ k) (code : List Int) : ∃ h, spec_l01New k code = some (0, h) := l01New_lp k code k _ 0 (Int.le_refl _) (by omega) (by omega)
theorem l37Event_dr (k : Nat) (c : l01Cur) (h0 : 0 ≤ c.i) (hb : c.b.length ≤ 1048576) : Dr (spec_l37Event k c) (fun e => 0 ≤ e.Loaves ∧ e.Loaves ≤ 59) := by
  unfold spec_l37Event
  refine (l01Below_dr k c 4 h0 hb).bind fun a i h hi ha => ?_
  dsimp only
  have z : ∀ kd : Int, Dr (some ((⟨kd, 0⟩ : Event), (i, h))) (fun e => 0 ≤ e.Loaves ∧ e.Loaves ≤ 59) := fun kd => ⟨_, _, _, rfl, hi, by dsimp only; omega⟩
  have q : ∀ (kd n : Int), 0 < n → n ≤ 60 → Dr ((spec_l01Below k (⟨c.b, i, h⟩ : l01Cur) n).bind fun y => some ((⟨kd, y.1⟩ : Event), (y.2.1, y.2.2))) (fun e => 0 ≤ e.Loaves ∧ e.Loaves ≤ 59) := fun kd n n0 n1 =>
    (l01Below_dr k ⟨c.b, i, h⟩ n hi hb).bind fun b i' h' hi' hb' => ⟨_, _, _, rfl, hi', (hb'.1 n0).1, by have := (hb'.1 n0).2; dsimp only; omega⟩
  cases decide (wr (1 + a) = 1)
  · cases decide (wr (1 + a) = 2)
    · cases decide (wr (1 + a) = 3)
      · exact z _
      · exact q _ 25 (by decide) (by decide)
    · exact q _ 25 (by decide) (by decide)
  · exact q _ 60 (by decide) (by decide)
theorem Small.mono {b : Book} {m n : Nat} (h : Small b m) (hm : m ≤ n) : Small b n := ⟨h.1, Nat.le_trans h.2.1 hm, by have := h.2.2; omega⟩
theorem l37Book_lp (k : Nat) (hk : 12 ≤ k) : ∀ (m : Nat) (c : l01Cur) (n i h : Int) (b : Book) (q : Nat), 0 ≤ n → n ≤ (m : Int) → (q : Int) + n ≤ 11 → Small b q → 0 ≤ i → c.b.length ≤ 1048576 →
    Dr (spec_l37Book_l0 k m c n i h b.Events b.Rack.Fresh b.Rack.Day b.Rack.Old b.Baked b.Sold b.Thrown) (fun b => Small b 11)
  | 0, c, n, i, h, b, q, h0, h1, h2, hS, hi, hc => by
    unfold spec_l37Book_l0 spec_l37Book_s0
    rw [decide_eq_false (p := 0 < n) (by omega)]
    exact ⟨b, i, h, rfl, hi, hS.mono (by omega)⟩
  | m + 1, c, n, i, h, b, q, h0, h1, h2, hS, hi, hc => by
    unfold spec_l37Book_l0 spec_l37Book_s0
    by_cases hn : 0 < n
    · rw [decide_eq_true hn]
      simp only [cond_true]
      refine (l37Event_dr k ⟨c.b, i, h⟩ hi hc).bind fun e i' h' hi' he => ?_
      have hl := hS.2.1
      dsimp only
      rw [show (⟨b.Events, ⟨b.Rack.Fresh, b.Rack.Day, b.Rack.Old⟩, b.Baked, b.Sold, b.Thrown⟩ : Book) = b from rfl, spec_Enter_eq k b e (by omega) (by omega)]
      simp only [Option.bind_some]
      rw [wr_id (n := n - 1) (by omega) (by omega)]
      exact l37Book_lp k hk m c (n - 1) i' h' (enterB b e).1 (q + 1) (by omega) (by omega) (by omega) (small_step hS e he.2 (by omega)) hi' hc
    · rw [decide_eq_false hn]
      exact ⟨b, i, h, rfl, hi, hS.mono (by omega)⟩
theorem small_nil : Small ⟨[], ⟨0, 0, 0⟩, 0, 0, 0⟩ 0 := ⟨(bookOk_iff _).2 rfl, Nat.le_refl _, by decide⟩
theorem l37Book_dr (k : Nat) (hk : 12 ≤ k) (c : l01Cur) (h0 : 0 ≤ c.i) (hb : c.b.length ≤ 1048576) : Dr (spec_l37Book k c) (fun b => Small b 11) := by
  unfold spec_l37Book spec_l37Book_m
  refine (l01Below_dr k c 12 h0 hb).bind fun a i h hi ha => ?_
  have := ha.1 (by decide)
  exact l37Book_lp k hk k c a i h ⟨[], ⟨0, 0, 0⟩, 0, 0, 0⟩ 0 (by omega) (by omega) (by omega) small_nil hi hb
/-! ### Striking and the days of a book -/
def nights : List Event → Int
  | [] => 0
  | e :: B => (cond (decide (e.Kind = 4)) 1 0) + nights B
theorem nights_in : ∀ B : List Event, 0 ≤ nights B ∧ nights B ≤ (B.length : Int)
  | [] => ⟨Int.le_refl _, Int.le_refl _⟩
  | e :: B => by
    have := nights_in B
    simp only [nights, List.length_cons]
    cases decide (e.Kind = 4) <;> simp only [cond_true, cond_false] <;> omega
end Go.Proofs.YtlenacakmmikiaaGreatDoorX
namespace Go.Proofs.YtlenacakmmikiaaGreatDoorX
open Go
set_option linter.unusedVariables false
noncomputable def runI (k m : Nat) (b0 : Bakery) (acts : List Deed) (i : Int) (b : Bakery) (L : List Int) : Option (Bakery × List Int) := impl_RunActs_l0 k m b0 acts i b.Stock.Grams b.Book.Events b.Dough.Water b.Dough.Salt b.Dough.Leaven b.Loaf.Weight b.Loaf.Loss b.Book.Rack.Fresh b.Book.Rack.Day b.Book.Rack.Old b.Book.Baked b.Book.Sold b.Book.Thrown b.Money L
theorem runI_end (k m : Nat) (b0 b : Bakery) (A : List Deed) (L : List Int) : runI k m b0 (A ++ []) (A.length : Int) b L = some (b, L) := by
  unfold runI
  cases m <;> (unfold impl_RunActs_l0 impl_RunActs_s0; rw [lt_end]; rfl)
theorem runI_step (k m : Nat) (b0 b : Bakery) (A B : List Deed) (a : Deed) (L : List Int) (r : Bakery × Int) (hA : A.length ≤ 4194304) (hL : L.length ≤ 4194304) (h : impl_DoAct k b a = some r) : runI k (m + 1) b0 (A ++ a :: B) (A.length : Int) b L = runI k m b0 ((A ++ [a]) ++ B) ((A ++ [a]).length : Int) r.1 (L ++ [r.2]) := by
  rw [← app_mid A a B]
  unfold runI
  show impl_RunActs_s0 k b0 (A ++ a :: B) (impl_RunActs_l0 k m b0 (A ++ a :: B)) (A.length : Int) b.Stock.Grams b.Book.Events b.Dough.Water b.Dough.Salt b.Dough.Leaven b.Loaf.Weight b.Loaf.Loss b.Book.Rack.Fresh b.Book.Rack.Day b.Book.Rack.Old b.Book.Baked b.Book.Sold b.Book.Thrown b.Money L = _
  unfold impl_RunActs_s0
  rw [lt_mid, if_pos ((g_mid A a B).mpr trivial), getD_mid]
  have e : impl_DoAct k (⟨⟨b.Stock.Grams⟩, ⟨b.Dough.Water, b.Dough.Salt, b.Dough.Leaven⟩, ⟨b.Loaf.Weight, b.Loaf.Loss⟩, ⟨b.Book.Events, ⟨b.Book.Rack.Fresh, b.Book.Rack.Day, b.Book.Rack.Old⟩, b.Book.Baked, b.Book.Sold, b.Book.Thrown⟩, b.Money⟩ : Bakery) a = some r := h
  rw [e, Option.bind_some, if_pos (by simp [maxRow]; omega), wr_suc A a (by omega)]; rfl
end Go.Proofs.YtlenacakmmikiaaGreatDoorX
namespace Go.Proofs.YtlenacakmmikiaaGreatDoorX
open Go
set_option linter.unusedVariables false
end Go.Proofs.YtlenacakmmikiaaGreatDoorX
namespace Go.Proofs.YtlenacakmmikiaaGreatDoorX
open Go
set_option linter.unusedVariables false
theorem ok_iff (b : Bakery) : bakeryOk b = true ↔ storeOk b.Stock = true ∧ doughOk b.Dough = true ∧ loafOk b.Loaf = true ∧ bookOk b.Book = true ∧ 0 ≤ b.Money ∧ b.Money ≤ 1000000 := by
  simp only [bakeryOk, Bool.and_eq_true, inR_iff]
theorem enterK_cases (b : Bakery) (e : Event) (m : Int) (hb : bakeryOk b = true) : enterK b e m = (b, false) ∨
    (enterK b e m = (⟨b.Stock, b.Dough, b.Loaf, stepB b.Book e, wr (b.Money + m)⟩, true) ∧ bakeryOk ⟨b.Stock, b.Dough, b.Loaf, stepB b.Book e, wr (b.Money + m)⟩ = true ∧ (eventOn b.Book.Rack e).2.2.2.2 = true ∧ b.Book.Events.length < 40) := by
  have hk := ((ok_iff b).1 hb).2.2.2.1
  unfold enterK
  rw [hb, enterB_eq b.Book e hk]
  cases hc : (decide (b.Book.Events.length < 40) && (eventOn b.Book.Rack e).2.2.2.2)
  · exact .inl rfl
  · simp only [Bool.and_eq_true, decide_eq_true_eq] at hc
    simp only [cond_true]
    cases hq : bakeryOk ⟨b.Stock, b.Dough, b.Loaf, stepB b.Book e, wr (b.Money + m)⟩
    · exact .inl rfl
    · exact .inr ⟨rfl, rfl, hc.2, hc.1⟩
theorem enterK_ok (b : Bakery) (e : Event) (m : Int) (hb : bakeryOk b = true) : bakeryOk (enterK b e m).1 = true := by
  rcases enterK_cases b e m hb with h | ⟨h, h', _⟩
  · rw [h]; exact hb
  · rw [h]; exact h'
theorem bakeG_cases (b : Bakery) (t : Stock × Bool) (n : Int) (hb : bakeryOk b = true) (ht : t.2 = true → storeOk t.1 = true) : bakeG b t n = (b, false) ∨
    (bakeG b t n = (⟨t.1, b.Dough, b.Loaf, stepB b.Book ⟨1, n⟩, b.Money⟩, true) ∧ bakeryOk ⟨t.1, b.Dough, b.Loaf, stepB b.Book ⟨1, n⟩, b.Money⟩ = true ∧ t.2 = true ∧ (eventOn b.Book.Rack ⟨1, n⟩).2.2.2.2 = true) := by
  obtain ⟨s, o⟩ := t
  unfold bakeG
  cases o with
  | false => exact .inl rfl
  | true =>
    have hm := money_of hb
    have hw : wr (b.Money + 0) = b.Money := by rw [Int.add_zero]; exact wr_id (by omega) (by omega)
    rcases enterK_cases b ⟨1, n⟩ 0 hb with h | ⟨h, h', he, _⟩
    · rw [h]; exact .inl rfl
    · rw [h, hw] at *
      refine .inr ⟨rfl, ?_, rfl, he⟩
      rw [ok_iff] at h' ⊢
      exact ⟨ht rfl, h'.2⟩
theorem buyG_cases (b : Bakery) (i g : Int) (hb : bakeryOk b = true) : buyG b i g = (b, false) ∨
    (buyG b i g = (⟨(fillG b.Stock i g).1, b.Dough, b.Loaf, b.Book, wr (b.Money - wr (Int.tdiv (wr (g + 99)) 100))⟩, true) ∧ bakeryOk ⟨(fillG b.Stock i g).1, b.Dough, b.Loaf, b.Book, wr (b.Money - wr (Int.tdiv (wr (g + 99)) 100))⟩ = true ∧ (fillG b.Stock i g).2 = true) := by
  unfold buyG
  rw [hb]
  simp only [cond_true]
  cases hf : (fillG b.Stock i g).2
  · exact .inl rfl
  · simp only [cond_true]
    cases hq : bakeryOk ⟨(fillG b.Stock i g).1, b.Dough, b.Loaf, b.Book, wr (b.Money - wr (Int.tdiv (wr (g + 99)) 100))⟩
    · exact .inl rfl
    · exact .inr (by simp)
/-! ### What is drawn -/
def Stands (b : Bakery) : Prop := bakeryOk b = true ∧ Small b.Book 11 ∧ b.Stock.Grams.length = 4 ∧ (∀ x ∈ b.Stock.Grams, x ≤ 4000)
theorem l36Stock_dr (k : Nat) (c : l01Cur) (h0 : 0 ≤ c.i) (hb : c.b.length ≤ 1048576) : Dr (spec_l36Stock k c) (fun s => storeOk s = true ∧ s.Grams.length = 4 ∧ ∀ x ∈ s.Grams, x ≤ 4000) := by
  unfold spec_l36Stock
  refine (l01Below_dr k c 250 h0 hb).bind fun a1 i1 h1 hi1 ha1 => ?_
  refine (l01Below_dr k ⟨c.b, i1, h1⟩ 250 hi1 hb).bind fun a2 i2 h2 hi2 ha2 => ?_
  refine (l01Below_dr k ⟨c.b, i2, h2⟩ 50 hi2 hb).bind fun a3 i3 h3 hi3 ha3 => ?_
  refine (l01Below_dr k ⟨c.b, i3, h3⟩ 200 hi3 hb).bind fun a4 i4 h4 hi4 ha4 => ?_
  have b1 := ha1.1 (by decide)
  have b2 := ha2.1 (by decide)
  have b3 := ha3.1 (by decide)
  have b4 := ha4.1 (by decide)
  dsimp only
  rw [wr_id (n := 8 * a1) (by omega) (by omega), wr_id (n := 6 * a2) (by omega) (by omega), wr_id (n := 2 * a4) (by omega) (by omega)]
  refine ⟨_, _, _, rfl, hi4, ?_, rfl, ?_⟩
  · simp [storeOk, inR]; omega
  · intro x hx
    simp only [List.mem_cons, List.not_mem_nil, or_false] at hx
    omega
theorem l02Dough_dr (k : Nat) (c : l01Cur) (h0 : 0 ≤ c.i) (hb : c.b.length ≤ 1048576) : Dr (spec_l02Dough k c) (fun d => doughOk d = true) := by
  unfold spec_l02Dough
  refine (l01Below_dr k c 250 h0 hb).bind fun a1 i1 h1 hi1 ha1 => ?_
  refine (l01Below_dr k ⟨c.b, i1, h1⟩ 10 hi1 hb).bind fun a2 i2 h2 hi2 ha2 => ?_
  refine (l01Below_dr k ⟨c.b, i2, h2⟩ 250 hi2 hb).bind fun a3 i3 h3 hi3 ha3 => ?_
  have b1 := ha1.1 (by decide)
  have b2 := ha2.1 (by decide)
  have b3 := ha3.1 (by decide)
  dsimp only
  rw [wr_id (n := 550 + a1) (by omega) (by omega), wr_id (n := 15 + a2) (by omega) (by omega)]
  refine ⟨_, _, _, rfl, hi3, (dough_iff _).2 ?_⟩
  dsimp only; omega
theorem l01PickInt_dr (k : Nat) (c : l01Cur) (l : List Int) (h0 : 0 ≤ c.i) (hb : c.b.length ≤ 1048576) (hl : 0 < l.length) : Dr (spec_l01PickInt k c l) (fun x => x ∈ l) := by
  unfold spec_l01PickInt
  refine (l01Below_dr k c _ h0 hb).bind fun a1 i1 h1 hi1 ha1 => ?_
  have b1 := ha1.1 (by omega)
  dsimp only
  rw [if_pos ⟨b1.1, b1.2⟩]
  refine ⟨_, _, _, rfl, hi1, ?_⟩
  rw [List.getD_eq_getElem?_getD, List.getElem?_eq_getElem (by omega)]
  exact List.getElem_mem _
theorem l38Bakery_dr (k : Nat) (hk : 12 ≤ k) (c : l01Cur) (h0 : 0 ≤ c.i) (hb : c.b.length ≤ 1048576) : Dr (spec_l38Bakery k c) Stands := by
  unfold spec_l38Bakery
  refine (l36Stock_dr k c h0 hb).bind fun s i1 h1 hi1 hs => ?_
  refine (l02Dough_dr k ⟨c.b, i1, h1⟩ hi1 hb).bind fun d i2 h2 hi2 hd => ?_
  refine (l01Below_dr k ⟨c.b, i2, h2⟩ 200 hi2 hb).bind fun a3 i3 h3 hi3 ha3 => ?_
  refine (l01Below_dr k ⟨c.b, i3, h3⟩ 20 hi3 hb).bind fun a4 i4 h4 hi4 ha4 => ?_
  refine (l37Book_dr k hk ⟨c.b, i4, h4⟩ hi4 hb).bind fun bk i5 h5 hi5 hbk => ?_
  refine (l01PickInt_dr k ⟨c.b, i5, h5⟩ _ hi5 hb (by decide)).bind fun m i6 h6 hi6 hm => ?_
  have b3 := ha3.1 (by decide)
  have b4 := ha4.1 (by decide)
  dsimp only
  rw [wr_id (n := 50 + a3) (by omega) (by omega)]
  refine ⟨_, _, _, rfl, hi6, (ok_iff _).2 ⟨hs.1, hd, (loaf_iff _).2 ?_, hbk.1, ?_⟩, hbk, hs.2⟩
  · dsimp only; omega
  · simp only [List.mem_cons, List.not_mem_nil, or_false] at hm
    dsimp only; omega
def sampleB : Bakery := ⟨⟨[4000, 3000, 100, 800]⟩, ⟨650, 20, 200⟩, ⟨500, 15⟩, ⟨[], ⟨0, 0, 0⟩, 0, 0, 0⟩, 50⟩
theorem sampleB_ok : bakeryOk sampleB = true := by decide
theorem spec_SampleBakery_eq (k : Nat) (hk : 4 ≤ k) : spec_SampleBakery k = some sampleB := by
  unfold spec_SampleBakery
  rw [spec_OpenBakery_eq k _ _ _ _ (by simpa using hk) (by simp)]; rfl
theorem impl_SampleBakery_eq (k : Nat) (hk : 4 ≤ k) : impl_SampleBakery k = some sampleB := by
  unfold impl_SampleBakery
  rw [impl_OpenBakery_eq k (by omega) _ _ _ _ (by simpa using hk) (by simp)]; rfl
theorem sample_stands : Stands sampleB := ⟨sampleB_ok, small_nil.mono (by decide), rfl, by
  intro x hx
  simp only [sampleB, List.mem_cons, List.not_mem_nil, or_false] at hx
  omega⟩
theorem l39Bakery_dr (k : Nat) (hk : 12 ≤ k) (c : l01Cur) (h0 : 0 ≤ c.i) (hb : c.b.length ≤ 1048576) : Dr (spec_l39Bakery k c) Stands := by
  unfold spec_l39Bakery spec_l01Once
  rw [Option.bind_assoc]
  refine (l01Below_dr k c 2 h0 hb).bind fun a1 i1 h1 hi1 ha1 => ?_
  dsimp only
  simp only [Option.bind_some]
  cases decide (a1 = 0)
  · simp only [cond_false]
    refine (l38Bakery_dr k hk ⟨c.b, i1, h1⟩ hi1 hb).bind fun b i2 h2 hi2 hs => ?_
    exact ⟨_, _, _, rfl, hi2, hs⟩
  · simp only [cond_true]
    rw [spec_SampleBakery_eq k (by omega)]
    exact ⟨_, _, _, rfl, hi1, sample_stands⟩
/-- An act as they are drawn. -/
def Fair (a : Deed) : Prop := (a.Kind = 1 ∨ a.Kind = 2 ∨ a.Kind = 3 ∨ a.Kind = 4 ∨ a.Kind = 5 ∨ a.Kind = 6) ∧ 0 ≤ a.A ∧ a.A ≤ 20 ∧ 0 ≤ a.B ∧ a.B ≤ 2490 ∧ actOk a = true
theorem l39Act_dr (k : Nat) (c : l01Cur) (h0 : 0 ≤ c.i) (hb : c.b.length ≤ 1048576) : Dr (spec_l39Act k c) Fair := by
  unfold spec_l39Act
  refine (l01Below_dr k c 8 h0 hb).bind fun a i h hi ha => ?_
  dsimp only
  have z : Dr (some ((⟨4, 0, 0⟩ : Deed), (i, h))) Fair := ⟨_, _, _, rfl, hi, by unfold Fair; decide⟩
  have q : ∀ kd n : Int, (kd = 1 ∨ kd = 2 ∨ kd = 3 ∨ kd = 6) → 0 < n → n ≤ 20 → Dr ((spec_l01Below k (⟨c.b, i, h⟩ : l01Cur) n).bind fun y => some ((⟨kd, y.1, 0⟩ : Deed), (y.2.1, y.2.2))) Fair := fun kd n hkd n0 n1 =>
    (l01Below_dr k ⟨c.b, i, h⟩ n hi hb).bind fun x i' h' hi' hx => ⟨_, _, _, rfl, hi', by
      have := hx.1 n0
      refine ⟨by dsimp only; omega, this.1, by dsimp only; omega, by dsimp only; omega, by dsimp only; omega, ?_⟩
      have hr : inR x 0 1000 = true := inR_iff.2 ⟨by omega, by omega⟩
      unfold actOk
      dsimp only
      rw [hr]
      rcases hkd with e | e | e | e <;> subst e <;> rfl⟩
  have p : Dr ((spec_l01Below k (⟨c.b, i, h⟩ : l01Cur) 4).bind fun y => (spec_l01Below k (⟨c.b, y.2.1, y.2.2⟩ : l01Cur) 250).bind fun y' => some ((⟨5, y.1, (wr ((10 : Int) * y'.1))⟩ : Deed), (y'.2.1, y'.2.2))) Fair :=
    (l01Below_dr k ⟨c.b, i, h⟩ 4 hi hb).bind fun x i' h' hi' hx => (l01Below_dr k ⟨c.b, i', h'⟩ 250 hi' hb).bind fun x' i'' h'' hi'' hx' => by
      have b1 := hx.1 (by decide)
      have b2 := hx'.1 (by decide)
      dsimp only
      rw [wr_id (n := 10 * x') (by omega) (by omega)]
      refine ⟨_, _, _, rfl, hi'', by dsimp only; omega, b1.1, by dsimp only; omega, by dsimp only; omega, by dsimp only; omega, ?_⟩
      unfold actOk
      dsimp only
      rw [inR_iff.2 (show 0 ≤ x ∧ x ≤ 3 by omega), inR_iff.2 (show 0 ≤ 10 * x' ∧ 10 * x' ≤ 100000 by omega)]; rfl
  cases decide (a = 0) <;> cases decide (a = 1) <;> cases decide (a = 2) <;> cases decide (a = 3) <;> cases decide (a = 4) <;> cases decide (a = 5) <;> cases decide (a = 6) <;>
    first | exact z | exact p | exact q 1 8 (by decide) (by decide) (by decide) | exact q 2 7 (by decide) (by decide) (by decide) | exact q 3 5 (by decide) (by decide) (by decide) | exact q 6 20 (by decide) (by decide) (by decide)
theorem l39List_lp (k : Nat) (y1 : Int × (Int × Int)) (c : l01Cur) (hb : c.b.length ≤ 1048576) : ∀ (m : Nat) (x i h : Int) (L : List Deed), 0 ≤ i → 0 ≤ x → y1.1 ≤ 13 → y1.1 - x ≤ (m : Int) → (L.length : Int) + (y1.1 - x) ≤ 13 → L.length ≤ 13 → (∀ a ∈ L, Fair a) → Dr (spec_l39List_l0 k m c y1 x i h L) (fun l => l.length ≤ 13 ∧ ∀ a ∈ l, Fair a) := by
  intro m
  induction m with
  | zero =>
    intro x i h L hi hx hy hm hL hl hf
    unfold spec_l39List_l0 spec_l39List_s0
    rw [decide_eq_false (by omega)]
    exact ⟨_, _, _, rfl, hi, hl, hf⟩
  | succ m ih =>
    intro x i h L hi hx hy hm hL hl hf
    unfold spec_l39List_l0 spec_l39List_s0
    by_cases hlt : x < y1.1
    · rw [decide_eq_true hlt]
      simp only [cond_true]
      refine (l39Act_dr k ⟨c.b, i, h⟩ hi hb).bind fun a i' h' hi' ha => ?_
      dsimp only
      rw [if_pos (by simp [maxRow]; omega), wr_id (n := x + 1) (by omega) (by omega)]
      refine ih (x + 1) i' h' (L ++ [a]) hi' (by omega) hy (by omega) (by simp; omega) (by simp; omega) ?_
      intro z hz
      rcases List.mem_append.1 hz with hz | hz
      · exact hf z hz
      · rw [List.mem_singleton.1 hz]; exact ha
    · rw [decide_eq_false hlt]
      exact ⟨_, _, _, rfl, hi, hl, hf⟩
theorem l39List_dr (k : Nat) (hk : 14 ≤ k) (c : l01Cur) (h0 : 0 ≤ c.i) (hb : c.b.length ≤ 1048576) : Dr (spec_l39List k c) (fun l => l.length ≤ 13 ∧ ∀ a ∈ l, Fair a) := by
  unfold spec_l39List spec_l39List_m
  refine (l01Below_dr k c 14 h0 hb).bind fun a i h hi ha => ?_
  have := ha.1 (by decide)
  exact l39List_lp k _ c hb k 0 i h [] hi (Int.le_refl _) (by dsimp only; omega) (by dsimp only; omega) (by simp; omega) (by simp) (by simp)
theorem DrawActs_eq (k : Nat) (hk : 4000 ≤ k) (code : List Int) (hb : code.length ≤ 1048576) : ∃ b l, spec_DrawActs k code = some (b, l) ∧ Stands b ∧ l.length ≤ 13 ∧ ∀ a ∈ l, Fair a := by
  unfold spec_DrawActs
  obtain ⟨h, e⟩ := l01New_eq k hk code
  rw [e]
  simp only [Option.bind_some]
  obtain ⟨b, i1, h1, e1, hi1, hs⟩ := l39Bakery_dr k (by omega) ⟨code, 0, h⟩ (Int.le_refl _) hb
  rw [e1]
  simp only [Option.bind_some]
  obtain ⟨l, i2, h2, e2, hi2, hl⟩ := l39List_dr k (by omega) ⟨code, i1, h1⟩ hi1 hb
  rw [e2]
  exact ⟨b, l, rfl, hs, hl.1, hl.2⟩
end Go.Proofs.YtlenacakmmikiaaGreatDoorX
namespace Go.Proofs.YtlenacakmmikiaaGreatDoorX
open Go
set_option linter.unusedVariables false
theorem dough_lpI (k : Nat) (l : Loaf) (h : loafOk l = true) : ∀ (m : Nat) (x : Int), 0 ≤ x → x ≤ 9000 → 9000 - x ≤ (m : Int) → ∃ r, impl_DoughFor_l0 k m l x = some r ∧ 0 ≤ r ∧ r ≤ 9000
  | 0, x, h1, h2, h3 => by
    have hx : x = 9000 := by omega
    have hw : decide (wOf l x < l.Weight) = false := by
      have hl := (loaf_iff l).1 h
      unfold wOf
      apply decide_eq_false
      rw [hx]
      omega
    simp only [impl_DoughFor_l0, impl_DoughFor_s0, impl_baked_in k l x h h1 h2, Option.bind_some, hw, cond_false]
    exact ⟨x, rfl, h1, h2⟩
  | m + 1, x, h1, h2, h3 => by
    simp only [impl_DoughFor_l0, impl_DoughFor_s0, impl_baked_in k l x h h1 h2, Option.bind_some]
    by_cases hx : x = 9000
    · have hw : decide (wOf l x < l.Weight) = false := by
        have hl := (loaf_iff l).1 h
        unfold wOf
        apply decide_eq_false
        rw [hx]
        omega
      rw [hw]
      exact ⟨x, rfl, h1, h2⟩
    · cases decide (wOf l x < l.Weight)
      · exact ⟨x, rfl, h1, h2⟩
      · rw [wr_id (n := x + 1) (by omega) (by omega)]
        exact dough_lpI k l h m (x + 1) (by omega) (by omega) (by omega)
theorem doughForI (k : Nat) (hk : 9000 ≤ k) (l : Loaf) (h : loafOk l = true) : ∃ r, impl_DoughFor k l = some r := by
  have hl := (loaf_iff l).1 h
  obtain ⟨r, h2, h3⟩ := dough_lpI k l h k l.Weight (by omega) (by omega) (by omega)
  refine ⟨r, ?_⟩
  unfold impl_DoughFor impl_DoughFor_m
  rw [impl_LoafOk_eq, Option.bind_some, h]
  exact h2
theorem flourForI (k : Nat) (d : Dough) (w : Int) (hd : doughOk d = true) : ∃ r, impl_FlourFor k d w = some r := by
  have h := (dough_iff d).1 hd
  have hy : wr (wr (wr (1000 + d.Water) + d.Salt) + d.Leaven) = 1000 + d.Water + d.Salt + d.Leaven := by
    rw [wr_id (n := 1000 + d.Water) (by omega) (by omega), wr_id (n := 1000 + d.Water + d.Salt) (by omega) (by omega), wr_id (by omega) (by omega)]
  simp only [impl_FlourFor, impl_WholeParts, impl_DoughOk_eq, impl_in_eq, hd, Option.bind_some, Bool.not_true, cond_false, impl_up, hy]
  generalize hp : 1000 + d.Water + d.Salt + d.Leaven = p
  cases hw : inR w 0 1000000
  · exact ⟨-1, rfl⟩
  · simp only [Bool.not_true, cond_false]
    rw [if_pos (by omega)]
    exact ⟨_, rfl⟩
theorem flourNeededI (k : Nat) (hk : 9000 ≤ k) (b : Bakery) (n : Int) (h1 : b.Stock.Grams.length ≤ k) (h2 : b.Stock.Grams.length ≤ 4194304) (h3 : b.Book.Events.length ≤ k) (h4 : b.Book.Events.length ≤ 4194304) : ∃ r, impl_FlourNeeded k b n = some r := by
  simp only [impl_FlourNeeded, impl_BakeryOk_eq k (by omega) b h1 h2 h3 h4, impl_in_eq, Option.bind_some]
  cases hb : bakeryOk b
  · exact ⟨-1, rfl⟩
  cases inR n 0 1000
  · exact ⟨-1, rfl⟩
  obtain ⟨_, hd, hl⟩ := dough_of hb
  obtain ⟨x, x2⟩ := doughForI k hk b.Loaf hl
  obtain ⟨y, y2⟩ := flourForI k b.Dough (wr (x * n)) hd
  simp only [Bool.not_true, cond_false, x2, Option.bind_some, y2]
  exact ⟨y, rfl⟩
theorem partI {f p : Int} (hf : inR f 0 1000000 = true) (hp : 0 ≤ p ∧ p ≤ 2000) (k : Nat) : ∃ r, impl_PartOf k f p = some r := by
  have hpp : inR p 0 2000 = true := inR_iff.2 hp
  simp only [impl_PartOf, impl_in_eq, hf, hpp, Option.bind_some, Bool.not_true, cond_false]
  rw [if_pos (by decide)]
  exact ⟨_, rfl⟩
theorem takeForI (k : Nat) (hk : 5 ≤ k) (s : Stock) (d : Dough) (f : Int) (hs : storeOk s = true) (hd : doughOk d = true) : ∃ r, impl_TakeFor k s d f = some r ∧ r.1.Grams.length = s.Grams.length := by
  obtain ⟨hl, _⟩ := storeOk_get hs 0 (by omega)
  have hI := impl_StoreOk_eq k s (by omega) (by omega)
  have hC2 := stockCopy_eq k s (by omega)
  rw [hs] at hI
  have hdd := (dough_iff d).1 hd
  cases hf : inR f 0 1000000
  · refine ⟨(s, false), ?_, rfl⟩
    simp only [impl_TakeFor, impl_TakeFor_m, impl_Amounts, hC2, hI, impl_DoughOk_eq, impl_in_eq, hd, hf, Option.bind_some, Bool.not_true, Bool.not_false, cond_false, cond_true]
    rfl
  · obtain ⟨p1, a2⟩ := partI hf (p := d.Water) (by omega) k
    obtain ⟨p2, b2⟩ := partI hf (p := d.Salt) (by omega) k
    obtain ⟨p3, c2⟩ := partI hf (p := d.Leaven) (by omega) k
    have hA2 : impl_Amounts k d f = some (.inr [f, p1, p2, p3]) := by
      simp only [impl_Amounts, impl_DoughOk_eq, impl_in_eq, hd, hf, Option.bind_some, Bool.not_true, cond_false, a2, b2, c2]
    obtain ⟨g⟩ := s
    match g, hl with
    | [x0, x1, x2, x3], _ =>
      obtain ⟨m, rfl⟩ : ∃ m, k = m + 5 := ⟨k - 5, by omega⟩
      have w1 : wr 1 = 1 := by decide
      have w2 : wr 2 = 2 := by decide
      have w3 : wr 3 = 3 := by decide
      have w4 : wr 4 = 4 := by decide
      have hM : ∃ q, impl_missing (m + 5) ⟨[x0, x1, x2, x3]⟩ [f, p1, p2, p3] = some q := by
        simp only [impl_missing, impl_missing_m, impl_missing_l0, impl_missing_s0]
        by_cases q0 : x0 < f
        · exact ⟨0, by simp [q0]⟩
        by_cases q1 : x1 < p1
        · exact ⟨1, by simp [q0, q1, w1]⟩
        by_cases q2 : x2 < p2
        · exact ⟨2, by simp [q0, q1, q2, w1, w2]⟩
        by_cases q3 : x3 < p3
        · exact ⟨3, by simp [q0, q1, q2, q3, w1, w2, w3]⟩
        exact ⟨-1, by simp [q0, q1, q2, q3, w1, w2, w3, w4]⟩
      obtain ⟨q, hq2⟩ := hM
      cases hq : decide ((0 : Int) ≤ q)
      · refine ⟨(⟨[wr (x0 - f), wr (x1 - p1), wr (x2 - p2), wr (x3 - p3)]⟩, true), ?_, rfl⟩
        simp only [impl_TakeFor, impl_TakeFor_m, hC2, hI, hA2, hq2, Option.bind_some, Bool.not_true, cond_false, Sum.elim_inr]
        rw [if_pos (by simp), hq]
        simp [impl_TakeFor_l0, impl_TakeFor_s0, w1, w2, w3, w4]
      · refine ⟨(⟨[x0, x1, x2, x3]⟩, false), ?_, rfl⟩
        simp only [impl_TakeFor, impl_TakeFor_m, hC2, hI, hA2, hq2, Option.bind_some, Bool.not_true, cond_false, Sum.elim_inr]
        rw [if_pos (by simp), hq]
        rfl
theorem bakeI (k : Nat) (hk : 9000 ≤ k) (b : Bakery) (n : Int) (hb : bakeryOk b = true) (h1 : b.Stock.Grams.length ≤ k) (h2 : b.Stock.Grams.length ≤ 4194304) (h3 : b.Book.Events.length + 1 ≤ k) (h4 : b.Book.Events.length + 1 ≤ 4194304) :
    ∃ r, impl_BakeLoaves k b n = some r ∧ bakeryOk r.1 = true ∧ r.1.Stock.Grams.length = b.Stock.Grams.length ∧ r.1.Book.Events.length ≤ b.Book.Events.length + 1 := by
  obtain ⟨y, y2⟩ := flourNeededI k hk b n h1 h2 (by omega) (by omega)
  have hcp2 := bakeryCopy_eq k b h2 (by omega)
  have hbk := impl_BakeryOk_eq k (by omega) b h1 h2 (by omega) (by omega)
  have hie := impl_Enter_eq k (by omega) b.Book ⟨1, n⟩ h3 h4
  have hel := enterB_len b.Book ⟨1, n⟩
  rw [hb] at hbk
  obtain ⟨hs, hd, _⟩ := dough_of hb
  obtain ⟨t, t2, t4⟩ := takeForI k (by omega) b.Stock b.Dough y hs hd
  obtain ⟨t, o⟩ := t
  dsimp only at t4
  have himp : impl_BakeLoaves k b n = some (cond o (cond (enterB b.Book ⟨1, n⟩).2 (cond (bakeryOk ⟨t, b.Dough, b.Loaf, (enterB b.Book ⟨1, n⟩).1, b.Money⟩) (⟨t, b.Dough, b.Loaf, (enterB b.Book ⟨1, n⟩).1, b.Money⟩, true) (b, false)) (b, false)) (b, false)) := by
    simp only [impl_BakeLoaves, impl_changed_103, impl_BakeLoaves_1, impl_Bakery_enter, hcp2, hbk, y2, t2, Option.bind_some, Bool.not_true, cond_false, hie]
    cases o with
    | false => rfl
    | true =>
      simp only [cond_true, Option.bind_some]
      rw [impl_BakeryOk_eq k (by omega) _ (by dsimp only; omega) (by dsimp only; omega) (by dsimp only; omega) (by dsimp only; omega)]
      cases (enterB b.Book ⟨1, n⟩).2 with
      | false => rfl
      | true =>
        simp only [Bool.not_true, cond_false, cond_true, Option.bind_some, cond_not, cond_some]
  refine ⟨_, himp, ?_⟩
  cases o with
  | false => exact ⟨hb, rfl, Nat.le_succ _⟩
  | true => cases (enterB b.Book ⟨1, n⟩).2 with
    | false => exact ⟨hb, rfl, Nat.le_succ _⟩
    | true => cases hq : bakeryOk ⟨t, b.Dough, b.Loaf, (enterB b.Book ⟨1, n⟩).1, b.Money⟩ with
      | false => exact ⟨hb, rfl, Nat.le_succ _⟩
      | true => exact ⟨hq, t4, hel⟩
theorem didI (k : Nat) (hk : 9000 ≤ k) (b : Bakery) (a : Deed) (hb : bakeryOk b = true) (h1 : b.Stock.Grams.length ≤ k) (h2 : b.Stock.Grams.length ≤ 4194304) (h3 : b.Book.Events.length + 1 ≤ k) (h4 : b.Book.Events.length + 1 ≤ 4194304) :
    ∃ r, impl_DoAct k b a = some r ∧ bakeryOk r.1 = true ∧ r.1.Stock.Grams.length = b.Stock.Grams.length ∧ r.1.Book.Events.length ≤ b.Book.Events.length + 1 := by
  unfold impl_DoAct
  rw [impl_BakeryOk_eq k (by omega) b h1 h2 (by omega) (by omega), bakeryCopy_eq k b h2 (by omega), impl_ActOk_eq, hb]
  simp only [Option.bind_some, Bool.not_true, cond_false]
  cases ha : actOk a
  · exact ⟨(b, -1), rfl, hb, rfl, Nat.le_succ _⟩
  simp only [Bool.not_true, cond_false]
  by_cases k1 : a.Kind = 1
  · rw [decide_eq_true k1]
    obtain ⟨⟨r, o⟩, e2, l0, l1, l2⟩ := bakeI k hk b a.A hb h1 h2 h3 h4
    rw [e2]
    exact ⟨(r, cond o 1 0), by cases o <;> rfl, l0, l1, l2⟩
  rw [decide_eq_false k1]
  have sl : ∀ c : Bool, bakeryOk (sellL b a.A c).1 = true := fun c => by
    unfold sellL
    cases inR a.A 0 1000
    · exact hb
    · cases c
      · exact enterK_ok b _ _ hb
      · exact enterK_ok b _ _ hb
  by_cases k2 : a.Kind = 2
  · rw [decide_eq_true k2, impl_SellLoaves_eq k (by omega) b a.A false h1 h2 h3 h4]
    obtain ⟨l1, l2⟩ := sellL_len b a.A false
    refine ⟨((sellL b a.A false).1, cond (sellL b a.A false).2 1 0), ?_, sl false, l1, l2⟩
    cases h : (sellL b a.A false).2 <;> simp [h]
  rw [decide_eq_false k2]
  by_cases k3 : a.Kind = 3
  · rw [decide_eq_true k3, impl_SellLoaves_eq k (by omega) b a.A true h1 h2 h3 h4]
    obtain ⟨l1, l2⟩ := sellL_len b a.A true
    refine ⟨((sellL b a.A true).1, cond (sellL b a.A true).2 1 0), ?_, sl true, l1, l2⟩
    cases h : (sellL b a.A true).2 <;> simp [h]
  rw [decide_eq_false k3]
  by_cases k4 : a.Kind = 4
  · rw [decide_eq_true k4, impl_NightOver_eq k (by omega) b h1 h2 h3 h4]
    obtain ⟨l1, l2⟩ := enterK_len b ⟨4, 0⟩ 0
    refine ⟨((enterK b ⟨4, 0⟩ 0).1, cond (enterK b ⟨4, 0⟩ 0).2 1 0), ?_, enterK_ok b _ _ hb, l1, l2⟩
    cases h : (enterK b ⟨4, 0⟩ 0).2 <;> simp [h]
  rw [decide_eq_false k4]
  by_cases k5 : a.Kind = 5
  · rw [decide_eq_true k5, impl_BuyStock_eq k (by omega) b a.A a.B h1 h2 (by omega) (by omega)]
    obtain ⟨l1, l2⟩ := buyG_len b a.A a.B
    refine ⟨((buyG b a.A a.B).1, cond (buyG b a.A a.B).2 1 0), ?_, ?_, l1, by simp only; omega⟩
    · cases h : (buyG b a.A a.B).2 <;> simp [h]
    · rcases buyG_cases b a.A a.B hb with h | ⟨h, h', _⟩
      · rw [h]; exact hb
      · rw [h]; exact h'
  rw [decide_eq_false k5]
  obtain ⟨r, e2⟩ := flourNeededI k hk b a.A h1 h2 (by omega) (by omega)
  rw [e2]
  exact ⟨(b, r), rfl, hb, rfl, Nat.le_succ _⟩
theorem runActs_okI (k : Nat) (hk : 9000 ≤ k) (b0 : Bakery) : ∀ (m : Nat) (B A : List Deed) (b : Bakery) (L : List Int), bakeryOk b = true → B.length ≤ m → A.length + B.length ≤ 40 → L.length + B.length ≤ 40 → b.Stock.Grams.length = 4 → b.Book.Events.length + B.length ≤ 80 →
    ∃ r, runI k m b0 (A ++ B) (A.length : Int) b L = some r ∧ bakeryOk r.1 = true ∧ r.2.length = L.length + B.length ∧ r.1.Stock.Grams.length = 4 ∧ r.1.Book.Events.length ≤ b.Book.Events.length + B.length := by
  intro m
  induction m with
  | zero =>
    intro B A b L hb h _ _ g1 g2
    have hB : B = [] := List.eq_nil_of_length_eq_zero (by omega)
    subst hB
    exact ⟨(b, L), runI_end .., hb, by simp, g1, by simp⟩
  | succ m ih =>
    intro B A b L hb h hA hL g1 g2
    cases B with
    | nil => exact ⟨(b, L), runI_end .., hb, by simp, g1, by simp⟩
    | cons a B =>
      simp only [List.length_cons] at h hA hL g2
      obtain ⟨r, e2, hr, l1, l2⟩ := didI k hk b a hb (by omega) (by omega) (by omega) (by omega)
      obtain ⟨q, q1, q2, q3, q4, q5⟩ := ih B (A ++ [a]) r.1 (L ++ [r.2]) hr (by omega) (by simp; omega) (by simp; omega) (by omega) (by omega)
      rw [runI_step k m b0 b A B a L r (by omega) (by omega) e2]
      exact ⟨q, q1, q2, by rw [q3]; simp; omega, q4, by simp; omega⟩
theorem runActs_standI (k : Nat) (hk : 9000 ≤ k) (b : Bakery) (acts : List Deed) (hb : bakeryOk b = true) (hl : b.Stock.Grams.length = 4) (he : b.Book.Events.length ≤ 40) (ha : acts.length ≤ 40) :
    ∃ r, impl_RunActs k b acts = some r ∧ bakeryOk r.1 = true ∧ r.2.length = acts.length ∧ r.1.Stock.Grams.length = 4 ∧ r.1.Book.Events.length ≤ b.Book.Events.length + acts.length := by
  unfold impl_RunActs impl_RunActs_m
  rw [bakeryCopy_eq k b (by omega) (by omega), impl_BakeryOk_eq k (by omega) b (by omega) (by omega) (by omega) (by omega), hb]
  simp only [Option.bind_some, Bool.not_true, cond_false]
  rw [decide_eq_false (by omega)]
  obtain ⟨r, e, h1, h2, h3, h4⟩ := runActs_okI k hk b k acts [] b [] hb (by omega) (by simp; omega) (by simp; omega) hl (by omega)
  exact ⟨r, e, h1, by rw [h2]; simp, h3, h4⟩
end Go.Proofs.YtlenacakmmikiaaGreatDoorX
namespace Go.Proofs.YtlenacakmmikiaaGreatDoorX
open Go
set_option linter.unusedVariables false
theorem flourForN (k : Nat) (d : Dough) (w : Int) (hd : doughOk d = true) : ∃ r, impl_FlourFor k d w = some r ∧ -1 ≤ r ∧ r ≤ 1000000 := by
  have h := (dough_iff d).1 hd
  have hy : wr (wr (wr (1000 + d.Water) + d.Salt) + d.Leaven) = 1000 + d.Water + d.Salt + d.Leaven := by
    rw [wr_id (n := 1000 + d.Water) (by omega) (by omega), wr_id (n := 1000 + d.Water + d.Salt) (by omega) (by omega), wr_id (by omega) (by omega)]
  simp only [impl_FlourFor, impl_WholeParts, impl_DoughOk_eq, impl_in_eq, hd, Option.bind_some, Bool.not_true, cond_false, impl_up, hy]
  generalize hp : 1000 + d.Water + d.Salt + d.Leaven = p
  cases hw : inR w 0 1000000
  · exact ⟨-1, rfl, by decide, by decide⟩
  · rw [inR_iff] at hw
    simp only [Bool.not_true, cond_false]
    rw [if_pos (by omega)]
    rw [wr_id (n := 1000 * w) (by omega) (by omega), wr_id (n := 1000 * w + p) (by omega) (by omega), wr_id (n := 1000 * w + p - 1) (by omega) (by omega), Int.tdiv_eq_ediv_of_nonneg (by omega)]
    have q1 : 0 ≤ (1000 * w + p - 1) / p := Int.ediv_nonneg (by omega) (by omega)
    have q2 : (1000 * w + p - 1) / p ≤ 1000000 := Int.ediv_le_of_le_mul (by omega) (by omega)
    rw [wr_id (by omega) (by omega)]
    exact ⟨_, rfl, by omega, q2⟩
theorem flourNeededN (k : Nat) (hk : 9000 ≤ k) (b : Bakery) (n : Int) (h1 : b.Stock.Grams.length ≤ k) (h2 : b.Stock.Grams.length ≤ 4194304) (h3 : b.Book.Events.length ≤ k) (h4 : b.Book.Events.length ≤ 4194304) : ∃ r, impl_FlourNeeded k b n = some r ∧ -1 ≤ r ∧ r ≤ 1000000 := by
  simp only [impl_FlourNeeded, impl_BakeryOk_eq k (by omega) b h1 h2 h3 h4, impl_in_eq, Option.bind_some]
  cases hb : bakeryOk b
  · exact ⟨-1, rfl, by decide, by decide⟩
  cases inR n 0 1000
  · exact ⟨-1, rfl, by decide, by decide⟩
  obtain ⟨_, hd, hl⟩ := dough_of hb
  obtain ⟨x, x2⟩ := doughForI k hk b.Loaf hl
  obtain ⟨y, y2, y3, y4⟩ := flourForN k b.Dough (wr (x * n)) hd
  simp only [Bool.not_true, cond_false, x2, Option.bind_some, y2]
  exact ⟨y, rfl, y3, y4⟩
theorem didN (k : Nat) (hk : 9000 ≤ k) (b : Bakery) (a : Deed) (hb : bakeryOk b = true) (h1 : b.Stock.Grams.length ≤ k) (h2 : b.Stock.Grams.length ≤ 4194304) (h3 : b.Book.Events.length + 1 ≤ k) (h4 : b.Book.Events.length + 1 ≤ 4194304) (r : Bakery × Int) (h : impl_DoAct k b a = some r) : -1 ≤ r.2 ∧ r.2 ≤ 1000000 := by
  have c : ∀ o : Bool, -1 ≤ (cond o 1 0 : Int) ∧ (cond o 1 0 : Int) ≤ 1000000 := fun o => by cases o <;> decide
  suffices hs : ∃ q, impl_DoAct k b a = some q ∧ -1 ≤ q.2 ∧ q.2 ≤ 1000000 by
    obtain ⟨q, e, hq⟩ := hs
    rw [h] at e; cases e; exact hq
  clear h r
  unfold impl_DoAct
  rw [impl_BakeryOk_eq k (by omega) b h1 h2 (by omega) (by omega), bakeryCopy_eq k b h2 (by omega), impl_ActOk_eq, hb]
  simp only [Option.bind_some, Bool.not_true, cond_false]
  cases ha : actOk a
  · exact ⟨(b, -1), rfl, by show (-1 : Int) ≤ -1; omega, by show (-1 : Int) ≤ 1000000; omega⟩
  simp only [Bool.not_true, cond_false]
  by_cases k1 : a.Kind = 1
  · rw [decide_eq_true k1]
    obtain ⟨⟨r, o⟩, e2, _, _, _⟩ := bakeI k hk b a.A hb h1 h2 h3 h4
    rw [e2]
    exact ⟨(r, cond o 1 0), by cases o <;> rfl, c o⟩
  rw [decide_eq_false k1]
  by_cases k2 : a.Kind = 2
  · rw [decide_eq_true k2, impl_SellLoaves_eq k (by omega) b a.A false h1 h2 h3 h4]
    refine ⟨((sellL b a.A false).1, cond (sellL b a.A false).2 1 0), ?_, c _⟩
    cases h : (sellL b a.A false).2 <;> simp [h]
  rw [decide_eq_false k2]
  by_cases k3 : a.Kind = 3
  · rw [decide_eq_true k3, impl_SellLoaves_eq k (by omega) b a.A true h1 h2 h3 h4]
    refine ⟨((sellL b a.A true).1, cond (sellL b a.A true).2 1 0), ?_, c _⟩
    cases h : (sellL b a.A true).2 <;> simp [h]
  rw [decide_eq_false k3]
  by_cases k4 : a.Kind = 4
  · rw [decide_eq_true k4, impl_NightOver_eq k (by omega) b h1 h2 h3 h4]
    refine ⟨((enterK b ⟨4, 0⟩ 0).1, cond (enterK b ⟨4, 0⟩ 0).2 1 0), ?_, c _⟩
    cases h : (enterK b ⟨4, 0⟩ 0).2 <;> simp [h]
  rw [decide_eq_false k4]
  by_cases k5 : a.Kind = 5
  · rw [decide_eq_true k5, impl_BuyStock_eq k (by omega) b a.A a.B h1 h2 (by omega) (by omega)]
    refine ⟨((buyG b a.A a.B).1, cond (buyG b a.A a.B).2 1 0), ?_, c _⟩
    cases h : (buyG b a.A a.B).2 <;> simp [h]
  rw [decide_eq_false k5]
  obtain ⟨r, e2, r1, r2⟩ := flourNeededN k hk b a.A h1 h2 (by omega) (by omega)
  rw [e2]
  exact ⟨(b, r), rfl, r1, r2⟩
theorem runActs_okN (k : Nat) (hk : 9000 ≤ k) (b0 : Bakery) : ∀ (m : Nat) (B A : List Deed) (b : Bakery) (L : List Int), bakeryOk b = true → B.length ≤ m → A.length + B.length ≤ 40 → L.length + B.length ≤ 40 → b.Stock.Grams.length = 4 → b.Book.Events.length + B.length ≤ 80 → (∀ x ∈ L, -1 ≤ x ∧ x ≤ 1000000) →
    ∃ r, runI k m b0 (A ++ B) (A.length : Int) b L = some r ∧ ∀ x ∈ r.2, -1 ≤ x ∧ x ≤ 1000000 := by
  intro m
  induction m with
  | zero =>
    intro B A b L hb h _ _ g1 g2 gL
    have hB : B = [] := List.eq_nil_of_length_eq_zero (by omega)
    subst hB
    exact ⟨(b, L), runI_end .., gL⟩
  | succ m ih =>
    intro B A b L hb h hA hL g1 g2 gL
    cases B with
    | nil => exact ⟨(b, L), runI_end .., gL⟩
    | cons a B =>
      simp only [List.length_cons] at h hA hL g2
      obtain ⟨r, e2, hr, l1, l2⟩ := didI k hk b a hb (by omega) (by omega) (by omega) (by omega)
      have hn := didN k hk b a hb (by omega) (by omega) (by omega) (by omega) r e2
      obtain ⟨q, q1, q2⟩ := ih B (A ++ [a]) r.1 (L ++ [r.2]) hr (by omega) (by simp; omega) (by simp; omega) (by omega) (by omega) (by
        intro x hx
        rcases List.mem_append.1 hx with hx | hx
        · exact gL x hx
        · rw [List.mem_singleton.1 hx]; exact hn)
      rw [runI_step k m b0 b A B a L r (by omega) (by omega) e2]
      exact ⟨q, q1, q2⟩
theorem runActs_standN (k : Nat) (hk : 9000 ≤ k) (b : Bakery) (acts : List Deed) (hb : bakeryOk b = true) (hl : b.Stock.Grams.length = 4) (he : b.Book.Events.length ≤ 40) (ha : acts.length ≤ 40) :
    ∃ r, impl_RunActs k b acts = some r ∧ bakeryOk r.1 = true ∧ r.2.length = acts.length ∧ r.1.Stock.Grams.length = 4 ∧ r.1.Book.Events.length ≤ b.Book.Events.length + acts.length ∧ ∀ x ∈ r.2, -1 ≤ x ∧ x ≤ 1000000 := by
  unfold impl_RunActs impl_RunActs_m
  rw [bakeryCopy_eq k b (by omega) (by omega), impl_BakeryOk_eq k (by omega) b (by omega) (by omega) (by omega) (by omega), hb]
  simp only [Option.bind_some, Bool.not_true, cond_false]
  rw [decide_eq_false (by omega)]
  obtain ⟨r, e, h1, h2, h3, h4⟩ := runActs_okI k hk b k acts [] b [] hb (by omega) (by simp; omega) (by simp; omega) hl (by omega)
  obtain ⟨q, e', h5⟩ := runActs_okN k hk b k acts [] b [] hb (by omega) (by simp; omega) (by simp; omega) hl (by omega) (by simp)
  rw [e] at e'; cases e'
  exact ⟨r, e, h1, by rw [h2]; simp, h3, h4, h5⟩
end Go.Proofs.YtlenacakmmikiaaGreatDoorX
