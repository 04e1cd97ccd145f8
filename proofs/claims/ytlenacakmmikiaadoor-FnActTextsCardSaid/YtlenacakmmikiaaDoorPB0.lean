/- What the reference's and the program's functions of stock, dough, loaf, rack, book and bakery compute. -/
import Derived.Test.YtlenacakmmikiaaDoorPA0
namespace Go.Proofs.YtlenacakmmikiaaDoorX
open Go
set_option linter.unusedVariables false
theorem l37Copy_eq (k : Nat) (s : Book) (h : s.Events.length ≤ 4194304) : spec_l37Copy k s = some s := by
  unfold spec_l37Copy; rw [if_pos (by simp [maxRow]; omega)]; rfl
def doughOk (d : Dough) : Bool := inR d.Water 300 1200 && (inR d.Salt 0 50 && inR d.Leaven 0 500)
theorem spec_DoughOk_eq (k : Nat) (d : Dough) : spec_DoughOk k d = some (doughOk d) := by
  simp only [spec_DoughOk, spec_l01In_eq, Option.bind_some, cond_and, doughOk]
def loafOk (l : Loaf) : Bool := inR l.Weight 10 5000 && inR l.Loss 0 40
theorem spec_LoafOk_eq (k : Nat) (l : Loaf) : spec_LoafOk k l = some (loafOk l) := by
  simp only [spec_LoafOk, spec_l01In_eq, Option.bind_some, cond_and, loafOk]
/-! ### Ranges over lists -/
def storeOk (s : Stock) : Bool := s.Grams.all (fun x => inR x 0 1000000) && decide (s.Grams.length = 4)
theorem storeOk_lp (k : Nat) : ∀ (m : Nat) (B A : List Int), B.length ≤ m → (A ++ B).length ≤ 4194304 → spec_StoreOk_l0 k m ⟨A ++ B⟩ (A.length : Int) = some (B.all (fun x => inR x 0 1000000) && decide ((A ++ B).length = 4))
  | 0, [], A, _, _ => by simp only [spec_StoreOk_l0, spec_StoreOk_s0, lt_end, cond_false, List.all_nil, Bool.true_and]; congr 2; exact propext (by omega)
  | m + 1, [], A, _, _ => by simp only [spec_StoreOk_l0, spec_StoreOk_s0, lt_end, cond_false, List.all_nil, Bool.true_and]; congr 2; exact propext (by omega)
  | m + 1, b :: B, A, h1, h2 => by
    have ih := storeOk_lp k m B (A ++ [b]) (by simp at h1; omega) (by simpa using h2)
    simp only [spec_StoreOk_l0, spec_StoreOk_s0, lt_mid, cond_true, g_mid, if_true, getD_mid, spec_l01In_eq, Option.bind_some]
    rw [wr_suc A b (by simp at h2; omega), app_mid A b B, ih]
    cases hb : inR b 0 1000000 <;> simp [hb]
theorem spec_StoreOk_eq (k : Nat) (s : Stock) (h1 : s.Grams.length ≤ k) (h2 : s.Grams.length ≤ 4194304) : spec_StoreOk k s = some (storeOk s) := storeOk_lp k k s.Grams [] h1 h2
theorem mn_comm (a b : Int) : mn a b = mn b a := by unfold mn; split <;> split <;> omega
theorem mn_in {a b : Int} (h1 : 0 ≤ a) (h2 : 0 ≤ b) : 0 ≤ mn a b ∧ mn a b ≤ a ∧ mn a b ≤ b := by unfold mn; split <;> omega

/-! ### The rack -/
def rackOk (r : Rack) : Bool := inR r.Fresh 0 10000 && (inR r.Day 0 10000 && inR r.Old 0 10000)
theorem spec_RackOk_eq (k : Nat) (r : Rack) : spec_RackOk k r = some (rackOk r) := by
  simp only [spec_RackOk, spec_l01In_eq, Option.bind_some, cond_and, rackOk]
def sellFresh (r : Rack) (n : Int) : Rack × Int :=
  cond (rackOk r && inR n 0 10000) (⟨wr (r.Fresh - mn n r.Fresh), wr (r.Day - mn (wr (n - mn n r.Fresh)) r.Day), r.Old⟩, wr (mn n r.Fresh + mn (wr (n - mn n r.Fresh)) r.Day)) (r, -1)
def sellCheap (r : Rack) (n : Int) : Rack × Int :=
  cond (rackOk r && inR n 0 10000) (⟨r.Fresh, wr (r.Day - mn (wr (n - mn n r.Old)) r.Day), wr (r.Old - mn n r.Old)⟩, wr (mn n r.Old + mn (wr (n - mn n r.Old)) r.Day)) (r, -1)
def nextMorning (r : Rack) (n : Int) : Rack × Int := cond (rackOk r && inR n 0 10000) (⟨n, r.Fresh, r.Day⟩, r.Old) (r, -1)
theorem spec_SellFresh_eq (k : Nat) (r : Rack) (n : Int) : spec_SellFresh k r n = some (sellFresh r n) := by
  simp only [spec_SellFresh, spec_RackOk_eq, spec_l01In_eq, Option.bind_some, sellFresh]
  cases rackOk r <;> cases inR n 0 10000 <;> rfl
theorem spec_SellCheap_eq (k : Nat) (r : Rack) (n : Int) : spec_SellCheap k r n = some (sellCheap r n) := by
  simp only [spec_SellCheap, spec_RackOk_eq, spec_l01In_eq, Option.bind_some, sellCheap]
  cases rackOk r <;> cases inR n 0 10000 <;> rfl
theorem spec_NextMorning_eq (k : Nat) (r : Rack) (n : Int) : spec_NextMorning k r n = some (nextMorning r n) := by
  simp only [spec_NextMorning, spec_RackOk_eq, spec_l01In_eq, Option.bind_some, nextMorning]
  cases rackOk r <;> cases inR n 0 10000 <;> rfl
theorem rackOk_iff (r : Rack) : rackOk r = true ↔ (0 ≤ r.Fresh ∧ r.Fresh ≤ 10000) ∧ (0 ≤ r.Day ∧ r.Day ≤ 10000) ∧ (0 ≤ r.Old ∧ r.Old ≤ 10000) := by simp [rackOk, inR]
theorem sellFresh_ok (r : Rack) (n : Int) (h : rackOk r = true) : rackOk (sellFresh r n).1 = true := by
  unfold sellFresh
  cases hn : inR n 0 10000
  · rw [Bool.and_false]; exact h
  · rw [h]
    rw [rackOk_iff] at h
    rw [inR_iff] at hn
    show rackOk ⟨_, _, _⟩ = true
    rw [rackOk_iff]
    dsimp only
    have m1 := mn_in hn.1 h.1.1
    have w1 : wr (n - mn n r.Fresh) = n - mn n r.Fresh := wr_id (by omega) (by omega)
    rw [w1]
    have m2 := mn_in (a := n - mn n r.Fresh) (by omega) h.2.1.1
    rw [wr_id (n := r.Fresh - mn n r.Fresh) (by omega) (by omega), wr_id (n := r.Day - mn (n - mn n r.Fresh) r.Day) (by omega) (by omega)]
    omega
theorem sellCheap_ok (r : Rack) (n : Int) (h : rackOk r = true) : rackOk (sellCheap r n).1 = true := by
  unfold sellCheap
  cases hn : inR n 0 10000
  · rw [Bool.and_false]; exact h
  · rw [h]
    rw [rackOk_iff] at h
    rw [inR_iff] at hn
    show rackOk ⟨_, _, _⟩ = true
    rw [rackOk_iff]
    dsimp only
    have m1 := mn_in hn.1 h.2.2.1
    have w1 : wr (n - mn n r.Old) = n - mn n r.Old := wr_id (by omega) (by omega)
    rw [w1]
    have m2 := mn_in (a := n - mn n r.Old) (by omega) h.2.1.1
    rw [wr_id (n := r.Old - mn n r.Old) (by omega) (by omega), wr_id (n := r.Day - mn (n - mn n r.Old) r.Day) (by omega) (by omega)]
    omega
theorem nextMorning_ok (r : Rack) (n : Int) (h : rackOk r = true) : rackOk (nextMorning r n).1 = true := by
  unfold nextMorning
  cases hn : inR n 0 10000
  · rw [Bool.and_false]; exact h
  · rw [h]
    rw [rackOk_iff] at h
    rw [inR_iff] at hn
    show rackOk ⟨_, _, _⟩ = true
    rw [rackOk_iff]
    dsimp only
    omega

/-! ### Events -/
def eventOn (p0 : Rack) (p1 : Event) : Rack × Int × Int × Int × Bool :=
  cond (rackOk p0 && inR p1.Loaves 0 1000)
    (cond (decide (p1.Kind = 1)) (cond (rackOk ⟨wr (p0.Fresh + p1.Loaves), p0.Day, p0.Old⟩) (⟨wr (p0.Fresh + p1.Loaves), p0.Day, p0.Old⟩, p1.Loaves, 0, 0, true) (p0, 0, 0, 0, false))
      (cond (decide (p1.Kind = 2)) (cond (decide ((sellFresh p0 p1.Loaves).2 = p1.Loaves)) ((sellFresh p0 p1.Loaves).1, 0, (sellFresh p0 p1.Loaves).2, 0, true) (p0, 0, 0, 0, false))
        (cond (decide (p1.Kind = 3)) (cond (decide ((sellCheap p0 p1.Loaves).2 = p1.Loaves)) ((sellCheap p0 p1.Loaves).1, 0, (sellCheap p0 p1.Loaves).2, 0, true) (p0, 0, 0, 0, false))
          (cond (decide (p1.Kind = 4)) (cond (decide (p1.Loaves = 0)) ((nextMorning p0 0).1, 0, 0, (nextMorning p0 0).2, true) (p0, 0, 0, 0, false)) (p0, 0, 0, 0, false)))))
    (p0, 0, 0, 0, false)
theorem spec_EventOn_eq (k : Nat) (r : Rack) (e : Event) : spec_EventOn k r e = some (eventOn r e) := by
  simp only [spec_EventOn, spec_RackOk_eq, spec_l01In_eq, spec_SellFresh_eq, spec_SellCheap_eq, spec_NextMorning_eq, Option.bind_some, cond_some, cond_not, eventOn]
  cases rackOk r <;> cases inR e.Loaves 0 1000 <;> rfl
/-! ### The book -/
def goC (ev : List Event) : List Event → Rack → Int → Int → Int → Option Book
  | [], r, a, b, c => some ⟨ev, r, a, b, c⟩
  | e :: B, r, a, b, c => cond (eventOn r e).2.2.2.2 (goC ev B (eventOn r e).1 (wr (a + (eventOn r e).2.1)) (wr (b + (eventOn r e).2.2.1)) (wr (c + (eventOn r e).2.2.2.1))) none
def countB (ev : List Event) : Option Book := if ev.length ≤ 40 then goC ev ev ⟨0, 0, 0⟩ 0 0 0 else none
theorem spec_count_lp (k : Nat) : ∀ (m : Nat) (B A : List Event) (f d o a b c : Int), B.length ≤ m → (A ++ B).length ≤ 4194304 →
    ∃ bk, spec_l37Count_l0 k m (A ++ B) (A.length : Int) f d o a b c = some (bk, (goC (A ++ B) B ⟨f, d, o⟩ a b c).isSome) ∧ ∀ g, goC (A ++ B) B ⟨f, d, o⟩ a b c = some g → bk = g
  | 0, [], A, f, d, o, a, b, c, _, _ => by simp only [spec_l37Count_l0, spec_l37Count_s0, lt_end, cond_false]; exact ⟨_, rfl, fun g hg => by cases hg; rfl⟩
  | m + 1, [], A, f, d, o, a, b, c, _, _ => by simp only [spec_l37Count_l0, spec_l37Count_s0, lt_end, cond_false]; exact ⟨_, rfl, fun g hg => by cases hg; rfl⟩
  | m + 1, e :: B, A, f, d, o, a, b, c, h1, h2 => by
    obtain ⟨bk, h3, h4⟩ := spec_count_lp k m B (A ++ [e]) (eventOn ⟨f, d, o⟩ e).1.Fresh (eventOn ⟨f, d, o⟩ e).1.Day (eventOn ⟨f, d, o⟩ e).1.Old (wr (a + (eventOn ⟨f, d, o⟩ e).2.1)) (wr (b + (eventOn ⟨f, d, o⟩ e).2.2.1)) (wr (c + (eventOn ⟨f, d, o⟩ e).2.2.2.1)) (by simp at h1; omega) (by simpa using h2)
    simp only [spec_l37Count_l0, spec_l37Count_s0, lt_mid, cond_true, g_mid, if_true, getD_mid, spec_EventOn_eq, Option.bind_some, goC]
    rw [wr_suc A e (by simp at h2; omega)]
    rw [← app_mid A e B] at h3 h4
    cases he : (eventOn ⟨f, d, o⟩ e).2.2.2.2
    · exact ⟨_, rfl, fun g hg => by cases hg⟩
    · exact ⟨bk, h3, h4⟩
theorem spec_count_eq (k : Nat) (ev : List Event) (h1 : ev.length ≤ k) (h2 : ev.length ≤ 4194304) : ∃ bk, spec_l37Count k ev = some (bk, (countB ev).isSome) ∧ ∀ g, countB ev = some g → bk = g := by
  unfold spec_l37Count spec_l37Count_m countB
  rw [if_pos (by simp [maxRow]; omega)]
  by_cases h : ev.length ≤ 40
  · rw [if_pos h, decide_eq_false (by omega)]
    obtain ⟨bk, h3, h4⟩ := spec_count_lp k k ev [] 0 0 0 0 0 0 h1 h2
    exact ⟨bk, h3, h4⟩
  · rw [if_neg h, decide_eq_true (by omega)]
    exact ⟨_, rfl, fun g hg => by cases hg⟩
def bookOk (b : Book) : Bool := match countB b.Events with
  | none => false
  | some g => (decide (g.Rack.Fresh = b.Rack.Fresh) && (decide (g.Rack.Day = b.Rack.Day) && decide (g.Rack.Old = b.Rack.Old))) && (decide (g.Baked = b.Baked) && (decide (g.Sold = b.Sold) && decide (g.Thrown = b.Thrown)))
theorem spec_BookOk_eq (k : Nat) (b : Book) (h1 : b.Events.length ≤ k) (h2 : b.Events.length ≤ 4194304) : spec_BookOk k b = some (bookOk b) := by
  obtain ⟨bk, h3, h4⟩ := spec_count_eq k b.Events h1 h2
  simp only [spec_BookOk, h3, Option.bind_some, bookOk, cond_and]
  cases hc : countB b.Events with
  | none => rfl
  | some g => rw [h4 g hc]; rfl
def enterB (b : Book) (e : Event) : Book × Bool := cond (bookOk b) (match countB (b.Events ++ [e]) with | none => (b, false) | some g => (g, true)) (b, false)
theorem spec_Enter_eq (k : Nat) (b : Book) (e : Event) (h1 : b.Events.length + 1 ≤ k) (h2 : b.Events.length + 1 ≤ 4194304) : spec_Enter k b e = some (enterB b e) := by
  unfold spec_Enter
  rw [if_pos (by simp [maxRow]; omega), if_pos (by simp [maxRow]; omega)]
  obtain ⟨bk, h3, h4⟩ := spec_count_eq k (b.Events ++ [e]) (by simp; omega) (by simp; omega)
  rw [List.nil_append, h3, Option.bind_some, spec_BookOk_eq k b (by omega) (by omega), l37Copy_eq k b (by omega)]
  unfold enterB
  cases hb : bookOk b with
  | false => rfl
  | true =>
    cases hc : countB (b.Events ++ [e]) with
    | none => rfl
    | some g => rw [h4 g hc]; rfl
theorem goC_ev (ev : List Event) : ∀ (B : List Event) (r : Rack) (a b c : Int) (g : Book), goC ev B r a b c = some g → g.Events = ev
  | [], r, a, b, c, g, h => by cases h; rfl
  | e :: B, r, a, b, c, g, h => by
    unfold goC at h
    cases he : (eventOn r e).2.2.2.2
    · rw [he] at h; cases h
    · rw [he] at h; exact goC_ev ev B _ _ _ _ _ h
theorem countB_ev (ev : List Event) (g : Book) (h : countB ev = some g) : g.Events = ev ∧ ev.length ≤ 40 := by
  unfold countB at h
  split at h
  · rename_i hl; exact ⟨goC_ev ev _ _ _ _ _ _ h, hl⟩
  · cases h
theorem enterB_len (b : Book) (e : Event) : (enterB b e).1.Events.length ≤ b.Events.length + 1 := by
  unfold enterB
  cases bookOk b with
  | false => simp
  | true =>
    cases hc : countB (b.Events ++ [e]) with
    | none => simp
    | some g => simp [(countB_ev _ g hc).1]

/-! ### The bakery -/
def bakeryOk (b : Bakery) : Bool := storeOk b.Stock && (doughOk b.Dough && (loafOk b.Loaf && (bookOk b.Book && inR b.Money 0 1000000)))
theorem spec_BakeryOk_eq (k : Nat) (b : Bakery) (h1 : b.Stock.Grams.length ≤ k) (h2 : b.Stock.Grams.length ≤ 4194304) (h3 : b.Book.Events.length ≤ k) (h4 : b.Book.Events.length ≤ 4194304) : spec_BakeryOk k b = some (bakeryOk b) := by
  simp only [spec_BakeryOk, spec_StoreOk_eq k _ h1 h2, spec_DoughOk_eq, spec_LoafOk_eq, spec_BookOk_eq k _ h3 h4, spec_l01In_eq, Option.bind_some, cond_and, bakeryOk]
theorem money_of {b : Bakery} (h : bakeryOk b = true) : 0 ≤ b.Money ∧ b.Money ≤ 1000000 := by
  simp only [bakeryOk, Bool.and_eq_true] at h
  exact inR_iff.1 h.2.2.2.2
def enterK (b : Bakery) (e : Event) (money : Int) : Bakery × Bool :=
  cond (bakeryOk b) (cond (enterB b.Book e).2 (cond (bakeryOk ⟨b.Stock, b.Dough, b.Loaf, (enterB b.Book e).1, wr (b.Money + money)⟩) (⟨b.Stock, b.Dough, b.Loaf, (enterB b.Book e).1, wr (b.Money + money)⟩, true) (b, false)) (b, false)) (b, false)
theorem enterK_len (b : Bakery) (e : Event) (m : Int) : (enterK b e m).1.Stock.Grams.length = b.Stock.Grams.length ∧ (enterK b e m).1.Book.Events.length ≤ b.Book.Events.length + 1 := by
  have hl := enterB_len b.Book e
  unfold enterK
  cases bakeryOk b with
  | false => exact ⟨rfl, Nat.le_succ _⟩
  | true => cases (enterB b.Book e).2 with
    | false => exact ⟨rfl, Nat.le_succ _⟩
    | true => cases bakeryOk ⟨b.Stock, b.Dough, b.Loaf, (enterB b.Book e).1, wr (b.Money + m)⟩ with
      | false => exact ⟨rfl, Nat.le_succ _⟩
      | true => exact ⟨rfl, hl⟩
end Go.Proofs.YtlenacakmmikiaaDoorX
