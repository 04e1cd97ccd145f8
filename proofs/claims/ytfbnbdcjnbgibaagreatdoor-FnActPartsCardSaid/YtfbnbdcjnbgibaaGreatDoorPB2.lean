/- What filling a stock, buying and opening compute. -/
import Derived.Test.YtfbnbdcjnbgibaaGreatDoorPB1
namespace Go.Proofs.YtfbnbdcjnbgibaaGreatDoorX
open Go
set_option linter.unusedVariables false
theorem all_set (P : Int → Bool) (v : Int) : ∀ (l : List Int) (i : Nat), l.all P = true → i < l.length → (l.set i v).all P = P v
  | [], i, _, h => by simp at h
  | a :: l, 0, h, _ => by
    simp only [List.all_cons, Bool.and_eq_true] at h
    simp only [List.set_cons_zero, List.all_cons, h.2, Bool.and_true]
  | a :: l, i + 1, h, hl => by
    simp only [List.all_cons, Bool.and_eq_true] at h
    simp only [List.set_cons_succ, List.all_cons, h.1, Bool.true_and]
    exact all_set P v l i h.2 (by simpa using hl)
theorem storeOk_get {s : Stock} (h : storeOk s = true) (i : Nat) (hi : i < 4) : s.Grams.length = 4 ∧ 0 ≤ s.Grams.getD i 0 ∧ s.Grams.getD i 0 ≤ 1000000 := by
  simp only [storeOk, Bool.and_eq_true, decide_eq_true_eq] at h
  have hl : i < s.Grams.length := by omega
  have := List.all_eq_true.1 h.1 _ (List.getElem_mem hl)
  rw [inR_iff] at this
  rw [List.getD_eq_getElem?_getD, List.getElem?_eq_getElem hl]
  exact ⟨h.2, this⟩
def fillG (s : Stock) (i g : Int) : Stock × Bool :=
  cond (storeOk s && (inR i 0 3 && inR g 0 1000000)) (cond (decide (1000000 < wr (s.Grams.getD i.toNat 0 + g))) (s, false) (⟨s.Grams.set i.toNat (wr (s.Grams.getD i.toNat 0 + g))⟩, true)) (s, false)
theorem impl_FillStock_eq (k : Nat) (s : Stock) (i g : Int) (h1 : s.Grams.length ≤ k) (h2 : s.Grams.length ≤ 4194304) : impl_FillStock k s i g = some (fillG s i g) := by
  simp only [impl_FillStock, stockCopy_eq k s h2, impl_StoreOk_eq k s h1 h2, impl_in_eq, Option.bind_some, fillG]
  rw [impl_StoreOk_eq k _ (by simpa using h1) (by simpa using h2)]
  cases hs : storeOk s
  · rfl
  cases hi : inR i 0 3
  · rfl
  cases hg : inR g 0 1000000
  · rfl
  rw [inR_iff] at hi hg
  obtain ⟨hl, h3, h4⟩ := storeOk_get hs i.toNat (by omega)
  have hb : 0 ≤ i ∧ i < (s.Grams.length : Int) := ⟨hi.1, by omega⟩
  simp only [if_pos hb, Bool.not_true, cond_false, Bool.and_self, cond_true, Option.bind_some]
  have hw : wr (s.Grams.getD i.toNat 0 + g) = s.Grams.getD i.toNat 0 + g := wr_id (by omega) (by omega)
  rw [hw]
  have ha : s.Grams.all (fun x => inR x 0 1000000) = true := by
    simp only [storeOk, Bool.and_eq_true] at hs
    exact hs.1
  have hst : storeOk ⟨s.Grams.set i.toNat (s.Grams.getD i.toNat 0 + g)⟩ = decide (s.Grams.getD i.toNat 0 + g ≤ 1000000) := by
    unfold storeOk
    dsimp only
    rw [all_set _ _ _ _ ha (by omega), List.length_set, hl]
    unfold inR
    rw [decide_eq_true (show 0 ≤ s.Grams.getD i.toNat 0 + g by omega)]
    simp
  rw [hst]
  by_cases hc : s.Grams.getD i.toNat 0 + g ≤ 1000000
  · rw [decide_eq_true hc, decide_eq_false (by omega)]; rfl
  · rw [decide_eq_false hc, decide_eq_true (by omega)]; rfl
theorem fillG_len (s : Stock) (i g : Int) : (fillG s i g).1.Grams.length = s.Grams.length := by
  unfold fillG
  cases storeOk s && (inR i 0 3 && inR g 0 1000000)
  · rfl
  · cases decide (1000000 < wr (s.Grams.getD i.toNat 0 + g))
    · simp
    · rfl
theorem fillG_ok (s : Stock) (i g : Int) (h : (fillG s i g).2 = true) : 0 ≤ g ∧ g ≤ 1000000 := by
  unfold fillG at h
  cases hg : inR g 0 1000000
  · rw [hg] at h; simp at h
  · exact inR_iff.1 hg
def buyG (b : Bakery) (i g : Int) : Bakery × Bool :=
  cond (bakeryOk b) (cond (fillG b.Stock i g).2 (cond (bakeryOk ⟨(fillG b.Stock i g).1, b.Dough, b.Loaf, b.Book, wr (b.Money - wr (Int.tdiv (wr (g + 99)) 100))⟩) (⟨(fillG b.Stock i g).1, b.Dough, b.Loaf, b.Book, wr (b.Money - wr (Int.tdiv (wr (g + 99)) 100))⟩, true) (b, false)) (b, false)) (b, false)
theorem buyG_len (b : Bakery) (i g : Int) : (buyG b i g).1.Stock.Grams.length = b.Stock.Grams.length ∧ (buyG b i g).1.Book.Events.length = b.Book.Events.length := by
  have hl := fillG_len b.Stock i g
  unfold buyG
  cases bakeryOk b
  · exact ⟨rfl, rfl⟩
  cases (fillG b.Stock i g).2
  · exact ⟨rfl, rfl⟩
  cases bakeryOk ⟨(fillG b.Stock i g).1, b.Dough, b.Loaf, b.Book, wr (b.Money - wr (Int.tdiv (wr (g + 99)) 100))⟩
  · exact ⟨rfl, rfl⟩
  · exact ⟨hl, rfl⟩
theorem impl_BuyStock_eq (k : Nat) (hk : 3 ≤ k) (b : Bakery) (i g : Int) (h1 : b.Stock.Grams.length ≤ k) (h2 : b.Stock.Grams.length ≤ 4194304) (h3 : b.Book.Events.length ≤ k) (h4 : b.Book.Events.length ≤ 4194304) : impl_BuyStock k b i g = some (buyG b i g) := by
  have hl := fillG_len b.Stock i g
  simp only [impl_BuyStock, impl_changed_52, impl_BuyStock_1, impl_up, bakeryCopy_eq k b h2 h4, impl_FillStock_eq k b.Stock i g h1 h2, impl_BakeryOk_eq k hk b h1 h2 h3 h4, Option.bind_some]
  unfold buyG
  cases bakeryOk b
  · rfl
  cases hf : (fillG b.Stock i g).2
  · rfl
  have hg := fillG_ok _ _ _ hf
  have e1 : wr (wr (g + 100) - 1) = wr (g + 99) := by
    rw [wr_id (n := g + 100) (by omega) (by omega), show g + 100 - 1 = g + 99 by omega]
  simp only [Bool.not_true, cond_false, cond_true, Option.bind_some, e1]
  rw [if_pos (by decide)]
  simp only [Option.bind_some, Bool.not_true, cond_false]
  rw [impl_BakeryOk_eq k hk _ (by dsimp only; omega) (by dsimp only; omega) (by exact h3) (by exact h4)]
  simp only [Option.bind_some, cond_not, cond_some]
end Go.Proofs.YtfbnbdcjnbgibaaGreatDoorX
