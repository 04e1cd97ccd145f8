/- What filling a stock, buying and opening compute. -/
import Derived.Test.YtlenacakmmikiaaDoorPB1
namespace Go.Proofs.YtlenacakmmikiaaDoorX
open Go
set_option linter.unusedVariables false
theorem all_set (P : Int → Bool) (v : Int) : ∀ (l : List Int) (i : Nat), l.all P = true → i < l.length → (l.set i v).all P = P v
  | [], i, _, h => by simp at h
  | a :: l, 0, h, _ => by
    simp only [List.all_cons, Bool.and_eq_true] at h
    simp only [List.set_cons_zero, List.all_cons, h.2, Bool.and_true]
  | a :: l, i + 1, h, hl => by
    simp only [List.all_cons, Bool.and_eq_true] at h
    simp only [List.set_cons_succ, List.all_cons, h.1, Bool.true_and]
    exact all_set P v l i h.2 (by simpa using hl)
theorem storeOk_get {s : Stock} (h : storeOk s = true) (i : Nat) (hi : i < 4) : s.Grams.length = 4 ∧ 0 ≤ s.Grams.getD i 0 ∧ s.Grams.getD i 0 ≤ 1000000 := by
  simp only [storeOk, Bool.and_eq_true, decide_eq_true_eq] at h
  have hl : i < s.Grams.length := by omega
  have := List.all_eq_true.1 h.1 _ (List.getElem_mem hl)
  rw [inR_iff] at this
  rw [List.getD_eq_getElem?_getD, List.getElem?_eq_getElem hl]
  exact ⟨h.2, this⟩
def fillG (s : Stock) (i g : Int) : Stock × Bool :=
  cond (storeOk s && (inR i 0 3 && inR g 0 1000000)) (cond (decide (1000000 < wr (s.Grams.getD i.toNat 0 + g))) (s, false) (⟨s.Grams.set i.toNat (wr (s.Grams.getD i.toNat 0 + g))⟩, true)) (s, false)
theorem fillG_len (s : Stock) (i g : Int) : (fillG s i g).1.Grams.length = s.Grams.length := by
  unfold fillG
  cases storeOk s && (inR i 0 3 && inR g 0 1000000)
  · rfl
  · cases decide (1000000 < wr (s.Grams.getD i.toNat 0 + g))
    · simp
    · rfl
theorem fillG_ok (s : Stock) (i g : Int) (h : (fillG s i g).2 = true) : 0 ≤ g ∧ g ≤ 1000000 := by
  unfold fillG at h
  cases hg : inR g 0 1000000
  · rw [hg] at h; simp at h
  · exact inR_iff.1 hg
def buyG (b : Bakery) (i g : Int) : Bakery × Bool :=
  cond (bakeryOk b) (cond (fillG b.Stock i g).2 (cond (bakeryOk ⟨(fillG b.Stock i g).1, b.Dough, b.Loaf, b.Book, wr (b.Money - wr (Int.tdiv (wr (g + 99)) 100))⟩) (⟨(fillG b.Stock i g).1, b.Dough, b.Loaf, b.Book, wr (b.Money - wr (Int.tdiv (wr (g + 99)) 100))⟩, true) (b, false)) (b, false)) (b, false)
theorem buyG_len (b : Bakery) (i g : Int) : (buyG b i g).1.Stock.Grams.length = b.Stock.Grams.length ∧ (buyG b i g).1.Book.Events.length = b.Book.Events.length := by
  have hl := fillG_len b.Stock i g
  unfold buyG
  cases bakeryOk b
  · exact ⟨rfl, rfl⟩
  cases (fillG b.Stock i g).2
  · exact ⟨rfl, rfl⟩
  cases bakeryOk ⟨(fillG b.Stock i g).1, b.Dough, b.Loaf, b.Book, wr (b.Money - wr (Int.tdiv (wr (g + 99)) 100))⟩
  · exact ⟨rfl, rfl⟩
  · exact ⟨hl, rfl⟩
end Go.Proofs.YtlenacakmmikiaaDoorX
