/- What the changes of the bakery compute: the night, buying, selling. -/
import Derived.Test.YtfbnbdcjnbgibaaGreatDoorPB0
namespace Go.Proofs.YtfbnbdcjnbgibaaGreatDoorX
open Go
set_option linter.unusedVariables false
theorem goC_bad (ev : List Event) (e : Event) (he : inR e.Loaves 0 1000 = false) : ∀ (B : List Event) (r : Rack) (a b c : Int), goC ev (B ++ [e]) r a b c = none
  | [], r, a, b, c => by
    have : (eventOn r e).2.2.2.2 = false := by simp [eventOn, he]
    simp [goC, this]
  | x :: B, r, a, b, c => by
    simp only [List.cons_append, goC, goC_bad ev e he B]
    cases (eventOn r x).2.2.2.2 <;> rfl
theorem enterB_bad (b : Book) (e : Event) (he : inR e.Loaves 0 1000 = false) : (enterB b e).2 = false := by
  have : countB (b.Events ++ [e]) = none := by
    unfold countB
    split
    · exact goC_bad _ e he _ _ _ _ _
    · rfl
  unfold enterB
  rw [this]
  cases bookOk b <;> rfl
theorem impl_NightOver_eq (k : Nat) (hk : 3 ≤ k) (b : Bakery) (h1 : b.Stock.Grams.length ≤ k) (h2 : b.Stock.Grams.length ≤ 4194304) (h3 : b.Book.Events.length + 1 ≤ k) (h4 : b.Book.Events.length + 1 ≤ 4194304) : impl_NightOver k b = some (enterK b ⟨4, 0⟩ 0) := by
  have hl := enterB_len b.Book ⟨4, 0⟩
  simp only [impl_NightOver, impl_changed_51, impl_NightOver_1, impl_Bakery_enter, bakeryCopy_eq k b h2 (by omega), impl_BakeryOk_eq k hk b h1 h2 (by omega) (by omega), impl_Enter_eq k hk b.Book _ h3 h4, Option.bind_some, Option.bind_assoc]
  rw [impl_BakeryOk_eq k hk _ (by exact h1) (by exact h2) (by dsimp only; omega) (by dsimp only; omega)]
  unfold enterK
  cases hb : bakeryOk b with
  | false => rfl
  | true =>
    have hm := money_of hb
    have hw : wr (b.Money + 0) = b.Money := by rw [Int.add_zero]; exact wr_id (by omega) (by omega)
    rw [hw]
    cases (enterB b.Book ⟨4, 0⟩).2 with
    | false => rfl
    | true =>
      simp only [Bool.not_true, cond_false, cond_true, Option.bind_some]
      cases hc : bakeryOk ⟨b.Stock, b.Dough, b.Loaf, (enterB b.Book ⟨4, 0⟩).1, b.Money⟩ with
      | false => rfl
      | true => rfl
def sellL (b : Bakery) (n : Int) (cheap : Bool) : Bakery × Bool := cond (inR n 0 1000) (cond cheap (enterK b ⟨3, n⟩ (wr (2 * n))) (enterK b ⟨2, n⟩ (wr (4 * n)))) (b, false)
theorem sellL_len (b : Bakery) (n : Int) (c : Bool) : (sellL b n c).1.Stock.Grams.length = b.Stock.Grams.length ∧ (sellL b n c).1.Book.Events.length ≤ b.Book.Events.length + 1 := by
  unfold sellL
  cases inR n 0 1000
  · exact ⟨rfl, Nat.le_succ _⟩
  · cases c
    · exact enterK_len _ _ _
    · exact enterK_len _ _ _
theorem enter_sell (k : Nat) (hk : 3 ≤ k) (b : Bakery) (e : Event) (m : Int) (h1 : b.Stock.Grams.length ≤ k) (h2 : b.Stock.Grams.length ≤ 4194304) (h3 : b.Book.Events.length + 1 ≤ k) (h4 : b.Book.Events.length + 1 ≤ 4194304) :
    (cond (!bakeryOk b) (some (b, false)) (cond (!(enterB b.Book e).2) (some (b, false)) ((impl_BakeryOk k ⟨b.Stock, b.Dough, b.Loaf, (enterB b.Book e).1, wr (b.Money + m)⟩).bind fun y6 => cond (!y6) (some (b, false)) (some ((⟨b.Stock, b.Dough, b.Loaf, (enterB b.Book e).1, wr (b.Money + m)⟩ : Bakery), true))))) = some (enterK b e m) := by
  have hl := enterB_len b.Book e
  rw [impl_BakeryOk_eq k hk _ (by exact h1) (by exact h2) (by dsimp only; omega) (by dsimp only; omega)]
  unfold enterK
  cases hb : bakeryOk b with
  | false => rfl
  | true => cases (enterB b.Book e).2 with
    | false => rfl
    | true =>
      simp only [Bool.not_true, cond_false, cond_true, Option.bind_some]
      cases hc : bakeryOk ⟨b.Stock, b.Dough, b.Loaf, (enterB b.Book e).1, wr (b.Money + m)⟩ with
      | false => rfl
      | true => rfl
theorem impl_SellLoaves_eq (k : Nat) (hk : 3 ≤ k) (b : Bakery) (n : Int) (c : Bool) (h1 : b.Stock.Grams.length ≤ k) (h2 : b.Stock.Grams.length ≤ 4194304) (h3 : b.Book.Events.length + 1 ≤ k) (h4 : b.Book.Events.length + 1 ≤ 4194304) : impl_SellLoaves k b n c = some (sellL b n c) := by
  have bad : inR n 0 1000 = false → ∀ kind m, enterK b ⟨kind, n⟩ m = (b, false) := fun hn kind m => by
    unfold enterK
    rw [enterB_bad b.Book ⟨kind, n⟩ hn]
    cases bakeryOk b <;> rfl
  have key : impl_SellLoaves k b n c = some (cond c (enterK b ⟨3, n⟩ (wr (2 * n))) (enterK b ⟨2, n⟩ (wr (4 * n)))) := by
    simp only [impl_SellLoaves, impl_changed_50, impl_SellLoaves_1, impl_Bakery_enter, bakeryCopy_eq k b h2 (by omega), impl_BakeryOk_eq k hk b h1 h2 (by omega) (by omega), impl_Enter_eq k hk b.Book _ h3 h4, Option.bind_some]
    cases c
    · have := enter_sell k hk b ⟨2, n⟩ (wr (4 * n)) h1 h2 h3 h4
      simp only [cond_false, cond_true, Option.bind_some]
      rw [this]; rfl
    · have := enter_sell k hk b ⟨3, n⟩ (wr (2 * n)) h1 h2 h3 h4
      simp only [cond_false, cond_true, Option.bind_some]
      rw [this]; rfl
  rw [key]
  unfold sellL
  cases hn : inR n 0 1000
  · rw [bad hn, bad hn]; cases c <;> rfl
  · rfl
end Go.Proofs.YtfbnbdcjnbgibaaGreatDoorX
