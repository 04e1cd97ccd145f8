/- The law of the summaries, on the plain side: a summary shows the stock, the shelf, the book and the money. -/
import Derived.Test.YtfbnbdcjnbgibaaDoorTold
import Derived.Test.YtfbnbdcjnbgibaaDoorPB7
import Derived.Test.YtfbnbdcjnbgibaaDoorPT1
namespace Go.Proofs.YtfbnbdcjnbgibaaDoorX.Pure
open Go Go.Proofs
set_option linter.unusedVariables false
theorem say1 (w : List UInt8) (a : Int) : bts (lineL w [a]) = bts (w ++ [32]) ++ itoaB a := by
  unfold itoaB; rw [bts_app]; simp [lineL]
theorem say3 (w : List UInt8) (a b c : Int) : bts (lineL w [a, b, c]) = bts (w ++ [32]) ++ itoaB a ++ bts [32] ++ itoaB b ++ bts [32] ++ itoaB c := by
  unfold itoaB; rw [bts_app, bts_app, bts_app, bts_app, bts_app]; simp [lineL]
theorem sz_ok {a b : List UInt8} (h : a.length + b.length ≤ 1000) : (bts a).size + (bts b).size ≤ 9223372036854775807 := by rw [bts_size, bts_size]; omega
theorem summaries_lp (k : Nat) (code : List Int) (y2 : Bakery × List Deed) (hb : bakeryOk y2.1 = true) : ∀ (m : Nat) (i : Nat), 4 ≤ i + m → i ≤ 4 → laws_FnSummaries_l0 k m code y2 (linesB y2.1) (bts (lineL [115, 116, 111, 99, 107] (y2.1.Stock.Grams.take i))) (i : Int) = some true := by
  obtain ⟨q0, q1, q2, q3, q4, q5, q6, q7, q8⟩ := all_in hb
  have l2 := itoa_len q2
  have l3 := itoa_len q3
  have l4 := itoa_len q4
  have l5 := itoa_len q5
  have l6 := itoa_len q6
  have l7 := itoa_len q7
  have l8 := itoa_len q8
  have fin : ∀ J : ByteArray → Int → Option Bool, laws_FnSummaries_s0 k code y2 (linesB y2.1) J (bts (lineL [115, 116, 111, 99, 107] (y2.1.Stock.Grams.take 4))) 4 = some true := by
    intro J
    have e4 : y2.1.Stock.Grams.take 4 = y2.1.Stock.Grams := List.take_of_length_le (by omega)
    have g0 : (linesB y2.1).getD 0 (ByteArray.mk #[]) = bts (lineL [115, 116, 111, 99, 107] y2.1.Stock.Grams) := rfl
    have g1 : (linesB y2.1).getD 1 (ByteArray.mk #[]) = bts (lineL [114, 97, 99, 107] [y2.1.Book.Rack.Fresh, y2.1.Book.Rack.Day, y2.1.Book.Rack.Old]) := rfl
    have g2 : (linesB y2.1).getD 2 (ByteArray.mk #[]) = bts (lineL [98, 111, 111, 107] [y2.1.Book.Baked, y2.1.Book.Sold, y2.1.Book.Thrown]) := rfl
    have g3 : (linesB y2.1).getD 3 (ByteArray.mk #[]) = bts (lineL [109, 111, 110, 101, 121] [y2.1.Money]) := rfl
    have gl : (linesB y2.1).length = 4 := rfl
    unfold laws_FnSummaries_s0
    rw [decide_eq_false (show ¬ ((4 : Int) < 4) by decide)]
    simp only [cond_false]
    rw [e4, gl, g0, g1, g2, g3, impl_FormatInt_eq k _ q2, impl_FormatInt_eq k _ q3, impl_FormatInt_eq k _ q4, impl_FormatInt_eq k _ q5, impl_FormatInt_eq k _ q6, impl_FormatInt_eq k _ q7, impl_FormatInt_eq k _ q8]
    have i0 : (0 ≤ (0 : Int) ∧ (0 : Int) < ((4 : Nat) : Int)) = True := by simp
    have i1 : (0 ≤ (1 : Int) ∧ (1 : Int) < ((4 : Nat) : Int)) = True := by simp
    have i2 : (0 ≤ (2 : Int) ∧ (2 : Int) < ((4 : Nat) : Int)) = True := by simp
    have i3 : (0 ≤ (3 : Int) ∧ (3 : Int) < ((4 : Nat) : Int)) = True := by simp
    have r1 : (ByteArray.mk #[114, 97, 99, 107, 32]) = bts ([114, 97, 99, 107] ++ [32]) := rfl
    have r2 : (ByteArray.mk #[98, 111, 111, 107, 32]) = bts ([98, 111, 111, 107] ++ [32]) := rfl
    have r3 : (ByteArray.mk #[109, 111, 110, 101, 121, 32]) = bts ([109, 111, 110, 101, 121] ++ [32]) := rfl
    have r4 : (ByteArray.mk #[32]) = bts [32] := rfl
    rw [r1, r2, r3, r4, decide_eq_true (show ((4 : Nat) : Int) = 4 from rfl), say3, say3, say1]
    unfold itoaB
    simp only [i0, i1, i2, i3, if_true, Option.bind_some, bts_app, decide_true, cond_true]
    have s : ∀ a b : List UInt8, a.length + b.length ≤ 1000 → ((bts a).size + (bts b).size ≤ 9223372036854775807) = True := fun a b h => eq_true (sz_ok h)
    rw [if_pos (sz_ok (by simp only [List.length_append, List.length_cons, List.length_nil]; omega)), if_pos (sz_ok (by simp only [List.length_append, List.length_cons, List.length_nil]; omega)), if_pos (sz_ok (by simp only [List.length_append, List.length_cons, List.length_nil]; omega)), if_pos (sz_ok (by simp only [List.length_append, List.length_cons, List.length_nil]; omega)), if_pos (sz_ok (by simp only [List.length_append, List.length_cons, List.length_nil]; omega)), if_pos (sz_ok (by simp only [List.length_append, List.length_cons, List.length_nil]; omega)), if_pos (sz_ok (by simp only [List.length_append, List.length_cons, List.length_nil]; omega)), if_pos (sz_ok (by simp only [List.length_append, List.length_cons, List.length_nil]; omega)), if_pos (sz_ok (by simp only [List.length_append, List.length_cons, List.length_nil]; omega)), if_pos (sz_ok (by simp only [List.length_append, List.length_cons, List.length_nil]; omega)), if_pos (sz_ok (by simp only [List.length_append, List.length_cons, List.length_nil]; omega))]
  intro m
  induction m with
  | zero =>
    intro i h1 h2
    have : i = 4 := by omega
    subst this
    exact fin _
  | succ m ih =>
    intro i h1 h2
    by_cases h4 : i = 4
    · subst h4
      exact fin _
    · have hg : y2.1.Stock.Grams.getD i 0 ∈ y2.1.Stock.Grams := by
        rw [List.getD_eq_getElem?_getD, List.getElem?_eq_getElem (by omega)]
        exact List.getElem_mem _
      have hi := q1 _ hg
      have hil := itoa_len hi
      have hl := lineL_len [115, 116, 111, 99, 107] (y2.1.Stock.Grams.take i) (fun n hn => q1 n (List.mem_of_mem_take hn))
      have hl2 : (y2.1.Stock.Grams.take i).length ≤ 4 := by simp; omega
      simp only [List.length_cons, List.length_nil] at hl
      have ih' := ih (i + 1) (by omega) (by omega)
      unfold laws_FnSummaries_l0 laws_FnSummaries_s0
      rw [decide_eq_true (by omega)]
      simp only [cond_true]
      rw [show (ByteArray.mk #[32]) = bts [32] from rfl, bts_app, if_pos (sz_ok (by simp only [List.length_cons, List.length_nil]; omega)), if_pos ⟨by omega, by omega⟩, Int.toNat_natCast, impl_FormatInt_eq k _ hi]
      simp only [Option.bind_some]
      unfold itoaB
      rw [bts_app, if_pos (sz_ok (by simp only [List.length_append, List.length_cons, List.length_nil]; omega)), wr_id (by omega) (by omega)]
      have e : y2.1.Stock.Grams.take (i + 1) = y2.1.Stock.Grams.take i ++ [y2.1.Stock.Grams.getD i 0] := by
        rw [List.take_add_one, List.getD_eq_getElem?_getD, List.getElem?_eq_getElem (by omega)]; rfl
      have e2 : ((i + 1 : Nat) : Int) = (i : Int) + 1 := by omega
      rw [e2, e, lineL_snoc] at ih'
      exact ih'
theorem FnSummaries (y0 : (List Int)) (h0 : (OkL U8) y0) : ∃ k, laws_FnSummaries k y0 = some true := by
  obtain ⟨k, hk⟩ : ∃ k : Nat, k = 9100 := ⟨_, rfl⟩
  refine ⟨k, ?_⟩
  unfold laws_FnSummaries laws_FnSummaries_m laws_big
  simp only [Option.bind_some]
  by_cases hbig : (1048576 : Int) < (y0.length : Int)
  · rw [decide_eq_true hbig]; rfl
  rw [decide_eq_false hbig]
  simp only [cond_false]
  obtain ⟨b, l, e, hS, hl, hf⟩ := DrawActs_eq k (by omega) y0 (by omega)
  have hev := hS.2.1.2.1
  have h4 := hS.2.2.1
  rw [e]
  simp only [Option.bind_some]
  rw [impl_FormatBakery_eq k (by omega) b (by omega) (by omega) (by omega) (by omega), hS.1]
  have hs := summaries_lp k y0 (b, l) hS.1 k 0 (by omega) (by omega)
  have e0 : bts (lineL [115, 116, 111, 99, 107] (b.Stock.Grams.take 0)) = ByteArray.mk #[115, 116, 111, 99, 107] := by simp [lineL, bts]
  have ez : ((0 : Nat) : Int) = 0 := rfl
  dsimp only at hs
  rw [e0, ez] at hs
  simp only [Option.bind_some, cond_true]
  exact hs
end Go.Proofs.YtfbnbdcjnbgibaaDoorX.Pure
