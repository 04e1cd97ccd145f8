/- What the functions laws.sz, to, eq, mark and held compute. (The file is written by wip/x/lawpure.py of this repository.) -/
import Derived.Test.YtfbnbdcjnbgibaaDoorPL0
import Derived.Test.YtfbnbdcjnbgibaaDoorF4
namespace Go.Proofs.YtfbnbdcjnbgibaaDoorX
open Go
set_option linter.unusedVariables false
theorem laws_toAct_eq (k : Nat) (a : Deed) : laws_toAct k a = some a := rfl
theorem laws_szIntS_eq (k : Nat) (a : (List Int)) (left : Int) (h0 : 0 ≤ left) (h1 : left ≤ 1048576) (h2 : a.length ≤ 9223372036854775807) : laws_szIntS k a left = some (if left < (a.length : Int) then -1 else left - (a.length : Int)) := by
  unfold laws_szIntS
  rw [wr_id (by omega) (by omega)]
  by_cases h : left < (a.length : Int)
  · rw [if_pos h, decide_eq_true (by omega)]; rfl
  · rw [if_neg h, decide_eq_false (by omega)]; rfl
theorem laws_szStock_eq (k : Nat) (a : Stock) (left : Int) (h0 : 0 ≤ left) (h1 : left ≤ 1048576) (h2 : a.Grams.length ≤ 9223372036854775807) : laws_szStock k a left = some (if left < ((a.Grams.length : Nat) : Int) then -1 else left - ((a.Grams.length : Nat) : Int)) := by
  unfold laws_szStock
  rw [laws_szIntS_eq k _ _ (by omega) (by omega) h2]
  dsimp only [Option.bind_some]
  by_cases g0 : left < ((a.Grams.length : Nat) : Int)
  · rw [if_pos g0]; first | rfl | (rw [if_pos (by omega)]; rfl)
  rw [if_neg g0, decide_eq_false (by omega)]
  dsimp only [cond_false]
  all_goals first | rfl | (rw [if_neg (by omega)]; first | rfl | (congr 1; omega))
theorem laws_szEventS_eq (k : Nat) (a : (List Event)) (left : Int) (h0 : 0 ≤ left) (h1 : left ≤ 1048576) (h2 : a.length ≤ 9223372036854775807) : laws_szEventS k a left = some (if left < (a.length : Int) then -1 else left - (a.length : Int)) := by
  unfold laws_szEventS
  rw [wr_id (by omega) (by omega)]
  by_cases h : left < (a.length : Int)
  · rw [if_pos h, decide_eq_true (by omega)]; rfl
  · rw [if_neg h, decide_eq_false (by omega)]; rfl
theorem laws_szBook_eq (k : Nat) (a : Book) (left : Int) (h0 : 0 ≤ left) (h1 : left ≤ 1048576) (h2 : a.Events.length ≤ 9223372036854775807) : laws_szBook k a left = some (if left < ((a.Events.length : Nat) : Int) then -1 else left - ((a.Events.length : Nat) : Int)) := by
  unfold laws_szBook
  rw [laws_szEventS_eq k _ _ (by omega) (by omega) h2]
  dsimp only [Option.bind_some]
  by_cases g0 : left < ((a.Events.length : Nat) : Int)
  · rw [if_pos g0]; first | rfl | (rw [if_pos (by omega)]; rfl)
  rw [if_neg g0, decide_eq_false (by omega)]
  dsimp only [cond_false]
  all_goals first | rfl | (rw [if_neg (by omega)]; first | rfl | (congr 1; omega))
theorem laws_szBakery_eq (k : Nat) (a : Bakery) (left : Int) (h0 : 0 ≤ left) (h1 : left ≤ 1048576) (h2 : a.Stock.Grams.length ≤ 9223372036854775807) (h3 : a.Book.Events.length ≤ 9223372036854775807) : laws_szBakery k a left = some (if left < ((a.Stock.Grams.length + a.Book.Events.length : Nat) : Int) then -1 else left - ((a.Stock.Grams.length + a.Book.Events.length : Nat) : Int)) := by
  unfold laws_szBakery
  rw [laws_szStock_eq k _ _ (by omega) (by omega) h2]
  dsimp only [Option.bind_some]
  by_cases g0 : left < ((a.Stock.Grams.length : Nat) : Int)
  · rw [if_pos g0]; first | rfl | (rw [if_pos (by omega)]; rfl)
  rw [if_neg g0, decide_eq_false (by omega)]
  dsimp only [cond_false]
  rw [laws_szBook_eq k _ _ (by omega) (by omega) h3]
  dsimp only [Option.bind_some]
  by_cases g1 : left - ((a.Stock.Grams.length : Nat) : Int) < ((a.Book.Events.length : Nat) : Int)
  · rw [if_pos g1]; first | rfl | (rw [if_pos (by omega)]; rfl)
  rw [if_neg g1, decide_eq_false (by omega)]
  dsimp only [cond_false]
  all_goals first | rfl | (rw [if_neg (by omega)]; first | rfl | (congr 1; omega))
theorem laws_toIntS_lp (k : Nat) : ∀ (m : Nat) (B A : (List Int)), B.length ≤ m → (A ++ B).length ≤ 4194304 → laws_toIntS_l0 k m (A ++ B) (A.length : Int) (A ++ List.replicate B.length 0) = some (A ++ B)
  | 0, [], A, _, _ => by simp only [laws_toIntS_l0, laws_toIntS_s0, lt_end, cond_false, List.length_nil, List.replicate_zero]
  | m + 1, [], A, _, _ => by simp only [laws_toIntS_l0, laws_toIntS_s0, lt_end, cond_false, List.length_nil, List.replicate_zero]
  | m + 1, b :: B, A, h1, h2 => by
    have ih := laws_toIntS_lp k m B (A ++ [b]) (by simp at h1; omega) (by simpa using h2)
    simp only [laws_toIntS_l0, laws_toIntS_s0, List.length_cons, List.replicate_succ, lt_mid, cond_true, g_mid, if_true, getD_mid, set_mid]
    rw [wr_suc A b (by simp at h2; omega), app_mid A b B, app_mid A b (List.replicate B.length 0)]
    exact ih
theorem laws_toIntS_eq (k : Nat) (a : (List Int)) (h1 : a.length ≤ k) (h2 : a.length ≤ 4194304) : laws_toIntS k a = some a := by
  unfold laws_toIntS laws_toIntS_m
  rw [if_pos ⟨by omega, by unfold maxRow; omega⟩, Int.toNat_natCast]
  exact laws_toIntS_lp k k a [] h1 h2
theorem laws_toStock_eq (k : Nat) (a : Stock) (h1 : a.Grams.length ≤ k) (h2 : a.Grams.length ≤ 4194304) : laws_toStock k a = some a := by
  unfold laws_toStock
  rw [laws_toIntS_eq k _ (by omega) (by omega)]
  dsimp only [Option.bind_some]
theorem laws_toDough_eq (k : Nat) (a : Dough) : laws_toDough k a = some a := rfl
theorem laws_toLoaf_eq (k : Nat) (a : Loaf) : laws_toLoaf k a = some a := rfl
theorem laws_toEvent_eq (k : Nat) (a : Event) : laws_toEvent k a = some a := rfl
theorem laws_toEventS_lp (k : Nat) : ∀ (m : Nat) (B A : (List Event)), B.length ≤ m → (A ++ B).length ≤ 4194304 → laws_toEventS_l0 k m (A ++ B) (A.length : Int) (A ++ List.replicate B.length dk_impl_Event) = some (A ++ B)
  | 0, [], A, _, _ => by simp only [laws_toEventS_l0, laws_toEventS_s0, lt_end, cond_false, List.length_nil, List.replicate_zero]
  | m + 1, [], A, _, _ => by simp only [laws_toEventS_l0, laws_toEventS_s0, lt_end, cond_false, List.length_nil, List.replicate_zero]
  | m + 1, b :: B, A, h1, h2 => by
    have ih := laws_toEventS_lp k m B (A ++ [b]) (by simp at h1; omega) (by simpa using h2)
    simp only [laws_toEventS_l0, laws_toEventS_s0, List.length_cons, List.replicate_succ, lt_mid, cond_true, g_mid, if_true, getD_mid, set_mid, laws_toEvent_eq, Option.bind_some]
    rw [wr_suc A b (by simp at h2; omega), app_mid A b B, app_mid A b (List.replicate B.length dk_impl_Event)]
    exact ih
theorem laws_toEventS_eq (k : Nat) (a : (List Event)) (h1 : a.length ≤ k) (h2 : a.length ≤ 4194304) : laws_toEventS k a = some a := by
  unfold laws_toEventS laws_toEventS_m
  rw [if_pos ⟨by omega, by unfold maxRow; omega⟩, Int.toNat_natCast]
  exact laws_toEventS_lp k k a [] h1 h2
theorem laws_toRack_eq (k : Nat) (a : Rack) : laws_toRack k a = some a := rfl
theorem laws_toBook_eq (k : Nat) (a : Book) (h1 : a.Events.length ≤ k) (h2 : a.Events.length ≤ 4194304) : laws_toBook k a = some a := by
  unfold laws_toBook
  rw [laws_toEventS_eq k _ (by omega) (by omega)]
  dsimp only [Option.bind_some]
  rw [laws_toRack_eq k _]
  dsimp only [Option.bind_some]
theorem laws_toBakery_eq (k : Nat) (a : Bakery) (h1 : a.Stock.Grams.length + a.Book.Events.length ≤ k) (h2 : a.Stock.Grams.length + a.Book.Events.length ≤ 4194304) : laws_toBakery k a = some a := by
  unfold laws_toBakery
  rw [laws_toStock_eq k _ (by omega) (by omega)]
  dsimp only [Option.bind_some]
  rw [laws_toDough_eq k _]
  dsimp only [Option.bind_some]
  rw [laws_toLoaf_eq k _]
  dsimp only [Option.bind_some]
  rw [laws_toBook_eq k _ (by omega) (by omega)]
  dsimp only [Option.bind_some]
theorem laws_eqIntS_lp (k : Nat) : ∀ (m : Nat) (B A : (List Int)), B.length ≤ m → (A ++ B).length ≤ 4194304 → laws_eqIntS_l0 k m (A ++ B) (A ++ B) (A.length : Int) = some true
  | 0, [], A, _, _ => by simp only [laws_eqIntS_l0, laws_eqIntS_s0, lt_end, cond_false]
  | m + 1, [], A, _, _ => by simp only [laws_eqIntS_l0, laws_eqIntS_s0, lt_end, cond_false]
  | m + 1, b :: B, A, h1, h2 => by
    have ih := laws_eqIntS_lp k m B (A ++ [b]) (by simp at h1; omega) (by simpa using h2)
    simp only [laws_eqIntS_l0, laws_eqIntS_s0, lt_mid, cond_true, g_mid, if_true, getD_mid, decide_true, Bool.not_true, cond_false]
    rw [wr_suc A b (by simp at h2; omega), app_mid A b B]
    exact ih
theorem laws_eqIntS_eq (k : Nat) (a : (List Int)) (h1 : a.length ≤ k) (h2 : a.length ≤ 4194304) : laws_eqIntS k a a = some true := by
  unfold laws_eqIntS laws_eqIntS_m
  simp only [decide_true, Bool.not_true, cond_false]
  exact laws_eqIntS_lp k k a [] h1 h2
theorem laws_eqStock_eq (k : Nat) (a : Stock) (h1 : a.Grams.length ≤ k) (h2 : a.Grams.length ≤ 4194304) : laws_eqStock k a a = some true := by
  unfold laws_eqStock
  rw [laws_eqIntS_eq k _ (by omega) (by omega)]
  simp only [Option.bind_some, Bool.not_true, cond_false]
theorem laws_eqDough_eq (k : Nat) (a : Dough) : laws_eqDough k a a = some true := by
  unfold laws_eqDough
  simp only [decide_true, Bool.not_true, cond_false]
theorem laws_eqLoaf_eq (k : Nat) (a : Loaf) : laws_eqLoaf k a a = some true := by
  unfold laws_eqLoaf
  simp only [decide_true, Bool.not_true, cond_false]
theorem laws_eqEvent_eq (k : Nat) (a : Event) : laws_eqEvent k a a = some true := by
  unfold laws_eqEvent
  simp only [decide_true, Bool.not_true, cond_false]
theorem laws_eqEventS_lp (k : Nat) : ∀ (m : Nat) (B A : (List Event)), B.length ≤ m → (A ++ B).length ≤ 4194304 → laws_eqEventS_l0 k m (A ++ B) (A ++ B) (A.length : Int) = some true
  | 0, [], A, _, _ => by simp only [laws_eqEventS_l0, laws_eqEventS_s0, lt_end, cond_false]
  | m + 1, [], A, _, _ => by simp only [laws_eqEventS_l0, laws_eqEventS_s0, lt_end, cond_false]
  | m + 1, b :: B, A, h1, h2 => by
    have ih := laws_eqEventS_lp k m B (A ++ [b]) (by simp at h1; omega) (by simpa using h2)
    simp only [laws_eqEventS_l0, laws_eqEventS_s0, lt_mid, cond_true, g_mid, if_true, getD_mid, decide_true, Bool.not_true, cond_false, laws_eqEvent_eq, Option.bind_some]
    rw [wr_suc A b (by simp at h2; omega), app_mid A b B]
    exact ih
theorem laws_eqEventS_eq (k : Nat) (a : (List Event)) (h1 : a.length ≤ k) (h2 : a.length ≤ 4194304) : laws_eqEventS k a a = some true := by
  unfold laws_eqEventS laws_eqEventS_m
  simp only [decide_true, Bool.not_true, cond_false]
  exact laws_eqEventS_lp k k a [] h1 h2
theorem laws_eqRack_eq (k : Nat) (a : Rack) : laws_eqRack k a a = some true := by
  unfold laws_eqRack
  simp only [decide_true, Bool.not_true, cond_false]
theorem laws_eqBook_eq (k : Nat) (a : Book) (h1 : a.Events.length ≤ k) (h2 : a.Events.length ≤ 4194304) : laws_eqBook k a a = some true := by
  unfold laws_eqBook
  rw [laws_eqEventS_eq k _ (by omega) (by omega)]
  simp only [Option.bind_some, Bool.not_true, cond_false]
  rw [laws_eqRack_eq k _]
  simp only [Option.bind_some, Bool.not_true, cond_false]
  simp only [decide_true, Bool.not_true, cond_false]
theorem laws_eqBakery_eq (k : Nat) (a : Bakery) (h1 : a.Stock.Grams.length + a.Book.Events.length ≤ k) (h2 : a.Stock.Grams.length + a.Book.Events.length ≤ 4194304) : laws_eqBakery k a a = some true := by
  unfold laws_eqBakery
  rw [laws_eqStock_eq k _ (by omega) (by omega)]
  simp only [Option.bind_some, Bool.not_true, cond_false]
  rw [laws_eqDough_eq k _]
  simp only [Option.bind_some, Bool.not_true, cond_false]
  rw [laws_eqLoaf_eq k _]
  simp only [Option.bind_some, Bool.not_true, cond_false]
  rw [laws_eqBook_eq k _ (by omega) (by omega)]
  simp only [Option.bind_some, Bool.not_true, cond_false]
  simp only [decide_true, Bool.not_true, cond_false]
def mkIntS : Int → Nat → (List Int)
  | _, 0 => []
  | kc, n + 1 => (kc : Int) :: mkIntS (kc + 1) n
theorem laws_markIntS_lp (k : Nat) : ∀ (m : Nat) (B A : (List Int)) (kc : Int), B.length ≤ m → (A ++ B).length ≤ 4194304 → 0 ≤ kc ∧ kc + 1 * (B.length : Int) ≤ 1099511627776 → laws_markIntS_l0 k m kc (A.length : Int) (A ++ B) = some (kc + 1 * (B.length : Int), A ++ mkIntS kc B.length)
  | 0, [], A, kc, _, _, _ => by simp only [laws_markIntS_l0, laws_markIntS_s0, lt_end, cond_false, List.length_nil, mkIntS]; simp
  | m + 1, [], A, kc, _, _, _ => by simp only [laws_markIntS_l0, laws_markIntS_s0, lt_end, cond_false, List.length_nil, mkIntS]; simp
  | m + 1, b :: B, A, kc, h1, h2, h3 => by
    have ih := laws_markIntS_lp k m B (A ++ [(kc : Int)]) (kc + 1) (by simp at h1; omega) (by simpa using h2) (by simp at h3; omega)
    have w1 : wr (kc + 1) = kc + 1 := wr_id (by simp at h3; omega) (by simp at h3; omega)
    have ws := wr_suc A (kc : Int) (by simp at h2; omega)
    simp only [laws_markIntS_l0, laws_markIntS_s0, lt_mid, cond_true, g_mid, if_true, getD_mid, set_mid, w1]
    rw [ws, app_mid A (kc : Int) B, ih, List.length_cons]
    simp only [mkIntS, List.append_assoc, List.cons_append, List.nil_append]
    congr 2
    omega
theorem laws_markIntS_eq (k : Nat) (a : (List Int)) (kc : Int) (h1 : a.length ≤ k) (h2 : a.length ≤ 4194304) (h3 : 0 ≤ kc ∧ kc ≤ 549755813888) : laws_markIntS k a kc = some (kc + 1 * (a.length : Int), mkIntS kc a.length) := by
  unfold laws_markIntS laws_markIntS_m
  exact laws_markIntS_lp k k a [] kc h1 h2 ⟨h3.1, by omega⟩
theorem mkIntS_len : ∀ (n : Nat) (kc : Int), (mkIntS kc n).length = n
  | 0, _ => rfl
  | n + 1, kc => by simp [mkIntS, mkIntS_len n]
theorem laws_markStock_eq (k : Nat) (a : Stock) (kc : Int) (h1 : a.Grams.length ≤ k) (h2 : a.Grams.length ≤ 4194304) (h3 : 0 ≤ kc ∧ kc + (1 * (a.Grams.length : Int)) ≤ 549755813888) : laws_markStock k a kc = some (kc + (1 * (a.Grams.length : Int)), mkIntS (kc) a.Grams.length) := by
  unfold laws_markStock
  rw [laws_markIntS_eq k _ _ (by omega) (by omega) (by first | omega | (dsimp only; omega))]
  dsimp only [Option.bind_some]
  all_goals first | done | rfl | (simp only [Int.add_assoc])
def mkEventS : Int → Nat → (List Event)
  | _, 0 => []
  | kc, n + 1 => ((⟨kc, (kc + 1)⟩ : Event) : Event) :: mkEventS (kc + 2) n
theorem laws_markEventS_lp (k : Nat) : ∀ (m : Nat) (B A : (List Event)) (kc : Int), B.length ≤ m → (A ++ B).length ≤ 4194304 → 0 ≤ kc ∧ kc + 2 * (B.length : Int) ≤ 1099511627776 → laws_markEventS_l0 k m kc (A.length : Int) (A ++ B) = some (kc + 2 * (B.length : Int), A ++ mkEventS kc B.length)
  | 0, [], A, kc, _, _, _ => by simp only [laws_markEventS_l0, laws_markEventS_s0, lt_end, cond_false, List.length_nil, mkEventS]; simp
  | m + 1, [], A, kc, _, _, _ => by simp only [laws_markEventS_l0, laws_markEventS_s0, lt_end, cond_false, List.length_nil, mkEventS]; simp
  | m + 1, b :: B, A, kc, h1, h2, h3 => by
    have ih := laws_markEventS_lp k m B (A ++ [((⟨kc, (kc + 1)⟩ : Event) : Event)]) (kc + 2) (by simp at h1; omega) (by simpa using h2) (by simp at h3; omega)
    have w1 : wr (kc + 1) = kc + 1 := wr_id (by simp at h3; omega) (by simp at h3; omega)
    have w2 : wr (kc + 2) = kc + 2 := wr_id (by simp at h3; omega) (by simp at h3; omega)
    have v2 : wr (kc + 1 + 1) = kc + 2 := by rw [show kc + 1 + 1 = kc + 2 by omega]; exact w2
    have ws := wr_suc A ((⟨kc, (kc + 1)⟩ : Event) : Event) (by simp at h2; omega)
    simp only [laws_markEventS_l0, laws_markEventS_s0, lt_mid, cond_true, g_mid, if_true, getD_mid, set_mid, w1, v2]
    rw [ws, app_mid A ((⟨kc, (kc + 1)⟩ : Event) : Event) B, ih, List.length_cons]
    simp only [mkEventS, List.append_assoc, List.cons_append, List.nil_append]
    congr 2
    omega
theorem laws_markEventS_eq (k : Nat) (a : (List Event)) (kc : Int) (h1 : a.length ≤ k) (h2 : a.length ≤ 4194304) (h3 : 0 ≤ kc ∧ kc ≤ 549755813888) : laws_markEventS k a kc = some (kc + 2 * (a.length : Int), mkEventS kc a.length) := by
  unfold laws_markEventS laws_markEventS_m
  exact laws_markEventS_lp k k a [] kc h1 h2 ⟨h3.1, by omega⟩
theorem mkEventS_len : ∀ (n : Nat) (kc : Int), (mkEventS kc n).length = n
  | 0, _ => rfl
  | n + 1, kc => by simp [mkEventS, mkEventS_len n]
theorem laws_markBook_eq (k : Nat) (a : Book) (kc : Int) (h1 : a.Events.length ≤ k) (h2 : a.Events.length ≤ 4194304) (h3 : 0 ≤ kc ∧ kc + (2 * (a.Events.length : Int)) ≤ 549755813888) : laws_markBook k a kc = some (kc + (2 * (a.Events.length : Int)), mkEventS (kc) a.Events.length) := by
  unfold laws_markBook
  rw [laws_markEventS_eq k _ _ (by omega) (by omega) (by first | omega | (dsimp only; omega))]
  dsimp only [Option.bind_some]
  all_goals first | done | rfl | (simp only [Int.add_assoc])
theorem laws_markBakery_eq (k : Nat) (a : Bakery) (kc : Int) (h1 : a.Stock.Grams.length + a.Book.Events.length ≤ k) (h2 : a.Stock.Grams.length + a.Book.Events.length ≤ 4194304) (h3 : 0 ≤ kc ∧ kc + (1 * (a.Stock.Grams.length : Int) + 2 * (a.Book.Events.length : Int)) ≤ 549755813888) : laws_markBakery k a kc = some (kc + (1 * (a.Stock.Grams.length : Int) + 2 * (a.Book.Events.length : Int)), mkIntS (kc) a.Stock.Grams.length, mkEventS (kc + 1 * (a.Stock.Grams.length : Int)) a.Book.Events.length) := by
  unfold laws_markBakery
  rw [laws_markStock_eq k _ _ (by omega) (by omega) (by first | omega | (dsimp only; omega))]
  dsimp only [Option.bind_some]
  rw [laws_markBook_eq k _ _ (by omega) (by omega) (by first | omega | (dsimp only; omega))]
  dsimp only [Option.bind_some]
  all_goals first | done | rfl | (simp only [Int.add_assoc])
end Go.Proofs.YtfbnbdcjnbgibaaDoorX
