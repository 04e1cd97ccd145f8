/- Acts: what one act does to a bakery, and what many do; lists of numbers compared. -/
import Derived.Test.YtlhcphoojiemmaaPB3
namespace Go.Proofs.YtlhcphoojiemmaaX
open Go
set_option linter.unusedVariables false
def actOk (a : Deed) : Bool :=
  cond (decide (a.Kind = 1) || decide (a.Kind = 2) || decide (a.Kind = 3) || decide (a.Kind = 6)) (inR a.A 0 1000 && decide (a.B = 0))
    (cond (decide (a.Kind = 4)) (decide (a.A = 0) && decide (a.B = 0)) (cond (decide (a.Kind = 5)) (inR a.A 0 3 && inR a.B 0 100000) false))
theorem spec_ActOk_eq (k : Nat) (a : Deed) : spec_ActOk k a = some (actOk a) := by
  unfold spec_ActOk actOk
  simp only [spec_l01In_eq, Option.bind_some, cond_and]
  by_cases k1 : a.Kind = 1
  · simp [k1]
  by_cases k2 : a.Kind = 2
  · simp [k2]
  by_cases k3 : a.Kind = 3
  · simp [k3]
  by_cases k6 : a.Kind = 6
  · simp [k6]
  by_cases k5 : a.Kind = 5
  · simp [k5]
  by_cases k4 : a.Kind = 4
  · simp [k4]
  · simp [k1, k2, k3, k4, k5, k6]
theorem impl_ActOk_eq (k : Nat) (a : Deed) : impl_ActOk k a = some (actOk a) := by
  unfold impl_ActOk actOk
  simp only [impl_in_eq, Option.bind_some, cond_and]
  by_cases k1 : a.Kind = 1
  · simp [k1]
  by_cases k2 : a.Kind = 2
  · simp [k2]
  by_cases k3 : a.Kind = 3
  · simp [k3]
  by_cases k6 : a.Kind = 6
  · simp [k6]
  by_cases k5 : a.Kind = 5
  · simp [k5]
  by_cases k4 : a.Kind = 4
  · simp [k4]
  · simp [k1, k2, k3, k4, k5, k6]
theorem actOk_kind {a : Deed} (h : actOk a = true) (k1 : ¬ a.Kind = 1) (k2 : ¬ a.Kind = 2) (k3 : ¬ a.Kind = 3) (k4 : ¬ a.Kind = 4) (k5 : ¬ a.Kind = 5) : a.Kind = 6 := by
  apply Classical.byContradiction
  intro k6
  simp [actOk, k1, k2, k3, k4, k5, k6] at h
theorem doAct_eq (k : Nat) (hk : 9000 ≤ k) (b : Bakery) (a : Deed) (h1 : b.Stock.Grams.length ≤ k) (h2 : b.Stock.Grams.length ≤ 4194304) (h3 : b.Book.Events.length + 1 ≤ k) (h4 : b.Book.Events.length + 1 ≤ 4194304) :
    ∃ r, spec_DoAct k b a = some r ∧ impl_DoAct k b a = some r ∧ r.1.Stock.Grams.length = b.Stock.Grams.length ∧ r.1.Book.Events.length ≤ b.Book.Events.length + 1 := by
  unfold spec_DoAct impl_DoAct
  rw [l38Copy_eq k b h2 (by omega), spec_BakeryOk_eq k b h1 h2 (by omega) (by omega), impl_BakeryOk_eq k (by omega) b h1 h2 (by omega) (by omega), bakeryCopy_eq k b h2 (by omega), spec_ActOk_eq, impl_ActOk_eq]
  simp only [Option.bind_some]
  cases hb : bakeryOk b
  · exact ⟨(b, -1), rfl, rfl, rfl, Nat.le_succ _⟩
  simp only [Bool.not_true, cond_false]
  cases ha : actOk a
  · exact ⟨(b, -1), rfl, rfl, rfl, Nat.le_succ _⟩
  simp only [Bool.not_true, cond_false]
  by_cases k1 : a.Kind = 1
  · rw [decide_eq_true k1]
    obtain ⟨⟨r, o⟩, e1, e2, l1, l2⟩ := bakeLoaves_eq k hk b a.A h1 h2 h3 h4
    rw [e1, e2]
    exact ⟨(r, cond o 1 0), by cases o <;> rfl, by cases o <;> rfl, l1, l2⟩
  rw [decide_eq_false k1]
  by_cases k2 : a.Kind = 2
  · rw [decide_eq_true k2, spec_SellLoaves_eq k b a.A false h1 h2 h3 h4, impl_SellLoaves_eq k (by omega) b a.A false h1 h2 h3 h4]
    obtain ⟨l1, l2⟩ := sellL_len b a.A false
    refine ⟨((sellL b a.A false).1, cond (sellL b a.A false).2 1 0), ?_, ?_, l1, l2⟩ <;> cases h : (sellL b a.A false).2 <;> simp [h, spec_l39Bool]
  rw [decide_eq_false k2]
  by_cases k3 : a.Kind = 3
  · rw [decide_eq_true k3, spec_SellLoaves_eq k b a.A true h1 h2 h3 h4, impl_SellLoaves_eq k (by omega) b a.A true h1 h2 h3 h4]
    obtain ⟨l1, l2⟩ := sellL_len b a.A true
    refine ⟨((sellL b a.A true).1, cond (sellL b a.A true).2 1 0), ?_, ?_, l1, l2⟩ <;> cases h : (sellL b a.A true).2 <;> simp [h, spec_l39Bool]
  rw [decide_eq_false k3]
  by_cases k4 : a.Kind = 4
  · rw [decide_eq_true k4, spec_NightOver_eq k b h1 h2 h3 h4, impl_NightOver_eq k (by omega) b h1 h2 h3 h4]
    obtain ⟨l1, l2⟩ := enterK_len b ⟨4, 0⟩ 0
    refine ⟨((enterK b ⟨4, 0⟩ 0).1, cond (enterK b ⟨4, 0⟩ 0).2 1 0), ?_, ?_, l1, l2⟩ <;> cases h : (enterK b ⟨4, 0⟩ 0).2 <;> simp [h, spec_l39Bool]
  rw [decide_eq_false k4]
  by_cases k5 : a.Kind = 5
  · rw [decide_eq_true k5, spec_BuyStock_eq k b a.A a.B h1 h2 (by omega) (by omega), impl_BuyStock_eq k (by omega) b a.A a.B h1 h2 (by omega) (by omega)]
    obtain ⟨l1, l2⟩ := buyG_len b a.A a.B
    refine ⟨((buyG b a.A a.B).1, cond (buyG b a.A a.B).2 1 0), ?_, ?_, l1, by simp only; omega⟩ <;> cases h : (buyG b a.A a.B).2 <;> simp [h, spec_l39Bool]
  rw [decide_eq_false k5, decide_eq_true (actOk_kind ha k1 k2 k3 k4 k5)]
  obtain ⟨r, e1, e2, _⟩ := flourNeeded_eq k hk b a.A h1 h2 (by omega) (by omega)
  rw [e1, e2]
  exact ⟨(b, r), rfl, rfl, rfl, Nat.le_succ _⟩
noncomputable def runI (k m : Nat) (b0 : Bakery) (acts : List Deed) (i : Int) (b : Bakery) (L : List Int) : Option (Bakery × List Int) := impl_RunActs_l0 k m b0 acts i b.Stock.Grams b.Book.Events b.Dough.Water b.Dough.Salt b.Dough.Leaven b.Loaf.Weight b.Loaf.Loss b.Book.Rack.Fresh b.Book.Rack.Day b.Book.Rack.Old b.Book.Baked b.Book.Sold b.Book.Thrown b.Money L
theorem runI_end (k m : Nat) (b0 b : Bakery) (A : List Deed) (L : List Int) : runI k m b0 (A ++ []) (A.length : Int) b L = some (b, L) := by
  unfold runI
  cases m <;> (unfold impl_RunActs_l0 impl_RunActs_s0; rw [lt_end]; rfl)
theorem runI_step (k m : Nat) (b0 b : Bakery) (A B : List Deed) (a : Deed) (L : List Int) (r : Bakery × Int) (hA : A.length ≤ 4194304) (hL : L.length ≤ 4194304) (h : impl_DoAct k b a = some r) : runI k (m + 1) b0 (A ++ a :: B) (A.length : Int) b L = runI k m b0 ((A ++ [a]) ++ B) ((A ++ [a]).length : Int) r.1 (L ++ [r.2]) := by
  rw [← app_mid A a B]
  unfold runI
  show impl_RunActs_s0 k b0 (A ++ a :: B) (impl_RunActs_l0 k m b0 (A ++ a :: B)) (A.length : Int) b.Stock.Grams b.Book.Events b.Dough.Water b.Dough.Salt b.Dough.Leaven b.Loaf.Weight b.Loaf.Loss b.Book.Rack.Fresh b.Book.Rack.Day b.Book.Rack.Old b.Book.Baked b.Book.Sold b.Book.Thrown b.Money L = _
  unfold impl_RunActs_s0
  rw [lt_mid, if_pos ((g_mid A a B).mpr trivial), getD_mid]
  have e : impl_DoAct k (⟨⟨b.Stock.Grams⟩, ⟨b.Dough.Water, b.Dough.Salt, b.Dough.Leaven⟩, ⟨b.Loaf.Weight, b.Loaf.Loss⟩, ⟨b.Book.Events, ⟨b.Book.Rack.Fresh, b.Book.Rack.Day, b.Book.Rack.Old⟩, b.Book.Baked, b.Book.Sold, b.Book.Thrown⟩, b.Money⟩ : Bakery) a = some r := h
  rw [e, Option.bind_some, if_pos (by simp [maxRow]; omega), wr_suc A a (by omega)]; rfl
end Go.Proofs.YtlhcphoojiemmaaX
