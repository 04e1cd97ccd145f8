/- The draws: what the reference draws out of a code, as far as the laws need it. -/
import Derived.Test.YtlenacakmmikiaaDoorPB4
namespace Go.Proofs.YtlenacakmmikiaaDoorX
open Go
set_option linter.unusedVariables false
theorem bAnd_255 (a : Int) : 0 ≤ bAnd .i64 a 255 ∧ bAnd .i64 a 255 ≤ 255 := by
  have h : (BitVec.ofInt IntKind.i64.bits a &&& BitVec.ofInt IntKind.i64.bits 255).toNat ≤ 255 := by
    rw [BitVec.toNat_and]
    exact Nat.le_trans Nat.and_le_right (by decide)
  show 0 ≤ wr _ ∧ wr _ ≤ 255
  rw [wr_id (by omega) (by omega)]
  omega
def Dr {α : Type} (f : Option (α × (Int × Int))) (P : α → Prop) : Prop := ∃ a i h, f = some (a, (i, h)) ∧ 0 ≤ i ∧ P a
theorem Dr.bind {α β : Type} {f : Option (α × (Int × Int))} {g : α × (Int × Int) → Option (β × (Int × Int))} {P : α → Prop} {Q : β → Prop} (hf : Dr f P) (hg : ∀ a i h, 0 ≤ i → P a → Dr (g (a, (i, h))) Q) : Dr (f.bind g) Q := by
  obtain ⟨a, i, h, e, hi, ha⟩ := hf
  rw [e]
  exact hg a i h hi ha
theorem Dr.mono {α : Type} {f : Option (α × (Int × Int))} {P Q : α → Prop} (hf : Dr f P) (hg : ∀ a, P a → Q a) : Dr f Q := by
  obtain ⟨a, i, h, e, hi, ha⟩ := hf
  exact ⟨a, i, h, e, hi, hg a ha⟩
theorem l01Byte_dr (k : Nat) (c : l01Cur) (h0 : 0 ≤ c.i) (hb : c.b.length ≤ 1048576) : Dr (spec_l01Byte k c) (fun r => 0 ≤ r ∧ r ≤ 255) := by
  unfold spec_l01Byte
  rw [if_pos (by decide), if_pos (by decide)]
  cases hc : decide ((c.i : Int) < ((c.b).length : Int))
  · exact ⟨_, _, _, rfl, h0, bAnd_255 _⟩
  · simp only [decide_eq_true_eq] at hc
    simp only [cond_true]
    rw [if_pos ⟨h0, hc⟩]
    exact ⟨_, _, _, rfl, by rw [wr_id (by omega) (by omega)]; omega, bAnd_255 _⟩
theorem l01Below_dr (k : Nat) (c : l01Cur) (n : Int) (h0 : 0 ≤ c.i) (hb : c.b.length ≤ 1048576) : Dr (spec_l01Below k c n) (fun r => (0 < n → 0 ≤ r ∧ r < n) ∧ (n ≤ 0 → r = 0)) := by
  unfold spec_l01Below
  by_cases hn : n ≤ 0
  · rw [decide_eq_true hn]
    exact ⟨_, _, _, rfl, h0, fun h => by omega, fun _ => rfl⟩
  · rw [decide_eq_false hn]
    simp only [cond_false]
    by_cases h256 : n ≤ 256
    · rw [decide_eq_true h256]
      simp only [cond_true]
      refine (l01Byte_dr k c h0 hb).bind fun a i h hi ha => ?_
      dsimp only
      rw [if_pos (by omega)]
      exact ⟨_, _, _, rfl, hi, fun _ => ⟨Int.tmod_nonneg _ ha.1, Int.tmod_lt_of_pos _ (by omega)⟩, fun h => by omega⟩
    · rw [decide_eq_false h256]
      simp only [cond_false]
      refine (l01Byte_dr k c h0 hb).bind fun a1 i1 h1 hi1 ha1 => ?_
      refine (l01Byte_dr k ⟨c.b, i1, h1⟩ hi1 hb).bind fun a2 i2 h2 hi2 ha2 => ?_
      refine (l01Byte_dr k ⟨c.b, i2, h2⟩ hi2 hb).bind fun a3 i3 h3 hi3 ha3 => ?_
      refine (l01Byte_dr k ⟨c.b, i3, h3⟩ hi3 hb).bind fun a4 i4 h4 hi4 ha4 => ?_
      dsimp only
      rw [if_pos (by omega)]
      refine ⟨_, _, _, rfl, hi4, fun _ => ⟨Int.tmod_nonneg _ ?_, Int.tmod_lt_of_pos _ (by omega)⟩, fun h => by omega⟩
      rw [wr_id (n := a1 * 16777216) (by omega) (by omega), wr_id (n := a2 * 65536) (by omega) (by omega), wr_id (n := a1 * 16777216 + a2 * 65536) (by omega) (by omega), wr_id (n := a3 * 256) (by omega) (by omega), wr_id (n := a1 * 16777216 + a2 * 65536 + a3 * 256) (by omega) (by omega), wr_id (n := a1 * 16777216 + a2 * 65536 + a3 * 256 + a4) (by omega) (by omega)]
      omega
theorem l01New_lp (k : Nat) (code : List Int) : ∀ (m : Nat) (h x : Int), 0 ≤ x → x ≤ 4000 → 4000 - x ≤ (m : Int) → ∃ h', spec_l01New_l0 k m code h x = some (0, h')
  | 0, h, x, h0, h1, h2 => by
    unfold spec_l01New_l0 spec_l01New_s0
    rw [decide_eq_false (p := x < 4000) (by omega)]
    cases decide ((x : Int) < ((code).length : Int)) <;> exact ⟨_, rfl⟩
  | m + 1, h, x, h0, h1, h2 => by
    unfold spec_l01New_l0 spec_l01New_s0
    by_cases hx : x < (code.length : Int)
    · rw [decide_eq_true hx]
      by_cases hy : x < 4000
      · rw [decide_eq_true hy, if_pos ⟨h0, hx⟩]
        simp only [cond_true]
        rw [wr_id (n := x + 1) (by omega) (by omega)]
        exact l01New_lp k code m _ _ (by omega) (by omega) (by omega)
      · rw [decide_eq_false hy]; exact ⟨_, rfl⟩
    · rw [decide_eq_false hx]; exact ⟨_, rfl⟩
theorem l01New_eq (k : Nat) (hk : 4000 ≤ k) (code : List Int) : ∃ h, spec_l01New k code = some (0, h) := l01New_lp k code k _ 0 (Int.le_refl _) (by omega) (by omega)
theorem l37Event_dr (k : Nat) (c : l01Cur) (h0 : 0 ≤ c.i) (hb : c.b.length ≤ 1048576) : Dr (spec_l37Event k c) (fun e => 0 ≤ e.Loaves ∧ e.Loaves ≤ 59) := by
  unfold spec_l37Event
  refine (l01Below_dr k c 4 h0 hb).bind fun a i h hi ha => ?_
  dsimp only
  have z : ∀ kd : Int, Dr (some ((⟨kd, 0⟩ : Event), (i, h))) (fun e => 0 ≤ e.Loaves ∧ e.Loaves ≤ 59) := fun kd => ⟨_, _, _, rfl, hi, by dsimp only; omega⟩
  have q : ∀ (kd n : Int), 0 < n → n ≤ 60 → Dr ((spec_l01Below k (⟨c.b, i, h⟩ : l01Cur) n).bind fun y => some ((⟨kd, y.1⟩ : Event), (y.2.1, y.2.2))) (fun e => 0 ≤ e.Loaves ∧ e.Loaves ≤ 59) := fun kd n n0 n1 =>
    (l01Below_dr k ⟨c.b, i, h⟩ n hi hb).bind fun b i' h' hi' hb' => ⟨_, _, _, rfl, hi', (hb'.1 n0).1, by have := (hb'.1 n0).2; dsimp only; omega⟩
  cases decide (wr (1 + a) = 1)
  · cases decide (wr (1 + a) = 2)
    · cases decide (wr (1 + a) = 3)
      · exact z _
      · exact q _ 25 (by decide) (by decide)
    · exact q _ 25 (by decide) (by decide)
  · exact q _ 60 (by decide) (by decide)
theorem Small.mono {b : Book} {m n : Nat} (h : Small b m) (hm : m ≤ n) : Small b n := ⟨h.1, Nat.le_trans h.2.1 hm, by have := h.2.2; omega⟩
theorem l37Book_lp (k : Nat) (hk : 12 ≤ k) : ∀ (m : Nat) (c : l01Cur) (n i h : Int) (b : Book) (q : Nat), 0 ≤ n → n ≤ (m : Int) → (q : Int) + n ≤ 11 → Small b q → 0 ≤ i → c.b.length ≤ 1048576 →
    Dr (spec_l37Book_l0 k m c n i h b.Events b.Rack.Fresh b.Rack.Day b.Rack.Old b.Baked b.Sold b.Thrown) (fun b => Small b 11)
  | 0, c, n, i, h, b, q, h0, h1, h2, hS, hi, hc => by
    unfold spec_l37Book_l0 spec_l37Book_s0
    rw [decide_eq_false (p := 0 < n) (by omega)]
    exact ⟨b, i, h, rfl, hi, hS.mono (by omega)⟩
  | m + 1, c, n, i, h, b, q, h0, h1, h2, hS, hi, hc => by
    unfold spec_l37Book_l0 spec_l37Book_s0
    by_cases hn : 0 < n
    · rw [decide_eq_true hn]
      simp only [cond_true]
      refine (l37Event_dr k ⟨c.b, i, h⟩ hi hc).bind fun e i' h' hi' he => ?_
      have hl := hS.2.1
      dsimp only
      rw [show (⟨b.Events, ⟨b.Rack.Fresh, b.Rack.Day, b.Rack.Old⟩, b.Baked, b.Sold, b.Thrown⟩ : Book) = b from rfl, spec_Enter_eq k b e (by omega) (by omega)]
      simp only [Option.bind_some]
      rw [wr_id (n := n - 1) (by omega) (by omega)]
      exact l37Book_lp k hk m c (n - 1) i' h' (enterB b e).1 (q + 1) (by omega) (by omega) (by omega) (small_step hS e he.2 (by omega)) hi' hc
    · rw [decide_eq_false hn]
      exact ⟨b, i, h, rfl, hi, hS.mono (by omega)⟩
theorem small_nil : Small ⟨[], ⟨0, 0, 0⟩, 0, 0, 0⟩ 0 := ⟨(bookOk_iff _).2 rfl, Nat.le_refl _, by decide⟩
theorem l37Book_dr (k : Nat) (hk : 12 ≤ k) (c : l01Cur) (h0 : 0 ≤ c.i) (hb : c.b.length ≤ 1048576) : Dr (spec_l37Book k c) (fun b => Small b 11) := by
  unfold spec_l37Book spec_l37Book_m
  refine (l01Below_dr k c 12 h0 hb).bind fun a i h hi ha => ?_
  have := ha.1 (by decide)
  exact l37Book_lp k hk k c a i h ⟨[], ⟨0, 0, 0⟩, 0, 0, 0⟩ 0 (by omega) (by omega) (by omega) small_nil hi hb
/-! ### Striking and the days of a book -/
def nights : List Event → Int
  | [] => 0
  | e :: B => (cond (decide (e.Kind = 4)) 1 0) + nights B
theorem nights_in : ∀ B : List Event, 0 ≤ nights B ∧ nights B ≤ (B.length : Int)
  | [] => ⟨Int.le_refl _, Int.le_refl _⟩
  | e :: B => by
    have := nights_in B
    simp only [nights, List.length_cons]
    cases decide (e.Kind = 4) <;> simp only [cond_true, cond_false] <;> omega
end Go.Proofs.YtlenacakmmikiaaDoorX
