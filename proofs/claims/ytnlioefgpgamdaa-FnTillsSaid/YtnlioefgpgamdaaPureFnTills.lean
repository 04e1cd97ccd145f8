/- What FnTills computes answers as the law says: over numbers and lists alone; there are no conditions but those of the statement. -/
import Derived.Test.YtnlioefgpgamdaaQ0
import Derived.Test.YtnlioefgpgamdaaQ2
import Derived.Test.YtnlioefgpgamdaaQ3
import Derived.Test.YtnlioefgpgamdaaQ4
import Derived.Test.YtnlioefgpgamdaaQ5
import Derived.Test.YtnlioefgpgamdaaQ6
import Derived.Test.YtnlioefgpgamdaaQ8
import Derived.Test.YtnlioefgpgamdaaQ9
namespace Go.Proofs.Ytnlioefgpgamdaa.Pure
open Go.RowKit Go.Proofs.Ytnlioefgpgamdaa.Q Go.Proofs.YtnlioefgpgamdaaW.PrintWords Go.Proofs.YtnlioefgpgamdaaW.PrintLast Go.Proofs.YtnlioefgpgamdaaW.PrintMore
set_option linter.unusedVariables false
set_option linter.unusedSimpArgs false
theorem w64 {x : Int} (h0 : -9223372036854775808 ≤ x) (h1 : x ≤ 9223372036854775807) : wrap64 x = x := by
  unfold wrap64
  omega
theorem down {Q : Nat → Prop} (n : Nat) (fin : Q n) (step : ∀ j, j < n → Q (j + 1) → Q j) : ∀ j, j ≤ n → Q j := by
  intro j hj
  obtain ⟨d, hd⟩ : ∃ d, j + d = n := ⟨n - j, by omega⟩
  clear hj
  induction d generalizing j with
  | zero => have : j = n := by omega
            rw [this]; exact fin
  | succ d ih => exact step j (by omega) (ih (j + 1) (by omega))
theorem wsucc (j : Nat) (h : j < 9223372036854775807) : wrap64 ((j : Int) + 1) = ((j + 1 : Nat) : Int) := by
  rw [w64 (by omega) (by omega)]; omega
theorem rd_nat (l : List Int) (j : Nat) (h : j < l.length) : rd l (j : Int) = l[j] := by
  unfold rd; rw [Int.toNat_natCast, List.getD_eq_getElem?_getD, List.getElem?_eq_getElem h]; rfl
theorem rd_lit (l : List Int) (i : Int) : rd l i = l.getD i.toNat 0 := rfl
theorem all_drop_cons {α : Type} (p : α → Bool) (l : List α) (j : Nat) (h : j < l.length) : (l.drop j).all p = (p l[j] && (l.drop (j + 1)).all p) := by
  rw [List.drop_eq_getElem_cons h, List.all_cons]
theorem all_drop_len {α : Type} (p : α → Bool) (l : List α) : (l.drop l.length).all p = true := by simp
theorem ev_some {α : Type} (r : α) : Ev (fun _ => some r) r := Ev.now r
theorem ev_pt {α : Type} {g : Option α} {r : α} (h : g = some r) : Ev (fun _ => g) r := ⟨0, fun _ _ => h⟩
theorem ev_eq {α : Type} {g : Nat → Option α} {r r' : α} (h : Ev g r) (e : r = r') : Ev g r' := e ▸ h
def inR (lo hi n : Int) : Bool := decide (lo ≤ n ∧ n ≤ hi)
theorem l01In_eq (a b c : Int) : spec_l01In.f a b c = some (inR b c a) := by
  unfold spec_l01In.f inR
  by_cases h : b ≤ a
  · rw [if_pos h]; simp [h]
  · rw [if_neg h]; simp [h]
theorem allIn_eq (l : List Int) (a b : Int) : impl_allIn.f l a b = some (l.all (inR a b)) := rfl
theorem inR_iff {lo hi n : Int} : inR lo hi n = true ↔ lo ≤ n ∧ n ≤ hi := by unfold inR; simp
theorem and255 (x : Int) : 0 ≤ Go.bits .and .i64 x 255 ∧ Go.bits .and .i64 x 255 ≤ 255 := by
  have h : (BitVec.ofInt 64 x &&& BitVec.ofInt 64 255).toNat ≤ 255 := by
    rw [BitVec.toNat_and]; exact Nat.le_trans Nat.and_le_right (by decide)
  have e : Go.bits .and .i64 x 255 = IntKind.i64.wrap ((BitVec.ofInt 64 x &&& BitVec.ofInt 64 255).toNat : Int) := rfl
  rw [e]
  generalize (BitVec.ofInt 64 x &&& BitVec.ofInt 64 255).toNat = n at h
  have e2 : (n : Int) % 2 ^ 64 = n := Int.emod_eq_of_lt (by omega) (by omega)
  have e3 : IntKind.i64.wrap (n : Int) = (n : Int) := by
    simp only [IntKind.wrap, IntKind.bits, IntKind.signed, e2]
    rw [if_neg]
    simp
    omega
  rw [e3]; omega
theorem byte_eq (b : List Int) (i h : Int) (hb : b.length ≤ 1048576) (hi : 0 ≤ i) : ∃ x i' h', spec_l01Byte.f b i h = some (x, i', h') ∧ 0 ≤ x ∧ x ≤ 255 ∧ 0 ≤ i' := by
  unfold spec_l01Byte.f
  by_cases c : i < (b.length : Int)
  · rw [if_pos c, if_pos hi]
    refine ⟨_, _, _, rfl, (and255 _).1, (and255 _).2, ?_⟩
    rw [w64 (by omega) (by omega)]; omega
  · rw [if_neg c]
    exact ⟨_, _, _, rfl, (and255 _).1, (and255 _).2, hi⟩
theorem below_eq (b : List Int) (i h n : Int) (hb : b.length ≤ 1048576) (hi : 0 ≤ i) (hn : 0 < n) : ∃ x i' h', spec_l01Below.f b i h n = some (x, i', h') ∧ 0 ≤ x ∧ x < n ∧ 0 ≤ i' := by
  unfold spec_l01Below.f
  rw [if_neg (by omega)]
  have md : ∀ y : Int, 0 ≤ y → 0 ≤ Int.tmod y n ∧ Int.tmod y n < n := fun y hy => by
    rw [Int.tmod_eq_emod_of_nonneg hy]
    exact ⟨Int.emod_nonneg _ (by omega), Int.emod_lt_of_pos _ hn⟩
  obtain ⟨x1, i1, h1, e1, a1, b1, c1⟩ := byte_eq b i h hb hi
  by_cases c : n ≤ 256
  · rw [if_pos c, e1, Option.bind_some, if_neg (by omega)]
    exact ⟨_, _, _, rfl, (md x1 a1).1, (md x1 a1).2, c1⟩
  · obtain ⟨x2, i2, h2, e2, a2, b2, c2⟩ := byte_eq b i1 h1 hb c1
    obtain ⟨x3, i3, h3, e3, a3, b3, c3⟩ := byte_eq b i2 h2 hb c2
    obtain ⟨x4, i4, h4, e4, a4, b4, c4⟩ := byte_eq b i3 h3 hb c3
    rw [if_neg c, e1, Option.bind_some, e2, Option.bind_some, e3, Option.bind_some, e4, Option.bind_some, if_neg (by omega)]
    rw [w64 (x := x1 * 16777216) (by omega) (by omega), w64 (x := x2 * 65536) (by omega) (by omega), w64 (x := x3 * 256) (by omega) (by omega), w64 (x := x1 * 16777216 + x2 * 65536) (by omega) (by omega), w64 (x := x1 * 16777216 + x2 * 65536 + x3 * 256) (by omega) (by omega), w64 (x := x1 * 16777216 + x2 * 65536 + x3 * 256 + x4) (by omega) (by omega)]
    exact ⟨_, _, _, rfl, (md _ (by omega)).1, (md _ (by omega)).2, c4⟩
theorem new_ev (l : List Int) (hl : l.length ≤ 1048576) : ∃ h, Ev (fun k => spec_l01New.f k l) (l, 0, h) := by
  unfold spec_l01New.f
  have key : ∀ j, j ≤ l.length → ∀ s : Int, ∃ h, Ev (fun k => spec_l01New.l0 k l s (j : Int)) (l, 0, h) := by
    refine down l.length ?_ ?_
    · intro s
      refine ⟨s, Ev.step (f := fun _ => some (l, 0, s)) (fun k => ?_) (Ev.now _)⟩
      simp only [spec_l01New.l0]
      rw [if_neg (by omega)]
    · intro j hj ih s
      by_cases c : (j : Int) < 4000
      · obtain ⟨h, e⟩ := ih (Go.bits .and .i64 (wrap64 ((wrap64 ((wrap64 (s * 131)) + (wrap64 (rd l (j : Int))))) + 7)) 1073741823)
        refine ⟨h, Ev.step (fun k => ?_) e⟩
        simp only [spec_l01New.l0]
        rw [if_pos (by omega), if_pos c, if_pos (by omega), wsucc j (by omega)]
      · refine ⟨s, Ev.step (f := fun _ => some (l, 0, s)) (fun k => ?_) (Ev.now _)⟩
        simp only [spec_l01New.l0]
        rw [if_pos (by omega), if_neg c]
  exact key 0 (Nat.zero_le _) _
theorem at0_eq (l : List Int) (hl : l.length ≤ 1048576) (hw : ∀ x ∈ l, 0 ≤ x ∧ x ≤ 255) : ∃ x, laws_at.f l 0 = some x ∧ 0 ≤ x ∧ x ≤ 255 := by
  unfold laws_at.f
  by_cases c : (l.length : Int) = 0
  · rw [if_pos c]; exact ⟨0, rfl, by decide, by decide⟩
  · rw [if_neg c, show wrap64 ((wrap64 ((0 : Int) * 5)) + 1) = 1 by rw [show (0 : Int) * 5 = 0 from rfl, w64 (x := 0) (by decide) (by decide)]; exact w64 (by decide) (by decide)]
    have e : Int.tmod 1 (l.length : Int) = 1 % (l.length : Int) := Int.tmod_eq_emod_of_nonneg (by decide)
    have h1 : 0 ≤ 1 % (l.length : Int) := Int.emod_nonneg _ c
    have h2 : 1 % (l.length : Int) < (l.length : Int) := Int.emod_lt_of_pos _ (by omega)
    rw [e, if_pos h1, if_pos h2]
    generalize 1 % (l.length : Int) = i at h1 h2
    obtain ⟨j, rfl⟩ : ∃ j : Nat, i = j := ⟨i.toNat, by omega⟩
    rw [rd_nat l j (by omega)]
    have := hw _ (List.getElem_mem (show j < l.length by omega))
    rw [w64 (by omega) (by omega)]
    exact ⟨_, rfl, this.1, this.2⟩
def okDrawn (x : S33) : Prop := (0 ≤ x.f0 ∧ x.f0 ≤ 200) ∧ (0 ≤ x.f1 ∧ x.f1 ≤ 400) ∧ (0 ≤ x.f2 ∧ x.f2 ≤ 400)
theorem once_eq (b : List Int) (i h n : Int) (hb : b.length ≤ 1048576) (hi : 0 ≤ i) (hn : 0 < n) : ∃ x i' h', spec_l01Once.f b i h n = some (x, i', h') ∧ 0 ≤ i' := by
  obtain ⟨x, i', h', e, _, _, c⟩ := below_eq b i h n hb hi hn
  unfold spec_l01Once.f
  rw [e, Option.bind_some]
  exact ⟨_, _, _, rfl, c⟩
theorem drawSlips_loop (b : List Int) (n : Int) (hb : b.length ≤ 1048576) (hn : n ≤ 10) : ∀ (d : Nat) (j : Nat), (j : Int) + d = n → ∀ (acc : List S33) (i h : Int), acc.length = j → (∀ x ∈ acc, okDrawn x) → 0 ≤ i →
    ∃ r i' h', Ev (fun k => spec_l35List.l0 k acc n (j : Int) b i h) (r, i', h') ∧ r.length ≤ 10 ∧ ∀ x ∈ r, okDrawn x := by
  intro d
  induction d with
  | zero =>
    intro j hj acc i h hl ha hi
    refine ⟨acc, i, h, Ev.step (f := fun _ => some (acc, i, h)) (fun k => ?_) (Ev.now _), by omega, ha⟩
    simp only [spec_l35List.l0]
    rw [if_neg (by omega)]
  | succ d ih =>
    intro j hj acc i h hl ha hi
    obtain ⟨x1, i1, h1, e1, a1, b1, c1⟩ := below_eq b i h 200 hb hi (by omega)
    obtain ⟨x2, i2, h2, e2, a2, b2, c2⟩ := below_eq b i1 h1 100 hb c1 (by omega)
    obtain ⟨x3, i3, h3, e3, c3⟩ := once_eq b i2 h2 4 hb c2 (by omega)
    have ew1 : wrap64 (x1 + x2) = x1 + x2 := w64 (by omega) (by omega)
    cases x3 with
    | true =>
      obtain ⟨x4, i4, h4, e4, a4, b4, c4⟩ := below_eq b i3 h3 300 hb c3 (by omega)
      have ew2 : wrap64 (x2 + x4) = x2 + x4 := w64 (by omega) (by omega)
      obtain ⟨r, i', h', hr, hlen, hok⟩ := ih (j + 1) (by omega) (acc ++ [(⟨x1, x1 + x2, x2 + x4⟩ : S33)]) i4 h4 (by simp [hl]) (fun x hx => by
        rcases List.mem_append.1 hx with hx | hx
        · exact ha x hx
        · rw [List.mem_singleton] at hx; subst hx; unfold okDrawn; dsimp only; omega) c4
      refine ⟨r, i', h', Ev.step (fun k => ?_) hr, hlen, hok⟩
      simp only [spec_l35List.l0]
      rw [if_pos (by omega), e1, Option.bind_some]
      simp only [e2, e3, e4, Option.bind_some, if_true, ew1, ew2]
      rw [if_pos (by omega), wsucc j (by omega)]
    | false =>
      obtain ⟨r, i', h', hr, hlen, hok⟩ := ih (j + 1) (by omega) (acc ++ [(⟨x1, x1 + x2, x2⟩ : S33)]) i3 h3 (by simp [hl]) (fun x hx => by
        rcases List.mem_append.1 hx with hx | hx
        · exact ha x hx
        · rw [List.mem_singleton] at hx; subst hx; unfold okDrawn; dsimp only; omega) c3
      refine ⟨r, i', h', Ev.step (fun k => ?_) hr, hlen, hok⟩
      simp only [spec_l35List.l0]
      rw [if_pos (by omega), e1, Option.bind_some]
      simp only [e2, e3, Option.bind_some, Bool.false_eq_true, if_false, ew1]
      rw [if_pos (by omega), wsucc j (by omega)]
theorem drawSlips_ev (l : List Int) (hl : l.length ≤ 1048576) : ∃ r, Ev (fun k => spec_DrawSlips.f k l) r ∧ r.length ≤ 10 ∧ ∀ x ∈ r, okDrawn x := by
  obtain ⟨h, e⟩ := new_ev l hl
  obtain ⟨n, i1, h1, e1, a1, b1, c1⟩ := below_eq l 0 h 10 hl (by omega) (by omega)
  obtain ⟨r, i', h', hr, hlen, hok⟩ := drawSlips_loop l n hl (by omega) n.toNat 0 (by omega) [] i1 h1 rfl (fun x hx => by cases hx) c1
  refine ⟨r, ?_, hlen, hok⟩
  unfold spec_DrawSlips.f
  refine Ev.bind e ?_
  unfold spec_l35List.f
  simp only [e1, Option.bind_some]
  exact Ev.bind hr (Ev.now _)
theorem rdSlip_nat (l : List S33) (j : Nat) (h : j < l.length) : rd_T33 l (j : Int) = l[j] := by
  unfold rd_T33; rw [Int.toNat_natCast, List.getD_eq_getElem?_getD, List.getElem?_eq_getElem h]; rfl
theorem rdSlip_set (l : List S33) (j : Nat) (e : S33) (h : j < l.length) : rd_T33 (l.set j e) (j : Int) = e := by
  rw [rdSlip_nat _ j (by simpa using h)]; simp
def tills : List S33 → Int → Int → Int × Int
  | [], n, low => (n, low)
  | x :: r, n, low => tills r (n + x.f1 - x.f2) (mn low (n + x.f1 - x.f2))
theorem slip3_iff (x : S33) : slip3 x = true ↔ (0 ≤ x.f0 ∧ x.f0 ≤ 100000) ∧ (0 ≤ x.f1 ∧ x.f1 ≤ 100000) ∧ (0 ≤ x.f2 ∧ x.f2 ≤ 100000) := by
  unfold slip3; simp [Bool.and_assoc, and_assoc]
theorem slip3_eq (x : S33) : slip3 x = (inR 0 100000 x.f0 && (inR 0 100000 x.f1 && inR 0 100000 x.f2)) := by
  unfold slip3 inR; rw [Bool.and_assoc]
theorem tills_bound (l : List S33) : ∀ (n low B : Int), (∀ x, x ∈ l → slip3 x = true) → -B ≤ n → n ≤ B → -B ≤ low → low ≤ B →
    (-(B + 100000 * (l.length : Int)) ≤ (tills l n low).1 ∧ (tills l n low).1 ≤ B + 100000 * (l.length : Int)) ∧ -(B + 100000 * (l.length : Int)) ≤ (tills l n low).2 ∧ (tills l n low).2 ≤ low := by
  induction l with
  | nil => intro n low B _ h1 h2 h3 h4; simp [tills]; omega
  | cons x r ih =>
    intro n low B hx h1 h2 h3 h4
    have hs := (slip3_iff x).1 (hx x (by simp))
    have hmn : mn low (n + x.f1 - x.f2) ≤ low ∧ -(B + 100000) ≤ mn low (n + x.f1 - x.f2) := by unfold mn; split <;> omega
    have := ih (n + x.f1 - x.f2) (mn low (n + x.f1 - x.f2)) (B + 100000) (fun y hy => hx y (by simp [hy])) (by omega) (by omega) (by omega) (by omega)
    simp only [tills, List.length_cons]
    omega
def tillOk (l : List S33) (a : Int) : Bool := l.all slip3 && (decide (l.length ≤ 60) && inR 0 100000 a)
theorem impl_tillOk_eq (l : List S33) (a : Int) : impl_tillOk.f l a = some (tillOk l a) := by
  unfold impl_tillOk.f tillOk inR
  rw [Bool.and_comm]
theorem tillOk_parts {l : List S33} {a : Int} (h : tillOk l a = true) : (∀ x, x ∈ l → slip3 x = true) ∧ l.length ≤ 60 ∧ 0 ≤ a ∧ a ≤ 100000 := by
  unfold tillOk at h
  simp only [Bool.and_eq_true, List.all_eq_true, decide_eq_true_eq, inR_iff] at h
  exact ⟨h.1, h.2.1, h.2.2⟩
theorem impl_till_ev (l : List S33) (a : Int) (h : tillOk l a = true) : Ev (fun k => impl_till.f k l a) (tills l a a) := by
  obtain ⟨hx, hl, ha0, ha1⟩ := tillOk_parts h
  unfold impl_till.f
  have key : ∀ j, j ≤ l.length → ∀ n low : Int, -(100000 + 100000 * (j : Int)) ≤ n → n ≤ 100000 + 100000 * (j : Int) → Ev (fun k => impl_till.l0 k n low l (l.length : Int) (j : Int)) (tills (l.drop j) n low) := by
    refine down l.length ?_ ?_
    · intro n low _ _
      refine Ev.step (f := fun _ => _) (fun k => ?_) (ev_some _)
      simp only [impl_till.l0]
      rw [if_neg (by omega)]
      simp [tills]
    · intro j hj ih n low h1 h2
      have hs := (slip3_iff l[j]).1 (hx _ (List.getElem_mem hj))
      rw [List.drop_eq_getElem_cons hj]
      simp only [tills]
      refine Ev.step (fun k => ?_) (ih (n + l[j].f1 - l[j].f2) (mn low (n + l[j].f1 - l[j].f2)) (by omega) (by omega))
      simp only [impl_till.l0]
      rw [if_pos (by omega), if_pos (by omega), if_pos (by omega), rdSlip_nat l j hj, wsucc j (by omega), w64 (x := l[j].f1 - l[j].f2) (by omega) (by omega), w64 (by omega) (by omega), show n + (l[j].f1 - l[j].f2) = n + l[j].f1 - l[j].f2 by omega]
  exact key 0 (Nat.zero_le _) a a (by omega) (by omega)
theorem impl_TillAfter_ev (l : List S33) (a : Int) : Ev (fun k => impl_TillAfter.f k l a) (if tillOk l a = true then (tills l a a).1 else -1000000000) := by
  unfold impl_TillAfter.f
  simp only [impl_tillOk_eq, Option.bind_some]
  by_cases h : tillOk l a = true
  · simp only [if_pos h]
    exact Ev.bind (impl_till_ev l a h) (Ev.now _)
  · simp only [if_neg h]
    exact Ev.now _
theorem impl_LowestTill_ev (l : List S33) (a : Int) : Ev (fun k => impl_LowestTill.f k l a) (if tillOk l a = true then (tills l a a).2 else -1000000000) := by
  unfold impl_LowestTill.f
  simp only [impl_tillOk_eq, Option.bind_some]
  by_cases h : tillOk l a = true
  · simp only [if_pos h]
    exact Ev.bind (impl_till_ev l a h) (Ev.now _)
  · simp only [if_neg h]
    exact Ev.now _
def missMoney (l : List S33) (a c : Int) : Int := if tillOk l a = true ∧ inR 0 10000000 c = true then (tills l a a).1 - c else 0
theorem in_eq (a b c : Int) : impl_in.f a b c = some (inR b c a) := by
  unfold impl_in.f inR
  by_cases h : b ≤ a
  · rw [if_pos h]; simp [h]
  · rw [if_neg h]; simp [h]
theorem impl_MissingMoney_ev (l : List S33) (a c : Int) : Ev (fun k => impl_MissingMoney.f k l a c) (missMoney l a c) := by
  unfold impl_MissingMoney.f missMoney
  simp only [impl_tillOk_eq, Option.bind_some]
  by_cases h : tillOk l a = true
  · simp only [if_pos h, in_eq, Option.bind_some]
    by_cases h2 : inR 0 10000000 c = true
    · simp only [if_pos h2, if_pos (And.intro h h2)]
      refine Ev.bind (impl_TillAfter_ev l a) ?_
      obtain ⟨hx, hl, ha0, ha1⟩ := tillOk_parts h
      have hb := tills_bound l a a 100000 hx (by omega) (by omega) (by omega) (by omega)
      have hc := inR_iff.1 h2
      simp only [if_pos h]
      rw [w64 (by omega) (by omega)]
      exact Ev.now _
    · simp only [if_neg h2, if_neg (fun e : tillOk l a = true ∧ inR 0 10000000 c = true => h2 e.2)]
      exact Ev.now _
  · simp only [if_neg h, if_neg (fun e : tillOk l a = true ∧ inR 0 10000000 c = true => h e.1)]
    exact Ev.now _
def leastSt (l : List S33) : Int := if tillOk l 0 = true then (if -(tills l 0 0).2 > 100000 then -1 else -(tills l 0 0).2) else -1
theorem impl_LeastStart_ev (l : List S33) : Ev (fun k => impl_LeastStart.f k l) (leastSt l) := by
  unfold impl_LeastStart.f leastSt
  simp only [impl_tillOk_eq, Option.bind_some]
  by_cases h : tillOk l 0 = true
  · simp only [if_pos h]
    refine Ev.bind (impl_till_ev l 0 h) ?_
    obtain ⟨hx, hl, ha0, ha1⟩ := tillOk_parts h
    have hb := tills_bound l 0 0 100000 hx (by omega) (by omega) (by omega) (by omega)
    rw [w64 (by omega) (by omega)]
    by_cases h2 : -(tills l 0 0).2 > 100000
    · simp only [if_pos h2]; exact Ev.now _
    · simp only [if_neg h2]; exact Ev.now _
  · simp only [if_neg h]
    exact Ev.now _
def slipOk (s p g : Int) : Bool := inR 0 100000 s && (inR 0 100000 p && (inR 0 100000 g && (p - g == s)))
def wrongs : List S33 → Nat → List Int
  | [], _ => []
  | x :: r, j => if slipOk x.f0 x.f1 x.f2 = true then wrongs r (j + 1) else (j : Int) :: wrongs r (j + 1)
theorem wrongs_length (l : List S33) : ∀ j, (wrongs l j).length ≤ l.length := by
  induction l with
  | nil => intro j; simp [wrongs]
  | cons x r ih =>
    intro j
    simp only [wrongs]
    split
    · have := ih (j + 1); simp; omega
    · have := ih (j + 1); simp; omega
def wrongOf (l : List S33) : List Int := if l.length ≤ 60 then wrongs l 0 else []
theorem impl_SlipOk_eq (s p g : Int) : impl_SlipOk.f s p g = some (slipOk s p g) := by
  unfold impl_SlipOk.f impl_Slip_inRange.f slipOk
  rw [allIn_eq]
  simp only [Option.bind_some, List.all_cons, List.all_nil, Bool.and_true]
  cases h1 : inR 0 100000 s <;> cases h2 : inR 0 100000 p <;> cases h3 : inR 0 100000 g <;> simp
  have a := inR_iff.1 h2
  have b := inR_iff.1 h3
  rw [w64 (by omega) (by omega)]
theorem impl_WrongSlips_ev (l : List S33) : Ev (fun k => impl_WrongSlips.f k l) (wrongOf l) := by
  unfold impl_WrongSlips.f wrongOf
  by_cases h : l.length ≤ 60
  · simp only [if_pos h, if_neg (show ¬ ((l.length : Int) > 60) by omega)]
    have key : ∀ j, j ≤ l.length → ∀ acc : List Int, acc.length ≤ j → Ev (fun k => impl_WrongSlips.l0 k acc l (l.length : Int) (j : Int)) (acc ++ wrongs (l.drop j) j) := by
      refine down l.length ?_ ?_
      · intro acc _
        refine Ev.step (f := fun _ => _) (fun k => ?_) (ev_some _)
        simp only [impl_WrongSlips.l0]
        rw [if_neg (by omega)]
        simp [wrongs]
      · intro j hj ih acc ha
        rw [List.drop_eq_getElem_cons hj]
        simp only [wrongs]
        cases hq : slipOk l[j].f0 l[j].f1 l[j].f2 with
        | true =>
          simp only [if_true]
          refine Ev.step (fun k => ?_) (ih acc (by omega))
          simp only [impl_WrongSlips.l0]
          rw [if_pos (by omega), if_pos (by omega), if_pos (by omega), rdSlip_nat l j hj, impl_SlipOk_eq, hq, Option.bind_some, if_pos rfl, wsucc j (by omega)]
        | false =>
          simp only [Bool.false_eq_true, if_false]
          have := ih (acc ++ [(j : Int)]) (by simp; omega)
          rw [List.append_assoc, List.singleton_append] at this
          refine Ev.step (fun k => ?_) this
          simp only [impl_WrongSlips.l0]
          rw [if_pos (by omega), if_pos (by omega), if_pos (by omega), rdSlip_nat l j hj, impl_SlipOk_eq, hq, Option.bind_some, if_neg (by decide), if_pos (by omega), wsucc j (by omega)]
    simpa using key 0 (Nat.zero_le _) [] (Nat.le_refl _)
  · simp only [if_neg h, if_pos (show ((l.length : Int) > 60) by omega)]
    exact Ev.now _
def sumS : List S33 → Int
  | [] => 0
  | x :: r => x.f0 + sumS r
def sumD : List S33 → Int
  | [] => 0
  | x :: r => (x.f1 - x.f2 - x.f0) + sumD r
theorem tills_fst (l : List S33) : ∀ n low : Int, (tills l n low).1 = n + sumS l + sumD l := by
  induction l with
  | nil => intro n low; simp [tills, sumS, sumD]
  | cons x r ih => intro n low; unfold tills sumS sumD; rw [ih]; omega
theorem tills_shift (l : List S33) : ∀ n low a : Int, (tills l (n + a) (low + a)).2 = (tills l n low).2 + a := by
  induction l with
  | nil => intro n low a; rfl
  | cons x r ih =>
    intro n low a
    unfold tills
    have e : mn (low + a) (n + a + x.f1 - x.f2) = mn low (n + x.f1 - x.f2) + a := by unfold mn; split <;> split <;> omega
    rw [e, show n + a + x.f1 - x.f2 = n + x.f1 - x.f2 + a by omega, ih]
theorem tills_low (l : List S33) : ∀ n low : Int, low ≤ n → (tills l n low).2 ≤ (tills l n low).1 := by
  induction l with
  | nil => intro n low h; exact h
  | cons x r ih =>
    intro n low h
    unfold tills
    exact ih _ _ (by unfold mn; split <;> omega)
theorem sum_bound (l : List S33) (h : ∀ x ∈ l, okDrawn x) : (0 ≤ sumS l ∧ sumS l ≤ 200 * (l.length : Int)) ∧ (-(1000 * (l.length : Int)) ≤ sumD l ∧ sumD l ≤ 1000 * (l.length : Int)) := by
  induction l with
  | nil => simp [sumS, sumD]
  | cons x r ih =>
    have hx := h x (List.mem_cons_self ..)
    unfold okDrawn at hx
    have := ih (fun y hy => h y (List.mem_cons_of_mem _ hy))
    unfold sumS sumD
    rw [List.length_cons]
    omega
theorem wrongs_mem (l : List S33) : ∀ (j i : Nat) (hi : i < l.length), ((j + i : Nat) : Int) ∈ wrongs l j ↔ slipOk l[i].f0 l[i].f1 l[i].f2 = false := by
  induction l with
  | nil => intro j i hi; simp at hi
  | cons x r ih =>
    have low : ∀ (r : List S33) (j : Nat) (y : Int), y ∈ wrongs r j → (j : Int) ≤ y := by
      intro r
      induction r with
      | nil => intro j y hy; simp [wrongs] at hy
      | cons z q ihq =>
        intro j y hy
        unfold wrongs at hy
        split at hy
        · have := ihq _ y hy; omega
        · rcases List.mem_cons.1 hy with rfl | hy
          · omega
          · have := ihq _ y hy; omega
    intro j i hi
    unfold wrongs
    cases i with
    | zero =>
      by_cases c : slipOk x.f0 x.f1 x.f2 = true
      · rw [if_pos c]
        simp only [List.getElem_cons_zero, c]
        refine ⟨fun h => ?_, fun h => by cases h⟩
        have := low r (j + 1) _ h
        omega
      · rw [if_neg c]
        simp only [List.getElem_cons_zero]
        rw [Bool.not_eq_true] at c
        exact ⟨fun _ => c, fun _ => List.mem_cons_self ..⟩
    | succ i =>
      have hi' : i < r.length := by simpa using hi
      have := ih (j + 1) i hi'
      rw [show j + 1 + i = j + (i + 1) by omega] at this
      simp only [List.getElem_cons_succ]
      rw [← this]
      split
      · exact Iff.rfl
      · rw [List.mem_cons]
        exact ⟨fun h => by rcases h with h | h; exact absurd h (by omega); exact h, Or.inr⟩
theorem wrongs_nil (l : List S33) : ∀ j : Nat, wrongs l j = [] → ∀ x ∈ l, slipOk x.f0 x.f1 x.f2 = true := by
  induction l with
  | nil => intro j _ x hx; cases hx
  | cons y r ih =>
    intro j h x hx
    unfold wrongs at h
    by_cases c : slipOk y.f0 y.f1 y.f2 = true
    · rw [if_pos c] at h
      rcases List.mem_cons.1 hx with rfl | hx
      · exact c
      · exact ih _ h x hx
    · rw [if_neg c] at h; cases h
theorem sumD_zero (l : List S33) (h : ∀ x ∈ l, slipOk x.f0 x.f1 x.f2 = true) : sumD l = 0 := by
  induction l with
  | nil => rfl
  | cons x r ih =>
    have hx := h x (List.mem_cons_self ..)
    unfold slipOk at hx
    simp only [Bool.and_eq_true, beq_iff_eq] at hx
    unfold sumD
    rw [ih (fun y hy => h y (List.mem_cons_of_mem _ hy))]
    omega
theorem has_ev (l : List Int) (x : Int) (hl : l.length ≤ 1048576) : Ev (fun k => laws_has.f k l x) (decide (x ∈ l)) := by
  unfold laws_has.f
  have key : ∀ j, j ≤ l.length → Ev (fun k => laws_has.l0 k l x (j : Int)) (decide (x ∈ l.drop j)) := by
    refine down l.length ?_ ?_
    · rw [List.drop_of_length_le (Nat.le_refl _)]
      refine Ev.step (f := fun _ => some false) (fun k => ?_) (ev_eq (Ev.now _) (by simp))
      simp only [laws_has.l0]
      rw [if_neg (by omega)]
    · intro j hj ih
      rw [List.drop_eq_getElem_cons hj]
      by_cases c : l[j] = x
      · refine Ev.step (f := fun _ => some true) (fun k => ?_) (ev_eq (Ev.now _) (by simp [c]))
        simp only [laws_has.l0]
        rw [if_pos (by omega), if_pos (by omega), rd_nat l j hj, if_pos c]
      · refine Ev.step (fun k => ?_) (ev_eq ih ?_)
        · simp only [laws_has.l0]
          rw [if_pos (by omega), if_pos (by omega), rd_nat l j hj, if_neg c, wsucc j (by omega)]
        · rw [decide_eq_decide, List.mem_cons]
          exact ⟨Or.inr, fun h => by rcases h with h | h; exact absurd h.symm c; exact h⟩
  exact key 0 (Nat.zero_le _)
theorem FnTills : laws_FnTills.Pure := by
  intro l _ _ hwf
  refine Ev.rounds (g := fun n => laws_FnTills.f n l) ?_
  unfold laws_FnTills.f laws_big.f
  simp only [Option.bind_some]
  by_cases hb : (l.length : Int) > 1048576
  · simp only [decide_eq_true hb, if_true]; exact Ev.now _
  simp only [decide_eq_false hb, Bool.false_eq_true, if_false]
  have hl : l.length ≤ 1048576 := by omega
  obtain ⟨s, es, hlen, hok⟩ := drawSlips_ev l hl
  obtain ⟨y, ey, y0, y1⟩ := at0_eq l hl (fun x hx => bounds_u8 (hwf x hx))
  have h3 : ∀ x, x ∈ s → slip3 x = true := fun x hx => by
    have := hok x hx
    unfold okDrawn at this
    rw [slip3_iff]; omega
  have htill : ∀ a : Int, 0 ≤ a → a ≤ 100000 → tillOk s a = true := fun a h0 h1 => by
    unfold tillOk
    rw [List.all_eq_true.2 h3, decide_eq_true (show s.length ≤ 60 by omega), inR_iff.2 ⟨h0, h1⟩]; rfl
  have hsum := sum_bound s hok
  have eL := impl_LowestTill_ev s
  have eT := impl_TillAfter_ev s
  have hLow : ∀ a : Int, 0 ≤ a → a ≤ 100000 → Ev (fun k => impl_LowestTill.f k s a) ((tills s 0 0).2 + a) := fun a h0 h1 => by
    have := eL a
    rw [if_pos (htill a h0 h1)] at this
    refine ev_eq this ?_
    have e := tills_shift s 0 0 a
    rwa [Int.zero_add] at e
  have hAft : ∀ a : Int, 0 ≤ a → a ≤ 100000 → Ev (fun k => impl_TillAfter.f k s a) (a + sumS s + sumD s) := fun a h0 h1 => by
    have := eT a
    rw [if_pos (htill a h0 h1)] at this
    exact ev_eq this (tills_fst s a a)
  have hb1 := tills_bound s 0 0 0 h3 (by omega) (by omega) (by omega) (by omega)
  have hlowb : -(10000 : Int) ≤ (tills s 0 0).2 := by
    have key : ∀ (r : List S33) (n low : Int), (∀ x ∈ r, okDrawn x) → -(1000 * (r.length : Int)) + mn low n ≤ (tills r n low).2 := by
      intro r
      induction r with
      | nil => intro n low _; simp only [tills, List.length_nil]; unfold mn; split <;> omega
      | cons x q ih =>
        intro n low h
        have hx := h x (List.mem_cons_self ..)
        unfold okDrawn at hx
        have := ih (n + x.f1 - x.f2) (mn low (n + x.f1 - x.f2)) (fun z hz => h z (List.mem_cons_of_mem _ hz))
        unfold tills
        rw [List.length_cons]
        have m1 : mn low n ≤ mn (mn low (n + x.f1 - x.f2)) (n + x.f1 - x.f2) + 1000 := by unfold mn; repeat' split
                                                                                          all_goals omega
        omega
    have := key s 0 0 hok
    unfold mn at this
    rw [if_neg (by omega)] at this
    omega
  have hlow2 := tills_low s 500 500 (Int.le_refl _)
  rw [show (tills s 500 500).2 = (tills s 0 0).2 + 500 by have e := tills_shift s 0 0 500; rwa [Int.zero_add] at e, tills_fst] at hlow2
  have hlow3 := hb1.2.2
  have eS := impl_LeastStart_ev s
  unfold leastSt at eS
  rw [if_pos (htill 0 (by omega) (by omega)), if_neg (by omega)] at eS
  have eW := impl_WrongSlips_ev s
  unfold wrongOf at eW
  rw [if_pos (by omega)] at eW
  have eM := impl_MissingMoney_ev s 500 (4 * y)
  unfold missMoney at eM
  rw [if_pos ⟨htill 500 (by omega) (by omega), inR_iff.2 (by omega)⟩, tills_fst] at eM
  have hWlen := wrongs_length s 0
  generalize (tills s 0 0).2 = low at hLow hlow2 hlow3 hlowb eS
  refine Ev.bind es ?_
  refine Ev.bind eS ?_
  refine Ev.bind eW ?_
  refine Ev.bind (hAft 500 (by omega) (by omega)) ?_
  simp only [if_neg (show ¬ -low < 0 by omega)]
  refine Ev.bind (hLow (-low) (by omega) (by omega)) ?_
  simp only [if_neg (show ¬ low + -low < 0 by omega)]
  have main : Ev (fun k => laws_FnTills.j0 k l s (wrongs s 0) (500 + sumS s + sumD s) (decide (low + 500 > 500))) true := by
    rw [decide_eq_false (show ¬ low + 500 > 500 by omega)]
    refine Ev.step (f := fun k => laws_FnTills.l0 k l s (wrongs s 0) (500 + sumS s + sumD s) 0 0 0) (fun k => ?_) ?_
    · simp only [laws_FnTills.j0, Bool.false_eq_true, if_false]
    have key : ∀ j, j ≤ s.length → ∀ a b : Int, (0 ≤ a ∧ a ≤ 1000 * (j : Int)) → (-(1000 * (j : Int)) ≤ b ∧ b ≤ 1000 * (j : Int)) → a + sumS (s.drop j) = sumS s → b + sumD (s.drop j) = sumD s →
        Ev (fun k => laws_FnTills.l0 k l s (wrongs s 0) (500 + sumS s + sumD s) a b (j : Int)) true := by
      refine down s.length ?_ ?_
      · intro a b ha hb' ea eb
        rw [List.drop_of_length_le (Nat.le_refl _)] at ea eb
        have ea' : a = sumS s := by simpa [sumS] using ea
        have eb' : b = sumD s := by simpa [sumD] using eb
        subst ea' eb'
        have ew : wrap64 ((wrap64 (500 + sumS s)) + sumD s) = 500 + sumS s + sumD s := by rw [w64 (x := 500 + sumS s) (by omega) (by omega), w64 (by omega) (by omega)]
        have ec : wrap64 (y * 4) = 4 * y := by rw [w64 (by omega) (by omega)]; omega
        have tail : Ev (fun k => (impl_MissingMoney.f k s 500 (4 * y)).bind fun t214 => (if t214 = (wrap64 ((500 + sumS s + sumD s) - (4 * y))) then ((impl_TillAfter.f k s 501).bind fun t215 => (if t215 = (wrap64 ((500 + sumS s + sumD s) + 1)) then ((impl_SlipOk.f 7 10 3).bind fun t216 => (some t216)) else (some false))) else (some false))) true := by
          refine Ev.bind eM ?_
          simp only [w64 (x := 500 + sumS s + sumD s - 4 * y) (by omega) (by omega), if_true]
          refine Ev.bind (hAft 501 (by omega) (by omega)) ?_
          rw [w64 (x := 500 + sumS s + sumD s + 1) (by omega) (by omega)]
          simp only [if_pos (show 501 + sumS s + sumD s = 500 + sumS s + sumD s + 1 by omega), impl_SlipOk_eq, Option.bind_some]
          exact ev_eq (Ev.now _) (by decide)
        by_cases hw : ((wrongs s 0).length : Int) > 0
        · refine Ev.step (fun k => ?_) tail
          simp only [laws_FnTills.l0]
          rw [if_neg (by omega), ey, Option.bind_some, if_pos ew.symm, if_pos hw, ec]
        · have hz : sumD s = 0 := sumD_zero s (wrongs_nil s 0 (List.eq_nil_of_length_eq_zero (by omega)))
          refine Ev.step (fun k => ?_) tail
          simp only [laws_FnTills.l0]
          rw [if_neg (by omega), ey, Option.bind_some, if_pos ew.symm, if_neg hw, if_pos hz, ec]
      · intro j hj ih a b ha hb' ea eb
        rw [List.drop_eq_getElem_cons hj] at ea eb
        simp only [sumS] at ea
        simp only [sumD] at eb
        have hx := hok _ (List.getElem_mem hj)
        unfold okDrawn at hx
        have hmem := wrongs_mem s 0 j hj
        rw [Nat.zero_add] at hmem
        have hdec : decide (((j : Nat) : Int) ∈ wrongs s 0) = !(slipOk s[j].f0 s[j].f1 s[j].f2) := by
          cases hsl : slipOk s[j].f0 s[j].f1 s[j].f2
          · rw [decide_eq_true (hmem.2 hsl)]; rfl
          · rw [decide_eq_false (fun q => by rw [hmem.1 q] at hsl; cases hsl)]; rfl
        refine Ev.step (f := fun k => (laws_has.f k (wrongs s 0) (j : Int)).bind fun t206 => (if 0 ≤ (j : Int) then ((impl_SlipOk.f s[j].f0 s[j].f1 s[j].f2).bind fun t208 => (if (t206 != (!t208)) = true then (some false) else (laws_FnTills.l0 k l s (wrongs s 0) (500 + sumS s + sumD s) (a + s[j].f0) (b + s[j].f1 - s[j].f2 - s[j].f0) ((j + 1 : Nat) : Int)))) else (none))) (fun k => ?_) (Ev.bind (has_ev _ _ (by omega)) ?_)
        · simp only [laws_FnTills.l0]
          rw [if_pos (by omega), rdSlip_nat s j hj, w64 (x := a + s[j].f0) (by omega) (by omega), w64 (x := b + s[j].f1) (by omega) (by omega), w64 (x := b + s[j].f1 - s[j].f2) (by omega) (by omega), w64 (x := b + s[j].f1 - s[j].f2 - s[j].f0) (by omega) (by omega), wsucc j (by omega)]
        · rw [hdec]
          simp only [if_pos (show (0 : Int) ≤ (j : Int) by omega), impl_SlipOk_eq, Option.bind_some, bne_self_eq_false, Bool.false_eq_true, if_false]
          exact ih _ _ (by omega) (by omega) (by omega) (by omega)
    exact key 0 (Nat.zero_le _) 0 0 (by omega) (by omega) (by rw [List.drop_zero]; omega) (by rw [List.drop_zero]; omega)
  have rest : Ev (fun k => (impl_LowestTill.f k s 500).bind fun t204 => (if t204 > 500 + sumS s + sumD s then (laws_FnTills.j0 k l s (wrongs s 0) (500 + sumS s + sumD s) true) else ((impl_LowestTill.f k s 500).bind fun t205 => (laws_FnTills.j0 k l s (wrongs s 0) (500 + sumS s + sumD s) (decide (t205 > 500)))))) true := by
    refine Ev.bind (hLow 500 (by omega) (by omega)) ?_
    simp only [if_neg (show ¬ low + 500 > 500 + sumS s + sumD s by omega)]
    exact Ev.bind (hLow 500 (by omega) (by omega)) main
  by_cases hp : -low > 0
  · simp only [if_pos hp, w64 (x := -low - 1) (by omega) (by omega)]
    refine Ev.bind (hLow (-low - 1) (by omega) (by omega)) ?_
    simp only [if_neg (show ¬ low + (-low - 1) ≥ 0 by omega)]
    exact rest
  · simp only [if_neg hp]
    exact rest
end Go.Proofs.Ytnlioefgpgamdaa.Pure
