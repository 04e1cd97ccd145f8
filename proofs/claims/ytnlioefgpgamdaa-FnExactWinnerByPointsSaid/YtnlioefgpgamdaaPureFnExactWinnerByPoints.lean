/- What FnExactWinnerByPoints computes answers as the law says: over numbers and lists alone; there are no conditions but those of the statement. -/
import Derived.Test.YtnlioefgpgamdaaQ0
import Derived.Test.YtnlioefgpgamdaaQ6
import Derived.Test.YtnlioefgpgamdaaQ9
import Derived.Test.YtnlioefgpgamdaaQ16
import Derived.Test.YtnlioefgpgamdaaQ26
import Derived.Test.YtnlioefgpgamdaaQ27
import Derived.Test.YtnlioefgpgamdaaQ28
import Derived.Test.YtnlioefgpgamdaaQ29
namespace Go.Proofs.Ytnlioefgpgamdaa.Pure
open Go.RowKit Go.Proofs.Ytnlioefgpgamdaa.Q Go.Proofs.YtnlioefgpgamdaaW.PrintWords Go.Proofs.YtnlioefgpgamdaaW.PrintLast Go.Proofs.YtnlioefgpgamdaaW.PrintMore
set_option linter.unusedVariables false
set_option linter.unusedSimpArgs false
theorem w64 {x : Int} (h0 : -9223372036854775808 ≤ x) (h1 : x ≤ 9223372036854775807) : wrap64 x = x := by
  unfold wrap64
  omega
theorem down {Q : Nat → Prop} (n : Nat) (fin : Q n) (step : ∀ j, j < n → Q (j + 1) → Q j) : ∀ j, j ≤ n → Q j := by
  intro j hj
  obtain ⟨d, hd⟩ : ∃ d, j + d = n := ⟨n - j, by omega⟩
  clear hj
  induction d generalizing j with
  | zero => have : j = n := by omega
            rw [this]; exact fin
  | succ d ih => exact step j (by omega) (ih (j + 1) (by omega))
theorem wsucc (j : Nat) (h : j < 9223372036854775807) : wrap64 ((j : Int) + 1) = ((j + 1 : Nat) : Int) := by
  rw [w64 (by omega) (by omega)]; omega
theorem rd_nat (l : List Int) (j : Nat) (h : j < l.length) : rd l (j : Int) = l[j] := by
  unfold rd; rw [Int.toNat_natCast, List.getD_eq_getElem?_getD, List.getElem?_eq_getElem h]; rfl
theorem rd_lit (l : List Int) (i : Int) : rd l i = l.getD i.toNat 0 := rfl
theorem all_drop_cons {α : Type} (p : α → Bool) (l : List α) (j : Nat) (h : j < l.length) : (l.drop j).all p = (p l[j] && (l.drop (j + 1)).all p) := by
  rw [List.drop_eq_getElem_cons h, List.all_cons]
theorem all_drop_len {α : Type} (p : α → Bool) (l : List α) : (l.drop l.length).all p = true := by simp
theorem ev_some {α : Type} (r : α) : Ev (fun _ => some r) r := Ev.now r
theorem ev_pt {α : Type} {g : Option α} {r : α} (h : g = some r) : Ev (fun _ => g) r := ⟨0, fun _ _ => h⟩
theorem ev_eq {α : Type} {g : Nat → Option α} {r r' : α} (h : Ev g r) (e : r = r') : Ev g r' := e ▸ h
theorem sub_len (l : List Int) : ∀ (m : List Int), l.Nodup → (∀ x ∈ l, x ∈ m) → l.length ≤ m.length := by
  induction l with
  | nil => intro m _ _; simp
  | cons a t ih =>
    intro m hd hs
    rw [List.nodup_cons] at hd
    have ha : a ∈ m := hs a (List.mem_cons_self ..)
    have h1 := ih (m.erase a) hd.2 (fun x hx => (List.mem_erase_of_ne (fun e => hd.1 (by rw [← e]; exact hx))).2 (hs x (List.mem_cons_of_mem _ hx)))
    rw [List.length_erase_of_mem ha] at h1
    have := List.length_pos_of_mem ha
    rw [List.length_cons]; omega
theorem sub_nodup (l : List Int) : ∀ (m : List Int), l.Nodup → (∀ x ∈ l, x ∈ m) → m.length ≤ l.length → m.Nodup := by
  induction l with
  | nil => intro m _ _ h; have : m = [] := List.eq_nil_of_length_eq_zero (by simpa using h); rw [this]; exact List.nodup_nil
  | cons a t ih =>
    intro m hd hs hl
    have hd0 := hd
    rw [List.nodup_cons] at hd
    have ha : a ∈ m := hs a (List.mem_cons_self ..)
    have hsub : ∀ x ∈ t, x ∈ m.erase a := fun x hx => (List.mem_erase_of_ne (fun e => hd.1 (by rw [← e]; exact hx))).2 (hs x (List.mem_cons_of_mem _ hx))
    have hle := List.length_erase_of_mem ha
    have hp := List.length_pos_of_mem ha
    rw [List.length_cons] at hl
    have h2 := ih (m.erase a) hd.2 hsub (by omega)
    rw [(List.perm_cons_erase ha).nodup_iff, List.nodup_cons]
    refine ⟨fun hin => ?_, h2⟩
    have := sub_len (a :: t) (m.erase a) hd0 (fun x hx => by
      rcases List.mem_cons.1 hx with rfl | hx
      · exact hin
      · exact hsub x hx)
    rw [List.length_cons] at this; omega
def rng (n : Nat) : List Int := (List.range n).map fun (i : Nat) => (i : Int)
theorem rng_mem (n : Nat) (x : Int) : x ∈ rng n ↔ 0 ≤ x ∧ x < n := by
  unfold rng
  rw [List.mem_map]
  constructor
  · rintro ⟨i, hi, rfl⟩; rw [List.mem_range] at hi; omega
  · rintro ⟨h0, h1⟩; exact ⟨x.toNat, by rw [List.mem_range]; omega, by omega⟩
theorem rng_nodup (n : Nat) : (rng n).Nodup := by
  unfold rng
  rw [List.Nodup, List.pairwise_map]
  exact List.nodup_range.imp (fun h e => h (by omega))
theorem rng_len (n : Nat) : (rng n).length = n := by simp [rng]
theorem full_iff (n : Nat) (v : List Int) (hl : v.length = n) (hr : ∀ x ∈ v, 0 ≤ x ∧ x < (n : Int)) : v.Nodup ↔ ∀ i : Nat, i < n → (i : Int) ∈ v := by
  constructor
  · intro hd i hi
    by_cases h : (i : Int) ∈ v
    · exact h
    · exfalso
      have hm : (i : Int) ∈ rng n := (rng_mem n _).2 (by omega)
      have := sub_len v ((rng n).erase (i : Int)) hd (fun x hx => (List.mem_erase_of_ne (fun e => h (by rw [← e]; exact hx))).2 ((rng_mem n x).2 (hr x hx)))
      rw [List.length_erase_of_mem hm, rng_len] at this
      omega
  · intro h
    exact sub_nodup (rng n) v (rng_nodup n) (fun x hx => by
      have := (rng_mem n x).1 hx
      have h2 := h x.toNat (by omega)
      rwa [Int.toNat_of_nonneg this.1] at h2) (by rw [rng_len]; omega)
/-- A list's entries as bits, beside some that are there. -/
def setF (v : List Int) (s : Nat) : Nat := v.foldl (fun s x => s ||| 1 <<< x.toNat) s
theorem setF_bit (v : List Int) : ∀ (s i : Nat), (∀ x ∈ v, 0 ≤ x) → (setF v s).testBit i = (s.testBit i || decide ((i : Int) ∈ v)) := by
  unfold setF
  induction v with
  | nil => intro s i _; simp
  | cons x r ih =>
    intro s i h
    rw [List.foldl_cons, ih _ _ (fun y hy => h y (List.mem_cons_of_mem _ hy)), Nat.testBit_or, Nat.one_shiftLeft, Nat.testBit_two_pow]
    have := h x (List.mem_cons_self ..)
    have e : decide (x.toNat = i) = decide ((i : Int) = x) := by rw [decide_eq_decide]; omega
    rw [e, Bool.or_assoc]
    congr 1
    rw [Bool.eq_iff_iff]; simp
theorem setF_full (n : Nat) (v : List Int) (hr : ∀ x ∈ v, 0 ≤ x ∧ x < (n : Int)) : setF v 0 = 2 ^ n - 1 ↔ ∀ i : Nat, i < n → (i : Int) ∈ v := by
  have hb := fun i => setF_bit v 0 i (fun x hx => (hr x hx).1)
  constructor
  · intro h i hi
    have := hb i
    rw [h, Nat.testBit_two_pow_sub_one] at this
    simpa [hi] using this.symm
  · intro h
    apply Nat.eq_of_testBit_eq
    intro i
    rw [Nat.testBit_two_pow_sub_one, hb i]
    simp only [Nat.zero_testBit, Bool.false_or]
    rw [decide_eq_decide]
    exact ⟨fun hm => by have := (hr _ hm).2; omega, h i⟩
def inR (lo hi n : Int) : Bool := decide (lo ≤ n ∧ n ≤ hi)
theorem l01In_eq (a b c : Int) : spec_l01In.f a b c = some (inR b c a) := by
  unfold spec_l01In.f inR
  by_cases h : b ≤ a
  · rw [if_pos h]; simp [h]
  · rw [if_neg h]; simp [h]
/-- Is a list an order of the numbers from 0 to below n? -/
def ordB (n : Int) (v : List Int) : Bool := decide ((v.length : Int) = n) && (v.all (inR 0 (wrap64 (n - 1))) && decide v.Nodup)
theorem ordB_mem {n : Nat} (hn : 1 ≤ n) (hn6 : n ≤ 6) {v : List Int} (h : ordB n v = true) : v.length = n ∧ (∀ x ∈ v, 0 ≤ x ∧ x < (n : Int)) ∧ ∀ x : Int, 0 ≤ x → x < n → x ∈ v := by
  unfold ordB at h
  simp only [Bool.and_eq_true, decide_eq_true_eq, List.all_eq_true] at h
  obtain ⟨h1, h2, h3⟩ := h
  have e : wrap64 ((n : Int) - 1) = n - 1 := w64 (by omega) (by omega)
  have h4 : ∀ x ∈ v, 0 ≤ x ∧ x < (n : Int) := fun x hx => by
    have := h2 x hx
    unfold inR at this
    rw [e, decide_eq_true_eq] at this
    omega
  refine ⟨by omega, h4, fun x h0 h1' => ?_⟩
  have := (full_iff n v (by omega) h4).1 h3 x.toNat (by omega)
  rwa [Int.toNat_of_nonneg h0] at this
def idxF (a : Int) : List Int → Nat → Int
  | [], _ => -1
  | x :: r, j => if a = x then (j : Int) else idxF a r (j + 1)
theorem idxF_mem (a : Int) : ∀ (l : List Int) (j : Nat), a ∈ l → (j : Int) ≤ idxF a l j
  | [], _, h => by cases h
  | x :: r, j, h => by
    unfold idxF
    by_cases e : a = x
    · rw [if_pos e]; exact Int.le_refl _
    · rw [if_neg e]
      have := idxF_mem a r (j + 1) (by rcases List.mem_cons.1 h with h | h; exact absurd h e; exact h)
      omega
theorem idxF_not (a : Int) : ∀ (l : List Int) (j : Nat), a ∉ l → idxF a l j = -1
  | [], _, _ => rfl
  | x :: r, j, h => by
    unfold idxF
    rw [List.mem_cons, not_or] at h
    rw [if_neg h.1]; exact idxF_not a r (j + 1) h.2
/-- Is one before another in a list? -/
def pref (a b : Int) : List Int → Int
  | [] => 0
  | x :: r => if x = a then 1 else if x = b then 0 else pref a b r
theorem pref_idx (a b : Int) (hab : a ≠ b) : ∀ (l : List Int) (j : Nat), a ∈ l → b ∈ l → pref a b l = if idxF a l j < idxF b l j then 1 else 0
  | [], _, h, _ => by cases h
  | x :: r, j, ha, hb => by
    unfold idxF pref
    by_cases e1 : x = a
    · have e2 : ¬ b = x := fun e => hab (e1 ▸ e.symm)
      have := idxF_mem b r (j + 1) (by rcases List.mem_cons.1 hb with h | h; exact absurd h e2; exact h)
      rw [if_pos e1, if_pos e1.symm, if_neg e2, if_pos (by omega)]
    · have e1' : ¬ a = x := fun e => e1 e.symm
      have ha' : a ∈ r := by rcases List.mem_cons.1 ha with h | h; exact absurd h e1'; exact h
      rw [if_neg e1, if_neg e1']
      by_cases e2 : x = b
      · have := idxF_mem a r (j + 1) ha'
        rw [if_pos e2, if_pos e2.symm, if_neg (by omega)]
      · have e2' : ¬ b = x := fun e => e2 e.symm
        rw [if_neg e2, if_neg e2']
        exact pref_idx a b hab r (j + 1) ha' (by rcases List.mem_cons.1 hb with h | h; exact absurd h e2'; exact h)
theorem pref_01 (a b : Int) : ∀ l : List Int, pref a b l = 0 ∨ pref a b l = 1
  | [] => Or.inl rfl
  | x :: r => by
    unfold pref
    split
    · exact Or.inr rfl
    · split
      · exact Or.inl rfl
      · exact pref_01 a b r
def prefs (a b : Int) : List (List Int) → Int
  | [] => 0
  | v :: r => pref a b v + prefs a b r
theorem prefs_le (a b : Int) : ∀ l : List (List Int), 0 ≤ prefs a b l ∧ prefs a b l ≤ l.length
  | [] => ⟨Int.le_refl _, Int.le_refl _⟩
  | v :: r => by
    have h1 := prefs_le a b r
    have h2 := pref_01 a b v
    unfold prefs
    rw [List.length_cons]
    omega
/-- Have more than half of the votes one before another? -/
def winB (l : List (List Int)) (a b : Int) : Bool := decide (2 * prefs a b l > (l.length : Int))
def votesB (l : List (List Int)) (n : Int) : Bool := inR 1 6 n && (inR 1 15 (l.length : Int) && l.all (ordB n))
theorem votesB_iff {l : List (List Int)} {n : Int} (h : votesB l n = true) : ∃ m : Nat, n = m ∧ 1 ≤ m ∧ m ≤ 6 ∧ 1 ≤ l.length ∧ l.length ≤ 15 ∧ ∀ v ∈ l, ordB m v = true := by
  unfold votesB inR at h
  simp only [Bool.and_eq_true, decide_eq_true_eq, List.all_eq_true] at h
  obtain ⟨h1, h2, h3⟩ := h
  refine ⟨n.toNat, by omega, by omega, by omega, by omega, by omega, fun v hv => ?_⟩
  rw [Int.toNat_of_nonneg (by omega)]; exact h3 v hv
theorem rdL3_nat (l : List (List Int)) (j : Nat) (h : j < l.length) : rd_L3 l (j : Int) = l[j] := by
  unfold rd_L3; rw [Int.toNat_natCast, List.getD_eq_getElem?_getD, List.getElem?_eq_getElem h]; rfl
theorem or_bit : ∀ s : Fin 64, ∀ x : Fin 6, Go.bits .or .i64 (s.val : Int) (shl .i64 1 (x.val : Int)) = ((s.val ||| 1 <<< x.val : Nat) : Int) ∧ s.val ||| 1 <<< x.val < 64 := by decide +kernel
theorem full_bit : ∀ n : Fin 7, wrap64 ((shl .i64 1 (n.val : Int)) - 1) = ((2 ^ n.val - 1 : Nat) : Int) := by decide +kernel
theorem sVotesOk_ev (l : List (List Int)) (n : Int) (hl : l.length ≤ 1048576) (hr : ∀ v ∈ l, v.length ≤ 1048576) : Ev (fun k => spec_VotesOk.f k l n) (votesB l n) := by
  unfold spec_VotesOk.f votesB
  simp only [l01In_eq, Option.bind_some]
  by_cases h1 : inR 1 6 n = true
  case neg =>
    simp only [h1, Bool.false_eq_true, if_false, Bool.false_and]
    refine Ev.step (f := fun _ => some false) (fun k => ?_) (Ev.now _)
    simp only [spec_VotesOk.j0, if_true]
  by_cases h2 : inR 1 15 (l.length : Int) = true
  case neg =>
    simp only [h1, h2, Bool.false_eq_true, if_true, if_false, Bool.false_and, Bool.and_false, Bool.not_false]
    refine Ev.step (f := fun _ => some false) (fun k => ?_) (Ev.now _)
    simp only [spec_VotesOk.j0, if_true]
  simp only [h1, h2, if_true, Bool.true_and, Bool.not_true]
  unfold inR at h1
  rw [decide_eq_true_eq] at h1
  obtain ⟨m, rfl⟩ : ∃ m : Nat, n = m := ⟨n.toNat, by omega⟩
  have ew : wrap64 ((m : Int) - 1) = m - 1 := w64 (by omega) (by omega)
  refine Ev.step (f := fun k => spec_VotesOk.l0 k l (m : Int) 0) (fun k => ?_) ?_
  · simp only [spec_VotesOk.j0, Bool.false_eq_true, if_false]
  have key : ∀ i, i ≤ l.length → Ev (fun k => spec_VotesOk.l0 k l (m : Int) (i : Int)) ((l.drop i).all (ordB m)) := by
    refine down l.length ?_ ?_
    · rw [all_drop_len]
      refine Ev.step (f := fun _ => some true) (fun k => ?_) (Ev.now _)
      simp only [spec_VotesOk.l0]
      rw [if_neg (by omega)]
    · intro i hi ih
      rw [all_drop_cons _ l i hi]
      have hv := hr l[i] (List.getElem_mem hi)
      refine Ev.step (f := fun k => spec_VotesOk.l1 k l (m : Int) (i : Int) 0 0) (fun k => ?_) ?_
      · simp only [spec_VotesOk.l0]
        rw [if_pos (by omega)]
      have row : ∀ j, j ≤ l[i].length → ∀ s : Nat, s < 64 → Ev (fun k => spec_VotesOk.l1 k l (m : Int) (i : Int) (s : Int) (j : Int))
          ((l[i].drop j).all (inR 0 ((m : Int) - 1)) && (decide (l[i].length = m) && decide (setF (l[i].drop j) s = 2 ^ m - 1)) && (l.drop (i + 1)).all (ordB m)) := by
        refine down l[i].length ?_ ?_
        · intro s hs
          rw [all_drop_len, List.drop_of_length_le (Nat.le_refl _)]
          have e0 : setF [] s = s := rfl
          rw [e0, Bool.true_and]
          have ef := full_bit ⟨m, by omega⟩
          simp only at ef
          by_cases c1 : l[i].length = m
          · by_cases c2 : s = 2 ^ m - 1
            · rw [decide_eq_true c1, decide_eq_true c2, Bool.true_and, Bool.true_and]
              refine Ev.step (fun k => ?_) ih
              simp only [spec_VotesOk.l1]
              rw [rdL3_nat l i hi, if_pos (by omega), if_pos (by omega), if_neg (by omega), if_pos (by omega), if_pos (by omega), ef, if_pos (by rw [c2]), wsucc i (by omega)]
            · rw [decide_eq_false c2, Bool.and_false, Bool.false_and]
              refine Ev.step (f := fun _ => some false) (fun k => ?_) (Ev.now _)
              simp only [spec_VotesOk.l1]
              rw [rdL3_nat l i hi, if_pos (by omega), if_pos (by omega), if_neg (by omega), if_pos (by omega), if_pos (by omega), ef, if_neg (by omega)]
          · rw [decide_eq_false c1, Bool.false_and, Bool.false_and]
            refine Ev.step (f := fun _ => some false) (fun k => ?_) (Ev.now _)
            simp only [spec_VotesOk.l1]
            rw [rdL3_nat l i hi, if_pos (by omega), if_pos (by omega), if_neg (by omega), if_neg (by omega)]
        · intro j hj ih2 s hs
          rw [List.drop_eq_getElem_cons hj, List.all_cons]
          by_cases c : inR 0 ((m : Int) - 1) (l[i])[j] = true
          · have c' := c
            unfold inR at c'
            rw [decide_eq_true_eq] at c'
            have eb := or_bit ⟨s, hs⟩ ⟨((l[i])[j]).toNat, by omega⟩
            simp only [Int.toNat_of_nonneg c'.1] at eb
            have := ih2 (s ||| 1 <<< ((l[i])[j]).toNat) eb.2
            rw [c, Bool.true_and]
            refine Ev.step (fun k => ?_) this
            simp only [spec_VotesOk.l1]
            rw [rdL3_nat l i hi, if_pos (by omega), if_pos (by omega), if_pos (by omega), if_pos (by omega), rd_nat _ j hj, l01In_eq, ew, Option.bind_some, if_pos c, if_pos c'.1, eb.1, wsucc j (by omega)]
          · rw [Bool.not_eq_true] at c
            rw [c, Bool.false_and, Bool.false_and, Bool.false_and]
            refine Ev.step (f := fun _ => some false) (fun k => ?_) (Ev.now _)
            simp only [spec_VotesOk.l1]
            rw [rdL3_nat l i hi, if_pos (by omega), if_pos (by omega), if_pos (by omega), if_pos (by omega), rd_nat _ j hj, l01In_eq, ew, Option.bind_some, if_neg (by rw [c]; decide)]
      refine ev_eq (row 0 (Nat.zero_le _) 0 (by decide)) ?_
      congr 1
      rw [List.drop_zero]
      unfold ordB
      rw [ew, Bool.eq_iff_iff]
      simp only [Bool.and_eq_true, decide_eq_true_eq, List.all_eq_true]
      constructor
      · rintro ⟨q1, q2, q3⟩
        have q4 : ∀ x ∈ l[i], 0 ≤ x ∧ x < (m : Int) := fun x hx => by
          have := q1 x hx; unfold inR at this; rw [decide_eq_true_eq] at this; omega
        exact ⟨by omega, q1, (full_iff m l[i] q2 q4).2 ((setF_full m l[i] q4).1 q3)⟩
      · rintro ⟨q2, q1, q3⟩
        have q4 : ∀ x ∈ l[i], 0 ≤ x ∧ x < (m : Int) := fun x hx => by
          have := q1 x hx; unfold inR at this; rw [decide_eq_true_eq] at this; omega
        exact ⟨q1, by omega, (setF_full m l[i] q4).2 ((full_iff m l[i] (by omega) q4).1 q3)⟩
  exact key 0 (Nat.zero_le _)
theorem sIndex_ev (l : List Int) (a : Int) (hl : l.length ≤ 1048576) : Ev (fun k => slices_Index_int_int.f k l a) (idxF a l 0) := by
  unfold slices_Index_int_int.f
  have key : ∀ j, j ≤ l.length → Ev (fun k => slices_Index_int_int.l0 k l a (l.length : Int) (j : Int)) (idxF a (l.drop j) j) := by
    refine down l.length ?_ ?_
    · refine Ev.step (f := fun _ => some (-1)) (fun k => ?_) (ev_eq (Ev.now _) ?_)
      · simp only [slices_Index_int_int.l0]
        rw [if_neg (by omega)]
      · rw [List.drop_of_length_le (Nat.le_refl _)]; rfl
    · intro j hj ih
      rw [List.drop_eq_getElem_cons hj]
      unfold idxF
      by_cases e : a = l[j]
      · rw [if_pos e]
        refine Ev.step (f := fun _ => some (j : Int)) (fun k => ?_) (Ev.now _)
        simp only [slices_Index_int_int.l0]
        rw [if_pos (by omega), if_pos (by omega), if_pos (by omega), rd_nat l j hj, if_pos e]
      · rw [if_neg e]
        refine Ev.step (fun k => ?_) ih
        simp only [slices_Index_int_int.l0]
        rw [if_pos (by omega), if_pos (by omega), if_pos (by omega), rd_nat l j hj, if_neg e, wsucc j (by omega)]
  exact key 0 (Nat.zero_le _)
theorem sContains_ev (l : List Int) (a : Int) (hl : l.length ≤ 1048576) : Ev (fun k => slices_Contains_int_int.f k l a) (decide (a ∈ l)) := by
  unfold slices_Contains_int_int.f
  refine Ev.bind (sIndex_ev l a hl) (ev_eq (Ev.now _) ?_)
  rw [decide_eq_decide]
  by_cases h : a ∈ l
  · have := idxF_mem a l 0 h
    exact ⟨fun _ => h, fun _ => by omega⟩
  · rw [idxF_not a l 0 h]
    exact ⟨fun q => absurd q (by decide), fun q => absurd q h⟩
theorem in_eq (a b c : Int) : impl_in.f a b c = some (inR b c a) := by
  unfold impl_in.f inR
  by_cases h : b ≤ a
  · rw [if_pos h]; simp [h]
  · rw [if_neg h]; simp [h]
theorem isOrder_ev (v : List Int) (n : Int) (hl : v.length ≤ 1048576) : Ev (fun k => impl_isOrder.f k v n) (ordB n v) := by
  unfold impl_isOrder.f
  have key : ∀ j, j ≤ v.length → ∃ b, Ev (fun k => impl_isOrder.l0 k v n v (v.length : Int) (j : Int)) b ∧ (b = true ↔ (v.length : Int) = n ∧ ∀ i (h : i < v.length), j ≤ i → inR 0 (wrap64 (n - 1)) v[i] = true ∧ v[i] ∉ v.take i) := by
    refine down v.length ?_ ?_
    · refine ⟨(v.length : Int) == n, Ev.step (f := fun _ => some _) (fun k => ?_) (Ev.now _), ?_⟩
      · simp only [impl_isOrder.l0]
        rw [if_neg (by omega)]
      · rw [beq_iff_eq]
        exact ⟨fun h => ⟨h, fun i hi hj => absurd hi (by omega)⟩, fun h => h.1⟩
    · intro j hj ih
      obtain ⟨b, hb, hiff⟩ := ih
      by_cases h1 : inR 0 (wrap64 (n - 1)) v[j] = true
      · have hc := sContains_ev (v.take j) v[j] (by rw [List.length_take]; omega)
        by_cases h2 : v[j] ∈ v.take j
        · refine ⟨false, Ev.step (f := fun k => (slices_Contains_int_int.f k (v.take j) v[j]).bind fun t => if t = true then some false else impl_isOrder.l0 k v n v (v.length : Int) ((j + 1 : Nat) : Int)) (fun k => ?_) (Ev.bind hc ?_), ⟨fun q => (by cases q), fun q => absurd h2 (q.2 j hj (Nat.le_refl _)).2⟩⟩
          · simp only [impl_isOrder.l0]
            rw [if_pos (by omega), if_pos (by omega), if_pos (by omega), rd_nat v j hj, in_eq, Option.bind_some, if_pos h1, if_pos (by omega), Int.toNat_natCast, wsucc j (by omega)]
          · simp only [h2, decide_true, if_true]; exact Ev.now _
        · refine ⟨b, Ev.step (f := fun k => (slices_Contains_int_int.f k (v.take j) v[j]).bind fun t => if t = true then some false else impl_isOrder.l0 k v n v (v.length : Int) ((j + 1 : Nat) : Int)) (fun k => ?_) (Ev.bind hc ?_), ?_⟩
          · simp only [impl_isOrder.l0]
            rw [if_pos (by omega), if_pos (by omega), if_pos (by omega), rd_nat v j hj, in_eq, Option.bind_some, if_pos h1, if_pos (by omega), Int.toNat_natCast, wsucc j (by omega)]
          · simp only [h2, decide_false, Bool.false_eq_true, if_false]; exact hb
          · rw [hiff]
            refine ⟨fun q => ⟨q.1, fun i hi hji => ?_⟩, fun q => ⟨q.1, fun i hi hji => q.2 i hi (by omega)⟩⟩
            by_cases e : i = j
            · subst e; exact ⟨h1, h2⟩
            · exact q.2 i hi (by omega)
      · refine ⟨false, Ev.step (f := fun _ => some false) (fun k => ?_) (Ev.now _), ⟨fun q => (by cases q), fun q => absurd (q.2 j hj (Nat.le_refl _)).1 h1⟩⟩
        simp only [impl_isOrder.l0]
        rw [if_pos (by omega), if_pos (by omega), if_pos (by omega), rd_nat v j hj, in_eq, Option.bind_some, if_neg h1]
  obtain ⟨b, hb, hiff⟩ := key 0 (Nat.zero_le _)
  refine ev_eq hb ?_
  rw [Bool.eq_iff_iff, hiff]
  unfold ordB
  simp only [Bool.and_eq_true, decide_eq_true_eq, List.all_eq_true]
  constructor
  · rintro ⟨h1, h2⟩
    refine ⟨h1, fun x hx => ?_, ?_⟩
    · obtain ⟨i, hi, rfl⟩ := List.getElem_of_mem hx
      exact (h2 i hi (Nat.zero_le _)).1
    · rw [List.Nodup, List.pairwise_iff_getElem]
      intro i j hi hj hij e
      exact (h2 j hj (Nat.zero_le _)).2 (by rw [← e, List.mem_take_iff_getElem]; exact ⟨i, by omega, rfl⟩)
  · rintro ⟨h1, h2, h3⟩
    refine ⟨h1, fun i hi _ => ⟨h2 _ (List.getElem_mem hi), fun hm => ?_⟩⟩
    rw [List.mem_take_iff_getElem] at hm
    obtain ⟨j, hj, e⟩ := hm
    rw [List.Nodup, List.pairwise_iff_getElem] at h3
    exact h3 j i (by omega) hi (by omega) e
theorem ev_all (l : List (List Int)) (n : Int) (hr : ∀ v ∈ l, v.length ≤ 1048576) : ∃ K, ∀ k, K ≤ k → ∀ v ∈ l, impl_isOrder.f k v n = some (ordB n v) := by
  induction l with
  | nil => exact ⟨0, fun k _ v hv => by cases hv⟩
  | cons x r ih =>
    obtain ⟨K1, h1⟩ := ih (fun v hv => hr v (List.mem_cons_of_mem _ hv))
    obtain ⟨K2, h2⟩ := isOrder_ev x n (hr x (List.mem_cons_self ..))
    refine ⟨max K1 K2, fun k hk v hv => ?_⟩
    rcases List.mem_cons.1 hv with rfl | hv
    · exact h2 k (by omega)
    · exact h1 k (by omega) v hv
theorem iVotesOk_ev (l : List (List Int)) (n : Int) (hr : ∀ v ∈ l, v.length ≤ 1048576) : Ev (fun k => impl_VotesOk.f k l n) (votesB l n) := by
  obtain ⟨K, hK⟩ := ev_all l n hr
  refine ⟨K, fun k hk => ?_⟩
  have h := hK k hk
  show impl_VotesOk.f k l n = some (votesB l n)
  unfold impl_VotesOk.f
  rw [if_pos (by rw [List.all_eq_true]; intro v hv; rw [h v hv]; rfl)]
  unfold votesB inR
  have e : l.all (fun v => (impl_isOrder.f k v n).getD false) = l.all (ordB n) := by
    rw [Bool.eq_iff_iff, List.all_eq_true, List.all_eq_true]
    exact ⟨fun q v hv => by have := q v hv; rw [h v hv] at this; exact this, fun q v hv => by rw [h v hv]; exact q v hv⟩
  rw [e, Bool.and_assoc]
def ptsRow (m : Int) : List Int → List Int → Nat → List Int
  | p, [], _ => p
  | p, x :: r, k => ptsRow m (p.set x.toNat (wrap64 (rd p x + wrap64 (wrap64 (m - 1) - (k : Int))))) r (k + 1)
theorem ptsRow_len (m : Int) : ∀ (v p : List Int) (k : Nat), (ptsRow m p v k).length = p.length
  | [], _, _ => rfl
  | x :: r, p, k => by unfold ptsRow; rw [ptsRow_len m r, List.length_set]
def pts (m : Int) : List Int → List (List Int) → List Int
  | p, [] => p
  | p, v :: r => pts m (ptsRow m p v 0) r
theorem pts_len (m : Int) : ∀ (l : List (List Int)) (p : List Int), (pts m p l).length = p.length
  | [], _ => rfl
  | v :: r, p => by unfold pts; rw [pts_len m r, ptsRow_len]
theorem pts_wrap (a m k : Int) : wrap64 ((wrap64 ((wrap64 (a + m)) - 1)) - k) = wrap64 (a + wrap64 (wrap64 (m - 1) - k)) := by
  unfold wrap64
  omega
theorem sPoints_ev (l : List (List Int)) (m : Nat) (hl : l.length ≤ 1048576) (hr : ∀ v ∈ l, v.length ≤ 1048576) (hv : votesB l m = true) : Ev (fun k => spec_PointsOf.f k l (m : Int)) (pts m (List.replicate m 0) l) := by
  obtain ⟨m', em, h1, h6, hl1, hl2, hord⟩ := votesB_iff hv
  obtain rfl : m = m' := by omega
  unfold spec_PointsOf.f
  refine Ev.bind (sVotesOk_ev l m hl hr) ?_
  simp only [if_pos hv, if_pos (show (0 : Int) ≤ (m : Int) by omega), Int.toNat_natCast, if_pos (show m ≤ 35184372088832 by omega)]
  have key : ∀ i, i ≤ l.length → ∀ p : List Int, p.length = m → Ev (fun k => spec_PointsOf.l0 k l (m : Int) p (i : Int)) (pts m p (l.drop i)) := by
    refine down l.length ?_ ?_
    · intro p _
      rw [List.drop_of_length_le (Nat.le_refl _)]
      refine Ev.step (f := fun _ => some p) (fun k => ?_) (Ev.now _)
      simp only [spec_PointsOf.l0]
      rw [if_neg (by omega)]
    · intro i hi ih p hp
      obtain ⟨hlen, hrange, _⟩ := ordB_mem h1 h6 (hord _ (List.getElem_mem hi))
      rw [List.drop_eq_getElem_cons hi]
      unfold pts
      refine Ev.step (f := fun k => spec_PointsOf.l1 k l (m : Int) p (i : Int) 0) (fun k => ?_) ?_
      · simp only [spec_PointsOf.l0]
        rw [if_pos (by omega)]
      have row : ∀ j, j ≤ m → ∀ p : List Int, p.length = m → Ev (fun k => spec_PointsOf.l1 k l (m : Int) p (i : Int) (j : Int)) (pts m (ptsRow m p (l[i].drop j) j) (l.drop (i + 1))) := by
        refine down m ?_ ?_
        · intro p hp
          rw [List.drop_of_length_le (by omega)]
          refine Ev.step (fun k => ?_) (ih p hp)
          simp only [spec_PointsOf.l1]
          rw [if_neg (by omega), wsucc i (by omega)]
        · intro j hj ih2 p hp
          have hj' : j < l[i].length := by omega
          rw [List.drop_eq_getElem_cons hj']
          unfold ptsRow
          have hx := hrange _ (List.getElem_mem hj')
          refine Ev.step (fun k => ?_) (ih2 _ (by rw [List.length_set]; exact hp))
          simp only [spec_PointsOf.l1]
          rw [rdL3_nat l i hi, if_pos (by omega), if_pos (by omega), if_pos (by omega), if_pos (by omega), if_pos (by omega), rd_nat _ j hj', if_pos (by omega), if_pos (by omega), pts_wrap, wsucc j (by omega)]
      exact row 0 (Nat.zero_le _) p hp
  exact key 0 (Nat.zero_le _) (List.replicate m 0) List.length_replicate
theorem iPoints_ev (l : List (List Int)) (m : Nat) (hl : l.length ≤ 1048576) (hr : ∀ v ∈ l, v.length ≤ 1048576) (hv : votesB l m = true) : Ev (fun k => impl_PointsOf.f k l (m : Int)) (pts m (List.replicate m 0) l) := by
  obtain ⟨m', em, h1, h6, hl1, hl2, hord⟩ := votesB_iff hv
  obtain rfl : m = m' := by omega
  unfold impl_PointsOf.f
  refine Ev.bind (iVotesOk_ev l m hr) ?_
  simp only [if_pos hv, if_pos (show (0 : Int) ≤ (m : Int) by omega), Int.toNat_natCast, if_pos (show m ≤ 35184372088832 by omega)]
  have key : ∀ i, i ≤ l.length → ∀ p : List Int, p.length = m → Ev (fun k => impl_PointsOf.l0 k (m : Int) p l (l.length : Int) (i : Int)) (pts m p (l.drop i)) := by
    refine down l.length ?_ ?_
    · intro p _
      rw [List.drop_of_length_le (Nat.le_refl _)]
      refine Ev.step (f := fun _ => some p) (fun k => ?_) (Ev.now _)
      simp only [impl_PointsOf.l0]
      rw [if_neg (by omega)]
    · intro i hi ih p hp
      obtain ⟨hlen, hrange, _⟩ := ordB_mem h1 h6 (hord _ (List.getElem_mem hi))
      rw [List.drop_eq_getElem_cons hi]
      unfold pts
      refine Ev.step (f := fun k => impl_PointsOf.l1 k (m : Int) p l (l.length : Int) (i : Int) l[i] (l[i].length : Int) 0) (fun k => ?_) ?_
      · simp only [impl_PointsOf.l0]
        rw [if_pos (by omega), if_pos (by omega), if_pos (by omega), rdL3_nat l i hi]
      have row : ∀ j, j ≤ m → ∀ p : List Int, p.length = m → Ev (fun k => impl_PointsOf.l1 k (m : Int) p l (l.length : Int) (i : Int) l[i] (l[i].length : Int) (j : Int)) (pts m (ptsRow m p (l[i].drop j) j) (l.drop (i + 1))) := by
        refine down m ?_ ?_
        · intro p hp
          rw [List.drop_of_length_le (by omega)]
          refine Ev.step (fun k => ?_) (ih p hp)
          simp only [impl_PointsOf.l1]
          rw [if_neg (by omega), wsucc i (by omega)]
        · intro j hj ih2 p hp
          have hj' : j < l[i].length := by omega
          rw [List.drop_eq_getElem_cons hj']
          unfold ptsRow
          have hx := hrange _ (List.getElem_mem hj')
          refine Ev.step (fun k => ?_) (ih2 _ (by rw [List.length_set]; exact hp))
          simp only [impl_PointsOf.l1]
          rw [if_pos (by omega), if_pos (by omega), if_pos (by omega), rd_nat _ j hj', if_pos (by omega), if_pos (by omega), wsucc j (by omega)]
      exact row 0 (Nat.zero_le _) p hp
  exact key 0 (Nat.zero_le _) (List.replicate m 0) List.length_replicate
theorem idxF_at (a : Int) : ∀ (l : List Int) (i j : Nat), (h : i < l.length) → l[i] = a → (∀ q (hq : q < i), l[q]'(by omega) ≠ a) → idxF a l j = ((j + i : Nat) : Int)
  | [], i, _, h, _, _ => absurd h (by simp)
  | x :: r, 0, j, _, e, _ => by unfold idxF; rw [if_pos (by simpa using e.symm)]; rfl
  | x :: r, i + 1, j, h, e, hn => by
    unfold idxF
    rw [if_neg (fun q => hn 0 (by omega) (by simpa using q.symm)), idxF_at a r i (j + 1) (by simpa using h) (by simpa using e) (fun q hq => by simpa using hn (q + 1) (by omega))]
    omega
theorem winner_ev (p : List Int) (hp : 1 ≤ p.length) (hl : p.length ≤ 1048576) : Ev (fun k => spec_WinnerByPoints.l0 k (-1) p 0) (idxF (maxI p) p 0) := by
  have key : ∀ j, j ≤ p.length → 1 ≤ j → ∀ b : Nat, (hb : b < j) → (hb2 : b < p.length) → p[b] = maxI (p.take j) → (∀ q (hq : q < b), p[q]'(by omega) < p[b]) → Ev (fun k => spec_WinnerByPoints.l0 k (b : Int) p (j : Int)) (idxF (maxI p) p 0) := by
    refine down p.length ?_ ?_
    · intro _ b hb hb2 e hq
      rw [List.take_length] at e
      refine Ev.step (f := fun _ => some (b : Int)) (fun k => ?_) (ev_eq (Ev.now _) ?_)
      · simp only [spec_WinnerByPoints.l0]
        rw [if_neg (by omega)]
      · rw [idxF_at (maxI p) p b 0 hb2 e (fun q hq' he => by have := hq q hq'; omega)]; simp
    · intro j hj ih h1 b hb hb2 e hq
      have hn := maxI_next p j h1 hj
      have hrd := rd_nat p j hj
      by_cases c : p[b] < p[j]
      · refine Ev.step (fun k => ?_) (ih (by omega) j (by omega) hj (by rw [hn, hrd, ← e, if_pos c]) (fun q hq' => ?_))
        · simp only [spec_WinnerByPoints.l0]
          rw [if_pos (by omega), if_neg (by omega), if_pos (by omega), if_pos (by omega), if_pos (by omega), hrd, rd_nat p b hb2, if_pos (by omega), wsucc j (by omega)]
        · have hle : ∀ i (hi : i < j), p[i]'(by omega) ≤ maxI (p.take j) := by
            intro i hi
            have hmx : ∀ n, 1 ≤ n → n ≤ p.length → ∀ i (hi : i < n) (hi2 : i < p.length), p[i] ≤ maxI (p.take n) := by
              intro n
              induction n with
              | zero => intro h; omega
              | succ n ih =>
                intro _ hn2 i hi hi2
                by_cases h0 : n = 0
                · subst h0
                  have : i = 0 := by omega
                  subst this
                  rw [maxI_one p hp]
                  have e0 := rd_nat p 0 hi2
                  rw [Int.natCast_zero] at e0
                  rw [e0]; exact Int.le_refl _
                · have hn' := maxI_next p n (by omega) (by omega)
                  rw [hn', rd_nat p n (by omega)]
                  by_cases e' : i = n
                  · subst e'
                    split <;> omega
                  · have := ih (by omega) (by omega) i (by omega) hi2
                    split <;> omega
            exact hmx j h1 (by omega) i hi (by omega)
          have := hle q hq'
          omega
      · refine Ev.step (fun k => ?_) (ih (by omega) b (by omega) hb2 (by rw [hn, hrd, ← e, if_neg c]) hq)
        simp only [spec_WinnerByPoints.l0]
        rw [if_pos (by omega), if_neg (by omega), if_pos (by omega), if_pos (by omega), if_pos (by omega), hrd, rd_nat p b hb2, if_neg (by omega), wsucc j (by omega)]
  refine Ev.step (fun k => ?_) (key 1 hp (Nat.le_refl _) 0 (by omega) (by omega) ?_ (fun q hq => absurd hq (by omega)))
  · simp only [spec_WinnerByPoints.l0]
    rw [if_pos (by omega), if_pos (by omega), show wrap64 ((0 : Int) + 1) = 1 from w64 (by decide) (by decide)]
    rfl
  · rw [maxI_one p hp]
    have e0 := rd_nat p 0 (by omega)
    rw [Int.natCast_zero] at e0
    rw [e0]
theorem szIntS_eq (l : List Int) (a : Int) (h0 : -1 ≤ a) (h1 : a ≤ 1048576) (hl : l.length ≤ 9223372036854775807) : laws_szIntS.f l a = some (if a < l.length then -1 else a - l.length) := by
  unfold laws_szIntS.f
  rw [w64 (by omega) (by omega)]
  by_cases h : a < l.length
  · rw [if_pos (by omega), if_pos h]
  · rw [if_neg (by omega), if_neg h]
theorem szIntSS_ev (l : List (List Int)) (hl : l.length ≤ 9223372036854775807) (hr : ∀ v ∈ l, v.length ≤ 9223372036854775807) : ∃ r, Ev (fun k => laws_szIntSS.f k l 1048576) r ∧ (0 ≤ r → l.length ≤ 1048576 ∧ ∀ v ∈ l, v.length ≤ 1048576) := by
  have key : l.length ≤ 1048576 → ∀ j, j ≤ l.length → ∀ a : Int, 0 ≤ a → a ≤ 1048576 → ∃ r, Ev (fun k => laws_szIntSS.l0 k l a (j : Int)) r ∧ (0 ≤ r → ∀ v ∈ l.drop j, v.length ≤ 1048576) := by
    intro hl2
    refine down l.length ?_ ?_
    · intro a h0 h1
      refine ⟨a, Ev.step (f := fun _ => some a) (fun k => ?_) (Ev.now _), fun _ v hv => ?_⟩
      · simp only [laws_szIntSS.l0]
        rw [if_neg (by omega)]
      · rw [List.drop_of_length_le (Nat.le_refl _)] at hv; cases hv
    · intro j hj ih a h0 h1
      have hv := hr l[j] (List.getElem_mem hj)
      have e := szIntS_eq l[j] a (by omega) h1 hv
      by_cases h : a < l[j].length
      · rw [if_pos h] at e
        refine ⟨-1, Ev.step (f := fun _ => some (-1)) (fun k => ?_) (Ev.now _), fun h => absurd h (by decide)⟩
        simp only [laws_szIntSS.l0]
        rw [if_pos (by omega), if_pos (by omega), rdL3_nat l j hj, e, Option.bind_some, if_pos (by decide)]
      · rw [if_neg h] at e
        obtain ⟨r, hr1, hr2⟩ := ih (a - l[j].length) (by omega) (by omega)
        refine ⟨r, Ev.step (fun k => ?_) hr1, fun h0 v hv => ?_⟩
        · simp only [laws_szIntSS.l0]
          rw [if_pos (by omega), if_pos (by omega), rdL3_nat l j hj, e, Option.bind_some, if_neg (by omega), wsucc j (by omega)]
        · rw [List.drop_eq_getElem_cons hj] at hv
          rcases List.mem_cons.1 hv with rfl | hv
          · omega
          · exact hr2 h0 v hv
  by_cases h : l.length ≤ 1048576
  · obtain ⟨r, h1, h2⟩ := key h 0 (Nat.zero_le _) (1048576 - l.length) (by omega) (by omega)
    refine ⟨r, Ev.congr (fun k => ?_) h1, fun h0 => ⟨h, by simpa using h2 h0⟩⟩
    unfold laws_szIntSS.f
    rw [w64 (by omega) (by omega), if_neg (by omega)]; rfl
  · refine ⟨-1, Ev.congr (f := fun _ => some (-1)) (fun k => ?_) (Ev.now _), fun h => absurd h (by decide)⟩
    unfold laws_szIntSS.f
    rw [w64 (by omega) (by omega), if_pos (by omega)]
theorem set_take_drop {α : Type} (l : List α) (j : Nat) (hj : j < l.length) (z : List α) (hz : z.length = l.length) : (l.take j ++ z.drop j).set j l[j] = l.take (j + 1) ++ z.drop (j + 1) := by
  have h1 : (l.take j).length = j := by rw [List.length_take]; omega
  rw [List.set_append_right _ _ (by omega), h1, Nat.sub_self, List.drop_eq_getElem_cons (by omega : j < z.length), List.set_cons_zero, List.take_succ_eq_append_getElem hj, List.append_assoc]
  rfl
theorem toIntS_ev (l : List Int) (hl : l.length ≤ 1048576) : Ev (fun k => laws_toIntS.f k l) l := by
  unfold laws_toIntS.f
  simp only [if_pos (show (0 : Int) ≤ (l.length : Int) by omega), if_pos (show ((l.length : Int)).toNat ≤ 35184372088832 by omega)]
  have key : ∀ j, j ≤ l.length → Ev (fun k => laws_toIntS.l0 k l (l.take j ++ (List.replicate l.length 0).drop j) (j : Int)) l := by
    refine down l.length ?_ ?_
    · refine Ev.step (f := fun _ => some l) (fun k => ?_) (Ev.now _)
      simp only [laws_toIntS.l0]
      rw [if_neg (by omega)]; simp
    · intro j hj ih
      refine Ev.step (fun k => ?_) ih
      simp only [laws_toIntS.l0]
      rw [if_pos (by omega), if_pos (by omega), if_pos (by simp; omega), wsucc j (by omega), rd_nat l j hj, Int.toNat_natCast, set_take_drop l j hj _ (by simp)]
  have := key 0 (Nat.zero_le _)
  simpa using this
theorem toIntSS_ev (l : List (List Int)) (hl : l.length ≤ 1048576) (hr : ∀ v ∈ l, v.length ≤ 1048576) : Ev (fun k => laws_toIntSS.f k l) l := by
  unfold laws_toIntSS.f
  simp only [if_pos (show (0 : Int) ≤ (l.length : Int) by omega), if_pos (show ((l.length : Int)).toNat ≤ 11728124029610 by omega)]
  have key : ∀ j, j ≤ l.length → Ev (fun k => laws_toIntSS.l0 k l (l.take j ++ (List.replicate l.length []).drop j) (j : Int)) l := by
    refine down l.length ?_ ?_
    · refine Ev.step (f := fun _ => some l) (fun k => ?_) (Ev.now _)
      simp only [laws_toIntSS.l0]
      rw [if_neg (by omega)]; simp
    · intro j hj ih
      refine Ev.step (f := fun k => (laws_toIntS.f k l[j]).bind fun t => laws_toIntSS.l0 k l ((l.take j ++ (List.replicate l.length []).drop j).set j t) ((j + 1 : Nat) : Int)) (fun k => ?_) (Ev.bind (toIntS_ev l[j] (hr _ (List.getElem_mem hj))) ?_)
      · simp only [laws_toIntSS.l0]
        rw [if_pos (by omega), if_pos (by omega), rdL3_nat l j hj, wsucc j (by omega), Int.toNat_natCast]
        simp only [if_pos (show (j : Int) < ((l.take j ++ (List.replicate l.length []).drop j).length : Int) by simp; omega)]
      · rw [set_take_drop l j hj _ (by simp)]
        exact ih
  have := key 0 (Nat.zero_le _)
  simpa using this
theorem eqIntS_refl (l : List Int) (hl : l.length ≤ 9223372036854775807) : Ev (fun k => laws_eqIntS.f k l l) true := by
  unfold laws_eqIntS.f
  simp only [if_true]
  have key : ∀ j, j ≤ l.length → Ev (fun k => laws_eqIntS.l0 k l l (j : Int)) true := by
    refine down l.length ?_ ?_
    · refine Ev.step (f := fun _ => some true) (fun k => ?_) (Ev.now _)
      simp only [laws_eqIntS.l0]
      rw [if_neg (by omega)]
    · intro j hj ih
      refine Ev.step (fun k => ?_) ih
      simp only [laws_eqIntS.l0]
      rw [if_pos (by omega), if_pos (by omega), if_pos (by omega), if_true, wsucc j (by omega)]
  exact key 0 (Nat.zero_le _)
theorem eqIntSS_refl (l : List (List Int)) (hl : l.length ≤ 9223372036854775807) (hr : ∀ v ∈ l, v.length ≤ 9223372036854775807) : Ev (fun k => laws_eqIntSS.f k l l) true := by
  unfold laws_eqIntSS.f
  simp only [if_true]
  have key : ∀ j, j ≤ l.length → Ev (fun k => laws_eqIntSS.l0 k l l (j : Int)) true := by
    refine down l.length ?_ ?_
    · refine Ev.step (f := fun _ => some true) (fun k => ?_) (Ev.now _)
      simp only [laws_eqIntSS.l0]
      rw [if_neg (by omega)]
    · intro j hj ih
      refine Ev.step (f := fun k => (laws_eqIntS.f k l[j] l[j]).bind fun t => if t = true then laws_eqIntSS.l0 k l l ((j + 1 : Nat) : Int) else some false) (fun k => ?_) (Ev.bind (eqIntS_refl l[j] (hr _ (List.getElem_mem hj))) ?_)
      · simp only [laws_eqIntSS.l0]
        rw [if_pos (by omega), if_pos (by omega), if_pos (by omega), rdL3_nat l j hj, wsucc j (by omega)]
      · simp only [if_true]
        exact ih
  exact key 0 (Nat.zero_le _)
theorem FnExactWinnerByPoints : laws_FnExactWinnerByPoints.Pure := by
  intro l n hl hn
  refine Ev.rounds (g := fun k => laws_FnExactWinnerByPoints.f k l n) ?_
  unfold laws_FnExactWinnerByPoints.f
  obtain ⟨r, hr, hsz⟩ := szIntSS_ev l hl.1 (fun v hv => (hl.2 v hv).1)
  refine Ev.bind hr ?_
  by_cases hneg : r < 0
  · simp only [if_pos hneg]; exact Ev.now _
  simp only [if_neg hneg]
  obtain ⟨h1, h2⟩ := hsz (by omega)
  have hto := toIntSS_ev l h1 h2
  refine Ev.bind hto ?_
  have both : ∃ b, Ev (fun k => spec_WinnerByPoints.f k l n) b ∧ Ev (fun k => impl_WinnerByPoints.f k l n) b := by
    by_cases hv : votesB l n = true
    · obtain ⟨m, rfl, g1, g6, _⟩ := votesB_iff hv
      have hpl : (pts m (List.replicate m 0) l).length = m := by rw [pts_len, List.length_replicate]
      refine ⟨idxF (maxI (pts m (List.replicate m 0) l)) (pts m (List.replicate m 0) l) 0, ?_, ?_⟩
      · unfold spec_WinnerByPoints.f
        exact Ev.bind (sPoints_ev l m h1 h2 hv) (winner_ev _ (by omega) (by omega))
      · unfold impl_WinnerByPoints.f
        refine Ev.bind (iVotesOk_ev l m h2) ?_
        simp only [if_pos hv]
        refine Ev.bind (iPoints_ev l m h1 h2 hv) ?_
        have hne : ¬ pts m (List.replicate m 0) l = [] := fun e => by rw [e] at hpl; simp at hpl; omega
        simp only [if_neg hne]
        exact sIndex_ev _ _ (by omega)
    · refine ⟨-1, ?_, ?_⟩
      · unfold spec_WinnerByPoints.f spec_PointsOf.f
        refine Ev.bind (g := fun k => (spec_VotesOk.f k l n).bind _) (Ev.bind (sVotesOk_ev l n h1 h2) (r := []) ?_) ?_
        · simp only [if_neg hv]; exact Ev.now _
        · refine Ev.step (f := fun _ => some (-1)) (fun k => ?_) (Ev.now _)
          simp [spec_WinnerByPoints.l0]
      · unfold impl_WinnerByPoints.f
        refine Ev.bind (iVotesOk_ev l n h2) ?_
        simp only [if_neg hv]
        exact Ev.now _
  obtain ⟨b, hs, hi⟩ := both
  refine Ev.bind hs ?_
  refine Ev.bind hto ?_
  refine Ev.bind hi ?_
  simp only [if_true]
  refine Ev.bind hto ?_
  refine Ev.bind (eqIntSS_refl l hl.1 (fun v hv => (hl.2 v hv).1)) ?_
  simp only [if_true]
  exact Ev.now _
end Go.Proofs.Ytnlioefgpgamdaa.Pure
