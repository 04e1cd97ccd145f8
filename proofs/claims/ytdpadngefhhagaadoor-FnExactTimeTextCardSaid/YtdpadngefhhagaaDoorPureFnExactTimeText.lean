/- What FnExactTimeText computes answers as the law says: over numbers and lists alone; there are no conditions but those of the statement. -/
import Derived.Test.YtdpadngefhhagaaDoorQ1
namespace Go.Proofs.YtdpadngefhhagaaDoor.Pure
open Go.RowKit Go.Proofs.YtdpadngefhhagaaDoor.Q Go.Proofs.YtdpadngefhhagaaDoorW.PrintWords Go.Proofs.YtdpadngefhhagaaDoorW.PrintLast Go.Proofs.YtdpadngefhhagaaDoorW.PrintMore
set_option linter.unusedVariables false
set_option linter.unusedSimpArgs false
theorem w64 {x : Int} (h0 : -9223372036854775808 ≤ x) (h1 : x ≤ 9223372036854775807) : wrap64 x = x := by
  unfold wrap64
  omega
theorem down {Q : Nat → Prop} (n : Nat) (fin : Q n) (step : ∀ j, j < n → Q (j + 1) → Q j) : ∀ j, j ≤ n → Q j := by
  intro j hj
  obtain ⟨d, hd⟩ : ∃ d, j + d = n := ⟨n - j, by omega⟩
  clear hj
  induction d generalizing j with
  | zero => have : j = n := by omega
            rw [this]; exact fin
  | succ d ih => exact step j (by omega) (ih (j + 1) (by omega))
theorem wsucc (j : Nat) (h : j < 9223372036854775807) : wrap64 ((j : Int) + 1) = ((j + 1 : Nat) : Int) := by
  rw [w64 (by omega) (by omega)]; omega
theorem rd_nat (l : List Int) (j : Nat) (h : j < l.length) : rd l (j : Int) = l[j] := by
  unfold rd; rw [Int.toNat_natCast, List.getD_eq_getElem?_getD, List.getElem?_eq_getElem h]; rfl
theorem rd_lit (l : List Int) (i : Int) : rd l i = l.getD i.toNat 0 := rfl
theorem all_drop_cons {α : Type} (p : α → Bool) (l : List α) (j : Nat) (h : j < l.length) : (l.drop j).all p = (p l[j] && (l.drop (j + 1)).all p) := by
  rw [List.drop_eq_getElem_cons h, List.all_cons]
theorem all_drop_len {α : Type} (p : α → Bool) (l : List α) : (l.drop l.length).all p = true := by simp
theorem ev_some {α : Type} (r : α) : Ev (fun _ => some r) r := Ev.now r
theorem ev_pt {α : Type} {g : Option α} {r : α} (h : g = some r) : Ev (fun _ => g) r := ⟨0, fun _ _ => h⟩
theorem ev_eq {α : Type} {g : Nat → Option α} {r r' : α} (h : Ev g r) (e : r = r') : Ev g r' := e ▸ h
def inR (lo hi n : Int) : Bool := decide (lo ≤ n ∧ n ≤ hi)
theorem l01In_eq (a b c : Int) : spec_l01In.f a b c = some (inR b c a) := by
  unfold spec_l01In.f inR
  by_cases h : b ≤ a
  · rw [if_pos h]; simp [h]
  · rw [if_neg h]; simp [h]
theorem in_eq (a b c : Int) : impl_in.f a b c = some (inR b c a) := by
  unfold impl_in.f inR
  by_cases h : b ≤ a
  · rw [if_pos h]; simp [h]
  · rw [if_neg h]; simp [h]
/-- The numeral of a number below 100. -/
def dec2 (u : Nat) : List UInt8 := if u < 10 then [UInt8.ofNat (48 + u)] else [UInt8.ofNat (48 + u / 10), UInt8.ofNat (48 + u % 10)]
theorem dec2_eq (u : Nat) (h : u < 100) : Lib.decDigits u = dec2 u := by
  rw [Lib.decDigits]
  unfold dec2
  by_cases c : u < 10
  · rw [dif_pos c, if_pos c]
  · rw [dif_neg c, if_neg c, Lib.decDigits, dif_pos (by omega)]; rfl
theorem fmt_fin2 : ∀ i : Fin 100, (spec_FormatInt.f 10 (i.val : Int)).map (fun s => s.data.toList) = some (dec2 i.val) ∧ 1 ≤ (dec2 i.val).length ∧ (dec2 i.val).length ≤ 2 := by decide +kernel
theorem fmt_fin (i : Fin 100) : (spec_FormatInt.f 10 (i.val : Int)).map (fun s => s.data.toList) = some (Lib.decDigits i.val) ∧ 1 ≤ (Lib.decDigits i.val).length ∧ (Lib.decDigits i.val).length ≤ 2 := by
  rw [dec2_eq i.val i.isLt]; exact fmt_fin2 i
theorem fmt_small (i : Nat) (hi : i < 100) : spec_FormatInt.f 10 (i : Int) = some ⟨(Lib.decDigits i).toArray⟩ := by
  have h := (fmt_fin ⟨i, hi⟩).1
  simp only at h
  cases e : spec_FormatInt.f 10 (i : Int) with
  | none => rw [e] at h; cases h
  | some s =>
    rw [e] at h
    have h2 := Option.some.inj h
    have h3 : s.data = (Lib.decDigits i).toArray := by rw [← h2]
    cases s; simp_all
theorem ifmt_small (i : Nat) (hi : i < 100) : impl_FormatInt.f (i : Int) = some ⟨(Lib.decDigits i).toArray⟩ := by
  unfold impl_FormatInt.f
  rw [if_pos (by omega), Int.toNat_natCast]
theorem dig_size (i : Nat) (hi : i < 100) : (⟨(Lib.decDigits i).toArray⟩ : ByteArray).size ≤ 2 := by
  have h := (fmt_fin ⟨i, hi⟩).2.2
  simpa [ByteArray.size] using h
theorem FnExactTimeText : laws_FnExactTimeText.Pure := by
  intro a _
  refine ⟨10, ?_⟩
  have s : ∃ t, spec_TimeText.f 10 a = some t ∧ impl_TimeText.f a = some t := by
    unfold spec_TimeText.f impl_TimeText.f spec_l34Ok.f
    rw [l01In_eq, in_eq]
    simp only [Option.bind_some]
    by_cases h : inR 0 1439 a = true
    · simp only [if_pos h]
      unfold inR at h
      rw [decide_eq_true_eq] at h
      obtain ⟨r, hr, er⟩ : ∃ r : Nat, r < 100 ∧ Int.tmod a 60 = (r : Int) := ⟨(a % 60).toNat, by omega, by rw [Int.tmod_eq_emod_of_nonneg h.1]; omega⟩
      obtain ⟨q, hq, eq_⟩ : ∃ q : Nat, q < 100 ∧ wrap64 (Int.tdiv a 60) = (q : Int) := ⟨(a / 60).toNat, by omega, by rw [Int.tdiv_eq_ediv_of_nonneg h.1, w64 (by omega) (by omega)]; omega⟩
      rw [er, eq_, fmt_small r hr, fmt_small q hq, ifmt_small r hr, ifmt_small q hq]
      simp only [Option.bind_some]
      have h1 := dig_size r hr
      have h2 := dig_size q hq
      generalize (⟨(Lib.decDigits r).toArray⟩ : ByteArray) = x at h1 ⊢
      generalize (⟨(Lib.decDigits q).toArray⟩ : ByteArray) = y at h2 ⊢
      have e1 : (y ++ (⟨#[58]⟩ : ByteArray)).size = y.size + 1 := by rw [ByteArray.size_append]; rfl
      have e2 : ((⟨#[48]⟩ : ByteArray) ++ x).size = 1 + x.size := by rw [ByteArray.size_append]; rfl
      simp only [e1, e2, if_pos (show 1 + x.size ≤ 9223372036854775807 by omega), if_pos (show y.size + 1 ≤ 9223372036854775807 by omega), if_pos (show y.size + 1 + (1 + x.size) ≤ 9223372036854775807 by omega), if_pos (show y.size + 1 + x.size ≤ 9223372036854775807 by omega)]
      by_cases c : (x.size : Int) = 1
      · rw [if_pos c]; exact ⟨_, rfl, rfl⟩
      · rw [if_neg c]; exact ⟨_, rfl, rfl⟩
    · simp only [if_neg h]; exact ⟨_, rfl, rfl⟩
  obtain ⟨t, e1, e2⟩ := s
  unfold laws_FnExactTimeText.f
  rw [e1, Option.bind_some, e2, Option.bind_some, if_pos rfl]
end Go.Proofs.YtdpadngefhhagaaDoor.Pure
