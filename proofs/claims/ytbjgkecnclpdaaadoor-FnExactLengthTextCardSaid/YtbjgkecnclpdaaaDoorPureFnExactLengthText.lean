/- What FnExactLengthText computes answers as the law says: over numbers and lists alone; there are no conditions but those of the statement. -/
import Derived.Test.YtbjgkecnclpdaaaDoorQ1
namespace Go.Proofs.YtbjgkecnclpdaaaDoor.Pure
open Go.RowKit Go.Proofs.YtbjgkecnclpdaaaDoor.Q Go.Proofs.YtbjgkecnclpdaaaDoorW.PrintWords Go.Proofs.YtbjgkecnclpdaaaDoorW.PrintLast Go.Proofs.YtbjgkecnclpdaaaDoorW.PrintMore
set_option linter.unusedVariables false
set_option linter.unusedSimpArgs false
theorem w64 {x : Int} (h0 : -9223372036854775808 ≤ x) (h1 : x ≤ 9223372036854775807) : wrap64 x = x := by
  unfold wrap64
  omega
theorem down {Q : Nat → Prop} (n : Nat) (fin : Q n) (step : ∀ j, j < n → Q (j + 1) → Q j) : ∀ j, j ≤ n → Q j := by
  intro j hj
  obtain ⟨d, hd⟩ : ∃ d, j + d = n := ⟨n - j, by omega⟩
  clear hj
  induction d generalizing j with
  | zero => have : j = n := by omega
            rw [this]; exact fin
  | succ d ih => exact step j (by omega) (ih (j + 1) (by omega))
theorem wsucc (j : Nat) (h : j < 9223372036854775807) : wrap64 ((j : Int) + 1) = ((j + 1 : Nat) : Int) := by
  rw [w64 (by omega) (by omega)]; omega
theorem rd_nat (l : List Int) (j : Nat) (h : j < l.length) : rd l (j : Int) = l[j] := by
  unfold rd; rw [Int.toNat_natCast, List.getD_eq_getElem?_getD, List.getElem?_eq_getElem h]; rfl
theorem rd_lit (l : List Int) (i : Int) : rd l i = l.getD i.toNat 0 := rfl
theorem all_drop_cons {α : Type} (p : α → Bool) (l : List α) (j : Nat) (h : j < l.length) : (l.drop j).all p = (p l[j] && (l.drop (j + 1)).all p) := by
  rw [List.drop_eq_getElem_cons h, List.all_cons]
theorem all_drop_len {α : Type} (p : α → Bool) (l : List α) : (l.drop l.length).all p = true := by simp
theorem ev_some {α : Type} (r : α) : Ev (fun _ => some r) r := Ev.now r
theorem ev_pt {α : Type} {g : Option α} {r : α} (h : g = some r) : Ev (fun _ => g) r := ⟨0, fun _ _ => h⟩
theorem ev_eq {α : Type} {g : Nat → Option α} {r r' : α} (h : Ev g r) (e : r = r') : Ev g r' := e ▸ h
def inR (lo hi n : Int) : Bool := decide (lo ≤ n ∧ n ≤ hi)
theorem l01In_eq (a b c : Int) : spec_l01In.f a b c = some (inR b c a) := by
  unfold spec_l01In.f inR
  by_cases h : b ≤ a
  · rw [if_pos h]; simp [h]
  · rw [if_neg h]; simp [h]
theorem in_eq (a b c : Int) : impl_in.f a b c = some (inR b c a) := by
  unfold impl_in.f inR
  by_cases h : b ≤ a
  · rw [if_pos h]; simp [h]
  · rw [if_neg h]; simp [h]
def decN : Nat → Nat → List UInt8
  | 0, u => [UInt8.ofNat (48 + u)]
  | f + 1, u => if u < 10 then [UInt8.ofNat (48 + u)] else decN f (u / 10) ++ [UInt8.ofNat (48 + u % 10)]
theorem decN_eq : ∀ (f u : Nat), u < 10 ^ f → Lib.decDigits u = decN f u
  | 0, u, h => by
    have : u = 0 := by simpa using h
    subst this; rw [Lib.decDigits, dif_pos (by decide)]; rfl
  | f + 1, u, h => by
    rw [Lib.decDigits]
    unfold decN
    by_cases c : u < 10
    · rw [dif_pos c, if_pos c]
    · rw [dif_neg c, if_neg c, decN_eq f (u / 10) (by rw [Nat.pow_succ] at h; omega)]
theorem fmtN_fin : ∀ i : Fin 1700, (spec_FormatInt.f 10 (i.val : Int)).map (fun s => s.data.toList) = some (decN 5 i.val) ∧ (decN 5 i.val).length ≤ 5 := by decide +kernel
theorem itoa_nat (i : Nat) (hi : i < 1700) : Lib.itoa (i : Int) = decN 5 i := by
  unfold Lib.itoa
  rw [if_neg (by omega), Int.toNat_natCast, decN_eq 5 i (by omega)]
theorem fmtN (i : Nat) (hi : i < 1700) : spec_FormatInt.f 10 (i : Int) = some ⟨(decN 5 i).toArray⟩ := by
  have h := (fmtN_fin ⟨i, hi⟩).1
  simp only at h
  cases e : spec_FormatInt.f 10 (i : Int) with
  | none => rw [e] at h; cases h
  | some s =>
    rw [e] at h
    have h2 := Option.some.inj h
    have h3 : s.data = (decN 5 i).toArray := by rw [← h2]
    cases s; simp_all
theorem ifmtN (i : Nat) (hi : i < 1700) : impl_FormatInt.f (i : Int) = some ⟨(decN 5 i).toArray⟩ := by
  unfold impl_FormatInt.f
  rw [if_pos (by omega), itoa_nat i hi]
theorem digN_size (i : Nat) (hi : i < 1700) : (⟨(decN 5 i).toArray⟩ : ByteArray).size ≤ 5 := by
  have h := (fmtN_fin ⟨i, hi⟩).2
  simpa [ByteArray.size] using h
theorem FnExactLengthText : laws_FnExactLengthText.Pure := by
  intro a _
  refine ⟨10, ?_⟩
  have s : ∃ t, spec_LengthText.f 10 a = some t ∧ impl_LengthText.f a = some t := by
    unfold spec_LengthText.f impl_LengthText.f
    rw [l01In_eq, in_eq]
    simp only [Option.bind_some]
    by_cases h : inR 0 100000 a = true
    · simp only [if_pos h]
      unfold inR at h
      rw [decide_eq_true_eq] at h
      obtain ⟨r, hr, er, er2⟩ : ∃ r : Nat, r < 1700 ∧ Int.tmod a 60 = (r : Int) ∧ (r : Int) = a % 60 := ⟨(a % 60).toNat, by omega, by rw [Int.tmod_eq_emod_of_nonneg h.1]; omega, by omega⟩
      obtain ⟨q, hq, eq_, eq2⟩ : ∃ q : Nat, q < 1700 ∧ wrap64 (Int.tdiv a 60) = (q : Int) ∧ (q : Int) = a / 60 := ⟨(a / 60).toNat, by omega, by rw [Int.tdiv_eq_ediv_of_nonneg h.1, w64 (by omega) (by omega)]; omega, by omega⟩
      rw [er, eq_, fmtN r hr, fmtN q hq, ifmtN r hr, ifmtN q hq]
      simp only [Option.bind_some]
      have h1 := digN_size r hr
      have h2 := digN_size q hq
      generalize (⟨(decN 5 r).toArray⟩ : ByteArray) = x at h1 ⊢
      generalize (⟨(decN 5 q).toArray⟩ : ByteArray) = y at h2 ⊢
      have s1 : (⟨#[109]⟩ : ByteArray).size = 1 := rfl
      have s2 : (⟨#[104]⟩ : ByteArray).size = 1 := rfl
      have s3 : (⟨#[32]⟩ : ByteArray).size = 1 := rfl
      have s4 : (⟨#[104, 32]⟩ : ByteArray).size = 2 := rfl
      simp only [ByteArray.size_append, s1, s2, s3, s4, if_pos (show y.size + 1 ≤ 9223372036854775807 by omega), if_pos (show x.size + 1 ≤ 9223372036854775807 by omega), if_pos (show y.size + 1 + 1 ≤ 9223372036854775807 by omega), if_pos (show y.size + 1 + 1 + (x.size + 1) ≤ 9223372036854775807 by omega), if_pos (show y.size + 2 ≤ 9223372036854775807 by omega), if_pos (show y.size + 2 + x.size ≤ 9223372036854775807 by omega), if_pos (show y.size + 2 + x.size + 1 ≤ 9223372036854775807 by omega)]
      by_cases c : a < 60
      · rw [if_pos c, if_pos (show (q : Int) = 0 by omega)]; exact ⟨_, rfl, rfl⟩
      · rw [if_neg c, if_neg (show ¬ (q : Int) = 0 by omega)]
        by_cases d : (r : Int) = 0
        · rw [if_pos d, if_pos d]; exact ⟨_, rfl, rfl⟩
        · rw [if_neg d, if_neg d]
          refine ⟨_, rfl, ?_⟩
          congr 1
          have e : (⟨#[104, 32]⟩ : ByteArray) = (⟨#[104]⟩ : ByteArray) ++ (⟨#[32]⟩ : ByteArray) := by decide +kernel
          rw [e]
          simp only [ByteArray.append_assoc]
    · simp only [if_neg h]; exact ⟨_, rfl, rfl⟩
  obtain ⟨t, e1, e2⟩ := s
  unfold laws_FnExactLengthText.f
  rw [e1, Option.bind_some, e2, Option.bind_some, if_pos rfl]
end Go.Proofs.YtbjgkecnclpdaaaDoor.Pure
