/- Acts read: what both programs take a line's words for. -/
import Derived.Test.YtlenacakmmikiaaDoorPT6
namespace Go.Proofs.YtlenacakmmikiaaDoorX
open Go Go.Proofs
set_option linter.unusedVariables false
/-! ### A line parted -/
def Plain (b : UInt8) : Prop := 32 ≤ b.toNat ∧ b.toNat ≤ 126
instance (b : UInt8) : Decidable (Plain b) := by unfold Plain; infer_instance
/-- The words of a line, as both have them. -/
def SF (l : List UInt8) : List (List UInt8) × Bool := if l.length ≤ 600 ∧ (∀ b ∈ l, Plain b) ∧ (wds l).length ≤ 24 then (wds l, true) else ([], false)
def sfB (r : List (List UInt8) × Bool) : List ByteArray × Bool := (r.1.map bts, r.2)
theorem plain_cases (b : UInt8) (h : ¬ Plain b) : (b.toNat : Int) < 32 ∨ ¬ (b.toNat : Int) < 32 ∧ (126 : Int) < b.toNat := by unfold Plain at h; omega
theorem impl_sf_lp (k : Nat) (l : List UInt8) (hl : l.length ≤ 600) : ∀ (m : Nat) (B A : List UInt8), l = A ++ B → B.length ≤ m → (∀ b ∈ A, Plain b) → impl_SplitFields_l0 k m (bts l) (A.length : Int) = some (sfB (SF l)) := by
  have fin : ∀ J, (∀ b ∈ l, Plain b) → impl_SplitFields_s0 k (bts l) J (l.length : Int) = some (sfB (SF l)) := by
    intro J hp
    unfold impl_SplitFields_s0 strings_FieldsFunc
    rw [bts_size, decide_eq_false (by omega), cond_false, if_pos (by omega), goFields_eq l (fun b hb => by have := (hp b hb).2; omega), Option.bind_some, List.length_map]
    unfold SF
    by_cases h : (wds l).length ≤ 24
    · rw [decide_eq_false (by omega), if_pos ⟨hl, hp, h⟩]; rfl
    · rw [decide_eq_true (by omega), if_neg (fun q => h q.2.2)]; rfl
  intro m
  induction m with
  | zero =>
    intro B A e h1 hp
    have hB : B = [] := List.eq_nil_of_length_eq_zero (by omega)
    subst hB
    rw [List.append_nil] at e
    subst e
    unfold impl_SplitFields_l0
    exact fin _ hp
  | succ m ih =>
    intro B A e h1 hp
    cases B with
    | nil =>
      rw [List.append_nil] at e
      subst e
      unfold impl_SplitFields_l0
      exact fin _ hp
    | cons b B =>
      have hlt : (A.length : Int) < ((bts l).size : Int) := by rw [bts_size, e]; simp; omega
      have hbyte : byteAt (bts l) (Int.toNat (A.length : Int)) = (b.toNat : Int) := by rw [e]; exact byteAt_bts A b B
      have hAl : A.length ≤ 600 := by rw [e] at hl; simp at hl; omega
      unfold impl_SplitFields_l0 impl_SplitFields_s0
      rw [decide_eq_true hlt, if_pos ⟨by omega, hlt⟩, if_pos ⟨by omega, hlt⟩, hbyte, cond_true]
      by_cases hb : Plain b
      · have hb' := hb
        unfold Plain at hb'
        rw [decide_eq_false (by omega), decide_eq_false (by omega), cond_false, cond_false, wr_suc A b (by omega)]
        refine ih B (A ++ [b]) (by rw [e]; simp) (by simpa using h1) (fun c hc => ?_)
        rcases List.mem_append.1 hc with hc | hc
        · exact hp c hc
        · rw [List.mem_singleton.1 hc]; exact hb
      · have hno : SF l = ([], false) := by
          unfold SF
          rw [if_neg (fun q => hb (q.2.1 b (by rw [e]; simp)))]
        rw [hno]
        rcases plain_cases b hb with h | ⟨h, h2⟩
        · rw [decide_eq_true h]; rfl
        · rw [decide_eq_false h, decide_eq_true h2]; rfl
theorem impl_SplitFields_eq (k : Nat) (hk : 600 ≤ k) (l : List UInt8) : impl_SplitFields k (bts l) = some (sfB (SF l)) := by
  unfold impl_SplitFields impl_SplitFields_m
  rw [bts_size]
  by_cases h : l.length ≤ 600
  · rw [decide_eq_false (by omega), cond_false]
    exact impl_sf_lp k l h k l [] rfl (by omega) (by simp)
  · rw [decide_eq_true (by omega), cond_true]
    unfold SF
    rw [if_neg (fun q => h q.1)]; rfl
theorem SF_cases (l : List UInt8) : SF l = ([], false) ∨ (SF l = (wds l, true) ∧ l.length ≤ 600 ∧ (wds l).length ≤ 24) := by
  unfold SF
  split
  · rename_i h; exact .inr ⟨rfl, h.1, h.2.2⟩
  · exact .inl rfl
theorem wds_small (l : List UInt8) (h : l.length ≤ 600) : ∀ w ∈ wds l, w.length ≤ 600 := fun w hw => by
  have := fw_size l [] w hw
  simp at this; omega
end Go.Proofs.YtlenacakmmikiaaDoorX
