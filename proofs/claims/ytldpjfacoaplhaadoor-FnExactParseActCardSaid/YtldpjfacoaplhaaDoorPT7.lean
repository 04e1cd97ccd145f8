/- Acts read: what both programs take a line's words for. -/
import Derived.Test.YtldpjfacoaplhaaDoorPT6
namespace Go.Proofs.YtldpjfacoaplhaaDoorX
open Go Go.Proofs
set_option linter.unusedVariables false
/-! ### A line parted -/
def Plain (b : UInt8) : Prop := 32 ≤ b.toNat ∧ b.toNat ≤ 126
instance (b : UInt8) : Decidable (Plain b) := by unfold Plain; infer_instance
/-- The words of a line, as both have them. -/
def SF (l : List UInt8) : List (List UInt8) × Bool := if l.length ≤ 600 ∧ (∀ b ∈ l, Plain b) ∧ (wds l).length ≤ 24 then (wds l, true) else ([], false)
def sfB (r : List (List UInt8) × Bool) : List ByteArray × Bool := (r.1.map bts, r.2)
theorem plain_cases (b : UInt8) (h : ¬ Plain b) : (b.toNat : Int) < 32 ∨ ¬ (b.toNat : Int) < 32 ∧ (126 : Int) < b.toNat := by unfold Plain at h; omega
theorem impl_sf_lp (k : Nat) (l : List UInt8) (hl : l.length ≤ 600) : ∀ (m : Nat) (B A : List UInt8), l = A ++ B → B.length ≤ m → (∀ b ∈ A, Plain b) → impl_SplitFields_l0 k m (bts l) (A.length : Int) = some (sfB (SF l)) := by
  have fin : ∀ J, (∀ b ∈ l, Plain b) → impl_SplitFields_s0 k (bts l) J (l.length : Int) = some (sfB (SF l)) := by
    intro J hp
    unfold impl_SplitFields_s0 strings_FieldsFunc
    rw [bts_size, decide_eq_false (by omega), cond_false, if_pos (by omega), goFields_eq l (fun b hb => by have := (hp b hb).2; omega), Option.bind_some, List.length_map]
    unfold SF
    by_cases h : (wds l).length ≤ 24
    · rw [decide_eq_false (by omega), if_pos ⟨hl, hp, h⟩]; rfl
    · rw [decide_eq_true (by omega), if_neg (fun q => h q.2.2)]; rfl
  intro m
  induction m with
  | zero =>
    intro B A e h1 hp
    have hB : B = [] := List.eq_nil_of_length_eq_zero (by omega)
    subst hB
    rw [List.append_nil] at e
    subst e
    unfold impl_SplitFields_l0
    exact fin _ hp
  | succ m ih =>
    intro B A e h1 hp
    cases B with
    | nil =>
      rw [List.append_nil] at e
      subst e
      unfold impl_SplitFields_l0
      exact fin _ hp
    | cons b B =>
      have hlt : (A.length : Int) < ((bts l).size : Int) := by rw [bts_size, e]; simp; omega
      have hbyte : byteAt (bts l) (Int.toNat (A.length : Int)) = (b.toNat : Int) := by rw [e]; exact byteAt_bts A b B
      have hAl : A.length ≤ 600 := by rw [e] at hl; simp at hl; omega
      unfold impl_SplitFields_l0 impl_SplitFields_s0
      rw [decide_eq_true hlt, if_pos ⟨by omega, hlt⟩, if_pos ⟨by omega, hlt⟩, hbyte, cond_true]
      by_cases hb : Plain b
      · have hb' := hb
        unfold Plain at hb'
        rw [decide_eq_false (by omega), decide_eq_false (by omega), cond_false, cond_false, wr_suc A b (by omega)]
        refine ih B (A ++ [b]) (by rw [e]; simp) (by simpa using h1) (fun c hc => ?_)
        rcases List.mem_append.1 hc with hc | hc
        · exact hp c hc
        · rw [List.mem_singleton.1 hc]; exact hb
      · have hno : SF l = ([], false) := by
          unfold SF
          rw [if_neg (fun q => hb (q.2.1 b (by rw [e]; simp)))]
        rw [hno]
        rcases plain_cases b hb with h | ⟨h, h2⟩
        · rw [decide_eq_true h]; rfl
        · rw [decide_eq_false h, decide_eq_true h2]; rfl
theorem impl_SplitFields_eq (k : Nat) (hk : 600 ≤ k) (l : List UInt8) : impl_SplitFields k (bts l) = some (sfB (SF l)) := by
  unfold impl_SplitFields impl_SplitFields_m
  rw [bts_size]
  by_cases h : l.length ≤ 600
  · rw [decide_eq_false (by omega), cond_false]
    exact impl_sf_lp k l h k l [] rfl (by omega) (by simp)
  · rw [decide_eq_true (by omega), cond_true]
    unfold SF
    rw [if_neg (fun q => h q.1)]; rfl
theorem spec_sf_lp (k : Nat) (l : List UInt8) (hl : l.length ≤ 600) : ∀ (m : Nat) (B P c : List UInt8) (W : List (List UInt8)), l = P ++ c ++ B → B.length < m → (∀ b ∈ P ++ c, Plain b) → W ++ fw c B = wds l → W.length ≤ (P ++ c).length →
    spec_SplitFields_l0 k m (bts l) (P.length : Int) ((P ++ c).length : Int) (W.map bts) = some (sfB (SF l)) := by
  have fin : ∀ J (x : Int), (∀ b ∈ l, Plain b) → spec_SplitFields_s0 k (bts l) J x ((l.length : Int) + 1) ((wds l).map bts) = some (sfB (SF l)) := by
    intro J x hp
    unfold spec_SplitFields_s0
    rw [bts_size, decide_eq_false (by omega), cond_false, List.length_map]
    unfold SF
    by_cases h : (wds l).length ≤ 24
    · rw [decide_eq_false (by omega), if_pos ⟨hl, hp, h⟩]; rfl
    · rw [decide_eq_true (by omega), if_neg (fun q => h q.2.2)]; rfl
  have finl : ∀ (m : Nat) (x : Int), (∀ b ∈ l, Plain b) → spec_SplitFields_l0 k m (bts l) x ((l.length : Int) + 1) ((wds l).map bts) = some (sfB (SF l)) := by
    intro m x hp
    cases m <;> exact fin _ x hp
  intro m
  induction m with
  | zero => intro B P c W e h1 hp hW hWl; omega
  | succ m ih =>
    intro B P c W e h1 hp hW hWl
    have hPl : (P ++ c).length ≤ 600 := by rw [e] at hl; simp at hl ⊢; omega
    have hle : ((P ++ c).length : Int) ≤ ((bts l).size : Int) := by rw [bts_size, e]; simp; omega
    have hmax : ∀ w : ByteArray, (W.map bts).length + ([w] : List ByteArray).length ≤ maxRow := by intro w; rw [List.length_map]; unfold maxRow; simp; omega
    have hex : ((bts l).extract (Int.toNat (P.length : Int)) (Int.toNat ((P ++ c).length : Int))) = bts c := by rw [e, Int.toNat_natCast, Int.toNat_natCast]; exact cut_word P c B
    have hg : (0 : Int) ≤ (P.length : Int) ∧ (P.length : Int) ≤ ((P ++ c).length : Int) ∧ ((P ++ c).length : Int) ≤ ((bts l).size : Int) := ⟨by omega, by simp; omega, hle⟩
    unfold spec_SplitFields_l0 spec_SplitFields_s0
    rw [decide_eq_true hle, cond_true, if_pos hg, if_pos (hmax _), hex]
    have hsuc : wr (((P ++ c).length : Int) + 1) = ((P ++ c).length : Int) + 1 := wr_id (by omega) (by omega)
    rw [hsuc]
    cases B with
    | nil =>
      rw [List.append_nil] at e
      have hsz : ((bts l).size : Int) = ((P ++ c).length : Int) := by rw [bts_size, e]
      rw [hsz, decide_eq_false (by omega : ¬ ((P ++ c).length : Int) < ((P ++ c).length : Int)), cond_false, cond_false]
      have hp' : ∀ b ∈ l, Plain b := by rw [e]; exact hp
      have hle2 : (l.length : Int) = ((P ++ c).length : Int) := by rw [e]
      by_cases hc : c = []
      · have : fw c [] = [] := by unfold fw; rw [if_pos hc]
        rw [this, List.append_nil] at hW
        rw [decide_eq_false (by rw [hc]; simp), cond_false, hW, ← hle2]
        exact finl m _ hp'
      · have : fw c [] = [c] := by unfold fw; rw [if_neg hc]
        rw [this] at hW
        have hpos : 0 < c.length := List.length_pos_iff.2 hc
        rw [decide_eq_true (by simp; omega), cond_true, ← hle2]
        have hm : W.map bts ++ [bts c] = (wds l).map bts := by rw [← hW]; simp
        rw [hm]
        exact finl m _ hp'
    | cons b B =>
      have hlt : ((P ++ c).length : Int) < ((bts l).size : Int) := by rw [bts_size, e]; simp; omega
      have hbyte : byteAt (bts l) (Int.toNat ((P ++ c).length : Int)) = (b.toNat : Int) := by rw [e]; exact byteAt_bts (P ++ c) b B
      rw [decide_eq_true hlt, hbyte]
      simp only [if_pos (show 0 ≤ ((P ++ c).length : Int) ∧ ((P ++ c).length : Int) < ((bts l).size : Int) from ⟨by omega, hlt⟩)]
      rw [cond_true]
      by_cases hb : Plain b
      · have hb' := hb
        unfold Plain at hb'
        rw [decide_eq_false (by omega), decide_eq_false (by omega), cond_false, cond_false, cond_true]
        have hp2 : ∀ x ∈ P ++ c ++ [b], Plain x := fun x hx => by
          rcases List.mem_append.1 hx with hx | hx
          · exact hp x hx
          · rw [List.mem_singleton.1 hx]; exact hb
        simp only [List.length_cons] at h1
        have hl1 : ((P ++ c).length : Int) + 1 = ((P ++ c ++ [b]).length : Int) := by simp; omega
        by_cases h32 : b = 32
        · have hi : (b.toNat : Int) = 32 := by rw [h32]; rfl
          rw [decide_eq_true hi, Bool.not_true, cond_false, hl1]
          have hl2 : ((P ++ c ++ [b]).length : Int) = (((P ++ c ++ [b]) ++ []).length : Int) := by rw [List.append_nil]
          by_cases hc : c = []
          · have hf : fw c (b :: B) = fw [] B := by rw [hc, h32]; exact fw_space0 B
            rw [hf] at hW
            rw [decide_eq_false (by rw [hc]; simp), cond_false]
            have := ih B (P ++ c ++ [b]) [] W (by rw [e]; simp) (by omega) (by rw [List.append_nil]; exact hp2) hW (by simp at hWl ⊢; omega)
            rw [← hl2] at this
            exact this
          · have hf : fw c (b :: B) = c :: fw [] B := by rw [h32]; exact fw_space c B hc
            rw [hf] at hW
            have hpos : 0 < c.length := List.length_pos_iff.2 hc
            rw [decide_eq_true (by simp; omega), cond_true]
            have hm : W.map bts ++ [bts c] = (W ++ [c]).map bts := by simp
            rw [hm]
            have := ih B (P ++ c ++ [b]) [] (W ++ [c]) (by rw [e]; simp) (by omega) (by rw [List.append_nil]; exact hp2) (by rw [← hW]; simp) (by simp at hWl ⊢; omega)
            rw [← hl2] at this
            exact this
        · have hi : ¬ (b.toNat : Int) = 32 := fun q => by
            have q2 : b.toNat = 32 := by omega
            exact h32 (UInt8.toNat_inj.1 (by rw [q2]; rfl))
          rw [decide_eq_false hi, Bool.not_false, cond_true, hl1]
          have hf : fw c (b :: B) = fw (c ++ [b]) B := by
            show (if b = 32 then _ else fw (c ++ [b]) B) = _
            rw [if_neg h32]
          rw [hf] at hW
          have := ih B P (c ++ [b]) W (by rw [e]; simp) (by omega) (by rw [← List.append_assoc]; exact hp2) hW (by simp at hWl ⊢; omega)
          rw [← List.append_assoc] at this
          exact this
      · have hno : SF l = ([], false) := by
          unfold SF
          rw [if_neg (fun q => hb (q.2.1 b (by rw [e]; simp)))]
        rw [hno]
        rcases plain_cases b hb with h | ⟨h, h2⟩
        · rw [decide_eq_true h]; rfl
        · rw [decide_eq_false h, decide_eq_true h2]; rfl
theorem spec_SplitFields_eq (k : Nat) (hk : 601 ≤ k) (l : List UInt8) : spec_SplitFields k (bts l) = some (sfB (SF l)) := by
  unfold spec_SplitFields spec_SplitFields_m
  rw [bts_size]
  by_cases h : l.length ≤ 600
  · rw [decide_eq_false (by omega), cond_false]
    exact spec_sf_lp k l h k l [] [] [] rfl (by omega) (by simp) rfl (by simp)
  · rw [decide_eq_true (by omega), cond_true]
    unfold SF
    rw [if_neg (fun q => h q.1)]; rfl
theorem SF_cases (l : List UInt8) : SF l = ([], false) ∨ (SF l = (wds l, true) ∧ l.length ≤ 600 ∧ (wds l).length ≤ 24) := by
  unfold SF
  split
  · rename_i h; exact .inr ⟨rfl, h.1, h.2.2⟩
  · exact .inl rfl
theorem wds_small (l : List UInt8) (h : l.length ≤ 600) : ∀ w ∈ wds l, w.length ≤ 600 := fun w hw => by
  have := fw_size l [] w hw
  simp at this; omega
end Go.Proofs.YtldpjfacoaplhaaDoorX
