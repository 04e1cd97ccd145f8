/- Texts cut at a byte. -/
import Derived.Test.YtdgkohichikpdaaDoorPT2
import Derived.Lib.Split
namespace Go.Proofs.YtdgkohichikpdaaDoorX
open Go Go.Proofs
set_option linter.unusedVariables false
theorem bts_inj {a b : List UInt8} (e : bts a = bts b) : a = b := by simpa [bts] using congrArg (·.data.toList) e
theorem data_bts (l : List UInt8) : (bts l).data.toList = l := by simp [bts]
/-! ### A text cut at each place of a byte -/
def sp (c : UInt8) : List UInt8 → List (List UInt8)
  | [] => [[]]
  | b :: l => if b = c then [] :: sp c l else match sp c l with | x :: r => (b :: x) :: r | [] => [[b]]
theorem sp_cons (c b : UInt8) (l : List UInt8) : sp c (b :: l) = if b = c then [] :: sp c l else match sp c l with | x :: r => (b :: x) :: r | [] => [[b]] := rfl
theorem sp_no (c : UInt8) : ∀ a : List UInt8, c ∉ a → sp c a = [a]
  | [], _ => rfl
  | b :: a, h => by
    rw [sp_cons, if_neg (fun e => h (by simp [e])), sp_no c a (fun q => h (by simp [q]))]
theorem sp_at (c : UInt8) (r : List UInt8) : ∀ a : List UInt8, c ∉ a → sp c (a ++ c :: r) = a :: sp c r
  | [], _ => by show sp c (c :: r) = _; rw [sp_cons, if_pos rfl]
  | b :: a, h => by
    show sp c (b :: (a ++ c :: r)) = _
    rw [sp_cons, if_neg (fun e => h (by simp [e])), sp_at c r a (fun q => h (by simp [q]))]
theorem sp_len (c : UInt8) : ∀ l : List UInt8, (sp c l).length ≤ l.length + 1
  | [] => by simp [sp]
  | b :: l => by
    have := sp_len c l
    rw [sp_cons]
    split
    · simp; omega
    · split
      · rename_i x r e; rw [e] at this; simp at this ⊢; omega
      · simp
theorem sp_word (c : UInt8) : ∀ l w, w ∈ sp c l → w.length ≤ l.length
  | [], w, h => by simp [sp] at h; simp [h]
  | b :: l, w, h => by
    have ih := sp_word c l
    rw [sp_cons] at h
    split at h
    · rcases List.mem_cons.1 h with rfl | h
      · simp
      · have := ih w h; simp; omega
    · split at h
      · rename_i x r e
        rw [e] at ih
        rcases List.mem_cons.1 h with rfl | h
        · have := ih x (by simp); simp; omega
        · have := ih w (by simp [h]); simp; omega
      · simp at h; simp [h]
theorem index_at (c : UInt8) (r : List UInt8) : ∀ a : List UInt8, c ∉ a → Lib.index (a ++ c :: r) [c] = a.length := by
  intro a
  induction a with
  | nil => intro _; simp [Lib.index]
  | cons b a ih =>
    intro h
    have h1 : c ≠ b := fun e => h (by simp [e])
    have h2 := ih (fun q => h (by simp [q]))
    show Lib.index (b :: (a ++ c :: r)) [c] = _
    unfold Lib.index
    have e : [c].isPrefixOf (b :: (a ++ c :: r)) = false := by
      show (c == b && _) = false
      rw [beq_eq_false_iff_ne.2 h1]; rfl
    rw [e, h2]
    have : ((a.length : Int) == -1) = false := by rw [beq_eq_false_iff_ne]; omega
    rw [this]; simp
theorem index_no (c : UInt8) : ∀ a : List UInt8, c ∉ a → Lib.index a [c] = -1
  | [], _ => rfl
  | b :: a, h => by
    have h1 : c ≠ b := fun e => h (by simp [e])
    unfold Lib.index
    have e : [c].isPrefixOf (b :: a) = false := by
      show (c == b && _) = false
      rw [beq_eq_false_iff_ne.2 h1]; rfl
    rw [e, index_no c a (fun q => h (by simp [q]))]; rfl
theorem extract_bts (l : List UInt8) (a b : Nat) : (bts l).extract a b = bts ((l.drop a).take (b - a)) := by
  rw [← bts_data ((bts l).extract a b), Lib.extract_data, data_bts]
theorem splitB_eq (c : UInt8) : ∀ (n : Nat) (l : List UInt8), l.length ≤ n → Lib.splitB (bts [c]) 0 (Lib.countB (bts l) (bts [c])) (bts l) = (sp c l).map bts := by
  intro n
  induction n with
  | zero =>
    intro l h
    have : l = [] := List.eq_nil_of_length_eq_zero (by omega)
    subst this
    rw [Lib.splitB_miss _ _ _ _ (show Lib.indexB (bts []) (bts [c]) = -1 from index_no c [] (by simp))]; rfl
  | succ n ih =>
    intro l h
    by_cases hc : c ∈ l
    · obtain ⟨a, r, e, ha⟩ := List.eq_append_cons_of_mem hc
      subst e
      have hi : Lib.indexB (bts (a ++ c :: r)) (bts [c]) = (a.length : Int) := by
        show Lib.index (bts (a ++ c :: r)).data.toList (bts [c]).data.toList = _
        rw [data_bts, data_bts]; exact index_at c r a ha
      have e1 : (bts (a ++ c :: r)).extract (a.length + (bts [c]).size) (bts (a ++ c :: r)).size = bts r := by
        rw [bts_size, bts_size, extract_bts]
        congr 1
        simp only [List.length_append, List.length_cons, List.length_nil, Nat.zero_add]
        have : (a ++ c :: r).drop (a.length + 1) = r := by rw [app_mid]; exact List.drop_left' (by simp)
        rw [this]; exact List.take_of_length_le (by omega)
      have e2 : (bts (a ++ c :: r)).extract 0 (a.length + 0) = bts a := by rw [extract_bts]; simp
      rw [Lib.countB_hit _ _ _ (by rw [bts_size]; simp) hi, Nat.add_comm 1, Lib.splitB_hit _ _ _ _ _ hi, e1, e2, sp_at c r a ha]
      rw [ih r (by simp at h; omega)]; rfl
    · have hi : Lib.indexB (bts l) (bts [c]) = -1 := by
        show Lib.index (bts l).data.toList (bts [c]).data.toList = _
        rw [data_bts, data_bts]; exact index_no c l hc
      rw [Lib.splitB_miss _ _ _ _ hi, sp_no c l hc]; rfl
end Go.Proofs.YtdgkohichikpdaaDoorX
