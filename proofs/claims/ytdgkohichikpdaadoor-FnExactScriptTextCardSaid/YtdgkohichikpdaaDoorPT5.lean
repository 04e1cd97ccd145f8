/- The words of a line: as the program's library parts them and as the reference's loop does. -/
import Derived.Test.YtdgkohichikpdaaDoorPS0
import Derived.Lib.FieldsP
import Derived.Laws.RangeString
namespace Go.Proofs.YtdgkohichikpdaaDoorX
open Go Go.Proofs
set_option linter.unusedVariables false
/-- The words from a place on, where a word is under way. -/
def fw : List UInt8 → List UInt8 → List (List UInt8)
  | c, [] => if c = [] then [] else [c]
  | c, b :: B => if b = 32 then (if c = [] then fw [] B else c :: fw [] B) else fw (c ++ [b]) B
def wds (l : List UInt8) : List (List UInt8) := fw [] l
/-- A word: some bytes, none of them a space. -/
def Wd (w : List UInt8) : Prop := w ≠ [] ∧ (32 : UInt8) ∉ w
theorem fw_run (B : List UInt8) : ∀ (w c : List UInt8), (32 : UInt8) ∉ w → fw c (w ++ B) = fw (c ++ w) B := by
  intro w
  induction w with
  | nil => intro c _; simp
  | cons b w ih =>
    intro c h
    have h1 : b ≠ 32 := fun e => h (by simp [e])
    show (if b = 32 then _ else fw (c ++ [b]) (w ++ B)) = _
    rw [if_neg h1, ih _ (fun q => h (by simp [q]))]
    simp
theorem fw_space (c B : List UInt8) (h : c ≠ []) : fw c (32 :: B) = c :: fw [] B := by
  show (if (32 : UInt8) = 32 then (if c = [] then fw [] B else c :: fw [] B) else _) = _
  rw [if_pos rfl, if_neg h]
theorem fw_space0 (B : List UInt8) : fw [] (32 :: B) = fw [] B := by
  show (if (32 : UInt8) = 32 then (if ([] : List UInt8) = [] then fw [] B else _) else _) = _
  rw [if_pos rfl, if_pos rfl]
/-- Words side by side, a space between each two. -/
def lineW : List (List UInt8) → List UInt8
  | [] => []
  | w :: r => w ++ (r.map (32 :: ·)).flatten
theorem wds_line : ∀ (r : List (List UInt8)) (w E : List UInt8), Wd w → (∀ x ∈ r, Wd x) → (E = [] ∨ E = [32]) → wds (w ++ (r.map (32 :: ·)).flatten ++ E) = w :: r := by
  intro r
  induction r with
  | nil =>
    intro w E hw _ hE
    unfold wds
    rw [List.map_nil, List.flatten_nil, List.append_nil, fw_run E w [] hw.2, List.nil_append]
    rcases hE with rfl | rfl
    · show (if w = [] then [] else [w]) = _; rw [if_neg hw.1]
    · rw [fw_space _ _ hw.1]; rfl
  | cons x r ih =>
    intro w E hw hr hE
    have e : w ++ ((x :: r).map (32 :: ·)).flatten ++ E = w ++ (32 :: (x ++ (r.map (32 :: ·)).flatten ++ E)) := by simp
    unfold wds
    rw [e, fw_run _ w [] hw.2, List.nil_append, fw_space _ _ hw.1]
    have := ih x E (hr x (by simp)) (fun y hy => hr y (by simp [hy])) hE
    unfold wds at this
    rw [this]
theorem wds_lineW (w : List UInt8) (r : List (List UInt8)) (hw : Wd w) (hr : ∀ x ∈ r, Wd x) : wds (lineW (w :: r)) = w :: r := by
  have := wds_line r w [] hw hr (.inl rfl)
  rw [List.append_nil] at this
  exact this
theorem fw_wd : ∀ (B c : List UInt8), (32 : UInt8) ∉ c → ∀ x ∈ fw c B, Wd x := by
  intro B
  induction B with
  | nil =>
    intro c hc x hx
    unfold fw at hx
    split at hx
    · cases hx
    · rename_i h
      simp only [List.mem_singleton] at hx
      subst hx; exact ⟨h, hc⟩
  | cons b B ih =>
    intro c hc x hx
    unfold fw at hx
    split at hx
    · split at hx
      · exact ih [] (by simp) x hx
      · rename_i h
        rcases List.mem_cons.1 hx with rfl | hx
        · exact ⟨h, hc⟩
        · exact ih [] (by simp) x hx
    · rename_i h
      refine ih (c ++ [b]) (fun q => ?_) x hx
      rcases List.mem_append.1 q with q | q
      · exact hc q
      · simp only [List.mem_singleton] at q; exact h q.symm
theorem wds_wd (l : List UInt8) : ∀ x ∈ wds l, Wd x := fw_wd l [] (by simp)
theorem fw_len : ∀ (B c : List UInt8), (fw c B).length ≤ B.length + 1 := by
  intro B
  induction B with
  | nil => intro c; unfold fw; split <;> simp
  | cons b B ih =>
    intro c
    unfold fw
    split
    · split
      · have := ih []; simp; omega
      · have := ih []; simp; omega
    · have := ih (c ++ [b]); simp; omega
theorem fw_size : ∀ (B c : List UInt8), ∀ x ∈ fw c B, x.length ≤ c.length + B.length := by
  intro B
  induction B with
  | nil =>
    intro c x hx
    unfold fw at hx
    split at hx
    · cases hx
    · simp only [List.mem_singleton] at hx; subst hx; simp
  | cons b B ih =>
    intro c x hx
    unfold fw at hx
    split at hx
    · split at hx
      · have := ih [] x hx; simp at this ⊢; omega
      · rcases List.mem_cons.1 hx with rfl | hx
        · simp
        · have := ih [] x hx; simp at this ⊢; omega
    · have := ih (c ++ [b]) x hx; simp at this ⊢; omega
/-! ### The library's way -/
theorem at_mid (A : List UInt8) (b : UInt8) (B : List UInt8) (h : A.length < (bts (A ++ b :: B)).size) : (bts (A ++ b :: B))[A.length]'h = b := by
  rw [ByteArray.getElem_eq_getElem_data]
  simp [bts]
theorem cut_word (P c B : List UInt8) : (bts (P ++ c ++ B)).extract P.length (P ++ c).length = bts c := by
  rw [extract_bts]
  congr 1
  rw [List.append_assoc, List.drop_left]
  have : (P ++ c).length - P.length = c.length := by simp
  rw [this, List.take_left]
end Go.Proofs.YtdgkohichikpdaaDoorX
