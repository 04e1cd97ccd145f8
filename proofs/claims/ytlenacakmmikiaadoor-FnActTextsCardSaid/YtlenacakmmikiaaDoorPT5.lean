/- The words of a line: as the program's library parts them and as the reference's loop does. -/
import Derived.Test.YtlenacakmmikiaaDoorPS0
import Derived.Lib.FieldsP
import Derived.Laws.RangeString
namespace Go.Proofs.YtlenacakmmikiaaDoorX
open Go Go.Proofs
set_option linter.unusedVariables false
/-- The words from a place on, where a word is under way. -/
def fw : List UInt8 → List UInt8 → List (List UInt8)
  | c, [] => if c = [] then [] else [c]
  | c, b :: B => if b = 32 then (if c = [] then fw [] B else c :: fw [] B) else fw (c ++ [b]) B
def wds (l : List UInt8) : List (List UInt8) := fw [] l
/-- A word: some bytes, none of them a space. -/
def Wd (w : List UInt8) : Prop := w ≠ [] ∧ (32 : UInt8) ∉ w
theorem fw_run (B : List UInt8) : ∀ (w c : List UInt8), (32 : UInt8) ∉ w → fw c (w ++ B) = fw (c ++ w) B := by
  intro w
  induction w with
  | nil => intro c _; simp
  | cons b w ih =>
    intro c h
    have h1 : b ≠ 32 := fun e => h (by simp [e])
    show (if b = 32 then _ else fw (c ++ [b]) (w ++ B)) = _
    rw [if_neg h1, ih _ (fun q => h (by simp [q]))]
    simp
theorem fw_space (c B : List UInt8) (h : c ≠ []) : fw c (32 :: B) = c :: fw [] B := by
  show (if (32 : UInt8) = 32 then (if c = [] then fw [] B else c :: fw [] B) else _) = _
  rw [if_pos rfl, if_neg h]
theorem fw_space0 (B : List UInt8) : fw [] (32 :: B) = fw [] B := by
  show (if (32 : UInt8) = 32 then (if ([] : List UInt8) = [] then fw [] B else _) else _) = _
  rw [if_pos rfl, if_pos rfl]
/-- Words side by side, a space between each two. -/
def lineW : List (List UInt8) → List UInt8
  | [] => []
  | w :: r => w ++ (r.map (32 :: ·)).flatten
theorem wds_line : ∀ (r : List (List UInt8)) (w E : List UInt8), Wd w → (∀ x ∈ r, Wd x) → (E = [] ∨ E = [32]) → wds (w ++ (r.map (32 :: ·)).flatten ++ E) = w :: r := by
  intro r
  induction r with
  | nil =>
    intro w E hw _ hE
    unfold wds
    rw [List.map_nil, List.flatten_nil, List.append_nil, fw_run E w [] hw.2, List.nil_append]
    rcases hE with rfl | rfl
    · show (if w = [] then [] else [w]) = _; rw [if_neg hw.1]
    · rw [fw_space _ _ hw.1]; rfl
  | cons x r ih =>
    intro w E hw hr hE
    have e : w ++ ((x :: r).map (32 :: ·)).flatten ++ E = w ++ (32 :: (x ++ (r.map (32 :: ·)).flatten ++ E)) := by simp
    unfold wds
    rw [e, fw_run _ w [] hw.2, List.nil_append, fw_space _ _ hw.1]
    have := ih x E (hr x (by simp)) (fun y hy => hr y (by simp [hy])) hE
    unfold wds at this
    rw [this]
theorem wds_lineW (w : List UInt8) (r : List (List UInt8)) (hw : Wd w) (hr : ∀ x ∈ r, Wd x) : wds (lineW (w :: r)) = w :: r := by
  have := wds_line r w [] hw hr (.inl rfl)
  rw [List.append_nil] at this
  exact this
theorem fw_wd : ∀ (B c : List UInt8), (32 : UInt8) ∉ c → ∀ x ∈ fw c B, Wd x := by
  intro B
  induction B with
  | nil =>
    intro c hc x hx
    unfold fw at hx
    split at hx
    · cases hx
    · rename_i h
      simp only [List.mem_singleton] at hx
      subst hx; exact ⟨h, hc⟩
  | cons b B ih =>
    intro c hc x hx
    unfold fw at hx
    split at hx
    · split at hx
      · exact ih [] (by simp) x hx
      · rename_i h
        rcases List.mem_cons.1 hx with rfl | hx
        · exact ⟨h, hc⟩
        · exact ih [] (by simp) x hx
    · rename_i h
      refine ih (c ++ [b]) (fun q => ?_) x hx
      rcases List.mem_append.1 q with q | q
      · exact hc q
      · simp only [List.mem_singleton] at q; exact h q.symm
theorem wds_wd (l : List UInt8) : ∀ x ∈ wds l, Wd x := fw_wd l [] (by simp)
theorem fw_len : ∀ (B c : List UInt8), (fw c B).length ≤ B.length + 1 := by
  intro B
  induction B with
  | nil => intro c; unfold fw; split <;> simp
  | cons b B ih =>
    intro c
    unfold fw
    split
    · split
      · have := ih []; simp; omega
      · have := ih []; simp; omega
    · have := ih (c ++ [b]); simp; omega
theorem fw_size : ∀ (B c : List UInt8), ∀ x ∈ fw c B, x.length ≤ c.length + B.length := by
  intro B
  induction B with
  | nil =>
    intro c x hx
    unfold fw at hx
    split at hx
    · cases hx
    · simp only [List.mem_singleton] at hx; subst hx; simp
  | cons b B ih =>
    intro c x hx
    unfold fw at hx
    split at hx
    · split at hx
      · have := ih [] x hx; simp at this ⊢; omega
      · rcases List.mem_cons.1 hx with rfl | hx
        · simp
        · have := ih [] x hx; simp at this ⊢; omega
    · have := ih (c ++ [b]) x hx; simp at this ⊢; omega
/-! ### The library's way -/
theorem isSp_iff (b : UInt8) : isSp b.toNat = true ↔ b = 32 := by
  unfold isSp
  rw [decide_eq_true_iff]
  constructor
  · intro h; exact UInt8.toNat_inj.1 (by rw [h]; rfl)
  · intro h; subst h; rfl
theorem at_mid (A : List UInt8) (b : UInt8) (B : List UInt8) (h : A.length < (bts (A ++ b :: B)).size) : (bts (A ++ b :: B))[A.length]'h = b := by
  rw [ByteArray.getElem_eq_getElem_data]
  simp [bts]
theorem cut_word (P c B : List UInt8) : (bts (P ++ c ++ B)).extract P.length (P ++ c).length = bts c := by
  rw [extract_bts]
  congr 1
  rw [List.append_assoc, List.drop_left]
  have : (P ++ c).length - P.length = c.length := by simp
  rw [this, List.take_left]
theorem spans_fw (s : ByteArray) : ∀ (B P c : List UInt8) (f : Nat) (acc : List (Nat × Nat)), s = bts (P ++ c ++ B) → (∀ b ∈ B, b.toNat < 128) → B.length ≤ f →
    (Lib.closeSpans s (Lib.spansFromP isSp s f (P ++ c).length (if c = [] then none else some P.length) acc)).map (fun x => s.extract x.1 x.2) = acc.map (fun x => s.extract x.1 x.2) ++ (fw c B).map bts := by
  intro B
  induction B with
  | nil =>
    intro P c f acc hs _ _
    have hsz : s.size = (P ++ c).length := by rw [hs, bts_size, List.append_nil]
    rw [Lib.spansFromP_end _ _ _ _ _ _ (by omega)]
    unfold fw Lib.closeSpans
    by_cases hc : c = []
    · rw [if_pos hc, if_pos hc]; simp
    · rw [if_neg hc, if_neg hc]
      simp only [List.map_append, List.map_cons, List.map_nil]
      have := cut_word P c []
      rw [hsz, hs, this]
  | cons b B ih =>
    intro P c f acc hs hb hf
    cases f with
    | zero => simp at hf
    | succ f =>
      have hlt : (P ++ c).length < s.size := by rw [hs, bts_size]; simp
      have hdec : Utf8.decode s (P ++ c).length = (b.toNat, 1) := by
        have hat : s[(P ++ c).length]'hlt = b := by subst hs; exact at_mid (P ++ c) b B hlt
        rw [decode_ascii s _ hlt (by rw [hat]; exact hb b (by simp)), hat]
      have hs2 : s = bts ((P ++ c ++ [b]) ++ [] ++ B) := by rw [hs]; simp
      have hf2 : B.length ≤ f := by simpa using hf
      have hb2 : ∀ x ∈ B, x.toNat < 128 := fun x hx => hb x (by simp [hx])
      unfold Lib.spansFromP fw
      rw [if_pos hlt, hdec]
      by_cases h : b = 32
      · rw [if_pos ((isSp_iff b).2 h), if_pos h]
        by_cases hc : c = []
        · rw [if_pos hc, if_pos hc]
          have := ih (P ++ c ++ [b]) [] f acc hs2 hb2 hf2
          simp only [if_pos] at this
          have e : (P ++ c ++ [b] ++ []).length = (P ++ c).length + 1 := by simp; omega
          rw [e] at this
          exact this
        · rw [if_neg hc, if_neg hc]
          have := ih (P ++ c ++ [b]) [] f (acc ++ [(P.length, (P ++ c).length)]) hs2 hb2 hf2
          simp only [if_pos] at this
          have e : (P ++ c ++ [b] ++ []).length = (P ++ c).length + 1 := by simp; omega
          rw [e] at this
          refine this.trans ?_
          have e2 : s.extract P.length (P ++ c).length = bts c := by rw [hs]; exact cut_word P c (b :: B)
          simp only [List.map_append, List.map_cons, List.map_nil, e2]
          simp
      · rw [if_neg (fun q => h ((isSp_iff b).1 q)), if_neg h]
        have hs3 : s = bts (P ++ (c ++ [b]) ++ B) := by rw [hs]; simp
        have := ih P (c ++ [b]) f acc hs3 hb2 hf2
        rw [if_neg (by simp)] at this
        have e : (P ++ (c ++ [b])).length = (P ++ c).length + 1 := by simp; omega
        rw [e] at this
        by_cases hc : c = []
        · rw [if_pos hc]
          subst hc
          simpa using this
        · rw [if_neg hc]; exact this
theorem goFields_eq (l : List UInt8) (h : ∀ b ∈ l, b.toNat < 128) : Lib.goFieldsP isSp (bts l) = (wds l).map bts := by
  have := spans_fw (bts l) l [] [] (bts l).size [] rfl h (by rw [bts_size]; exact Nat.le_refl _)
  exact this
end Go.Proofs.YtlenacakmmikiaaDoorX
