/- Acts in words: the words of an act, and which act they tell. -/
import Derived.Test.YtdgkohichikpdaaDoorPT5
import Derived.Test.YtdgkohichikpdaaDoorPA1
namespace Go.Proofs.YtdgkohichikpdaaDoorX
open Go Go.Proofs
set_option linter.unusedVariables false
def actW (k : Int) : List UInt8 := ([[], [98, 97, 107, 101], [115, 101, 108, 108], [99, 104, 101, 97, 112], [109, 111, 114, 110, 105, 110, 103], [98, 117, 121], [102, 108, 111, 117, 114]] : List (List UInt8)).getD k.toNat []
def actN (k : Int) : Nat := ([0, 1, 1, 1, 0, 2, 1] : List Nat).getD k.toNat 0
/-- The words of an act. -/
def TF (a : Deed) : List (List UInt8) := actW a.Kind :: ([a.A, a.B].take (actN a.Kind)).map Lib.itoa
theorem act_kinds {a : Deed} (h : actOk a = true) : a.Kind = 1 ∨ a.Kind = 2 ∨ a.Kind = 3 ∨ a.Kind = 4 ∨ a.Kind = 5 ∨ a.Kind = 6 := by
  by_cases k1 : a.Kind = 1
  · exact .inl k1
  by_cases k2 : a.Kind = 2
  · exact .inr (.inl k2)
  by_cases k3 : a.Kind = 3
  · exact .inr (.inr (.inl k3))
  by_cases k4 : a.Kind = 4
  · exact .inr (.inr (.inr (.inl k4)))
  by_cases k5 : a.Kind = 5
  · exact .inr (.inr (.inr (.inr (.inl k5))))
  · exact .inr (.inr (.inr (.inr (.inr (actOk_kind h k1 k2 k3 k4 k5)))))
/-- The numbers of an act that is right: those that its words do not tell are 0. -/
theorem act_nums {a : Deed} (h : actOk a = true) : (0 ≤ a.A ∧ a.A ≤ 100000) ∧ (0 ≤ a.B ∧ a.B ≤ 100000) ∧ (actN a.Kind ≤ 1 → a.B = 0) ∧ (actN a.Kind = 0 → a.A = 0) := by
  rcases act_kinds h with e | e | e | e | e | e <;> (unfold actOk at h; rw [e] at h ⊢; simp [inR, actN] at h ⊢; omega)
theorem dig_ne (b : UInt8) (h : Dig b) (c : UInt8) (hc : c.toNat < 48) : b ≠ c := fun e => by unfold Dig at h; rw [e] at h; omega
theorem itoa_facts (n : Int) (h : Num n) : (∀ b ∈ Lib.itoa n, Dig b) ∧ Lib.itoa n ≠ [] ∧ (Lib.itoa n).length ≤ 10 := by
  obtain ⟨u, rfl⟩ : ∃ u : Nat, n = u := ⟨n.toNat, by have := h.1; omega⟩
  obtain ⟨q1, q2, q3, q4⟩ := dec_facts 10 u (by have := h.2; omega)
  rw [itoa_nat]
  exact ⟨q1, fun e => by rw [e] at q4; simp at q4, by omega⟩
theorem itoa_wd (n : Int) (h : Num n) : Wd (Lib.itoa n) := by
  obtain ⟨h1, h2, _⟩ := itoa_facts n h
  exact ⟨h2, fun q => dig_ne _ (h1 _ q) 32 (by decide) rfl⟩
theorem act_num {a : Deed} (h : actOk a = true) : Num a.A ∧ Num a.B := by
  obtain ⟨h1, h2, _⟩ := act_nums h
  unfold Num; omega
theorem TF_wd {a : Deed} (h : actOk a = true) : Wd (actW a.Kind) ∧ ∀ x ∈ ([a.A, a.B].take (actN a.Kind)).map Lib.itoa, Wd x := by
  constructor
  · rcases act_kinds h with e | e | e | e | e | e <;> rw [e] <;> unfold Wd <;> decide
  · intro x hx
    obtain ⟨n, hn, rfl⟩ := List.mem_map.1 hx
    have := List.mem_of_mem_take hn
    obtain ⟨q1, q2⟩ := act_num h
    simp only [List.mem_cons, List.not_mem_nil, or_false] at this
    rcases this with e | e <;> rw [e] <;> exact itoa_wd _ (by assumption)
theorem actW_inj {a b : Deed} (ha : actOk a = true) (hb : actOk b = true) (e : actW a.Kind = actW b.Kind) : a.Kind = b.Kind := by
  rcases act_kinds ha with x | x | x | x | x | x <;> rcases act_kinds hb with y | y | y | y | y | y <;> rw [x, y] at e ⊢ <;> exact absurd e (by decide)
/-- Words tell an act. -/
def Tells (p : List (List UInt8)) (a : Deed) : Prop := actOk a = true ∧ TF a = p
/-- What both answer where the words are p. -/
def Reads (p : List (List UInt8)) (r : Deed × Bool) : Prop := (r.2 = true ∧ Tells p r.1) ∨ (r = (⟨0, 0, 0⟩, false) ∧ ∀ a, ¬ Tells p a)
theorem TF_len {a : Deed} (h : actOk a = true) : (TF a).length = actN a.Kind + 1 ∧ actN a.Kind ≤ 2 := by
  rcases act_kinds h with e | e | e | e | e | e <;> unfold TF <;> rw [e] <;> simp [actN]
theorem lineL_TF (a : Deed) : lineL (actW a.Kind) ([a.A, a.B].take (actN a.Kind)) = lineW (TF a) := by
  unfold lineL TF
  show _ = actW a.Kind ++ ((([a.A, a.B].take (actN a.Kind)).map Lib.itoa).map (32 :: ·)).flatten
  rw [List.map_map]; rfl
theorem lineW_inj {a : Deed} (h : actOk a = true) {w : List UInt8} {r : List (List UInt8)} (hw : Wd w) (hr : ∀ x ∈ r, Wd x) (e : lineW (TF a) = lineW (w :: r)) : TF a = w :: r := by
  have h1 := wds_lineW w r hw hr
  obtain ⟨t1, t2⟩ := TF_wd h
  have h2 := wds_lineW (actW a.Kind) _ t1 t2
  have h3 : wds (lineW (TF a)) = TF a := h2
  rw [← h3, e, h1]
end Go.Proofs.YtdgkohichikpdaaDoorX
