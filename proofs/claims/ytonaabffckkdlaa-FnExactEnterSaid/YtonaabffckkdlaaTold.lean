-- Written for this claim by wip/xprint.py of this repository (by way of the kit's print); Lean checks every line.
import Derived.Test.YtonaabffckkdlaaWWords
import Derived.Deep.Slices
import Derived.ChangeArms
import Derived.OpenShut
import Derived.RowKit
import Derived.Deep.Fields
import Derived.ChangeSame
namespace Go.Proofs.Ytonaabffckkdlaa.Told
open Go.RowKit Go.Deep Go.ChangeShapes Go.WideShapes Go.Proofs.YtonaabffckkdlaaW.PrintWords
set_option linter.unusedVariables false
def I64 (n : Int) : Prop := -9223372036854775808 ≤ n ∧ n ≤ 9223372036854775807
def OkB (b : Bool) : Prop := True
def OkS (s : ByteArray) : Prop := s.size ≤ 9223372036854775807
def OkL {α : Type} (ok : α → Prop) (l : List α) : Prop := l.length ≤ 9223372036854775807 ∧ ∀ x, x ∈ l → ok x
theorem I64.of_wf {n : Int} (h : (Lit.int .i64 n).wf = true) : I64 n := bounds_i64 h
theorem list_of {α : Type} {Q : Nat → α → Prop} : ∀ n : Nat, (∀ i, i < n → ∃ p, Q i p) → ∃ l : List α, l.length = n ∧ ∀ (j : Nat) (p : α), l[j]? = some p → Q j p
  | 0, _ => ⟨[], rfl, fun j p h => by simp at h⟩
  | n + 1, h => by
    obtain ⟨l, hl, hq⟩ := list_of n (fun i hi => h i (Nat.lt_succ_of_lt hi))
    obtain ⟨p, hp⟩ := h n (Nat.lt_succ_self n)
    refine ⟨l ++ [p], by simp [hl], fun j q hj => ?_⟩
    by_cases hjn : j < n
    · rw [List.getElem?_append_left (by omega)] at hj
      exact hq j q hj
    · rw [List.getElem?_append_right (by omega)] at hj
      have : j - l.length = 0 := by
        obtain ⟨h1, _⟩ := List.getElem?_eq_some_iff.1 hj
        simp at h1
        omega
      rw [this] at hj
      simp at hj
      subst hj
      have : j = n := by omega
      subst this
      exact hp
theorem cut_ (cs : List Value) (o s o' : Nat) (h : o + s = o') : cs.drop o = (cs.drop o).take s ++ cs.drop o' := by
  rw [← h, ← List.drop_drop, List.take_append_drop]
theorem last_ (cs : List Value) (o s : Nat) (h : cs.length = o + s) : (cs.drop o).take s = cs.drop o := List.take_of_length_le (by simp; omega)
section
variable {H : Type} (enc : TypeId × Value → H) (P : Program) (W : World)
def Told {α : Type} (t : TypeId) (d : Kd α) (ok : α → Prop) : Prop :=
  ∀ (base : Nat) (spare : Nat → Bool) (held : Bool) (fuel : Nat) (cs : List Value) (x : DataW H × List MemPlace), DataW.trod enc P W base spare held fuel t cs = some x → ∃ y, d.K W y cs ∧ ok y
variable {enc P W}
theorem told_int {t : TypeId} (ht : P.underlying t = some (.int .i64)) : Told enc P W t (Kd.int .i64) I64 := by
  intro base spare held fuel cs x h
  obtain ⟨n, rfl, _, hw⟩ := DataW.trod_int ht h
  exact ⟨n, rfl, bounds_i64 hw⟩
theorem told_bool {t : TypeId} (ht : P.underlying t = some .bool) : Told enc P W t Kd.bool OkB := by
  intro base spare held fuel cs x h
  obtain ⟨n, rfl, _⟩ := DataW.trod_bool ht h
  exact ⟨n, rfl, trivial⟩
theorem told_string {t : TypeId} (ht : P.underlying t = some .string) : Told enc P W t Kd.string OkS := by
  intro base spare held fuel cs x h
  obtain ⟨n, rfl, _, hw⟩ := DataW.trod_string ht h
  exact ⟨n, rfl, hw⟩
theorem told_slice {t e : TypeId} {α : Type} {d : Kd α} {ok : α → Prop} (ht : P.underlying t = some (.slice e)) (hc : P.cellsOf e = d.sz) (hd : Told enc P W e d ok) : Told enc P W t (Kd.slice e d) (OkL ok) := by
  intro base spare held fuel cs x h
  rcases open_slice ht h with ⟨rfl, _⟩ | ⟨a, len, cap, m, n, D, Pl, rfl, hb, hl, hm, hmm, hx, hi⟩
  · exact ⟨[], ⟨none, 0, rfl, Nat.le_refl _, Kd.C_nil _ _⟩, by simp, fun x hx => by simp at hx⟩
  · have hlm : len ≤ m := by rw [hmm]; split <;> omega
    obtain ⟨l, hll, hq⟩ := list_of (Q := fun i p => ok p ∧ ∃ c : List Value, c.length = d.sz ∧ d.K W p c ∧ ∀ j u, c[j]? = some u → W.cell? (a.add (i * d.sz + j)) = some u) len (fun i hil => by
      obtain ⟨cs', hcs, ht'⟩ := hi i (by omega)
      obtain ⟨y, hK, hok⟩ := hd _ _ _ _ _ _ ht'
      obtain ⟨_, hcl, hat⟩ := World.cells?_some hcs
      refine ⟨y, hok, cs', d.K_len hK, hK, fun j u hu => ?_⟩
      have hj : j < P.cellsOf e := by
        obtain ⟨h1, _⟩ := List.getElem?_eq_some_iff.1 hu
        omega
      have h2 := hat j hj
      rw [hu] at h2
      rw [← hc, ← Go.Deep.add_add]
      exact h2)
    have hmax : len ≤ 9223372036854775807 := by unfold maxLen at hm; omega
    subst hll
    refine ⟨l, ⟨some a, cap, rfl, hl, rfl, hmax, fun hn => ⟨a, rfl, fun j p hj => ?_⟩⟩, hmax, fun x hx => ?_⟩
    · obtain ⟨_, c, h1, h2, h3⟩ := hq j p hj
      exact ⟨c, h1, h2, h3⟩
    · obtain ⟨j, hj, rfl⟩ := List.getElem_of_mem hx
      exact (hq j _ (List.getElem?_eq_getElem hj)).1
end
end Go.Proofs.Ytonaabffckkdlaa.Told
