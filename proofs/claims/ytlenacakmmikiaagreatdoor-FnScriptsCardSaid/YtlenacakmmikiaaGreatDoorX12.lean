/- From what an argument reads to what the abstract machine is handed, and back from its answer. -/
import Derived.Test.YtlenacakmmikiaaGreatDoorX11
import Derived.OpenShut
import Derived.ChangeArms
import Derived.RowKit
import Derived.ChangeSame
namespace Go.Proofs.YtlenacakmmikiaaGreatDoorX
open Go Go.RowKit Go.Deep Go.ChangeShapes Go.WideShapes
set_option linter.unusedVariables false

def I64 (n : Int) : Prop := -9223372036854775808 ≤ n ∧ n ≤ 9223372036854775807
def OkStr (s : ByteArray) : Prop := s.size ≤ 9223372036854775807
def OkL {α : Type} (ok : α → Prop) (l : List α) : Prop := l.length ≤ 9223372036854775807 ∧ ∀ x, x ∈ l → ok x
theorem list_of {α : Type} {Q : Nat → α → Prop} : ∀ n : Nat, (∀ i, i < n → ∃ p, Q i p) → ∃ l : List α, l.length = n ∧ ∀ (j : Nat) (p : α), l[j]? = some p → Q j p
  | 0, _ => ⟨[], rfl, fun j p h => by simp at h⟩
  | n + 1, h => by
    obtain ⟨l, hl, hq⟩ := list_of n (fun i hi => h i (Nat.lt_succ_of_lt hi))
    obtain ⟨p, hp⟩ := h n (Nat.lt_succ_self n)
    refine ⟨l ++ [p], by simp [hl], fun j q hj => ?_⟩
    by_cases hjn : j < n
    · rw [List.getElem?_append_left (by omega)] at hj
      exact hq j q hj
    · rw [List.getElem?_append_right (by omega)] at hj
      have : j - l.length = 0 := by
        obtain ⟨h1, _⟩ := List.getElem?_eq_some_iff.1 hj
        simp at h1
        omega
      rw [this] at hj
      simp at hj
      subst hj
      have : j = n := by omega
      subst this
      exact hp
section
def BlkAt (w : World) (v : Value) : Blk → Prop
  | .row false k xs => ∃ A cap, v = .slice A xs.length cap ∧ xs.length ≤ cap ∧ ∀ j u, (flat k xs)[j]? = some u → ∃ a, A = some a ∧ w.cell? (a.add j) = some u
  | _ => False
/-- Cells that read as these leaves and blocks do. -/
def Lays (w : World) (n : Nat) (l : List Sc) (bl : List Blk) (cs : List Value) : Prop :=
  ∃ vs : List Value, F2 (fun b v => BlkAt w v b) bl vs ∧ ∀ (B : Nat → Blk) (ρ : Nat → Value), (∀ j b, bl[j]? = some b → B (n + j) = b) → (∀ j v, vs[j]? = some v → ρ (n + j) = v) → F2 (VS B ρ) l cs
def LaysA (w : World) (n : Nat) (l : List A1) (bl : List Blk) (cs : List Value) : Prop :=
  ∃ vs : List Value, F2 (fun b v => BlkAt w v b) bl vs ∧ ∀ (B : Nat → Blk) (ρ : Nat → Value), (∀ j b, bl[j]? = some b → B (n + j) = b) → (∀ j v, vs[j]? = some v → ρ (n + j) = v) → F2 (V1 B ρ) l cs
variable {w : World} {n : Nat}
theorem lays_nil : Lays w n [] [] [] := ⟨[], trivial, fun _ _ _ _ => trivial⟩
theorem lays_v (u : Value) : Lays w n [.v u] [] [u] := ⟨[], trivial, fun _ _ _ _ => ⟨rfl, trivial⟩⟩
theorem lays_row {k : K} {xs : List (T k)} {v : Value} (h : BlkAt w v (.row false k xs)) : Lays w n [.sl n] [.row false k xs] [v] :=
  ⟨[v], ⟨h, trivial⟩, fun B ρ hB hρ => ⟨⟨by rw [show B n = _ from hB 0 _ rfl]; simp, (hρ 0 _ rfl).symm, by obtain ⟨A, cap, rfl, _⟩ := h; rfl⟩, trivial⟩⟩
theorem lays_app {l l' : List Sc} {bl bl' : List Blk} {cs cs' : List Value} (h : Lays w n l bl cs) {m : Nat} (hm : m = n + bl.length) (h' : Lays w m l' bl' cs') : Lays w n (l ++ l') (bl ++ bl') (cs ++ cs') := by
  subst hm
  obtain ⟨vs, h1, h2⟩ := h
  obtain ⟨vs', h1', h2'⟩ := h'
  have hl := h1.len
  refine ⟨vs ++ vs', h1.app h1', fun B ρ hB hρ => (h2 B ρ (fun j b hj => hB j b ?_) (fun j v hj => hρ j v ?_)).app (h2' B ρ (fun j b hj => ?_) (fun j v hj => ?_))⟩
  · rw [List.getElem?_append_left (List.getElem?_eq_some_iff.1 hj).1]; exact hj
  · rw [List.getElem?_append_left (List.getElem?_eq_some_iff.1 hj).1]; exact hj
  · rw [Nat.add_assoc]; exact hB _ b (by rw [List.getElem?_append_right (by omega), Nat.add_sub_cancel_left]; exact hj)
  · rw [Nat.add_assoc]; exact hρ _ v (by rw [List.getElem?_append_right (by omega), hl, Nat.add_sub_cancel_left]; exact hj)
theorem laysA_nil : LaysA w n [] [] [] := ⟨[], trivial, fun _ _ _ _ => trivial⟩
theorem laysA_ag {l : List Sc} {bl : List Blk} {cs : Array Value} (h : Lays w n l bl cs.toList) : LaysA w n [.ag l] bl [.agg cs] := by
  obtain ⟨vs, h1, h2⟩ := h
  exact ⟨vs, h1, fun B ρ hB hρ => ⟨⟨cs, rfl, h2 B ρ hB hρ⟩, trivial⟩⟩
theorem laysA_sc {s : Sc} {bl : List Blk} {v : Value} (h : Lays w n [s] bl [v]) : LaysA w n [.sc s] bl [v] := by
  obtain ⟨vs, h1, h2⟩ := h
  exact ⟨vs, h1, fun B ρ hB hρ => ⟨(h2 B ρ hB hρ).1, trivial⟩⟩
theorem laysA_app {l l' : List A1} {bl bl' : List Blk} {cs cs' : List Value} (h : LaysA w n l bl cs) {m : Nat} (hm : m = n + bl.length) (h' : LaysA w m l' bl' cs') : LaysA w n (l ++ l') (bl ++ bl') (cs ++ cs') := by
  subst hm
  obtain ⟨vs, h1, h2⟩ := h
  obtain ⟨vs', h1', h2'⟩ := h'
  have hl := h1.len
  refine ⟨vs ++ vs', h1.app h1', fun B ρ hB hρ => (h2 B ρ (fun j b hj => hB j b ?_) (fun j v hj => hρ j v ?_)).app (h2' B ρ (fun j b hj => ?_) (fun j v hj => ?_))⟩
  · rw [List.getElem?_append_left (List.getElem?_eq_some_iff.1 hj).1]; exact hj
  · rw [List.getElem?_append_left (List.getElem?_eq_some_iff.1 hj).1]; exact hj
  · rw [Nat.add_assoc]; exact hB _ b (by rw [List.getElem?_append_right (by omega), Nat.add_sub_cancel_left]; exact hj)
  · rw [Nat.add_assoc]; exact hρ _ v (by rw [List.getElem?_append_right (by omega), hl, Nat.add_sub_cancel_left]; exact hj)
/-- What holds of a piece of the cells, put together. -/
theorem lays_cut {cs : List Value} {o s o' : Nat} (ho : o + s = o') {l l' : List Sc} {bl bl' : List Blk} (h : Lays w n l bl ((cs.drop o).take s)) {m : Nat} (hm : m = n + bl.length) (h' : Lays w m l' bl' (cs.drop o')) : Lays w n (l ++ l') (bl ++ bl') (cs.drop o) := by
  have e : cs.drop o = (cs.drop o).take s ++ cs.drop o' := by rw [← ho, ← List.drop_drop, List.take_append_drop]
  rw [e]
  exact lays_app h hm h'
theorem lays_end {cs : List Value} {o s : Nat} (hl : cs.length = o + s) {l : List Sc} {bl : List Blk} (h : Lays w n l bl ((cs.drop o).take s)) : Lays w n l bl (cs.drop o) := by
  rw [List.take_of_length_le (by simp; omega)] at h
  exact h
theorem lays_enc {l : List Value} {cs : List Value} (h : Lays w n (l.map .v) [] cs) : cs = l := by
  obtain ⟨vs, h1, h2⟩ := h
  cases vs with
  | cons _ _ => exact h1.elim
  | nil =>
    have := h2 (fun _ => .no) (fun _ => undef) (fun j b hj => by simp at hj) (fun j b hj => by simp at hj)
    clear h2 h1
    induction l generalizing cs with
    | nil => cases cs with
      | nil => rfl
      | cons _ _ => exact this.elim
    | cons a l ih => cases cs with
      | nil => exact this.elim
      | cons b cs => rw [show b = a from this.1, ih this.2]

section
variable {H : Type} (enc : TypeId × Value → H) (P : Program) (W : World)
/-- What can be read at a type is, for some y that is well formed, the leaves and blocks of y. -/
def Told {α : Type} (t : TypeId) (lv : Nat → α → List Sc) (bv : α → List Blk) (ok : α → Prop) : Prop :=
  ∀ (base : Nat) (spare : Nat → Bool) (held : Bool) (fuel : Nat) (cs : List Value) (x : DataW H × List MemPlace), DataW.trod enc P W base spare held fuel t cs = some x → ∃ y, (∀ n, Lays W n (lv n y) (bv y) cs) ∧ ok y
variable {enc P W}
theorem told_int {t : TypeId} (ht : P.underlying t = some (.int .i64)) : Told enc P W t (fun _ (x : Int) => [.v (.int .i64 x)]) (fun _ => []) I64 := by
  intro base spare held fuel cs x h
  obtain ⟨n, rfl, _, hw⟩ := DataW.trod_int ht h
  exact ⟨n, fun _ => lays_v _, bounds_i64 hw⟩
theorem told_bool {t : TypeId} (ht : P.underlying t = some .bool) : Told enc P W t (fun _ (x : Bool) => [.v (.bool x)]) (fun _ => []) (fun _ => True) := by
  intro base spare held fuel cs x h
  obtain ⟨n, rfl, _⟩ := DataW.trod_bool ht h
  exact ⟨n, fun _ => lays_v _, trivial⟩
theorem told_string {t : TypeId} (ht : P.underlying t = some .string) : Told enc P W t (fun _ (x : ByteArray) => [.v (.string x)]) (fun _ => []) OkStr := by
  intro base spare held fuel cs x h
  obtain ⟨n, rfl, _, hw⟩ := DataW.trod_string ht h
  exact ⟨n, fun _ => lays_v _, hw⟩
theorem told_slice {t e : TypeId} {k : K} {lv : Nat → T k → List Sc} {bv : T k → List Blk} {ok : T k → Prop} (ht : P.underlying t = some (.slice e)) (hc : P.cellsOf e = sz k) (he : ∀ y, bv y = [] ∧ lv 0 y = (YtlenacakmmikiaaGreatDoorX.enc k y).map .v) (hd : Told enc P W e lv bv ok) : Told enc P W t (fun n (x : List (T k)) => [.sl n]) (fun x => [.row false k x]) (OkL ok) := by
  intro base spare held fuel cs x h
  rcases open_slice ht h with ⟨rfl, _⟩ | ⟨a, len, cap, m, n, D, Pl, rfl, hb, hl, hm, hmm, hx, hi⟩
  · refine ⟨[], fun n => lays_row ⟨none, 0, rfl, Nat.le_refl _, fun j u hu => by simp [flat] at hu⟩, by simp, fun x hx => by simp at hx⟩
  · have hlm : len ≤ m := by rw [hmm]; split <;> omega
    obtain ⟨l, hll, hq⟩ := list_of (Q := fun i p => ok p ∧ ∀ j u, (YtlenacakmmikiaaGreatDoorX.enc k p)[j]? = some u → W.cell? (a.add (i * sz k + j)) = some u) len (fun i hil => by
      obtain ⟨cs', hcs, ht'⟩ := hi i (by omega)
      obtain ⟨y, hK, hok⟩ := hd _ _ _ _ _ _ ht'
      obtain ⟨e1, e2⟩ := he y
      have hK0 := hK 0
      rw [e1, e2] at hK0
      have := lays_enc hK0
      subst this
      obtain ⟨_, hcl, hat⟩ := World.cells?_some hcs
      refine ⟨y, hok, fun j u hu => ?_⟩
      have hj : j < P.cellsOf e := by
        obtain ⟨h1, _⟩ := List.getElem?_eq_some_iff.1 hu
        rw [YtlenacakmmikiaaGreatDoorX.enc_len] at h1
        omega
      have h2 := hat j hj
      rw [hu] at h2
      rw [← hc, ← Go.Deep.add_add]
      exact h2)
    have hmax : len ≤ 9223372036854775807 := by unfold maxLen at hm; omega
    subst hll
    refine ⟨l, fun n => lays_row ⟨some a, cap, rfl, hl, fun j u hu => ⟨a, rfl, ?_⟩⟩, hmax, fun x hx => ?_⟩
    · have hs := YtlenacakmmikiaaGreatDoorX.sz_pos k
      have hjl : j < l.length * sz k := by rw [← flat_len]; exact (List.getElem?_eq_some_iff.1 hu).1
      have hq' : j / sz k < l.length := Nat.div_lt_of_lt_mul (by rw [Nat.mul_comm]; exact hjl)
      obtain ⟨_, h3⟩ := hq (j / sz k) _ (List.getElem?_eq_getElem hq')
      have h4 := flat_get k l (j / sz k) (j % sz k) _ (List.getElem?_eq_getElem hq') (Nat.mod_lt _ hs)
      have h5 : j / sz k * sz k + j % sz k = j := by rw [Nat.mul_comm]; exact Nat.div_add_mod j (sz k)
      rw [h5] at h4
      rw [← h5]
      exact h3 _ _ (h4 ▸ hu)
    · obtain ⟨j, hj, rfl⟩ := List.getElem_of_mem hx
      exact (hq j _ (List.getElem?_eq_getElem hj)).1
end
/-- The answer of a law, from its contract. -/
theorem law_ok {P : Program} {g : FuncId} {A : Pk} {u : Value} {bl : List Blk} (h : Ct P g A ⟨.a (.sc (.v u)), bl⟩) {vs : Array Value} (htb : TB (fun _ => none) w) (hl : LaysA w 0 A.avs A.bl vs.toList) :
    Calls P g vs w fun e w' => e = .returned u ∧ Below w.heap.size w w' := by
  obtain ⟨us, h1, h2⟩ := hl
  have hr : ∀ j b, A.bl[j]? = some b → BlkAt w (us.getD j undef) b := fun j b hj => by
    obtain ⟨v, hv, hb⟩ := h1.get hj
    rw [List.getD_eq_getElem?_getD, hv]; exact hb
  have hf := h2 (blF A.bl) (fun i => us.getD i undef) (fun j b hj => by simp [blF, hj]) (fun j v hj => by simp [hj])
  refine (h.2 w (fun i => us.getD i undef) (fun _ => none) vs htb (fun i => ?_) hf (fun g i hg => by cases hg) (fun b hb => ?_)).mono fun e w' ⟨v, ρ', ow', he, hv, _, _, fr, _⟩ => ?_
  · show BlkOk _ _ _ _ _ (blF A.bl i)
    cases hA : A.bl[i]? with
    | none => simp [blF, hA, BlkOk]
    | some b =>
      have := hr i b hA
      have hb : blF A.bl i = b := by simp [blF, hA]
      rw [hb]
      cases b with
      | row own k xs =>
        cases own with
        | true => exact this.elim
        | false =>
          obtain ⟨A', cap, e1, e2, e3⟩ := this
          refine ⟨A', cap, e1, e2, fun j u hu => ?_⟩
          obtain ⟨a, e4, e5⟩ := e3 j u hu
          exact ⟨a, e4, e5, rfl⟩
      | _ => exact this.elim
  · obtain ⟨j, hj, rfl⟩ := List.getElem_of_mem hb
    have := hr j _ (List.getElem?_eq_getElem hj)
    intro hno
    rw [hno] at this
    exact this.elim
  · exact ⟨by rw [he]; exact congrArg _ hv, ⟨fr.os, fr.tape, fr.output, fr.size, fun k hk => fr.block k hk rfl⟩⟩
end
end Go.Proofs.YtlenacakmmikiaaGreatDoorX
