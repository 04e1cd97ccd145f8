/- Handing over: values and the blocks that they name, named anew. -/
import Derived.Test.YtlenacakmmikiaaGreatDoorX6
namespace Go.Proofs.YtlenacakmmikiaaGreatDoorX
open Go
set_option linter.unusedVariables false
set_option linter.unusedSimpArgs false
theorem getElem?_concat {α : Type} (l : List α) (x y : α) (j : Nat) (h : (l ++ [x])[j]? = some y) : l[j]? = some y ∨ (j = l.length ∧ y = x) := by
  rcases Nat.lt_or_ge j l.length with hj | hj
  · rw [List.getElem?_append_left hj] at h; exact .inl h
  · rw [List.getElem?_append_right hj] at h
    have h0 : j - l.length = 0 := by have := (List.getElem?_eq_some_iff.1 h).1; simp at this; omega
    rw [h0] at h; simp at h
    exact .inr ⟨by omega, h.symm⟩
section
variable {S : St} {C : FuncId → Pk → Rs → Prop} {n0 : Nat}
def IdR (n0 : Nat) (acc : List (Nat × Blk)) (i m : Nat) : Prop := (i < n0 ∧ m = i) ∨ (n0 ≤ i ∧ ∃ (j : Nat) (b : Blk), acc[j]? = some (i, b) ∧ m = n0 + j)
def PS (n0 : Nat) (acc : List (Nat × Blk)) : Sc → Sc → Prop
  | .un, s => s = .un
  | .v u, s => s = .v u
  | .nl, s => s = .nl
  | .sl i, s => ∃ m, s = .sl m ∧ IdR n0 acc i m
  | .bp i off, s => ∃ m, s = .bp m off ∧ IdR n0 acc i m
  | .rp _ _ _ _, _ => False
  | .fn f caps, s => ∃ c, s = .fn f c ∧ F2 (IdR n0 acc) caps c
def P1 (n0 : Nat) (acc : List (Nat × Blk)) : A1 → A1 → Prop
  | .sc s, x => ∃ s', x = .sc s' ∧ PS n0 acc s s'
  | .ag l, x => ∃ l', x = .ag l' ∧ F2 (PS n0 acc) l l'
def PV (n0 : Nat) (acc : List (Nat × Blk)) : AV → AV → Prop
  | .a y, x => ∃ y', x = .a y' ∧ P1 n0 acc y y'
  | .tp l, x => ∃ l', x = .tp l' ∧ F2 (P1 n0 acc) l l'
def Ent (n0 : Nat) (S : St) (acc : List (Nat × Blk)) (i : Nat) (b : Blk) : Prop :=
  n0 ≤ i ∧ ((∃ own k xs o, S.b i = .row own k xs ∧ b = .row o k xs ∧ (o = true → own = true)) ∨
    ∃ own l o l', S.b i = .box own l ∧ b = .box o l' ∧ (o = true → own = true) ∧ F2 (PS n0 acc) l l')
structure Pkd (n0 : Nat) (S : St) (acc : List (Nat × Blk)) : Prop where
  ent : ∀ (j i : Nat) (b : Blk), acc[j]? = some (i, b) → Ent n0 S acc i b
  apart : ∀ (j1 j2 i : Nat) (b1 b2 : Blk), acc[j1]? = some (i, b1) → acc[j2]? = some (i, b2) → j1 ≠ j2 → b1.own = false ∧ b2.own = false
def Sub (acc acc' : List (Nat × Blk)) : Prop := ∀ (j : Nat) (x : Nat × Blk), acc[j]? = some x → acc'[j]? = some x
theorem Sub.refl (acc : List (Nat × Blk)) : Sub acc acc := fun _ _ h => h
theorem Sub.trans {a b c : List (Nat × Blk)} (h : Sub a b) (k : Sub b c) : Sub a c := fun j x e => k j x (h j x e)
theorem Sub.app (acc r : List (Nat × Blk)) : Sub acc (acc ++ r) := fun j x e => by
  rw [List.getElem?_append_left (List.getElem?_eq_some_iff.1 e).1]; exact e
theorem IdR.sub {acc acc' : List (Nat × Blk)} (h : Sub acc acc') {i m : Nat} : IdR n0 acc i m → IdR n0 acc' i m
  | .inl e => .inl e
  | .inr ⟨e, j, b, e1, e2⟩ => .inr ⟨e, j, b, h _ _ e1, e2⟩
theorem PS.sub {acc acc' : List (Nat × Blk)} (h : Sub acc acc') : ∀ {s s' : Sc}, PS n0 acc s s' → PS n0 acc' s s'
  | .un, _, e => e
  | .v _, _, e => e
  | .nl, _, e => e
  | .sl _, _, ⟨m, e, q⟩ => ⟨m, e, q.sub h⟩
  | .bp _ _, _, ⟨m, e, q⟩ => ⟨m, e, q.sub h⟩
  | .rp _ _ _ _, _, e => e.elim
  | .fn _ _, _, ⟨c, e, q⟩ => ⟨c, e, q.mono fun _ _ => IdR.sub h⟩
theorem P1.sub {acc acc' : List (Nat × Blk)} (h : Sub acc acc') : ∀ {s s' : A1}, P1 n0 acc s s' → P1 n0 acc' s s'
  | .sc _, _, ⟨m, e, q⟩ => ⟨m, e, q.sub h⟩
  | .ag _, _, ⟨m, e, q⟩ => ⟨m, e, q.mono fun _ _ => PS.sub h⟩
theorem PV.sub {acc acc' : List (Nat × Blk)} (h : Sub acc acc') : ∀ {s s' : AV}, PV n0 acc s s' → PV n0 acc' s s'
  | .a _, _, ⟨m, e, q⟩ => ⟨m, e, q.sub h⟩
  | .tp _, _, ⟨m, e, q⟩ => ⟨m, e, q.mono fun _ _ => P1.sub h⟩
theorem Ent.sub {acc acc' : List (Nat × Blk)} (h : Sub acc acc') {i : Nat} {b : Blk} : Ent n0 S acc i b → Ent n0 S acc' i b
  | ⟨e, .inl q⟩ => ⟨e, .inl q⟩
  | ⟨e, .inr ⟨own, l, o, l', q1, q2, q3, q4⟩⟩ => ⟨e, .inr ⟨own, l, o, l', q1, q2, q3, q4.mono fun _ _ => PS.sub h⟩⟩
theorem clash_no {o : Bool} {i : Nat} : ∀ {acc : List (Nat × Blk)}, clash o i acc = false → ∀ (j : Nat) (b : Blk), acc[j]? = some (i, b) → o = false ∧ b.own = false
  | [], _, _, _, e => by simp at e
  | (q, b0) :: r, h, j, b, e => by
    simp only [clash, Bool.or_eq_false_iff, Bool.and_eq_false_iff] at h
    cases j with
    | zero =>
      simp at e
      obtain ⟨rfl, rfl⟩ := e
      rcases h.1 with h1 | h1
      · simp at h1
      · exact h1
    | succ j => exact clash_no h.2 j b (by simpa using e)
theorem Pkd.nil (n0 : Nat) (S : St) : Pkd n0 S [] := ⟨fun j i b h => by simp at h, fun _ _ _ _ _ h => by simp at h⟩
theorem Pkd.push {acc : List (Nat × Blk)} (h : Pkd n0 S acc) {i : Nat} {b : Blk} (he : Ent n0 S acc i b) (hc : clash b.own i acc = false) : Pkd n0 S (acc ++ [(i, b)]) := by
  refine ⟨fun j i' b' e => ?_, fun j1 j2 i' b1 b2 e1 e2 hne => ?_⟩
  · rcases getElem?_concat _ _ _ _ e with e | ⟨_, e⟩
    · exact (h.ent j i' b' e).sub (Sub.app _ _)
    · cases e; exact he.sub (Sub.app _ _)
  · rcases getElem?_concat _ _ _ _ e1 with e1 | ⟨q1, e1⟩ <;> rcases getElem?_concat _ _ _ _ e2 with e2 | ⟨q2, e2⟩
    · exact h.apart j1 j2 i' b1 b2 e1 e2 hne
    · cases e2; have := clash_no hc j1 b1 e1; exact ⟨this.2, this.1⟩
    · cases e1; exact clash_no hc j2 b2 e2
    · exact absurd (q1.trans q2.symm) hne
theorem last_push (acc : List (Nat × Blk)) (x : Nat × Blk) : (acc ++ [x])[acc.length]? = some x := by simp
theorem ownAt_at {i : Nat} : ∀ {acc : List (Nat × Blk)} {d m : Nat}, ownAt i acc d = some m → d ≤ m ∧ ∃ b, acc[m - d]? = some (i, b)
  | [], _, _, h => by simp [ownAt] at h
  | (j, b) :: r, d, m, h => by
    unfold ownAt at h
    cases hc : (j == i) && b.own with
    | true =>
      rw [hc] at h
      cases h
      simp only [Bool.and_eq_true, beq_iff_eq] at hc
      exact ⟨Nat.le_refl _, b, by simp [hc.1]⟩
    | false =>
      rw [hc] at h
      obtain ⟨h1, b', h2⟩ := ownAt_at h
      exact ⟨by omega, b', by rw [show m - d = (m - (d + 1)) + 1 by omega]; simpa using h2⟩
theorem runs_packC {α : Type} {mt : Bool} {s : Sc} {acc : List (Nat × Blk)} {k : Sc → List (Nat × Blk) → RP α} {lt lb lt' lb' : List Nat} {y : α} (h : Pkd n0 S acc) (hr : Runs C S (packC n0 mt s acc k) lt lb y lt' lb') :
    ∃ s' acc' lb1, Pkd n0 S acc' ∧ Sub acc acc' ∧ PS n0 acc' s s' ∧ Runs C S (k s' acc') lt lb1 y lt' lb' := by
  cases s with
  | v u => exact ⟨_, _, _, h, Sub.refl _, rfl, hr⟩
  | nl => exact ⟨_, _, _, h, Sub.refl _, rfl, hr⟩
  | sl i =>
    simp only [packC] at hr
    split at hr
    · rename_i hi
      exact ⟨_, _, _, h, Sub.refl _, ⟨i, rfl, .inl ⟨hi, rfl⟩⟩, hr⟩
    · rename_i hi
      simp only [Runs] at hr
      split at hr
      · rename_i own κ xs hb
        split at hr
        · split at hr
          · split at hr
            · rename_i m hm
              obtain ⟨_, b, h2⟩ := ownAt_at hm
              exact ⟨_, _, _, h, Sub.refl _, ⟨_, rfl, .inr ⟨by omega, m, b, by simpa using h2, rfl⟩⟩, hr⟩
            · exact hr.elim
          · exact hr.elim
        · rename_i hc
          refine ⟨_, _, _, h.push (i := i) (b := .row (mt && own) κ xs) ⟨by omega, .inl ⟨own, κ, xs, _, hb, rfl, fun e => by simp at e; exact e.2⟩⟩ (by simpa [Blk.own] using hc), Sub.app _ _, ⟨_, rfl, .inr ⟨by omega, _, _, last_push _ _, rfl⟩⟩, hr⟩
      · exact hr.elim
  | _ => exact hr.elim
theorem runs_packCs {α : Type} {mt : Bool} : ∀ {l : List Sc} {acc : List (Nat × Blk)} {k : List Sc → List (Nat × Blk) → RP α} {lt lb lt' lb' : List Nat} {y : α}, Pkd n0 S acc → Runs C S (packCs n0 mt l acc k) lt lb y lt' lb' →
    ∃ l' acc' lb1, Pkd n0 S acc' ∧ Sub acc acc' ∧ F2 (PS n0 acc') l l' ∧ Runs C S (k l' acc') lt lb1 y lt' lb'
  | [], acc, k, _, _, _, _, _, h, hr => ⟨[], acc, _, h, Sub.refl _, trivial, hr⟩
  | s :: l, acc, k, _, _, _, _, _, h, hr => by
    obtain ⟨s', acc1, _, h1, s1, p1, hr1⟩ := runs_packC h hr
    obtain ⟨l', acc2, _, h2, s2, p2, hr2⟩ := runs_packCs h1 hr1
    exact ⟨s' :: l', acc2, _, h2, s1.trans s2, ⟨p1.sub s2, p2⟩, hr2⟩
theorem runs_packF {α : Type} : ∀ {l : List Nat} {acc : List (Nat × Blk)} {k : List Nat → List (Nat × Blk) → RP α} {lt lb lt' lb' : List Nat} {y : α}, Pkd n0 S acc → Runs C S (packF n0 l acc k) lt lb y lt' lb' →
    ∃ l' acc' lb1, Pkd n0 S acc' ∧ Sub acc acc' ∧ F2 (IdR n0 acc') l l' ∧ Runs C S (k l' acc') lt lb1 y lt' lb'
  | [], acc, k, _, _, _, _, _, h, hr => ⟨[], acc, _, h, Sub.refl _, trivial, hr⟩
  | i :: l, acc, k, _, _, _, _, _, h, hr => by
    simp only [packF] at hr
    split at hr
    · rename_i hi
      obtain ⟨l', acc2, _, h2, s2, p2, hr2⟩ := runs_packF h hr
      exact ⟨i :: l', acc2, _, h2, s2, ⟨.inl ⟨hi, rfl⟩, p2⟩, hr2⟩
    · rename_i hi
      simp only [Runs] at hr
      split at hr
      · rename_i own m hb
        obtain ⟨m', acc1, _, h1, s1, p1, hr1⟩ := runs_packCs h hr
        split at hr1
        · exact hr1.elim
        · rename_i hc
          have h2 := h1.push (i := i) (b := .box false m') ⟨by omega, .inr ⟨own, m, false, m', hb, rfl, (fun e => nomatch e), p1⟩⟩ (by simpa [Blk.own] using hc)
          obtain ⟨l', acc3, _, h3, s3, p3, hr3⟩ := runs_packF h2 hr1
          exact ⟨(n0 + acc1.length) :: l', acc3, _, h3, (s1.trans (Sub.app _ _)).trans s3, ⟨.inr ⟨by omega, acc1.length, _, s3 _ _ (last_push _ _), rfl⟩, p3⟩, hr3⟩
      · exact hr.elim
theorem runs_packS {α : Type} {mt : Bool} {s : Sc} {acc : List (Nat × Blk)} {k : Sc → List (Nat × Blk) → RP α} {lt lb lt' lb' : List Nat} {y : α} (h : Pkd n0 S acc) (hr : Runs C S (packS n0 mt s acc k) lt lb y lt' lb') :
    ∃ s' acc' lb1, Pkd n0 S acc' ∧ Sub acc acc' ∧ PS n0 acc' s s' ∧ Runs C S (k s' acc') lt lb1 y lt' lb' := by
  cases s with
  | un => exact ⟨_, _, _, h, Sub.refl _, rfl, hr⟩
  | bp i off =>
    simp only [packS] at hr
    split at hr
    · rename_i hi
      exact ⟨_, _, _, h, Sub.refl _, ⟨i, rfl, .inl ⟨hi, rfl⟩⟩, hr⟩
    · rename_i hi
      simp only [Runs] at hr
      split at hr
      · rename_i own m hb
        obtain ⟨m', acc1, _, h1, s1, p1, hr1⟩ := runs_packCs h hr
        split at hr1
        · exact hr1.elim
        · rename_i hc
          have h2 := h1.push (i := i) (b := .box own m') ⟨by omega, .inr ⟨own, m, own, m', hb, rfl, id, p1⟩⟩ (by simpa [Blk.own] using hc)
          exact ⟨_, _, _, h2, s1.trans (Sub.app _ _), ⟨_, rfl, .inr ⟨by omega, _, _, last_push _ _, rfl⟩⟩, hr1⟩
      · exact hr.elim
  | fn f ids =>
    obtain ⟨l', acc2, _, h2, s2, p2, hr2⟩ := runs_packF h hr
    exact ⟨_, _, _, h2, s2, ⟨_, rfl, p2⟩, hr2⟩
  | v u => exact runs_packC (mt := mt) h hr
  | nl => exact runs_packC (mt := mt) h hr
  | sl i => exact runs_packC (mt := mt) h hr
  | rp i s j off => exact hr.elim
theorem runs_pack1 {α : Type} {mt : Bool} {x : A1} {acc : List (Nat × Blk)} {k : A1 → List (Nat × Blk) → RP α} {lt lb lt' lb' : List Nat} {y : α} (h : Pkd n0 S acc) (hr : Runs C S (pack1 n0 mt x acc k) lt lb y lt' lb') :
    ∃ x' acc' lb1, Pkd n0 S acc' ∧ Sub acc acc' ∧ P1 n0 acc' x x' ∧ Runs C S (k x' acc') lt lb1 y lt' lb' := by
  cases x with
  | sc s =>
    obtain ⟨s', acc', _, h1, h2, h3, h4⟩ := runs_packS (mt := mt) (s := s) (k := fun s' acc => k (.sc s') acc) h hr
    exact ⟨_, _, _, h1, h2, ⟨_, rfl, h3⟩, h4⟩
  | ag l =>
    obtain ⟨s', acc', _, h1, h2, h3, h4⟩ := runs_packCs (mt := mt) (l := l) (k := fun s' acc => k (.ag s') acc) h hr
    exact ⟨_, _, _, h1, h2, ⟨_, rfl, h3⟩, h4⟩
theorem runs_pack1s {α : Type} {mt : Bool} : ∀ {l : List A1} {acc : List (Nat × Blk)} {k : List A1 → List (Nat × Blk) → RP α} {lt lb lt' lb' : List Nat} {y : α}, Pkd n0 S acc → Runs C S (pack1s n0 mt l acc k) lt lb y lt' lb' →
    ∃ l' acc' lb1, Pkd n0 S acc' ∧ Sub acc acc' ∧ F2 (P1 n0 acc') l l' ∧ Runs C S (k l' acc') lt lb1 y lt' lb'
  | [], acc, k, _, _, _, _, _, h, hr => ⟨[], acc, _, h, Sub.refl _, trivial, hr⟩
  | s :: l, acc, k, _, _, _, _, _, h, hr => by
    obtain ⟨s', acc1, _, h1, s1, p1, hr1⟩ := runs_pack1 h hr
    obtain ⟨l', acc2, _, h2, s2, p2, hr2⟩ := runs_pack1s h1 hr1
    exact ⟨s' :: l', acc2, _, h2, s1.trans s2, ⟨p1.sub s2, p2⟩, hr2⟩
theorem runs_packV {α : Type} {x : AV} {acc : List (Nat × Blk)} {k : AV → List (Nat × Blk) → RP α} {lt lb lt' lb' : List Nat} {y : α} (h : Pkd n0 S acc) (hr : Runs C S (packV n0 x acc k) lt lb y lt' lb') :
    ∃ x' acc' lb1, Pkd n0 S acc' ∧ Sub acc acc' ∧ PV n0 acc' x x' ∧ Runs C S (k x' acc') lt lb1 y lt' lb' := by
  cases x with
  | a s =>
    obtain ⟨s', acc', _, h1, h2, h3, h4⟩ := runs_pack1 (mt := true) (x := s) (k := fun s' acc => k (.a s') acc) h hr
    exact ⟨_, _, _, h1, h2, ⟨_, rfl, h3⟩, h4⟩
  | tp l =>
    obtain ⟨s', acc', _, h1, h2, h3, h4⟩ := runs_pack1s (mt := true) (l := l) (k := fun s' acc => k (.tp s') acc) h hr
    exact ⟨_, _, _, h1, h2, ⟨_, rfl, h3⟩, h4⟩
theorem runs_packVs {α : Type} : ∀ {l : List AV} {acc : List (Nat × Blk)} {k : List AV → List (Nat × Blk) → RP α} {lt lb lt' lb' : List Nat} {y : α}, Pkd n0 S acc → Runs C S (packVs n0 l acc k) lt lb y lt' lb' →
    ∃ l' acc' lb1, Pkd n0 S acc' ∧ Sub acc acc' ∧ F2 (PV n0 acc') l l' ∧ Runs C S (k l' acc') lt lb1 y lt' lb'
  | [], acc, k, _, _, _, _, _, h, hr => ⟨[], acc, _, h, Sub.refl _, trivial, hr⟩
  | s :: l, acc, k, _, _, _, _, _, h, hr => by
    obtain ⟨s', acc1, _, h1, s1, p1, hr1⟩ := runs_packV h hr
    obtain ⟨l', acc2, _, h2, s2, p2, hr2⟩ := runs_packVs h1 hr1
    exact ⟨s' :: l', acc2, _, h2, s1.trans s2, ⟨p1.sub s2, p2⟩, hr2⟩
/-- What is said of the blocks that were there from the start. -/
def OldR (n0 : Nat) (S : St) (acc : List (Nat × Blk)) (i : Nat) (b : Blk) : Prop :=
  (∃ own l l', S.b i = .box own l ∧ b = .box own l' ∧ F2 (PS n0 acc) l l') ∨ (S.b i = b ∧ b ≠ .no ∧ ∀ own l, b ≠ .box own l)
theorem OldR.sub {acc acc' : List (Nat × Blk)} (h : Sub acc acc') {i : Nat} {b : Blk} : OldR n0 S acc i b → OldR n0 S acc' i b
  | .inl ⟨own, l, l', e1, e2, e3⟩ => .inl ⟨own, l, l', e1, e2, e3.mono fun _ _ => PS.sub h⟩
  | .inr e => .inr e
theorem runs_packOld {α : Type} : ∀ {n i : Nat} {acc : List (Nat × Blk)} {k : List Blk → List (Nat × Blk) → RP α} {lt lb lt' lb' : List Nat} {y : α}, Pkd n0 S acc → Runs C S (packOld n0 i n acc k) lt lb y lt' lb' →
    ∃ l acc' lb1, Pkd n0 S acc' ∧ Sub acc acc' ∧ l.length = n ∧ (∀ (j : Nat) (b : Blk), l[j]? = some b → OldR n0 S acc' (i + j) b) ∧ Runs C S (k l acc') lt lb1 y lt' lb'
  | 0, i, acc, k, _, _, _, _, _, h, hr => ⟨[], acc, _, h, Sub.refl _, rfl, fun j b e => by simp at e, hr⟩
  | n + 1, i, acc, k, _, _, _, _, _, h, hr => by
    have put : ∀ {b : Blk} {acc1 acc2 : List (Nat × Blk)} {l : List Blk}, Sub acc1 acc2 → OldR n0 S acc1 i b → (∀ (j : Nat) (b : Blk), l[j]? = some b → OldR n0 S acc2 (i + 1 + j) b) → ∀ (j : Nat) (b' : Blk), (b :: l)[j]? = some b' → OldR n0 S acc2 (i + j) b' := by
      intro b acc1 acc2 l hs hb hl j b' e
      cases j with
      | zero => simp at e; subst e; exact hb.sub hs
      | succ j => rw [show i + (j + 1) = i + 1 + j by omega]; exact hl j b' (by simpa using e)
    simp only [packOld, Runs] at hr
    split at hr
    · rename_i own l hb
      obtain ⟨l', acc1, _, h1, s1, p1, hr1⟩ := runs_packCs h hr
      obtain ⟨r, acc2, _, h2, s2, e2, p2, hr2⟩ := runs_packOld h1 hr1
      exact ⟨_, acc2, _, h2, s1.trans s2, by simp [e2], put s2 (.inl ⟨own, l, l', hb, rfl, p1⟩) p2, hr2⟩
    · exact hr.elim
    · rename_i hb1 hb2
      obtain ⟨r, acc2, _, h2, s2, e2, p2, hr2⟩ := runs_packOld h hr
      exact ⟨_, acc2, _, h2, s2, by simp [e2], put s2 (.inr ⟨rfl, hb2, hb1⟩) p2, hr2⟩

/-! ### The blocks under their new names -/
def tρ (n0 : Nat) (ρ : Nat → Value) (acc : List (Nat × Blk)) (m : Nat) : Value := if m < n0 then ρ m else match acc[m - n0]? with | some (i, _) => ρ i | none => undef
def findOwn : List (Nat × Blk) → Nat → Nat → Option Nat
  | [], _, _ => none
  | (j, b) :: r, i, n => if j = i ∧ b.own = true then some n else findOwn r i (n + 1)
def tow (n0 : Nat) (ow : Nat → Option Nat) (acc : List (Nat × Blk)) (g : Nat) : Option Nat :=
  match ow g with
  | some i => if i < n0 then some i else findOwn acc i n0
  | none => none
theorem findOwn_some : ∀ {acc : List (Nat × Blk)} {i n m : Nat}, findOwn acc i n = some m → ∃ (j : Nat) (b : Blk), acc[j]? = some (i, b) ∧ b.own = true ∧ m = n + j
  | [], _, _, _, h => by simp [findOwn] at h
  | (q, b) :: r, i, n, m, h => by
    simp only [findOwn] at h
    split at h
    · rename_i hq; cases h; obtain ⟨rfl, hb⟩ := hq; exact ⟨0, b, rfl, hb, rfl⟩
    · obtain ⟨j, b', e1, e2, e3⟩ := findOwn_some h
      exact ⟨j + 1, b', by simpa using e1, e2, by omega⟩
theorem findOwn_none : ∀ {acc : List (Nat × Blk)} {i n : Nat}, (∀ (j : Nat) (b : Blk), acc[j]? = some (i, b) → b.own = false) → findOwn acc i n = none
  | [], _, _, _ => rfl
  | (q, b) :: r, i, n, h => by
    simp only [findOwn]
    rw [if_neg, findOwn_none fun j b e => h (j + 1) b (by simpa using e)]
    rintro ⟨rfl, hb⟩
    have := h 0 b rfl
    rw [hb] at this; cases this
theorem findOwn_at {acc : List (Nat × Blk)} (h : Pkd n0 S acc) {j i : Nat} {b : Blk} (e : acc[j]? = some (i, b)) (hb : b.own = true) : findOwn acc i n0 = some (n0 + j) := by
  cases hf : findOwn acc i n0 with
  | some m =>
    obtain ⟨j', b', e1, e2, e3⟩ := findOwn_some hf
    by_cases hj : j = j'
    · rw [e3, hj]
    · have := (h.apart j j' i b b' e e1 hj).1
      rw [hb] at this; cases this
  | none =>
    exfalso
    have : ∀ {acc : List (Nat × Blk)} {j n : Nat}, findOwn acc i n = none → acc[j]? = some (i, b) → False := by
      intro acc
      induction acc with
      | nil => intro j n _ e; simp at e
      | cons p r ih =>
        intro j n hn e
        obtain ⟨q, b0⟩ := p
        simp only [findOwn] at hn
        split at hn
        · cases hn
        · rename_i hq
          cases j with
          | zero => simp at e; exact hq ⟨e.1, by rw [e.2]; exact hb⟩
          | succ j => exact ih hn (by simpa using e)
    exact this hf e
section trans
variable {ρ : Nat → Value} {ow : Nat → Option Nat} {w : World} {acc : List (Nat × Blk)} {olds : List Blk}
def newB' (olds : List Blk) (acc : List (Nat × Blk)) : Nat → Blk := blF (olds ++ acc.map (·.2))
theorem newB_old (hl : olds.length = n0) {i : Nat} (hi : i < n0) : ∃ b, olds[i]? = some b ∧ newB' olds acc i = b := by
  have : i < olds.length := by omega
  refine ⟨olds[i], List.getElem?_eq_getElem this, ?_⟩
  simp [newB', blF, List.getElem?_append_left this, List.getElem?_eq_getElem this]
theorem newB_new (hl : olds.length = n0) {j i : Nat} {b : Blk} (e : acc[j]? = some (i, b)) : newB' olds acc (n0 + j) = b := by
  simp only [newB', blF]
  rw [List.getElem?_append_right (by omega), hl, show n0 + j - n0 = j by omega, List.getElem?_map, e]; rfl
theorem tρ_new {j i : Nat} {b : Blk} (e : acc[j]? = some (i, b)) : tρ n0 ρ acc (n0 + j) = ρ i := by
  unfold tρ
  rw [if_neg (by omega), show n0 + j - n0 = j by omega, e]
theorem Ent.ne {i : Nat} {b : Blk} : Ent n0 S acc i b → b ≠ .no
  | ⟨_, .inl ⟨_, _, _, _, _, e, _⟩⟩ => by rw [e]; simp
  | ⟨_, .inr ⟨_, _, _, _, _, e, _⟩⟩ => by rw [e]; simp
theorem OldR.ne {i : Nat} {b : Blk} : OldR n0 S acc i b → b ≠ .no
  | .inl ⟨_, _, _, _, e, _⟩ => by rw [e]; simp
  | .inr e => e.2.1
theorem idR_ok (h : Pkd n0 S acc) (hl : olds.length = n0) (ho : ∀ (i : Nat) (b : Blk), olds[i]? = some b → OldR n0 S acc i b) {i m : Nat} (hi : IdR n0 acc i m) : newB' olds acc m ≠ .no ∧ tρ n0 ρ acc m = ρ i := by
  rcases hi with ⟨hi, rfl⟩ | ⟨hi, j, b, e, rfl⟩
  · obtain ⟨b, e1, e2⟩ := newB_old (acc := acc) hl hi
    exact ⟨by rw [e2]; exact (ho m b e1).ne, by simp [tρ, hi]⟩
  · exact ⟨by rw [newB_new hl e]; exact (h.ent j i b e).ne, tρ_new e⟩
theorem VS.pack (h : Pkd n0 S acc) (hl : olds.length = n0) (ho : ∀ (i : Nat) (b : Blk), olds[i]? = some b → OldR n0 S acc i b) : ∀ {s s' : Sc} {u : Value}, PS n0 acc s s' → VS S.b ρ s u → VS (newB' olds acc) (tρ n0 ρ acc) s' u
  | .un, _, _, e, _ => by cases e; trivial
  | .v _, _, _, e, hv => by cases e; exact hv
  | .nl, _, _, e, hv => by cases e; exact hv
  | .sl i, _, _, ⟨m, e, q⟩, hv => by
    subst e
    obtain ⟨h1, h2⟩ := idR_ok (ρ := ρ) h hl ho q
    exact ⟨h1, by rw [h2]; exact hv.2.1, hv.2.2⟩
  | .bp i off, _, _, ⟨m, e, q⟩, hv => by
    subst e
    obtain ⟨h1, h2⟩ := idR_ok (ρ := ρ) h hl ho q
    exact ⟨h1, by rw [h2]; exact hv.2⟩
  | .rp _ _ _ _, _, _, e, _ => e.elim
  | .fn f caps, _, u, ⟨c, e, q⟩, hv => by
    subst e
    have key : ∀ {l m : List Nat}, F2 (IdR n0 acc) l m → (∀ c ∈ l, S.b c ≠ .no ∧ ∃ g, ρ c = .pointer (some ⟨g, 0, none⟩)) → l.map ρ = m.map (tρ n0 ρ acc) ∧ ∀ c ∈ m, newB' olds acc c ≠ .no ∧ ∃ g, tρ n0 ρ acc c = .pointer (some ⟨g, 0, none⟩) := by
      intro l
      induction l with
      | nil => intro m hm _; rw [hm.nil_left]; exact ⟨rfl, fun _ h => by cases h⟩
      | cons x l ih =>
        intro m hm hc
        obtain ⟨y, m', rfl, hy, hm'⟩ := hm.cons_left
        obtain ⟨h1, h2⟩ := idR_ok (ρ := ρ) h hl ho hy
        obtain ⟨e1, e2⟩ := ih hm' fun c hc' => hc c (by simp [hc'])
        refine ⟨by simp [e1, h2], fun c hc' => ?_⟩
        rcases List.mem_cons.1 hc' with rfl | hc'
        · exact ⟨h1, by rw [h2]; exact (hc x (by simp)).2⟩
        · exact e2 c hc'
    obtain ⟨e1, e2⟩ := key q hv.2
    exact ⟨by rw [hv.1, e1], e2⟩
theorem V1.pack (h : Pkd n0 S acc) (hl : olds.length = n0) (ho : ∀ (i : Nat) (b : Blk), olds[i]? = some b → OldR n0 S acc i b) : ∀ {s s' : A1} {u : Value}, P1 n0 acc s s' → V1 S.b ρ s u → V1 (newB' olds acc) (tρ n0 ρ acc) s' u
  | .sc _, _, _, ⟨s', e, q⟩, hv => by subst e; exact VS.pack h hl ho q hv
  | .ag _, _, _, ⟨s', e, q⟩, ⟨cs, e2, hv⟩ => by subst e; exact ⟨cs, e2, F2.trans' (δ := Unit) (R1 := PS n0 acc) (R2 := VS S.b ρ) (R3 := VS (newB' olds acc) (tρ n0 ρ acc)) (fun _ _ _ p q => VS.pack h hl ho p q) q hv⟩
theorem VV.pack (h : Pkd n0 S acc) (hl : olds.length = n0) (ho : ∀ (i : Nat) (b : Blk), olds[i]? = some b → OldR n0 S acc i b) : ∀ {s s' : AV} {u : Value}, PV n0 acc s s' → VV S.b ρ s u → VV (newB' olds acc) (tρ n0 ρ acc) s' u
  | .a _, _, _, ⟨s', e, q⟩, hv => by subst e; exact V1.pack h hl ho q hv
  | .tp _, _, _, ⟨s', e, q⟩, ⟨cs, e2, hv⟩ => by subst e; exact ⟨cs, e2, F2.trans' (δ := Unit) (R1 := P1 n0 acc) (R2 := V1 S.b ρ) (R3 := V1 (newB' olds acc) (tρ n0 ρ acc)) (fun _ _ _ p q => V1.pack h hl ho p q) q hv⟩
theorem tow_ne {g m : Nat} (h : tow n0 ow acc g = some m) : ow g ≠ none := by
  intro e; rw [tow, e] at h; cases h
theorem blk_pack (h : Pkd n0 S acc) (hl : olds.length = n0) (ho : ∀ (i : Nat) (b : Blk), olds[i]? = some b → OldR n0 S acc i b) (hb : ∀ i, BlkOk S.b w ρ ow i (S.b i)) (m : Nat) : BlkOk (newB' olds acc) w (tρ n0 ρ acc) (tow n0 ow acc) m (newB' olds acc m) := by
  have hnone : ∀ {g : Nat}, ow g = none → tow n0 ow acc g = none := fun e => by rw [tow, e]
  rcases Nat.lt_or_ge m n0 with hm | hm
  · obtain ⟨b, e1, e2⟩ := newB_old (acc := acc) hl hm
    have hbm := hb m
    have eρ : tρ n0 ρ acc m = ρ m := by simp [tρ, hm]
    have eo : ∀ {g : Nat}, ow g = some m → tow n0 ow acc g = some m := fun e => by simp only [tow, e]; rw [if_pos hm]
    rw [e2]
    rcases ho m b e1 with ⟨own, l, l', q1, rfl, q3⟩ | ⟨q1, q2, q3⟩
    · rw [q1] at hbm
      obtain ⟨g, cs, e, h1, h2, h3, h4⟩ := hbm
      refine ⟨g, cs, e, by rw [eρ]; exact h1, h2, F2.trans' (δ := Unit) (R1 := PS n0 acc) (R2 := VS S.b ρ) (R3 := VS (newB' olds acc) (tρ n0 ρ acc)) (fun _ _ _ p q => VS.pack h hl ho p q) q3 h3, ?_⟩
      cases own
      · exact hnone h4
      · exact eo h4
    · rw [q1] at hbm
      match b, hbm, q2, q3 with
      | .no, _, q2, _ => exact absurd rfl q2
      | .dead, _, _, _ => trivial
      | .box own l, _, _, q3 => exact absurd rfl (q3 own l)
      | .row true k xs, hbm, _, _ => exact ⟨by rw [eρ]; exact hbm.1, fun g hg => eo (hbm.2 g (by rw [← eρ]; exact hg))⟩
      | .row false k xs, ⟨A, cap, h1, h2, h3⟩, _, _ => exact ⟨A, cap, by rw [eρ]; exact h1, h2, fun j u hu => by
          obtain ⟨a, e1, e2, e3⟩ := h3 j u hu
          exact ⟨a, e1, e2, hnone e3⟩⟩
  · obtain ⟨j, rfl⟩ : ∃ j, m = n0 + j := ⟨m - n0, by omega⟩
    cases e : acc[j]? with
    | none =>
      have : newB' olds acc (n0 + j) = .no := by
        simp only [newB', blF]
        rw [List.getElem?_append_right (by omega), hl, show n0 + j - n0 = j by omega, List.getElem?_map, e]; rfl
      rw [this]; trivial
    | some p =>
      obtain ⟨i, b⟩ := p
      rw [newB_new hl e]
      have hbi := hb i
      have eρ := tρ_new (n0 := n0) (ρ := ρ) e
      obtain ⟨hi, hE⟩ := h.ent j i b e
      have eo : ∀ {g : Nat}, b.own = true → ow g = some i → tow n0 ow acc g = some (n0 + j) := fun hb' e' => by
        simp only [tow, e']; rw [if_neg (by omega)]; exact findOwn_at h e hb'
      have en : ∀ {g : Nat}, b.own = false → ow g = some i → tow n0 ow acc g = none := fun hb' e' => by
        simp only [tow, e']; rw [if_neg (by omega)]
        exact findOwn_none fun j' b' e1 => by
          by_cases hj : j' = j
          · subst hj; rw [e] at e1; cases e1; exact hb'
          · exact (h.apart j' j i b' b e1 e hj).1
      rcases hE with ⟨own, k, xs, o, q1, rfl, q3⟩ | ⟨own, l, o, l', q1, rfl, q3, q4⟩
      · rw [q1] at hbi
        cases o with
        | true =>
          have := q3 rfl
          subst this
          exact ⟨by rw [eρ]; exact hbi.1, fun g hg => eo rfl (hbi.2 g (by rw [← eρ]; exact hg))⟩
        | false =>
          obtain ⟨A, cap, hρ, hc, hA, _⟩ := row_hdr hbi
          refine ⟨A, cap, by rw [eρ]; exact hρ, hc, fun p u hu => ?_⟩
          cases A with
          | none => rw [hA rfl] at hu; simp [flat] at hu
          | some a0 =>
            refine ⟨a0, rfl, row_cell hbi hρ p u hu, ?_⟩
            cases own with
            | true => exact en rfl (hbi.2 a0.block (by rw [hρ]; rfl))
            | false =>
              obtain ⟨A', cap', e', _, h3⟩ := hbi
              rw [hρ] at e'; cases e'
              obtain ⟨a1, e1, _, e3⟩ := h3 p u hu
              cases e1
              exact hnone e3
      · rw [q1] at hbi
        obtain ⟨g, cs, e0, h1, h2, h3, h4⟩ := hbi
        refine ⟨g, cs, e0, by rw [eρ]; exact h1, h2, F2.trans' (δ := Unit) (R1 := PS n0 acc) (R2 := VS S.b ρ) (R3 := VS (newB' olds acc) (tρ n0 ρ acc)) (fun _ _ _ p q => VS.pack h hl ho p q) q4 h3, ?_⟩
        cases o with
        | true => have := q3 rfl; subst this; exact eo rfl h4
        | false =>
          cases own with
          | true => exact en rfl h4
          | false => exact hnone h4
theorem own_pack (h : Pkd n0 S acc) (hl : olds.length = n0) (ho : ∀ (i : Nat) (b : Blk), olds[i]? = some b → OldR n0 S acc i b) (hown : ∀ g i, ow g = some i → (S.b i).own = true) {g m : Nat} (hg : tow n0 ow acc g = some m) : (newB' olds acc m).own = true ∧ ow g ≠ none := by
  refine ⟨?_, tow_ne hg⟩
  cases hi : ow g with
  | none => rw [tow, hi] at hg; cases hg
  | some i =>
    simp only [tow, hi] at hg
    split at hg
    · rename_i hlt
      cases hg
      obtain ⟨b, e1, e2⟩ := newB_old (acc := acc) hl hlt
      rw [e2]
      have := hown g m hi
      rcases ho m b e1 with ⟨own, l, l', q1, rfl, _⟩ | ⟨q1, _⟩
      · rw [q1] at this; exact this
      · rw [q1] at this; exact this
    · obtain ⟨j, b, e1, e2, rfl⟩ := findOwn_some hg
      rw [newB_new hl e1]; exact e2
end trans
end
end Go.Proofs.YtlenacakmmikiaaGreatDoorX
