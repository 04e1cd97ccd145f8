/- New rows, appends, cuts, indices. -/
import Derived.Test.YtlenacakmmikiaaGreatDoorX4
namespace Go.Proofs.YtlenacakmmikiaaGreatDoorX
open Go
set_option linter.unusedVariables false
set_option linter.unusedSimpArgs false
section
variable {w : World} {P : Program}
theorem splice_splice {α : Type} (l : List α) (o : Nat) (a b : List α) (h : o + a.length + b.length ≤ l.length) : splice (splice l o a) (o + a.length) b = splice l o (a ++ b) := by
  simp only [splice, List.append_assoc]
  have e1 : (l.take o).length = o := by simp; omega
  rw [List.take_append, e1, show o + a.length - o = a.length by omega, List.take_of_length_le (l := l.take o) (by omega), List.take_append, List.take_of_length_le (l := a) (by omega)]
  rw [List.drop_append, e1, List.drop_of_length_le (l := l.take o) (by omega), show o + a.length + b.length - o = a.length + b.length by omega, List.drop_append, List.drop_of_length_le (l := a) (by omega), show a.length + b.length - a.length = b.length by omega, List.drop_drop]
  simp [Nat.add_assoc]
theorem splice_full {α : Type} (l a : List α) (h : a.length = l.length) : splice l 0 a = a := by
  simp [splice, h]
theorem fold_set (off : Nat) : ∀ (vs : List Value) (i : Nat) (cs : Array Value), off + i + vs.length ≤ cs.size →
    ((vs.zipIdx i).foldl (fun (cs : Array Value) (p : Value × Nat) => cs.setIfInBounds (off + p.2) p.1) cs).toList = splice cs.toList (off + i) vs
  | [], i, cs, h => by simp [splice]
  | v :: r, i, cs, h => by
    simp only [List.zipIdx_cons, List.foldl_cons]
    have ih := fold_set off r (i + 1) (cs.setIfInBounds (off + i) v) (by simp at h ⊢; omega)
    rw [ih, Array.toList_setIfInBounds]
    simp at h
    have hl : off + i < cs.toList.length := by simp; omega
    rw [← splice_one _ _ _ hl]
    exact splice_splice cs.toList (off + i) [v] r (by simp; omega)
theorem fold_set' (off : Nat) (vs : Array Value) (cs : Array Value) (h : off + vs.size ≤ cs.size) :
    (vs.zipIdx.foldl (fun (cs : Array Value) (p : Value × Nat) => cs.setIfInBounds (off + p.2) p.1) cs).toList = splice cs.toList off vs.toList := by
  have := fold_set off vs.toList 0 cs (by simpa using h)
  rw [← Array.foldl_toList, Array.toList_zipIdx]
  simpa using this
end
section
variable {G : Bg} {S : St} {ρ : Nat → Value} {ow : Nat → Option Nat} {a : Act} {w : World} {P : Program} {E : Env} {C : FuncId → Pk → Rs → Prop} {o : Oper} {d : Nat} {lt lb lt' lb' : List Nat} {wr : Wr}
/-- The parts of a composite: by number, what they are. -/
def Parts (B : Nat → Blk) (ρ : Nat → Value) : List (Nat × AV) → List (Nat × Value) → Prop := F2 fun p q => p.1 = q.1 ∧ VV B ρ p.2 q.2
theorem parts_of {B : Nat → Blk} {ρ : Nat → Value} {f : Operand → Value} : ∀ {ps : List (Nat × Operand)} {vs : List AV}, F2 (VV B ρ) vs ((ps.map (·.2)).map f) → Parts B ρ ((ps.map (·.1)).zip vs) (ps.map fun p => (p.1, f p.2))
  | [], vs, h => by have : vs = [] := by (cases vs with | nil => rfl | cons _ _ => exact h.elim)
                    subst this; trivial
  | p :: ps, vs, h => by
    cases vs with
    | nil => exact h.elim
    | cons v vs => exact ⟨⟨rfl, h.1⟩, parts_of h.2⟩
theorem fillS_ok (hE : EnvOk P E) {fs : List (Nat × TypeId)} {place : Nat → Option (Nat × Nat)} (hp : ∀ (j off : Nat) (t : TypeId), fs[j]? = some (off, t) → ∃ i, P.info? t = some i ∧ place j = some (off, i.size)) :
    ∀ {parts : List (Nat × AV)} {cparts : List (Nat × Value)} {l l' : List Sc} {cs : Array Value}, fillS E fs l parts = some l' → Parts S.b ρ parts cparts → F2 (VS S.b ρ) l cs.toList →
      ∃ cs', Instr.fill place cs cparts = some cs' ∧ F2 (VS S.b ρ) l' cs'.toList := by
  intro parts
  induction parts with
  | nil =>
    intro cparts l l' cs h hP hF
    rw [show cparts = [] from hP.nil_left]
    simp [fillS] at h
    subst h
    exact ⟨cs, rfl, hF⟩
  | cons p r ih =>
    intro cparts l l' cs h hP hF
    obtain ⟨q, cr, rfl, ⟨h1, h2⟩, hP'⟩ := hP.cons_left
    obtain ⟨j, x⟩ := p
    obtain ⟨j', v⟩ := q
    dsimp only at h1 h2
    subst h1
    cases x with
    | tp l => simp [fillS] at h
    | a x =>
      simp only [fillS] at h
      split at h
      · rename_i off t hj
        split at h
        · rename_i l1 hl1
          obtain ⟨⟨i, hi, hs⟩, hfit, hone, hF1⟩ := writeA_ok hE hl1 h2 hF
          obtain ⟨i', hi', hpl⟩ := hp j off t hj
          rw [hi] at hi'; cases hi'
          have hfit' : off + v.cells.size ≤ cs.size := by simpa using hfit
          have hcs := fold_set' off v.cells cs hfit'
          obtain ⟨cs', e1, e2⟩ := ih h hP' (cs := v.cells.zipIdx.foldl (fun (cs : Array Value) (p : Value × Nat) => cs.setIfInBounds (off + p.2) p.1) cs) (by rw [hcs]; exact hF1)
          refine ⟨cs', ?_, e2⟩
          have hno : ¬ (v.cells.size ≠ i.size ∨ off + v.cells.size > cs.size) := by omega
          simp only [Instr.fill, hpl]
          rw [if_neg (by simpa using hno)]
          exact e1
        · cases h
      · cases h
theorem places_of (hE : EnvOk P E) {t : TypeId} {fs : List (Nat × TypeId)} (h : E.fields t = some fs) : ∃ F places, P.underlying t = some (.struct F) ∧ F.toList.mapM (fun f => (P.info? f.type).map fun i => (f.offset, i.size)) = some places ∧
    ∀ (j off : Nat) (u : TypeId), fs[j]? = some (off, u) → ∃ i, P.info? u = some i ∧ places.toArray[j]? = some (off, i.size) := by
  obtain ⟨F, h1, h2, h3⟩ := hE.fields t fs h
  refine ⟨F, ?_⟩
  have key : ∀ l : List Field, (∀ f ∈ l, ∃ i, P.info? f.type = some i ∧ i.size ≠ 0) → ∃ places, l.mapM (fun f => (P.info? f.type).map fun i => (f.offset, i.size)) = some places ∧ ∀ (j : Nat) (f : Field), l[j]? = some f → ∃ i, P.info? f.type = some i ∧ places[j]? = some (f.offset, i.size) := by
    intro l
    induction l with
    | nil => intro _; exact ⟨[], rfl, fun j f h => by simp at h⟩
    | cons f l ih =>
      intro hl
      obtain ⟨ps, e1, e2⟩ := ih fun g hg => hl g (by simp [hg])
      obtain ⟨i, hi, _⟩ := hl f (by simp)
      refine ⟨(f.offset, i.size) :: ps, by simp [List.mapM_cons, hi, e1], fun j g hg => ?_⟩
      cases j with
      | zero => simp at hg; subst hg; exact ⟨i, hi, rfl⟩
      | succ j => simpa using e2 j g (by simpa using hg)
  obtain ⟨places, e1, e2⟩ := key F.toList h3
  refine ⟨places, h1, e1, fun j off u hj => ?_⟩
  rw [← h2, List.getElem?_map, Option.map_eq_some_iff] at hj
  obtain ⟨f, hf, e⟩ := hj
  cases e
  obtain ⟨i, hi, hpl⟩ := e2 j f hf
  exact ⟨i, hi, by simpa using hpl⟩
theorem lands_build (hE : EnvOk P E) {t : TypeId} {ps : Array (Nat × Operand)} (h : Rel G S ρ ow a w) (ho : o.op = .build t ps) (hr : Runs C S (opBody E d (.build t ps)) lt lb wr lt' lb') : Lands P G S a w o wr := by
  simp only [opBody] at hr
  split at hr
  · rename_i fs z hfs hz
    obtain ⟨vs, _, hvs, hr1⟩ := runs_evOs h hr
    split at hr1
    · rename_i l hl
      obtain ⟨hno, _, rfl, _, _⟩ := runs_rdNos hr1
      obtain ⟨F, places, hu, hpl, hpp⟩ := places_of hE hfs
      obtain ⟨it, zv, hit, hzv, hzl⟩ := hE.zero t z hz
      obtain ⟨cs', e1, e2⟩ := fillS_ok hE hpp (cs := zv.cells) hl (parts_of hvs) (by rw [hzl]; exact F2_ofC _ _ _)
      have hb : P.built t (ps.map fun (i, x) => (i, a.eval x)).toList = some cs' := by
        unfold Program.built
        simp only [hit, hu, hzv, hpl]
        have e3 : (ps.map fun (i, x) => (i, a.eval x)).toList = ps.toList.map fun p => (p.1, a.eval p.2) := by simp
        rw [e3]; exact e1
      have hrun := run_build (P := P) w t _ cs' hb
      obtain ⟨ρ', h1, h2, h3, h4⟩ := fix_ok (ks := E.nils t) (l := l) (d := d + 1) h hno e2
      exact fun next Q hn => wp_val (by simp [execOp, ho, hrun]) (hn (.agg cs') w ρ' ow h1 ⟨cs', rfl, h2⟩)
    · exact hr1.elim
  · rename_i z _ hz
    split at hr
    · rename_i q hq
      obtain ⟨n, s⟩ := q
      split at hr
      · rename_i hp
        obtain ⟨e, hu, ie, hie, _⟩ := hE.arr t n s hq
        obtain ⟨it, zv, hit, hzv, hzl⟩ := hE.zero t z hz
        have hps : ps = #[] := Array.eq_empty_of_size_eq_zero hp
        have hb : P.built t (ps.map fun (i, x) => (i, a.eval x)).toList = some zv.cells := by
          unfold Program.built
          rw [hps]
          simp [hit, hu, hzv, hie, Instr.fill]
        have hrun := run_build (P := P) w t _ zv.cells hb
        obtain ⟨rfl, _, _⟩ := hr
        exact Lands.pure h (x := .a (.ag (z.map ofC))) (v := .agg zv.cells) (by simp [execOp, ho, hrun]) ⟨zv.cells, rfl, by rw [hzl]; exact F2_ofC _ _ _⟩
      · exact hr.elim
    · exact hr.elim
  · exact hr.elim

def killB (B : Nat → Blk) (old : Option Nat) : Nat → Blk := match old with | some i => fset B i .dead | none => B
def killO (ow : Nat → Option Nat) (old : Option Nat) (g : Nat) : Option Nat := match old with | some i => if ow g = some i then none else ow g | none => ow g
/-- A new row, for an old one that is spent. -/
theorem Rel.row (h : Rel G S ρ ow a w) {d : Nat} (hd : S.b d = .no) {k : K} {ys : List (T k)} {v : Value} {w' : World} (old : Option Nat) (vb : Option Nat)
    (hold : ∀ i, old = some i → S.b i ≠ .no) (hvb : ∀ g, vb = some g → ∃ i, old = some i ∧ ow g = some i)
    (hown : w'.ownsRow 0 (ty k) (sz k) v ys.length (flat k ys)) (hg : w.grownBy w' vb) (hv : ∀ g, v.ownBlock = some g → w.heap.size ≤ g ∨ vb = some g) :
    Rel G ⟨S.t, fset (killB S.b old) d (.row true k ys)⟩ (fset ρ d v) (fun g => if v.ownBlock = some g then some d else killO ow old g) a w' := by
  have hB : ∀ j, j ≠ d → (∀ i, old = some i → j ≠ i) → fset (killB S.b old) d (.row true k ys) j = S.b j := fun j h1 h2 => by
    rw [fset_ne _ _ h1]
    cases old with
    | none => rfl
    | some i => exact fset_ne _ _ (h2 i rfl)
  have hBo : ∀ i, old = some i → i ≠ d → fset (killB S.b old) d (.row true k ys) i = .dead := fun i e1 h1 => by
    subst e1; rw [fset_ne _ _ h1]; exact fset_same _ _ _
  have hlt : ∀ g, v.ownBlock = some g → g < w'.heap.size := fun g e => (hown.lt g e).2
  refine h.upd (fun j => j = d ∨ old = some j) ?_ (fun j hj => hB j (fun e => hj (.inl e)) fun i e1 e2 => hj (.inr (e2 ▸ e1))) ?_ hg.size hg.os hg.tape hg.output ?_ ?_
  · refine ⟨fun i hi => ?_, fun i own k' xs hi hb => ?_, fun i hi => fset_ne _ _ fun e => hi (e ▸ hd), fun i hi ho => ?_⟩
    · have h1 : i ≠ d := fun e => hi (e ▸ hd)
      by_cases e : old = some i
      · rw [hBo i e h1]; simp
      · rw [hB i h1 fun j e1 e2 => e (e2 ▸ e1)]; exact hi
    · have h1 : i ≠ d := fun e => hi (e ▸ hd)
      by_cases e : old = some i
      · rw [hBo i e h1] at hb; cases hb
      · rw [hB i h1 fun j e1 e2 => e (e2 ▸ e1)] at hb; exact ⟨own, xs, hb, rfl⟩
    · have h1 : i ≠ d := fun e => hi (e ▸ hd)
      by_cases e : old = some i
      · rw [hBo i e h1] at ho; cases ho
      · rw [hB i h1 fun j e1 e2 => e (e2 ▸ e1)] at ho; exact ho
  · intro g hgs hc
    have hnv : vb ≠ some g := fun e => by
      obtain ⟨i, e1, e2⟩ := hvb g e
      exact hc i e2 (.inr e1)
    refine ⟨hg.block g hgs (fun e => hnv e.symm), ?_⟩
    rw [if_neg fun e => (hv g e).elim (fun h => by omega) hnv]
    cases old with
    | none => rfl
    | some i => exact if_neg fun e => hc i e (.inr rfl)
  · intro j hj
    by_cases e : j = d
    · subst e
      rw [fset_same]
      refine ⟨by rw [fset_same]; exact hown, fun g hg => ?_⟩
      rw [fset_same] at hg
      exact if_pos hg
    · rw [hBo j (hj.resolve_left e) e]; trivial
  · intro g i hi
    by_cases e : v.ownBlock = some g
    · rw [if_pos e] at hi; cases hi
      refine .inr ⟨hlt g e, by rw [fset_same]; rfl, ?_⟩
      rcases hv g e with h1 | h1
      · exact .inl h1
      · obtain ⟨i, _, e2⟩ := hvb g h1
        exact .inr (by rw [e2]; simp)
    · rw [if_neg e] at hi
      have hi' : ow g = some i ∧ ∀ j, old = some j → i ≠ j := by
        cases old with
        | none => exact ⟨hi, fun _ h => by cases h⟩
        | some j =>
          dsimp only [killO] at hi
          split at hi
          · cases hi
          · rename_i hne
            exact ⟨hi, fun j' e1 e2 => by cases e1; subst e2; exact hne hi⟩
      refine .inl ⟨hi'.1, ?_⟩
      rintro (rfl | e1)
      · have := (h.own g _ hi'.1).2.1
        rw [hd] at this; cases this
      · exact hi'.2 i e1 rfl
theorem VV_sl {B : Nat → Blk} {d : Nat} {v : Value} {w' : World} {e s n : Nat} {xs : List Value} (hB : B d ≠ .no) (hown : w'.ownsRow 0 e s v n xs) : VV B (fset ρ d v) (.a (.sc (.sl d))) v := by
  refine ⟨hB, (fset_same _ _ _).symm, ?_⟩
  rcases hown.2 with ⟨rfl, _⟩ | ⟨g, cap, cur, rfl, _⟩ <;> rfl
/-- A row that is made whole. -/
theorem lands_newRow (h : Rel G S ρ ow a w) {k : K} {xs : List (T k)} {v : Value} {w' : World} (hr : Runs C S (newB d (.row true k xs) (.a (.sc (.sl d))) []) lt lb wr lt' lb')
    (he : (execOp a.eval o).run P w = .ok (.value v) w') (hown : w'.ownsRow 0 (ty k) (sz k) v xs.length (flat k xs)) (hg : w.grownBy w' none) (hv : ∀ g, v.ownBlock = some g → w.heap.size ≤ g) : Lands P G S a w o wr := by
  simp only [newB, Runs] at hr
  split at hr
  · rename_i hd
    obtain ⟨rfl, _, _⟩ := hr
    intro next Q hn
    have hR := h.row hd none none (by simp) (by simp) hown hg (fun g e => .inl (hv g e))
    exact wp_val he (hn v w' _ _ hR (VV_sl (by show fset S.b d (Blk.row true k xs) d ≠ _; rw [fset_same]; simp) hown))
  · exact hr.elim
theorem elems_ok {k : K} : ∀ {parts : List (Nat × AV)} {cparts : List (Nat × Value)} {i : Nat} {xs : List (T k)} {cs : Array Value}, elemsS k i parts = some xs → Parts S.b ρ parts cparts → (i + xs.length) * sz k ≤ cs.size →
    ∃ cs', Instr.fill (fun i => some (i * sz k, sz k)) cs cparts = some cs' ∧ cs'.toList = splice cs.toList (i * sz k) (flat k xs) := by
  intro parts
  induction parts with
  | nil =>
    intro cparts i xs cs h hP hfit
    rw [show cparts = [] from hP.nil_left]
    simp [elemsS] at h
    subst h
    exact ⟨cs, rfl, by simp [flat, splice]⟩
  | cons p r ih =>
    intro cparts i xs cs h hP hfit
    obtain ⟨q, cr, rfl, ⟨h1, h2⟩, hP'⟩ := hP.cons_left
    obtain ⟨j, x⟩ := p
    obtain ⟨j', v⟩ := q
    dsimp only at h1 h2
    subst h1
    have key : j = i ∧ ∃ us e xs', v.cells.toList = us ∧ dec k us = some e ∧ elemsS k (i + 1) r = some xs' ∧ xs = e :: xs' := by
      cases x with
      | tp l => simp [elemsS] at h
      | a x =>
        cases x with
        | sc s =>
          cases s with
          | v u =>
            simp only [elemsS] at h
            split at h
            · rename_i hj
              split at h
              · rename_i e xs' he hxs
                cases h
                cases h2
                have h1 := YtlenacakmmikiaaGreatDoorX.enc_one k e v (by rw [YtlenacakmmikiaaGreatDoorX.dec_enc k _ _ he]; simp)
                exact ⟨hj, _, e, xs', by rw [cells_of_one h1], he, hxs, rfl⟩
              · cases h
            · cases h
          | _ => simp [elemsS] at h
        | ag l =>
          simp only [elemsS] at h
          split at h
          · rename_i hj
            split at h
            · rename_i us hus
              split at h
              · rename_i e xs' he hxs
                cases h
                obtain ⟨c, rfl, hF⟩ := h2
                exact ⟨hj, us, e, xs', vals_F2 hus hF, he, hxs, rfl⟩
              · cases h
            · cases h
          · cases h
    obtain ⟨rfl, us, e, xs', hus, he, hxs, rfl⟩ := key
    have henc := YtlenacakmmikiaaGreatDoorX.dec_enc k us e he
    have hlen : us.length = sz k := by rw [← henc, YtlenacakmmikiaaGreatDoorX.enc_len]
    have hvs : v.cells.size = sz k := by rw [← hlen, ← hus]; simp
    have hb : (j + 1 + xs'.length) * sz k ≤ cs.size := by simpa [Nat.add_assoc, Nat.add_comm 1] using hfit
    have hj1 : j * sz k + sz k + xs'.length * sz k ≤ cs.size := by rwa [Nat.add_mul, Nat.succ_mul] at hb
    have hcs := fold_set' (j * sz k) v.cells cs (by omega)
    have hsz : (v.cells.zipIdx.foldl (fun (cs : Array Value) (p : Value × Nat) => cs.setIfInBounds (j * sz k + p.2) p.1) cs).size = cs.size := by
      have := congrArg List.length hcs
      rw [splice_len _ _ _ (by simp; omega)] at this
      simpa using this
    obtain ⟨cs', e1, e2⟩ := ih (cs := v.cells.zipIdx.foldl (fun (cs : Array Value) (p : Value × Nat) => cs.setIfInBounds (j * sz k + p.2) p.1) cs) hxs hP' (by rw [hsz]; exact hb)
    refine ⟨cs', ?_, ?_⟩
    · have hno : ¬ (v.cells.size ≠ sz k ∨ j * sz k + v.cells.size > cs.size) := by omega
      simp only [Instr.fill]
      rw [if_neg (by simpa using hno)]
      exact e1
    · rw [e2, hcs, hus, Nat.succ_mul, ← hlen]
      have hfl := flat_len k xs'
      rw [show (j * us.length + us.length) = j * us.length + us.length from rfl, splice_splice _ _ _ _ (by simp; rw [hlen, hfl]; omega), show flat k (e :: xs') = us ++ flat k xs' by simp [flat, henc]]
theorem lands_buildSlice (hE : EnvOk P E) {t : TypeId} {n : Nat} {ps : Array (Nat × Operand)} (h : Rel G S ρ ow a w) (ho : o.op = .buildSlice t n ps) (hr : Runs C S (opBody E d (.buildSlice t n ps)) lt lb wr lt' lb') : Lands P G S a w o wr := by
  simp only [opBody] at hr
  split at hr
  · rename_i k hk
    obtain ⟨hu, it, z, hi, hsz, hby, hz, hzl⟩ := hE.elem t k hk
    obtain ⟨vs, _, hvs, hr1⟩ := runs_evOs h hr
    split at hr1
    · rename_i xs hxs
      split at hr1
      · rename_i hn
        obtain ⟨rfl, hlim⟩ := hn
        have hfl := flat_len k xs
        have mk : ∀ zc : Array Value, ∃ cs', Instr.fill (fun i => some (i * sz k, sz k)) ((Array.range (xs.length * sz k)).map (zc[· % zc.size]!)) (ps.map fun (i, x) => (i, a.eval x)).toList = some cs' ∧ cs'.toList = flat k xs := by
          intro zc
          obtain ⟨cs', e1, e2⟩ := elems_ok (cs := (Array.range (xs.length * sz k)).map (zc[· % zc.size]!)) hxs (parts_of hvs) (by simp)
          refine ⟨cs', by simpa using e1, ?_⟩
          rw [e2, Nat.zero_mul, splice_full _ _ (by simp [hfl])]
        have hrun : ∃ cs', (Instr.buildSlice t xs.length (ps.map fun (i, x) => (i, a.eval x))).run P w = .ok (.slice (some ⟨w.heap.size, 0, none⟩) xs.length xs.length) (w.alloc (.cells cs' (ty k))) ∧ cs'.toList = flat k xs := by
          by_cases h0 : xs.length * sz k = 0
          · obtain ⟨cs', e1, e2⟩ := mk #[]
            refine ⟨cs', ?_, e2⟩
            have e1' := e1
            simp only [h0] at e1'
            simp [Instr.buildSlice, run_underlying hu, sizeOf, typeInfo, hi, hsz, h0, newRow]
            simp at e1'
            simp [e1']
          · obtain ⟨cs', e1, e2⟩ := mk z.cells
            refine ⟨cs', ?_, e2⟩
            have hl : ¬ (16777216 < xs.length * sz k) := by omega
            simp only [Array.map_map] at e1
            simp [Instr.buildSlice, run_underlying hu, sizeOf, typeInfo, zeroValue, hi, hsz, hz, h0, hl, newRow]
            simp at e1
            simp [e1]
        obtain ⟨cs', hrun, hcs⟩ := hrun
        have hs : cs'.size = xs.length * sz k := by rw [← hfl, ← hcs]; simp
        have hp := YtlenacakmmikiaaGreatDoorX.sz_pos k
        have hmx : xs.length ≤ maxLen := by
          have : xs.length * 1 ≤ xs.length * sz k := Nat.mul_le_mul_left _ hp
          simp only [maxLen]; omega
        have hown : (w.alloc (.cells cs' (ty k))).ownsRow 0 (ty k) (sz k) (.slice (some ⟨w.heap.size, 0, none⟩) xs.length xs.length) xs.length (flat k xs) := by rw [← hcs]; exact World.ownsRow_lit w cs' xs.length (Nat.zero_le _) hmx hs
        have e : execOp a.eval o = (do pure (.value (← Instr.buildSlice t xs.length (ps.map fun (i, x) => (i, a.eval x)))) : Sem Next) := by simp only [execOp, ho]
        exact lands_newRow h hr1 (by rw [e, Sem.run_bind, hrun]; rfl) hown (World.grownBy_alloc w _ none) (fun g e => by simp [Value.ownBlock] at e; omega)
      · exact hr1.elim
    · exact hr1.elim
  · exact hr.elim
end
end Go.Proofs.YtlenacakmmikiaaGreatDoorX
