/- Operations on values, and new rows. -/
import Derived.Test.YtlenacakmmikiaaGreatDoorX3
namespace Go.Proofs.YtlenacakmmikiaaGreatDoorX
open Go
set_option linter.unusedVariables false
set_option linter.unusedSimpArgs false
section
variable {w : World} {P : Program} {t e : TypeId}
theorem run_equalIn_sl (d : Nat) (A : Addr) (n c : Nat) (h : P.underlying t = some (.slice e)) : (Op.equalIn (d + 1) t (.slice (some A) n c) (.slice none 0 0)).run P w = .ok false w := by simp [Op.equalIn, run_underlying h]
theorem run_equalIn_nl (d : Nat) (h : P.underlying t = some (.slice e)) : (Op.equalIn (d + 1) t (.slice none 0 0) (.slice none 0 0)).run P w = .ok true w := by simp [Op.equalIn, run_underlying h]
theorem run_eql_sl (A : Addr) (n c : Nat) (h : P.underlying t = some (.slice e)) : (binOp .eql t (.slice (some A) n c) (.slice none 0 0)).run P w = .ok (.bool false) w := by
  show ((do pure (.bool (← Op.equal t (.slice (some A) n c) (.slice none 0 0))) : Sem Value)).run P w = _
  rw [Sem.run_bind, show (Op.equal t (.slice (some A) n c) (.slice none 0 0)).run P w = .ok false w from run_equalIn_sl 9999 A n c h]; rfl
theorem run_neq_sl (A : Addr) (n c : Nat) (h : P.underlying t = some (.slice e)) : (binOp .neq t (.slice (some A) n c) (.slice none 0 0)).run P w = .ok (.bool true) w := by
  show ((do pure (.bool (!(← Op.equal t (.slice (some A) n c) (.slice none 0 0)))) : Sem Value)).run P w = _
  rw [Sem.run_bind, show (Op.equal t (.slice (some A) n c) (.slice none 0 0)).run P w = .ok false w from run_equalIn_sl 9999 A n c h]; rfl
theorem run_eql_nl (h : P.underlying t = some (.slice e)) : (binOp .eql t (.slice none 0 0) (.slice none 0 0)).run P w = .ok (.bool true) w := by
  show ((do pure (.bool (← Op.equal t (.slice none 0 0) (.slice none 0 0))) : Sem Value)).run P w = _
  rw [Sem.run_bind, show (Op.equal t (.slice none 0 0) (.slice none 0 0)).run P w = .ok true w from run_equalIn_nl 9999 h]; rfl
theorem run_neq_nl (h : P.underlying t = some (.slice e)) : (binOp .neq t (.slice none 0 0) (.slice none 0 0)).run P w = .ok (.bool false) w := by
  show ((do pure (.bool (!(← Op.equal t (.slice none 0 0) (.slice none 0 0)))) : Sem Value)).run P w = _
  rw [Sem.run_bind, show (Op.equal t (.slice none 0 0) (.slice none 0 0)).run P w = .ok true w from run_equalIn_nl 9999 h]; rfl
theorem guard_sl (op : BinOp) (x y : Operand) (A B : Option Addr) (n c m k : Nat) : (eqGuard op t x y (.slice A n c) (.slice B m k)).run P w = .ok () w := by cases op <;> simp [eqGuard]
theorem bytes_eq (p q : ByteArray) : (p.toList == q.toList) = decide (p = q) := by
  by_cases e : p = q
  · simp [e]
  · have : p.toList ≠ q.toList := fun h => e (by
      rw [ByteArray.toList_eq, ByteArray.toList_eq] at h
      cases p; cases q; simp at h e; exact absurd h e)
    simp [e, this]
end
section
variable {G : Bg} {S : St} {ρ : Nat → Value} {ow : Nat → Option Nat} {a : Act} {w : World} {P : Program} {E : Env} {C : FuncId → Pk → Rs → Prop} {o : Oper} {d : Nat} {lt lb lt' lb' : List Nat} {wr : Wr}
theorem lands_vret {u : Value} (h : Rel G S ρ ow a w) (hr : Runs C S (vret u) lt lb wr lt' lb') (he : (execOp a.eval o).run P w = .ok (.value u) w) : Lands P G S a w o wr := by
  obtain ⟨rfl, _, _⟩ := hr
  exact Lands.pure h (x := .a (.sc (.v u))) he rfl
theorem lands_move {x : Operand} (h : Rel G S ρ ow a w) (ho : o.op = .move x) (hr : Runs C S (opBody E d (.move x)) lt lb wr lt' lb') : Lands P G S a w o wr := by
  simp only [opBody] at hr
  obtain ⟨v, _, hv, rfl, _, _⟩ := runs_evO h hr
  exact Lands.pure h (by simp [execOp, ho]) hv
theorem lands_assign {x : Operand} (h : Rel G S ρ ow a w) (ho : o.op = .assign x) (hr : Runs C S (opBody E d (.assign x)) lt lb wr lt' lb') : Lands P G S a w o wr := by
  simp only [opBody] at hr
  obtain ⟨v, _, hv, rfl, _, _⟩ := runs_evO h hr
  exact Lands.pure h (by simp [execOp, ho]) hv
theorem lands_pick {c x y : Operand} (h : Rel G S ρ ow a w) (ho : o.op = .pick c x y) (hr : Runs C S (opBody E d (.pick c x y)) lt lb wr lt' lb') : Lands P G S a w o wr := by
  simp only [opBody] at hr
  obtain ⟨v, _, hv, hr1⟩ := runs_evO h hr
  obtain ⟨b, hb, hr2⟩ := runs_asBool hr1
  subst hb
  replace hv : a.eval c = .bool b := hv
  simp only [Runs] at hr2
  obtain ⟨v, _, hv', rfl, _, _⟩ := runs_evO h hr2
  refine Lands.pure h ?_ hv'
  cases b <;> simp [execOp, ho, hv, Go.asBool]
theorem lands_extract {x : Operand} {n : Nat} (h : Rel G S ρ ow a w) (ho : o.op = .extract x n) (hr : Runs C S (opBody E d (.extract x n)) lt lb wr lt' lb') : Lands P G S a w o wr := by
  simp only [opBody] at hr
  obtain ⟨v, _, hv, hr1⟩ := runs_evO h hr
  split at hr1
  · rename_i l
    obtain ⟨vs, he, hF⟩ := hv
    split at hr1
    · rename_i y hy
      obtain ⟨rfl, _, _⟩ := hr1
      obtain ⟨u, hu, hv⟩ := hF.get hy
      refine Lands.pure h (x := .a y) (v := u) ?_ hv
      have : vs[n]? = some u := by simpa using hu
      simp [execOp, ho, he, Instr.extract, this]
    · exact hr1.elim
  · exact hr1.elim
theorem lands_unOp {op : UnOp} {t : TypeId} {x : Operand} (h : Rel G S ρ ow a w) (ho : o.op = .unOp op t x) (hr : Runs C S (opBody E d (.unOp op t x)) lt lb wr lt' lb') : Lands P G S a w o wr := by
  simp only [opBody] at hr
  obtain ⟨v, _, hv, hr1⟩ := runs_evO h hr
  split at hr1
  · rename_i b
    replace hv : a.eval x = .bool b := hv
    exact lands_vret h hr1 (by simp [execOp, ho, hv, Op.unary])
  · rename_i k n
    replace hv : a.eval x = .int k n := hv
    exact lands_vret h hr1 (by simp [execOp, ho, hv, Op.unary, Op.intArith])
  · exact hr1.elim
theorem lands_nilCheck {x : Operand} (h : Rel G S ρ ow a w) (ho : o.op = .nilCheck x) (hr : Runs C S (opBody E d (.nilCheck x)) lt lb wr lt' lb') : Lands P G S a w o wr := by
  simp only [opBody] at hr
  obtain ⟨v, _, hv, hr1⟩ := runs_evO h hr
  split at hr1
  · obtain ⟨rfl, _, _⟩ := hr1
    obtain ⟨_, g, _, he⟩ := id hv
    exact Lands.pure h (v := a.eval x) (by simp [execOp, ho, he]) hv
  · obtain ⟨rfl, _, _⟩ := hr1
    obtain ⟨he, _⟩ := id hv
    exact Lands.pure h (v := a.eval x) (by simp [execOp, ho, he]) hv
  · exact hr1.elim
theorem field_get {t : TypeId} {fs : List (Nat × TypeId)} {f off : Nat} {u : TypeId} (hE : EnvOk P E) (h : E.fields t = some fs) (hf : fs[f]? = some (off, u)) :
    ∃ F q i, P.underlying t = some (.struct F) ∧ F[f]? = some q ∧ q.offset = off ∧ q.type = u ∧ P.info? u = some i ∧ i.size ≠ 0 := by
  obtain ⟨F, h1, h2, h3⟩ := hE.fields t fs h
  rw [← h2, List.getElem?_map, Option.map_eq_some_iff] at hf
  obtain ⟨q, hq, e⟩ := hf
  cases e
  obtain ⟨i, hi, hz⟩ := h3 q (List.mem_of_getElem? hq)
  exact ⟨F, q, i, h1, by simpa using hq, rfl, rfl, hi, hz⟩
theorem lands_fieldAddr (hE : EnvOk P E) {t : TypeId} {f : Nat} {x : Operand} (h : Rel G S ρ ow a w) (ho : o.op = .fieldAddr t x f) (hr : Runs C S (opBody E d (.fieldAddr t x f)) lt lb wr lt' lb') : Lands P G S a w o wr := by
  simp only [opBody] at hr
  split at hr
  · rename_i fs hfs
    split at hr
    · rename_i off u hf
      obtain ⟨F, q, i, h1, h2, h3, h4, h5, h6⟩ := field_get hE hfs hf
      obtain ⟨v, _, hv, hr1⟩ := runs_evO h hr
      have run : ∀ {X : Addr}, a.eval x = .pointer (some X) → (execOp a.eval o).run P w = .ok (.value (.pointer (some (X.add off)))) w := by
        intro X he
        simp [execOp, ho, he, Instr.fieldAt, Instr.sureAddr, run_underlying h1, h2, fieldPlace, sizeOf, typeInfo, h4, h5, h6, h3]
      split at hr1
      · rename_i j o'
        obtain ⟨rfl, _, _⟩ := hr1
        obtain ⟨hno, g, hρ, he⟩ := hv
        exact Lands.pure h (run he) ⟨hno, g, hρ, by rw [Addr.add_lit]⟩
      · rename_i j s m o'
        obtain ⟨rfl, _, _⟩ := hr1
        obtain ⟨hno, ⟨A, len, cap, hρ, he⟩, hrow⟩ := hv
        exact Lands.pure h (run he) ⟨hno, ⟨A, len, cap, hρ, by rw [Go.Deep.add_add, Nat.add_assoc]⟩, hrow⟩
      · exact hr1.elim
    · exact hr.elim
  · exact hr.elim
theorem run_part {t : TypeId} {l : List Sc} {cs : Array Value} {off : Nat} {y : A1} (hE : EnvOk P E) (h : readA E t l off = some y) (hf : F2 (VS S.b ρ) l cs.toList) : ∃ v, (part t cs off).run P w = .ok v w ∧ V1 S.b ρ y v := by
  unfold readA at h
  split at h
  · rename_i ha
    obtain ⟨i, d, hu, hd, hi, hs⟩ := hE.one t ha
    simp only [Option.map_eq_some_iff] at h
    obtain ⟨s, hs, rfl⟩ := h
    obtain ⟨u, hu', hv⟩ := hf.get hs
    have hx : cs[off]? = some u := by simpa using hu'
    refine ⟨u, ?_, hv⟩
    have hag : (isAgg t).run P w = .ok false w := by
      simp only [isAgg, Sem.run_bind, run_underlying hu, Result.andThen_ok]
      cases d <;> simp_all
    simp [part, hag, hx]
  · rename_i n ha
    obtain ⟨i, d, hu, hd, hi, hs⟩ := hE.agg t n ha
    simp only [Option.map_eq_some_iff] at h
    obtain ⟨m, hm, rfl⟩ := h
    unfold takeN at hm
    split at hm
    · rename_i hle
      cases hm
      have hl := hf.len
      have hag : (isAgg t).run P w = .ok true w := by
        simp only [isAgg, Sem.run_bind, run_underlying hu, Result.andThen_ok]
        cases d <;> simp_all
      refine ⟨.agg (cs.extract off (off + n)), by simp [part, hag, sizeOf, typeInfo, hi, hs], _, rfl, ?_⟩
      have : (cs.extract off (off + n)).toList = (cs.toList.drop off).take n := by simp [List.extract_eq_take_drop]
      rw [this]
      exact (hf.drop off).take n
    · cases hm
  · cases h
theorem lands_field (hE : EnvOk P E) {t : TypeId} {f : Nat} {x : Operand} (h : Rel G S ρ ow a w) (ho : o.op = .field t x f) (hr : Runs C S (opBody E d (.field t x f)) lt lb wr lt' lb') : Lands P G S a w o wr := by
  simp only [opBody] at hr
  split at hr
  · rename_i fs hfs
    split at hr
    · rename_i off u hf
      obtain ⟨F, q, i, h1, h2, h3, h4, h5, h6⟩ := field_get hE hfs hf
      obtain ⟨v, _, hv, hr1⟩ := runs_evO h hr
      split at hr1
      · rename_i l
        obtain ⟨cs, he, hF⟩ := hv
        split at hr1
        · rename_i y hy
          obtain ⟨rfl, _, _⟩ := hr1
          obtain ⟨v, hv, hV⟩ := run_part (w := w) hE hy hF
          exact Lands.pure h (x := .a y) (by simp [execOp, ho, he, Instr.field, Go.asAgg, run_underlying h1, h2, h3, h4, hv]) hV
        · exact hr1.elim
      · exact hr1.elim
    · exact hr.elim
  · exact hr.elim
theorem eqInts_ok {B : Nat → Blk} {ρ : Nat → Value} : ∀ {l m : List Sc} {b : Bool} {cs ds : List Value}, eqInts l m = some b → F2 (VS B ρ) l cs → F2 (VS B ρ) m ds →
    ∃ xs ys : List Int, cs = xs.map (Value.int .i64) ∧ ds = ys.map (Value.int .i64) ∧ xs.length = l.length ∧ ys.length = l.length ∧ b = decide (xs = ys) := by
  intro l
  induction l with
  | nil =>
    intro m b cs ds h hl hm
    cases m with
    | nil => simp [eqInts] at h; exact ⟨[], [], by simpa using hl.nil_left, by simpa using hm.nil_left, rfl, rfl, by simp [← h]⟩
    | cons => simp [eqInts] at h
  | cons x r ih =>
    intro m b cs ds h hl hm
    obtain ⟨u, cs', rfl, hu, hl'⟩ := hl.cons_left
    cases m with
    | nil => cases r <;> simp [eqInts] at h
    | cons y s =>
      obtain ⟨v, ds', rfl, hv, hm'⟩ := hm.cons_left
      have key : ∃ p q, x = .v (.int .i64 p) ∧ y = .v (.int .i64 q) ∧ ((r = [] ∧ s = [] ∧ b = decide (p = q)) ∨ ∃ b', eqInts r s = some b' ∧ b = (decide (p = q) && b')) := by
        unfold eqInts at h
        split at h
        · rename_i e1 _; cases e1
        · rename_i e1 e2; cases e1; cases e2
          exact ⟨_, _, rfl, rfl, .inl ⟨rfl, rfl, (Option.some.inj h).symm⟩⟩
        · rename_i e1 e2; cases e1; cases e2
          obtain ⟨b', h1, h2⟩ := Option.map_eq_some_iff.1 h
          exact ⟨_, _, rfl, rfl, .inr ⟨b', h1, h2.symm⟩⟩
        · cases h
      obtain ⟨p, q, rfl, rfl, hk⟩ := key
      cases hu; cases hv
      rcases hk with ⟨rfl, rfl, rfl⟩ | ⟨b', hb, rfl⟩
      · rw [hl'.nil_left, hm'.nil_left]
        exact ⟨[p], [q], rfl, rfl, rfl, rfl, by simp⟩
      · obtain ⟨xs, ys, rfl, rfl, h1, h2, rfl⟩ := ih hb hl' hm'
        exact ⟨p :: xs, q :: ys, rfl, rfl, by simp [h1], by simp [h2], by simp⟩
theorem lands_binOp (hE : EnvOk P E) {op : BinOp} {t t2 : TypeId} {x y : Operand} (h : Rel G S ρ ow a w) (ho : o.op = .binOp op t x y t2) (hr : Runs C S (opBody E d (.binOp op t x y t2)) lt lb wr lt' lb') : Lands P G S a w o wr := by
  simp only [opBody] at hr
  obtain ⟨u, _, hu, hr1⟩ := runs_evO h hr
  obtain ⟨v, _, hv, hr2⟩ := runs_evO h hr1
  clear hr hr1
  have hx : ∀ {z : Value} {w' : World}, (do eqGuard op t x y (a.eval x) (a.eval y); binOp op t (a.eval x) (a.eval y) : Sem Value).run P w = .ok z w' → (execOp a.eval o).run P w = .ok (.value z) w' := by
    intro z w' he
    have e : execOp a.eval o = (do pure (.value (← (do eqGuard op t x y (a.eval x) (a.eval y); binOp op t (a.eval x) (a.eval y) : Sem Value))) : Sem Next) := by simp only [execOp, ho]
    rw [e, Sem.run_bind, he]; rfl
  unfold binS at hr2
  split at hr2
  · rename_i k m k' n
    replace hu : a.eval x = .int k m := hu
    replace hv : a.eval y = .int k' n := hv
    split at hr2
    · exact lands_vret h hr2.2 (hx (by have := hr2.1; simp [hu, hv, eqGuard, binOp, Op.shift, bShl]; omega))
    · exact lands_vret h hr2.2 (hx (by have := hr2.1; simp [hu, hv, eqGuard, binOp, Op.shift, bShr]; omega))
    split at hr2
    · rename_i hk
      subst hk
      have ng : (eqGuard op t x y (.int k m) (.int k n)).run P w = .ok () w := by cases op <;> simp [eqGuard]
      have q1 : (m == n) = decide (m = n) := by by_cases e : m = n <;> simp [e]
      have q2 : (m != n) = !decide (m = n) := by simp [bne, q1]
      unfold intBin at hr2
      split at hr2
      all_goals first
        | exact hr2.elim
        | exact lands_vret h hr2 (hx (by simp [hu, hv, ng, binOp, Op.intArith, Op.intCmp, Op.intBits, bAnd, bOr, bXor, q1, q2]))
        | exact lands_vret h hr2.2 (hx (by simp [hu, hv, ng, binOp, Op.intDiv, hr2.1]))
    · exact hr2.elim
  · rename_i p q
    replace hu : a.eval x = .bool p := hu
    replace hv : a.eval y = .bool q := hv
    have ng : (eqGuard op t x y (.bool p) (.bool q)).run P w = .ok () w := by cases op <;> simp [eqGuard]
    split at hr2
    · split at hr2
      · rename_i hb
        exact lands_vret h hr2 (hx (by simp [hu, hv, ng, run_eql_bool (w := w) t p q (hE.isBool t hb)]))
      · exact hr2.elim
    · split at hr2
      · rename_i hb
        exact lands_vret h hr2 (hx (by simp [hu, hv, ng, run_neq_bool (w := w) t p q (hE.isBool t hb)]))
      · exact hr2.elim
    · exact hr2.elim
  · rename_i p q
    replace hu : a.eval x = .string p := hu
    replace hv : a.eval y = .string q := hv
    have ng : (eqGuard op t x y (.string p) (.string q)).run P w = .ok () w := by cases op <;> simp [eqGuard]
    have hq := bytes_eq p q
    split at hr2
    · exact lands_vret h hr2.2 (hx (by simp [hu, hv, ng, binOp_string_add, run_string_add_sum (w := w) p q (by have := hr2.1; omega)]))
    · exact lands_vret h hr2 (hx (by simp only [hu, hv, Sem.run_bind, ng, Result.andThen_ok, binOp_string_eql, Sem.run_pure, hq]))
    · exact lands_vret h hr2 (hx (by simp only [hu, hv, Sem.run_bind, ng, Result.andThen_ok, binOp_string_neq, Sem.run_pure, hq]))
    · exact hr2.elim
  · rename_i i
    split at hr2
    · rename_i k hk
      obtain ⟨hun, _⟩ := hE.elem t k hk
      obtain ⟨hno, he, _⟩ := hu
      replace hv : a.eval y = .slice none 0 0 := hv
      simp only [Runs] at hr2
      have hb := h.bl i
      split at hr2
      · rename_i own k' xs hbi
        rw [hbi] at hb
        obtain ⟨hne, hr3⟩ := hr2
        have hsh : ∃ A n c, a.eval x = .slice (some A) n c := by
          cases own with
          | true =>
            rcases hb.1.2 with ⟨_, h0⟩ | ⟨g, cap, cur, e1, _⟩
            · exact absurd (List.eq_nil_of_length_eq_zero h0) hne
            · exact ⟨_, _, _, he.trans e1⟩
          | false =>
            obtain ⟨A, cap, e1, _, e3⟩ := hb
            have : ∃ u, (flat k' xs)[0]? = some u := by
              have hl : 0 < (flat k' xs).length := by
                rw [flat_len]; exact Nat.mul_pos (List.length_pos_iff.2 hne) (YtlenacakmmikiaaGreatDoorX.sz_pos k')
              exact ⟨_, List.getElem?_eq_getElem hl⟩
            obtain ⟨u, hu⟩ := this
            obtain ⟨A', hA, _⟩ := e3 0 u hu
            exact ⟨A', _, _, by rw [he, e1, hA]⟩
        obtain ⟨A, n, c, hA⟩ := hsh
        split at hr3
        · exact lands_vret h hr3 (hx (by rw [hA, hv, Sem.run_bind, guard_sl, Result.andThen_ok]; exact run_eql_sl A n c hun))
        · exact lands_vret h hr3 (hx (by rw [hA, hv, Sem.run_bind, guard_sl, Result.andThen_ok]; exact run_neq_sl A n c hun))
        · exact hr3.elim
      · exact hr2.elim
    · exact hr2.elim
  · replace hu : a.eval x = .slice none 0 0 := hu
    replace hv : a.eval y = .slice none 0 0 := hv
    split at hr2
    · rename_i k hk
      obtain ⟨hun, _⟩ := hE.elem t k hk
      exact lands_vret h hr2 (hx (by rw [hu, hv, Sem.run_bind, guard_sl, Result.andThen_ok]; exact run_eql_nl hun))
    · rename_i k hk
      obtain ⟨hun, _⟩ := hE.elem t k hk
      exact lands_vret h hr2 (hx (by rw [hu, hv, Sem.run_bind, guard_sl, Result.andThen_ok]; exact run_neq_nl hun))
    · exact hr2.elim
  · rename_i l m
    obtain ⟨cs, he1, hF1⟩ := hu
    obtain ⟨ds, he2, hF2⟩ := hv
    split at hr2
    · rename_i n b hn hb
      split at hr2
      · rename_i hl
        obtain ⟨xs, ys, e1, e2, h1, h2, rfl⟩ := eqInts_ok hb hF1 hF2
        obtain ⟨q1, q2⟩ := hE.eqs t n hn x y xs ys (by omega) (by omega) w
        have e1' : cs = (xs.map (Value.int .i64)).toArray := by rw [← e1]
        have e2' : ds = (ys.map (Value.int .i64)).toArray := by rw [← e2]
        split at hr2
        · exact lands_vret h hr2 (hx (by rw [he1, he2, e1', e2']; exact q1))
        · exact lands_vret h hr2 (hx (by rw [he1, he2, e1', e2']; exact q2))
        · exact hr2.elim
      · exact hr2.elim
    · exact hr2.elim
  · exact hr2.elim
end
end Go.Proofs.YtlenacakmmikiaaGreatDoorX
