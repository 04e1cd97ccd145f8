/- Loads, stores and the operations on values. -/
import Derived.Test.YtlenacakmmikiaaGreatDoorX2
namespace Go.Proofs.YtlenacakmmikiaaGreatDoorX
open Go
set_option linter.unusedVariables false
set_option linter.unusedSimpArgs false
def splice {α : Type} (l : List α) (o : Nat) (vs : List α) : List α := l.take o ++ vs ++ l.drop (o + vs.length)
theorem splice_len {α : Type} (l : List α) (o : Nat) (vs : List α) (h : o + vs.length ≤ l.length) : (splice l o vs).length = l.length := by
  simp [splice]; omega
theorem splice_one {α : Type} (l : List α) (o : Nat) (v : α) (h : o < l.length) : splice l o [v] = l.set o v := by
  simp [splice, List.set_eq_take_append_cons_drop, h]
theorem splice_take {α : Type} (l : List α) (o n : Nat) (vs : List α) (h : o + vs.length ≤ n) (hn : n ≤ l.length) : (splice l o vs).take n = splice (l.take n) o vs := by
  simp only [splice, List.append_assoc]
  rw [List.take_append, List.take_append]
  have e1 : (l.take o).length = o := by simp; omega
  rw [e1, List.take_of_length_le (by rw [e1]; omega), List.take_of_length_le (l := vs) (by omega), List.take_take, Nat.min_eq_left (by omega), List.drop_take]
  congr 3; omega
theorem splice_mid {α : Type} (A X B : List α) (o : Nat) (vs : List α) (h : o + vs.length ≤ X.length) : splice (A ++ X ++ B) (A.length + o) vs = A ++ splice X o vs ++ B := by
  simp only [splice, List.append_assoc]
  rw [List.take_append, List.drop_append, List.take_of_length_le (l := A) (by omega), List.drop_of_length_le (l := A) (by omega), show A.length + o - A.length = o by omega, show A.length + o + vs.length - A.length = o + vs.length by omega, List.take_append, List.drop_append]
  rw [show o - X.length = 0 by omega, show o + vs.length - X.length = 0 by omega]
  simp
section
variable {a : Act} {w : World} {P : Program}
theorem run_storeVar {t : TypeId} {g o : Nat} {e : TypeId} {cur : Array Value} {v : Value} (hi : ∃ i, P.info? t = some i ∧ i.size = v.cells.size) (hg : w.heap[g]? = some (.cells cur e (0, 0)))
    (hfit : o + v.cells.toList.length ≤ cur.size) (h1 : ∀ u ∈ v.cells.toList, u.oneCell' = true) :
    (storeVar t ⟨g, o, none⟩ v).run P w = .ok () (w.setRow g (splice cur.toList o v.cells.toList).toArray) := by
  obtain ⟨i, hi, hs⟩ := hi
  have := run_storeCells_at P g o e v.cells.toList 0 cur w hg (by simpa using hfit) h1
  simp only [Nat.add_zero] at this
  simp [storeVar, sizeOf, typeInfo, hi, hs, splice]
  simpa using this
theorem getD_some {α : Type} {l : List α} {j : Nat} (d : α) (h : j < l.length) : l[j]? = some (l.getD j d) := by
  simp [List.getD, List.getElem?_eq_getElem h]
end
section
variable {G : Bg} {S : St} {ρ : Nat → Value} {ow : Nat → Option Nat} {a : Act} {w : World} {P : Program} {E : Env} {C : FuncId → Pk → Rs → Prop}
theorem flat_len (k : K) (xs : List (T k)) : (flat k xs).length = xs.length * sz k := by
  induction xs with
  | nil => simp [flat]
  | cons x xs ih =>
    simp only [flat, List.flatMap_cons, List.length_append, YtlenacakmmikiaaGreatDoorX.enc_len, List.length_cons] at ih ⊢
    rw [ih, Nat.succ_mul]; omega
theorem flat_cut (k : K) (xs : List (T k)) (j : Nat) (x : T k) (h : xs[j]? = some x) : flat k xs = flat k (xs.take j) ++ enc k x ++ flat k (xs.drop (j + 1)) := by
  obtain ⟨hj, hx⟩ := List.getElem?_eq_some_iff.1 h
  have : xs = xs.take j ++ x :: xs.drop (j + 1) := by rw [← hx]; simp
  conv => lhs; rw [this]
  simp [flat]
theorem flat_get (k : K) (xs : List (T k)) (j m : Nat) (x : T k) (h : xs[j]? = some x) (hm : m < sz k) : (flat k xs)[j * sz k + m]? = (enc k x)[m]? := by
  obtain ⟨hj, _⟩ := List.getElem?_eq_some_iff.1 h
  have e : (flat k (xs.take j)).length = j * sz k := by rw [flat_len, List.length_take, Nat.min_eq_left (by omega)]
  rw [flat_cut k xs j x h, List.append_assoc, List.getElem?_append_right (by omega), e, List.getElem?_append_left (by rw [YtlenacakmmikiaaGreatDoorX.enc_len]; omega)]
  congr 1; omega
theorem flat_one (k : K) (xs : List (T k)) : ∀ u ∈ flat k xs, u.oneCell' = true := by
  intro u hu
  obtain ⟨x, _, hx⟩ := List.mem_flatMap.1 hu
  exact YtlenacakmmikiaaGreatDoorX.enc_one k x u hx
theorem vals_F2 {B : Nat → Blk} {ρ : Nat → Value} : ∀ {l : List Sc} {us cs : List Value}, vals l = some us → F2 (VS B ρ) l cs → cs = us
  | [], us, cs, h, hf => by simp [vals] at h; rw [h]; exact hf.nil_left
  | .v u :: r, us, cs, h, hf => by
    simp only [vals, Option.map_eq_some_iff] at h
    obtain ⟨us', h1, rfl⟩ := h
    obtain ⟨b, m', rfl, hb, hm⟩ := hf.cons_left
    cases hb
    rw [vals_F2 h1 hm]
  | .un :: r, us, cs, h, hf => by simp [vals] at h
  | .nl :: r, us, cs, h, hf => by simp [vals] at h
  | .sl _ :: r, us, cs, h, hf => by simp [vals] at h
  | .bp _ _ :: r, us, cs, h, hf => by simp [vals] at h
  | .rp _ _ _ _ :: r, us, cs, h, hf => by simp [vals] at h
  | .fn _ _ :: r, us, cs, h, hf => by simp [vals] at h
theorem F2_v (B : Nat → Blk) (ρ : Nat → Value) : ∀ l : List Value, F2 (VS B ρ) (l.map .v) l
  | [] => trivial
  | x :: l => ⟨rfl, F2_v B ρ l⟩
/-- What is read at an address whose cells are those of the list from 'off' on. -/
theorem run_readA (hE : EnvOk P E) {t : TypeId} {l : List Sc} {cs : List Value} {off : Nat} {y : A1} {X : Addr} (h : readA E t l off = some y) (hf : F2 (VS S.b ρ) l cs)
    (hc : ∀ m u, cs[off + m]? = some u → w.cell? (X.add m) = some u) : ∃ v, (loadVar t X).run P w = .ok v w ∧ V1 S.b ρ y v := by
  unfold readA at h
  split at h
  · rename_i ha
    obtain ⟨i, d, hu, hd, hi, hs⟩ := hE.one t ha
    simp only [Option.map_eq_some_iff] at h
    obtain ⟨s, hs, rfl⟩ := h
    obtain ⟨u, hu', hv⟩ := hf.get hs
    have hx := hc 0 u (by simpa using hu')
    have hx : w.cell? X = some u := by simpa [Addr.add] using hx
    refine ⟨u, ?_, hv⟩
    have hag : (isAgg t).run P w = .ok false w := by
      simp only [isAgg, Sem.run_bind, run_underlying hu, Result.andThen_ok]
      cases d <;> simp_all
    simp [loadVar, hag, load, Sem.run, hx]
  · rename_i n ha
    obtain ⟨i, d, hu, hd, hi, hs⟩ := hE.agg t n ha
    simp only [Option.map_eq_some_iff] at h
    obtain ⟨m, hm, rfl⟩ := h
    unfold takeN at hm
    split at hm
    · rename_i hle
      cases hm
      have hl := hf.len
      have hag : (isAgg t).run P w = .ok true w := by
        simp only [isAgg, Sem.run_bind, run_underlying hu, Result.andThen_ok]
        cases d <;> simp_all
      have hlen : ((cs.drop off).take n).length = n := by simp; omega
      have hl := run_loadCells_list (P := P) w X ((cs.drop off).take n) (fun j v hv => by
        rw [List.getElem?_take] at hv
        split at hv
        · rw [List.getElem?_drop] at hv; exact hc j v hv
        · cases hv)
      rw [hlen] at hl
      refine ⟨.agg ((cs.drop off).take n).toArray, ?_, _, rfl, by simpa using (hf.drop off).take n⟩
      simp [loadVar, hag, sizeOf, typeInfo, hi, hs, hl]
    · cases hm
  · cases h
theorem writeA_ok (hE : EnvOk P E) {t : TypeId} {l l' : List Sc} {cs : List Value} {off : Nat} {z : A1} {v : Value} (h : writeA E t l off z = some l') (hz : V1 S.b ρ z v) (hf : F2 (VS S.b ρ) l cs) :
    (∃ i, P.info? t = some i ∧ i.size = v.cells.size) ∧ off + v.cells.toList.length ≤ cs.length ∧ (∀ u ∈ v.cells.toList, u.oneCell' = true) ∧ F2 (VS S.b ρ) l' (splice cs off v.cells.toList) := by
  have hl := hf.len
  unfold writeA at h
  split at h
  · rename_i s ha
    obtain ⟨i, d, hu, hd, hi, hs⟩ := hE.one t ha
    split at h
    · rename_i hc
      simp only [Bool.and_eq_true, decide_eq_true_eq] at hc
      cases h
      have h1 := VS_one hz hc.2
      rw [cells_of_one h1]
      refine ⟨⟨i, hi, by simp [hs]⟩, by simp; omega, by simpa using h1, ?_⟩
      rw [show (#[v] : Array Value).toList = [v] from rfl, splice_one _ _ _ (by omega)]
      exact hf.set off hz
    · cases h
  · rename_i n m ha
    obtain ⟨i, d, hu, hd, hi, hs⟩ := hE.agg t n ha
    obtain ⟨c, rfl, hm⟩ := hz
    split at h
    · rename_i hc
      simp only [Bool.and_eq_true, decide_eq_true_eq, List.all_eq_true] at hc
      obtain ⟨h1, h2, h3⟩ := hc
      cases h
      have hlm := hm.len
      have e : (Value.agg c).cells = c := rfl
      rw [e]
      have hcn : c.toList.length = n := by omega
      refine ⟨⟨i, hi, by simp at hcn; omega⟩, by omega, ?_, ?_⟩
      · intro u hu
        obtain ⟨j, hj⟩ := List.getElem?_of_mem hu
        obtain ⟨s, hs', hv⟩ := hm.get' hj
        exact VS_one hv (h3 s (List.mem_of_getElem? hs'))
      · unfold splice
        rw [hcn]
        exact ((hf.take off).app hm).app (hf.drop (off + n))
    · cases h
  · cases h
theorem box_cell {B : Nat → Blk} {g off m : Nat} {cs : Array Value} {e : TypeId} {u : Value} (hg : w.heap[g]? = some (.cells cs e (0, 0))) (h : cs.toList[off + m]? = some u) : w.cell? ((⟨g, off, none⟩ : Addr).add m) = some u := by
  rw [Addr.add_lit, cell_of_row w g (off + m) cs e (0, 0) hg]; simpa using h
/-- The cells of a row. -/
theorem row_cell {B : Nat → Blk} {i : Nat} {own : Bool} {k : K} {xs : List (T k)} (h : BlkOk B w ρ ow i (.row own k xs)) {A : Addr} {len cap : Nat} (hr : ρ i = .slice (some A) len cap) (j : Nat) (u : Value) (hu : (flat k xs)[j]? = some u) :
    w.cell? (A.add j) = some u := by
  cases own with
  | true =>
    obtain ⟨h1, _⟩ := h
    have := h1
    obtain ⟨_, h2⟩ := this
    rcases h2 with ⟨e, _⟩ | ⟨g, cap', cur, e, _⟩
    · rw [hr] at e; cases e
    · rw [hr] at e; cases e
      exact h1.cells (by rw [hr]; rfl) j u hu
  | false =>
    obtain ⟨A', cap', e, _, h3⟩ := h
    obtain ⟨a', ha, hc, _⟩ := h3 j u hu
    rw [hr] at e; cases e; cases ha
    exact hc
theorem lands_load (hE : EnvOk P E) (h : Rel G S ρ ow a w) {o : Oper} {t : TypeId} {x : Operand} (ho : o.op = .load t x) {d : Nat} {lt lb lt' lb' : List Nat} {wr : Wr}
    (hr : Runs C S (opBody E d (.load t x)) lt lb wr lt' lb') : Lands P G S a w o wr := by
  simp only [opBody] at hr
  obtain ⟨v, lt1, hv, hr1⟩ := runs_evO h hr
  obtain ⟨s, hs, hr2⟩ := runs_asSc hr1
  subst hs
  clear hr hr1
  have fin : ∀ {X : Addr} {y : A1}, a.eval x = .pointer (some X) → (∃ u, (loadVar t X).run P w = .ok u w ∧ V1 S.b ρ y u) → Lands P G S a w o ⟨.a y, []⟩ := by
    rintro X y he ⟨u, hu, hy⟩
    refine Lands.pure h (x := .a y) (v := u) ?_ hy
    simp [execOp, ho, Instr.loadAt, he, Instr.sureAddr, hu]
  cases s with
  | bp i off =>
    obtain ⟨hno, g, hρ, he⟩ := hv
    dsimp only at hr2; simp only [Runs] at hr2
    have hb := h.bl i
    split at hr2
    · rename_i own l hbi
      rw [hbi] at hb
      obtain ⟨g', cs, e, h1, h2, h3, h4⟩ := hb
      rw [hρ] at h1; cases h1
      split at hr2
      · rename_i y hy
        obtain ⟨rfl, _, _⟩ := hr2
        exact fin he (run_readA hE hy h3 fun m u hu => box_cell (B := S.b) h2 hu)
      · exact hr2.elim
    · exact hr2.elim
  | rp i s j off =>
    obtain ⟨hno, ⟨A, len, cap, hρ, he⟩, hrow⟩ := hv
    dsimp only at hr2; simp only [Runs] at hr2
    have hb := h.bl i
    split at hr2
    · rename_i own k xs hbi
      rw [hbi] at hb
      obtain ⟨rfl, hj⟩ := hrow own k xs hbi
      split at hr2
      · rename_i y hy
        obtain ⟨rfl, _, _⟩ := hr2
        refine fin he (run_readA hE hy (F2_v _ _ _) fun m u hu => ?_)
        have hlt : off + m < sz k := by
          have := (List.getElem?_eq_some_iff.1 hu).1
          rwa [YtlenacakmmikiaaGreatDoorX.enc_len] at this
        rw [Go.Deep.add_add, Nat.add_assoc]
        exact row_cell hb hρ _ _ (by rw [flat_get k xs j (off + m) _ (getD_some _ hj) hlt]; exact hu)
      · exact hr2.elim
    · exact hr2.elim
  | _ => exact hr2.elim
theorem flat_set (k : K) (xs : List (T k)) (j : Nat) (x e : T k) (h : xs[j]? = some x) (off : Nat) (vs : List Value) (hfit : off + vs.length ≤ sz k) (he : enc k e = splice (enc k x) off vs) :
    flat k (xs.set j e) = splice (flat k xs) (j * sz k + off) vs := by
  obtain ⟨hj, _⟩ := List.getElem?_eq_some_iff.1 h
  have e1 : (flat k (xs.take j)).length = j * sz k := by rw [flat_len, List.length_take, Nat.min_eq_left (by omega)]
  rw [flat_cut k xs j x h, ← e1, splice_mid _ _ _ _ _ (by rw [YtlenacakmmikiaaGreatDoorX.enc_len]; exact hfit), ← he, flat_cut k (xs.set j e) j e (by simp [hj])]
  have e2 : (xs.take j).set j e = xs.take j := List.set_eq_of_length_le (by simp; omega)
  simp [List.take_set, List.drop_set_of_lt, e2]
theorem lands_store (hE : EnvOk P E) (h : Rel G S ρ ow a w) {o : Oper} {t : TypeId} {x y : Operand} (ho : o.op = .store t x y) {d : Nat} {lt lb lt' lb' : List Nat} {wr : Wr}
    (hr : Runs C S (opBody E d (.store t x y)) lt lb wr lt' lb') : Lands P G S a w o wr := by
  simp only [opBody] at hr
  obtain ⟨v, lt1, hv, hr1⟩ := runs_evO h hr
  obtain ⟨s, hs, hr2⟩ := runs_asSc hr1
  subst hs
  obtain ⟨z0, lt2, hz, hr3⟩ := runs_evO h hr2
  obtain ⟨z, hz0, hr4⟩ := runs_asA1 hr3
  subst hz0
  clear hr hr1 hr2 hr3
  have run : ∀ {X : Addr} {w' : World}, a.eval x = .pointer (some X) → (storeVar t X (a.eval y)).run P w = .ok () w' → (execOp a.eval o).run P w = .ok .skip w' := by
    intro X w' he hs
    simp [execOp, ho, Instr.storeAt, he, Instr.sureAddr, hs]
  cases s with
  | bp i off =>
    obtain ⟨hno, g, hρ, he⟩ := hv
    dsimp only at hr4; simp only [Runs] at hr4
    have hb := h.bl i
    split at hr4
    · rename_i l hbi
      rw [hbi] at hb
      obtain ⟨g', cs, e, h1, h2, h3, h4⟩ := hb
      rw [hρ] at h1; cases h1
      split at hr4
      · rename_i l' hl'
        obtain ⟨rfl, _, _⟩ := hr4
        obtain ⟨hi, hfit, hone, hF⟩ := writeA_ok hE hl' hz h3
        have hs := run_storeVar hi h2 (by simpa using hfit) hone
        intro next Q hn
        refine wp_skp (run he hs) (hn undef _ ρ ow ?_ trivial)
        have hrel := h.chg (i := i) (g := g) (b := .box true l') hno (by simp) (fun _ _ _ hb => by cases hb) rfl (by simpa using h4) (w' := w.setRow g (splice cs.toList off (a.eval y).cells.toList).toArray)
          (fun k hk hne => setRow_other w g k _ hne) (by simp) rfl rfl rfl ?_
        · exact hrel
        · have m : Mono S.b (fset S.b i (.box true l')) ρ ρ := ⟨fun j hj => by
            by_cases e : j = i
            · subst e; rw [fset_same]; simp
            · rw [fset_ne _ _ e]; exact hj, fun j own k xs hj hb' => by
            by_cases e : j = i
            · subst e; rw [fset_same] at hb'; cases hb'
            · rw [fset_ne _ _ e] at hb'; exact ⟨own, xs, hb', rfl⟩, fun _ _ => rfl, fun j hj ho => by
            by_cases e : j = i
            · subst e; rw [hbi]; rfl
            · rw [fset_ne _ _ e] at ho; exact ho⟩
          exact ⟨g, _, e, hρ, setRow_heap w g cs _ e _ h2, by simpa using hF.mono fun _ _ => VS.mono m, h4⟩
      · exact hr4.elim
    · exact hr4.elim
  | rp i s j off =>
    obtain ⟨hno, ⟨A, len, cap, hρ, he⟩, hrow⟩ := hv
    dsimp only at hr4; simp only [Runs] at hr4
    have hb := h.bl i
    split at hr4
    · rename_i k xs hbi
      rw [hbi] at hb
      obtain ⟨rfl, hj⟩ := hrow true k xs hbi
      split at hr4
      · rename_i l' hl'
        split at hr4
        · rename_i us hus
          split at hr4
          · rename_i e hde
            obtain ⟨rfl, _, _⟩ := hr4
            obtain ⟨⟨hxl, hown⟩, hbk⟩ := hb
            rcases hown with ⟨e1, e2⟩ | ⟨g, cap', cur, e1, _, e3, e4, e5, e6, e7⟩
            · rw [hρ] at e1; cases e1
            · rw [hρ] at e1; cases e1
              obtain ⟨hi, hfit, hone, hF⟩ := writeA_ok hE hl' hz (F2_v S.b ρ _)
              have hus' := vals_F2 hus hF
              have hx := getD_some (dflt k) hj
              rw [YtlenacakmmikiaaGreatDoorX.enc_len] at hfit
              have henc := YtlenacakmmikiaaGreatDoorX.dec_enc k _ _ hde
              have hts : cur.toList.length = cur.size := by simp
              have hjb : (j + 1) * sz k ≤ xs.length * sz k := Nat.mul_le_mul_right _ hj
              rw [Nat.succ_mul] at hjb
              have hcap : xs.length * sz k ≤ cap * sz k := Nat.mul_le_mul_right _ e4
              have hset := flat_set k xs j _ e hx off (a.eval y).cells.toList hfit (by rw [henc, ← hus'])
              have hs := run_storeVar (o := j * sz k + off) hi e3 (by omega) hone
              have hadd : (⟨g, 0, none⟩ : Addr).add (j * sz k + off) = ⟨g, j * sz k + off, none⟩ := by rw [Addr.add_lit, Nat.zero_add]
              rw [hadd] at he
              intro next Q hn
              refine wp_skp (run he hs) (hn undef _ ρ ow ?_ trivial)
              have hrel := h.chg (i := i) (g := g) (b := .row true k (xs.set j e)) hno (by simp) (fun own' k' xs' hb => by cases hb; exact ⟨true, xs, hbi, by simp⟩) rfl (hbk g (by rw [hρ]; rfl)) (w' := w.setRow g (splice cur.toList (j * sz k + off) (a.eval y).cells.toList).toArray)
                (fun k hk hne => setRow_other w g k _ hne) (by simp) rfl rfl rfl ?_
              · exact hrel
              · refine ⟨⟨by rw [flat_len], .inr ⟨g, cap, _, by rw [hρ]; simp, Nat.zero_le _, setRow_heap w g cur _ (ty k) _ e3, by simpa using e4, e5, ?_, ?_⟩⟩, hbk⟩
                · simp only [List.size_toArray]
                  rw [splice_len _ _ _ (by omega), hts]; exact e6
                · rw [List.length_set, hset, ← e7]
                  simp only []
                  rw [splice_take _ _ _ _ (by omega) (by omega)]
          · exact hr4.elim
        · exact hr4.elim
      · exact hr4.elim
    · exact hr4.elim
  | _ => exact hr4.elim
end
end Go.Proofs.YtlenacakmmikiaaGreatDoorX
