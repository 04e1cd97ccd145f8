/- For use: what comes back in one form; tables of callees; what the types are, as equations. -/
import Derived.Test.YtlenacakmmikiaaGreatDoorX10
namespace Go.Proofs.YtlenacakmmikiaaGreatDoorX
open Go
set_option linter.unusedVariables false
set_option linter.unusedSimpArgs false
section
def tomb : Nat → List Blk → List Blk
  | 0, l => l
  | _, [] => []
  | n + 1, b :: l => (if b.own then b else .dead) :: tomb n l
/-- The nil slices of a result become rows. -/
def dnS (ks : List K) (L : Nat) (s : Sc) : Sc × List Blk × List K :=
  match s, ks with
  | .nl, k :: r => (.sl L, [.row true k []], r)
  | s, ks => (s, [], ks)
def dnC : List K → Nat → List Sc → List Sc × List Blk × List K
  | ks, _, [] => ([], [], ks)
  | ks, L, s :: l => ((dnS ks L s).1 :: (dnC (dnS ks L s).2.2 (L + (dnS ks L s).2.1.length) l).1, (dnS ks L s).2.1 ++ (dnC (dnS ks L s).2.2 (L + (dnS ks L s).2.1.length) l).2.1, (dnC (dnS ks L s).2.2 (L + (dnS ks L s).2.1.length) l).2.2)
def dn1 (ks : List K) (L : Nat) : A1 → A1 × List Blk × List K
  | .sc s => (.sc (dnS ks L s).1, (dnS ks L s).2.1, (dnS ks L s).2.2)
  | .ag l => (.ag (dnC ks L l).1, (dnC ks L l).2.1, (dnC ks L l).2.2)
def dnL : List K → Nat → List A1 → List A1 × List Blk
  | _, _, [] => ([], [])
  | ks, L, x :: l => ((dn1 ks L x).1 :: (dnL (dn1 ks L x).2.2 (L + (dn1 ks L x).2.1.length) l).1, (dn1 ks L x).2.1 ++ (dnL (dn1 ks L x).2.2 (L + (dn1 ks L x).2.1.length) l).2)
def dnV (ks : List K) (L : Nat) : AV → AV × List Blk
  | .a x => (.a (dn1 ks L x).1, (dn1 ks L x).2.1)
  | .tp l => (.tp (dnL ks L l).1, (dnL ks L l).2)
def Rs.fin (n0 : Nat) (ks : List K) (r : Rs) : Rs :=
  ⟨(dnV ks r.bl.length r.av).1, tomb n0 r.bl ++ (dnV ks r.bl.length r.av).2⟩
theorem tomb_len : ∀ (n : Nat) (l : List Blk), (tomb n l).length = l.length
  | 0, l => rfl
  | _ + 1, [] => rfl
  | n + 1, b :: l => by simp [tomb, tomb_len n l]
theorem tomb_get : ∀ (n : Nat) (l : List Blk) (i : Nat), (tomb n l)[i]? = (l[i]?).map fun b => if i < n then (if b.own then b else .dead) else b
  | 0, l, i => by simp [tomb]
  | n + 1, [], i => by simp [tomb]
  | n + 1, b :: l, 0 => by simp [tomb]
  | n + 1, b :: l, i + 1 => by simp [tomb, tomb_get n l i]
/-- New nil rows at the end. -/
def nilrows (b : List Blk) : Prop := ∀ x ∈ b, ∃ k, x = .row true k []
structure Ext (L : Nat) (b : List Blk) (ρ ρ' : Nat → Value) : Prop where
  nr : nilrows b
  at_ : ∀ j, j < b.length → ρ' (L + j) = .slice none 0 0
/-- The state of a block list with nil rows behind it. -/
def Bx (bl b : List Blk) : Nat → Blk := blF (bl ++ b)
theorem Bx_old {bl b : List Blk} {i : Nat} (h : blF bl i ≠ .no) : Bx bl b i = blF bl i := by
  have hi : i < bl.length := by
    apply Classical.byContradiction
    intro hc; apply h; simp only [blF]; rw [List.getElem?_eq_none (by omega)]
  simp only [Bx, blF]
  rw [List.getElem?_append_left hi]
def nilρ (L : Nat) (ρ : Nat → Value) : Nat → Value := fun i => if i < L then ρ i else .slice none 0 0
theorem lt_of_blF {bl : List Blk} {i : Nat} (h : blF bl i ≠ .no) : i < bl.length := by
  apply Classical.byContradiction
  intro hc; apply h; simp only [blF]; rw [List.getElem?_eq_none (by omega)]
theorem dnS_ok {bl b0 : List Blk} {ρ : Nat → Value} {ks : List K} {s : Sc} {u : Value} (h : VS (blF bl) ρ s u) (hb0 : nilrows b0) (c : List Blk) :
    nilrows (dnS ks (bl.length + b0.length) s).2.1 ∧ VS (Bx bl (b0 ++ (dnS ks (bl.length + b0.length) s).2.1 ++ c)) (nilρ bl.length ρ) (dnS ks (bl.length + b0.length) s).1 u := by
  have old : ∀ (e : List Blk), VS (Bx bl e) (nilρ bl.length ρ) s u := fun e => h.mono ⟨fun i hi => by rw [Bx_old hi]; exact hi, fun i own k xs hi hb => ⟨own, xs, by rw [← Bx_old hi]; exact hb, rfl⟩, fun i hi => by simp [nilρ, lt_of_blF hi], fun i hi ho => by rw [Bx_old hi] at ho; exact ho⟩
  cases s with
  | nl =>
    cases ks with
    | nil => exact ⟨(fun x hx => by cases hx), old _⟩
    | cons k r =>
      refine ⟨fun x hx => by simp [dnS] at hx; exact ⟨k, hx⟩, ?_⟩
      cases h
      refine ⟨?_, (by show _ = nilρ _ _ (bl.length + b0.length); simp only [nilρ]; rw [if_neg (by omega)]), rfl⟩
      show Bx bl _ (bl.length + b0.length) ≠ _
      simp [Bx, blF, dnS]
  | _ => cases ks <;> exact ⟨(fun x hx => by cases hx), old _⟩
theorem dnC_ok {bl : List Blk} {ρ : Nat → Value} : ∀ {l : List Sc} {ks : List K} {b0 : List Blk} {cs : List Value}, F2 (VS (blF bl) ρ) l cs → nilrows b0 → ∀ c : List Blk,
    nilrows (dnC ks (bl.length + b0.length) l).2.1 ∧ F2 (VS (Bx bl (b0 ++ (dnC ks (bl.length + b0.length) l).2.1 ++ c)) (nilρ bl.length ρ)) (dnC ks (bl.length + b0.length) l).1 cs
  | [], ks, b0, cs, h, hb0, c => by rw [h.nil_left]; exact ⟨(fun x hx => by cases hx), trivial⟩
  | s :: l, ks, b0, cs, h, hb0, c => by
    obtain ⟨u, cs', rfl, hu, h'⟩ := h.cons_left
    obtain ⟨n1, _⟩ := dnS_ok (ks := ks) hu hb0 []
    have hb1 : nilrows (b0 ++ (dnS ks (bl.length + b0.length) s).2.1) := fun x hx => (List.mem_append.1 hx).elim (hb0 x) (n1 x)
    obtain ⟨n2, v2⟩ := dnC_ok (ks := (dnS ks (bl.length + b0.length) s).2.2) h' hb1 c
    have e : bl.length + (b0 ++ (dnS ks (bl.length + b0.length) s).2.1).length = bl.length + b0.length + (dnS ks (bl.length + b0.length) s).2.1.length := by simp; omega
    rw [e] at n2 v2
    obtain ⟨_, v1⟩ := dnS_ok (ks := ks) hu hb0 ((dnC (dnS ks (bl.length + b0.length) s).2.2 (bl.length + b0.length + (dnS ks (bl.length + b0.length) s).2.1.length) l).2.1 ++ c)
    refine ⟨fun x hx => ?_, ?_, ?_⟩
    · exact (List.mem_append.1 (show x ∈ _ ++ _ from hx)).elim (n1 x) (n2 x)
    · show VS (Bx bl (b0 ++ (_ ++ _) ++ c)) _ _ _
      simpa [List.append_assoc] using v1
    · show F2 (VS (Bx bl (b0 ++ (_ ++ _) ++ c)) _) _ _
      simpa [List.append_assoc] using v2
theorem dn1_ok {bl : List Blk} {ρ : Nat → Value} {x : A1} {ks : List K} {b0 : List Blk} {u : Value} (h : V1 (blF bl) ρ x u) (hb0 : nilrows b0) (c : List Blk) :
    nilrows (dn1 ks (bl.length + b0.length) x).2.1 ∧ V1 (Bx bl (b0 ++ (dn1 ks (bl.length + b0.length) x).2.1 ++ c)) (nilρ bl.length ρ) (dn1 ks (bl.length + b0.length) x).1 u := by
  cases x with
  | sc s => exact dnS_ok (ks := ks) h hb0 c
  | ag l =>
    obtain ⟨cs, e, hF⟩ := h
    obtain ⟨n, v⟩ := dnC_ok (ks := ks) hF hb0 c
    exact ⟨n, cs, e, v⟩
theorem dnL_ok {bl : List Blk} {ρ : Nat → Value} : ∀ {l : List A1} {ks : List K} {b0 : List Blk} {cs : List Value}, F2 (V1 (blF bl) ρ) l cs → nilrows b0 → ∀ c : List Blk,
    nilrows (dnL ks (bl.length + b0.length) l).2 ∧ F2 (V1 (Bx bl (b0 ++ (dnL ks (bl.length + b0.length) l).2 ++ c)) (nilρ bl.length ρ)) (dnL ks (bl.length + b0.length) l).1 cs
  | [], ks, b0, cs, h, hb0, c => by rw [h.nil_left]; exact ⟨(fun x hx => by cases hx), trivial⟩
  | s :: l, ks, b0, cs, h, hb0, c => by
    obtain ⟨u, cs', rfl, hu, h'⟩ := h.cons_left
    obtain ⟨n1, _⟩ := dn1_ok (ks := ks) hu hb0 []
    have hb1 : nilrows (b0 ++ (dn1 ks (bl.length + b0.length) s).2.1) := fun x hx => (List.mem_append.1 hx).elim (hb0 x) (n1 x)
    obtain ⟨n2, v2⟩ := dnL_ok (ks := (dn1 ks (bl.length + b0.length) s).2.2) h' hb1 c
    have e : bl.length + (b0 ++ (dn1 ks (bl.length + b0.length) s).2.1).length = bl.length + b0.length + (dn1 ks (bl.length + b0.length) s).2.1.length := by simp; omega
    rw [e] at n2 v2
    obtain ⟨_, v1⟩ := dn1_ok (ks := ks) hu hb0 ((dnL (dn1 ks (bl.length + b0.length) s).2.2 (bl.length + b0.length + (dn1 ks (bl.length + b0.length) s).2.1.length) l).2 ++ c)
    refine ⟨fun x hx => ?_, ?_, ?_⟩
    · exact (List.mem_append.1 (show x ∈ _ ++ _ from hx)).elim (n1 x) (n2 x)
    · show V1 (Bx bl (b0 ++ (_ ++ _) ++ c)) _ _ _
      simpa [List.append_assoc] using v1
    · show F2 (V1 (Bx bl (b0 ++ (_ ++ _) ++ c)) _) _ _
      simpa [List.append_assoc] using v2
theorem dnV_ok {bl : List Blk} {ρ : Nat → Value} {x : AV} {ks : List K} {u : Value} (h : VV (blF bl) ρ x u) :
    nilrows (dnV ks bl.length x).2 ∧ VV (Bx bl (dnV ks bl.length x).2) (nilρ bl.length ρ) (dnV ks bl.length x).1 u := by
  have z : nilrows ([] : List Blk) := fun x hx => by cases hx
  cases x with
  | a y => have := dn1_ok (ks := ks) h z []; simpa [dnV, VV] using this
  | tp l =>
    obtain ⟨cs, e, hF⟩ := h
    obtain ⟨n, v⟩ := dnL_ok (ks := ks) hF z []
    exact ⟨by simpa [dnV] using n, cs, e, by simpa [dnV] using v⟩
variable {P : Program}
theorem Ct.fin {g : FuncId} {A : Pk} {r : Rs} (ks : List K) (h : Ct P g A r) : Ct P g A (r.fin A.bl.length ks) := by
  refine ⟨h.1, fun w ρ ow vs h0 h1 h2 h3 h4 => (h.2 w ρ ow vs h0 h1 h2 h3 h4).mono fun e w' hp => ?_⟩
  obtain ⟨v, ρ', ow', he, hv, hb, ho, hfr, ha, hn⟩ := hp
  obtain ⟨nr, hv2⟩ := dnV_ok (ks := ks) hv
  have hbl : (r.fin A.bl.length ks).bl = tomb A.bl.length r.bl ++ (dnV ks r.bl.length r.av).2 := rfl
  have hav : (r.fin A.bl.length ks).av = (dnV ks r.bl.length r.av).1 := rfl
  have hin : ∀ i, i < r.bl.length → blF (r.fin A.bl.length ks).bl i = if i < A.bl.length then (if (blF r.bl i).own then blF r.bl i else .dead) else blF r.bl i := fun i hi => by
    have e0 : blF r.bl i = r.bl[i] := by simp only [blF]; rw [List.getElem?_eq_getElem hi]
    rw [hbl, e0]
    simp only [blF]
    rw [List.getElem?_append_left (by rw [tomb_len]; exact hi), tomb_get, List.getElem?_eq_getElem hi]
    rfl
  have hout : ∀ i, r.bl.length ≤ i → blF (r.fin A.bl.length ks).bl i = .no ∨ ∃ k, blF (r.fin A.bl.length ks).bl i = .row true k [] := fun i hi => by
    rw [hbl]
    simp only [blF]
    rw [List.getElem?_append_right (by rw [tomb_len]; exact hi)]
    cases e : (dnV ks r.bl.length r.av).2[i - (tomb A.bl.length r.bl).length]? with
    | none => exact .inl rfl
    | some x => exact .inr (nr x (List.mem_of_getElem? e))
  have hBx : ∀ i, i < r.bl.length → Bx r.bl (dnV ks r.bl.length r.av).2 i = blF r.bl i := fun i hi => by
    simp only [Bx, blF]; rw [List.getElem?_append_left hi]
  have hBo : ∀ i, r.bl.length ≤ i → blF (r.fin A.bl.length ks).bl i = Bx r.bl (dnV ks r.bl.length r.av).2 i := fun i hi => by
    rw [hbl]
    simp only [Bx, blF]
    rw [List.getElem?_append_right (by rw [tomb_len]; exact hi), List.getElem?_append_right hi, tomb_len]
  have hA : A.bl.length ≤ r.bl.length := by
    rcases Nat.eq_zero_or_pos A.bl.length with e | e
    · omega
    · have := lt_of_blF (ha (A.bl.length - 1) (by omega)).1; omega
  -- from what came back to its one form
  have m1 : Mono (Bx r.bl (dnV ks r.bl.length r.av).2) (blF (r.fin A.bl.length ks).bl) (nilρ r.bl.length ρ') (nilρ r.bl.length ρ') := by
    refine ⟨fun i hi => ?_, fun i own k xs hi hx => ?_, fun _ _ => rfl, fun i hi hx => ?_⟩
    · rcases Nat.lt_or_ge i r.bl.length with hl | hl
      · rw [hBx i hl] at hi; rw [hin i hl]
        split
        · split
          · exact hi
          · simp
        · exact hi
      · rw [hBo i hl]; exact hi
    · rcases Nat.lt_or_ge i r.bl.length with hl | hl
      · rw [hin i hl] at hx
        refine ⟨own, xs, ?_, rfl⟩
        rw [hBx i hl]
        split at hx
        · split at hx
          · exact hx
          · cases hx
        · exact hx
      · rw [hBo i hl] at hx; exact ⟨own, xs, hx, rfl⟩
    · rcases Nat.lt_or_ge i r.bl.length with hl | hl
      · rw [hin i hl] at hx
        rw [hBx i hl]
        split at hx
        · split at hx
          · exact hx
          · cases hx
        · exact hx
      · rw [hBo i hl] at hx; exact hx
  have m0 : Mono (blF r.bl) (Bx r.bl (dnV ks r.bl.length r.av).2) ρ' (nilρ r.bl.length ρ') := by
    refine ⟨fun i hi => by rw [hBx i (lt_of_blF hi)]; exact hi, fun i own k xs hi hx => ⟨own, xs, by rw [← hBx i (lt_of_blF hi)]; exact hx, rfl⟩, fun i hi => by simp [nilρ, lt_of_blF hi], fun i hi hx => by rw [hBx i (lt_of_blF hi)] at hx; exact hx⟩
  refine ⟨v, nilρ r.bl.length ρ', ow', he, by rw [hav]; exact hv2.mono m1, fun i => ?_, fun g i hg => ?_, hfr, fun i hi => ?_, fun i h5 h6 => ?_⟩
  · rcases Nat.lt_or_ge i r.bl.length with hl | hl
    · rw [hin i hl]
      have keep : BlkOk (blF (r.fin A.bl.length ks).bl) w' (nilρ r.bl.length ρ') ow' i (blF r.bl i) :=
        (hb i).mono (m0.trans m1) (by cases hq : blF r.bl i <;> simp) fun g _ _ => ⟨rfl, rfl⟩
      split
      · split
        · exact keep
        · trivial
      · exact keep
    · rcases hout i hl with e | ⟨k, e⟩
      · rw [e]; trivial
      · rw [e]
        have : nilρ r.bl.length ρ' i = .slice none 0 0 := by simp [nilρ]; omega
        exact ⟨by rw [this]; exact World.ownsRow_nil w' 0 _ _, fun g hg => by rw [this] at hg; simp [Value.ownBlock] at hg⟩
  · obtain ⟨q1, q2, q3⟩ := ho g i hg
    have hl : i < r.bl.length := lt_of_blF fun e => by rw [e] at q2; cases q2
    refine ⟨q1, ?_, q3⟩
    rw [hin i hl]
    simp only [q2, if_true]
    split <;> exact q2
  · obtain ⟨q1, q2, q3, q4⟩ := ha i hi
    have hl := lt_of_blF q1
    rw [hin i hl, if_pos hi]
    refine ⟨?_, by simp [nilρ, hl, q2], fun hx => q3 ?_, fun own k xs hx => q4 own k xs ?_⟩
    · split
      · exact q1
      · simp
    · split at hx
      · exact hx
      · cases hx
    · split at hx
      · exact hx
      · cases hx
  · rcases Nat.lt_or_ge i r.bl.length with hl | hl
    · rw [hin i hl, if_neg (by omega)]; exact hn i h5 hl
    · rcases hout i hl with e | ⟨k, e⟩
      · exfalso
        have : i < (r.fin A.bl.length ks).bl.length := h6
        simp only [blF, List.getElem?_eq_getElem this] at e
        have hm : (r.fin A.bl.length ks).bl[i] ∈ (dnV ks r.bl.length r.av).2 := by
          have e3 : (r.fin A.bl.length ks).bl[i]? = (dnV ks r.bl.length r.av).2[i - (tomb A.bl.length r.bl).length]? := by
            rw [hbl, List.getElem?_append_right (by rw [tomb_len]; exact hl)]
          rw [List.getElem?_eq_getElem this] at e3
          exact List.mem_of_getElem? e3.symm
        obtain ⟨k, hk⟩ := nr _ hm
        rw [hk] at e; cases e
      · rw [e]; rfl

/-! ### Loops in place -/
def codeAt : Code → List Nat → Code
  | .seq a _, 0 :: p => codeAt a p
  | .seq _ b, _ :: p => codeAt b p
  | .block _ c, _ :: p => codeAt c p
  | .loop c, _ :: p => codeAt c p
  | .cond _ a _, 0 :: p => codeAt a p
  | .cond _ _ b, _ :: p => codeAt b p
  | c, _ => c
def ctxK {R : Type} (X : Cx) (n : Nat) : Code → List Nat → (Ex → St → Option R) → Ex → St → Option R
  | .seq a b, 0 :: p, K => ctxK X n a p (fun e S => match e with | .normal => exec X n b S K | e => K e S)
  | .seq _ b, _ :: p, K => ctxK X n b p K
  | .block id c, _ :: p, K => ctxK X n c p (fun e S => match e with | .exit i => if i = id then K .normal S else K (.exit i) S | e => K e S)
  | .cond _ a _, 0 :: p, K => ctxK X n a p K
  | .cond _ _ b, _ :: p, K => ctxK X n b p K
  | _, _, K => K
def fnK {R : Type} (E : Env) (O : Oracle) (fn : Func) (n0 : Nat) (K : Rs → Option R) : Ex → St → Option R := fun e S => match e with
  | .exit _ => none
  | _ => finish E O fn n0 S K
/-- A loop's head: m more rounds behind this one. -/
def hdr {R : Type} (X : Cx) (n : Nat) (c : Code) (K : Ex → St → Option R) (m : Nat) (S : St) : Option R :=
  exec X n c S fun e S => match e with
    | .normal => iter (trim X.O X.n0 (X.live ((firstR c).getD 0))) (fun S K => exec X n c S K) m S K
    | e => K e S
/-- The head of the loop at place p of a function's text. -/
def hdAt {R : Type} (E : Env) (O : Oracle) (live : Nat → List Nat) (fn : Func) (n0 : Nat) (K : Rs → Option R) (p : List Nat) (k m : Nat) (S : St) : Option R :=
  hdr ⟨E, O, n0, fn.ntmps, live⟩ (k + 1) (codeAt (fn.body.getD .skip) (p ++ [0])) (ctxK ⟨E, O, n0, fn.ntmps, live⟩ (k + 1) (fn.body.getD .skip) p (fnK E O fn n0 K)) m S
/-- Whether a list is not empty, decided as the walk decides it. -/
def neNil {α : Type} (xs : List α) : Decidable (xs ≠ []) := match xs with | [] => isFalse (by simp) | _ :: _ => isTrue (by simp)
/-- One round from a loop's head, with what happens at the next head left open. -/
def rnd {R : Type} (E : Env) (O : Oracle) (live : Nat → List Nat) (fn : Func) (n0 : Nat) (K : Rs → Option R) (p : List Nat) (k : Nat) (H : St → Option R) (S : St) : Option R :=
  exec ⟨E, O, n0, fn.ntmps, live⟩ (k + 1) (codeAt (fn.body.getD .skip) (p ++ [0])) S fun e S => match e with
    | .normal => trim O n0 (live ((firstR (codeAt (fn.body.getD .skip) (p ++ [0]))).getD 0)) S H
    | e => ctxK ⟨E, O, n0, fn.ntmps, live⟩ (k + 1) (fn.body.getD .skip) p (fnK E O fn n0 K) e S
theorem hdAt_succ {R : Type} (E : Env) (O : Oracle) (live : Nat → List Nat) (fn : Func) (n0 : Nat) (K : Rs → Option R) (p : List Nat) (k m : Nat) (S : St) :
    hdAt E O live fn n0 K p k (m + 1) S = rnd E O live fn n0 K p k (hdAt E O live fn n0 K p k m) S := rfl
def wr (n : Int) : Int := IntKind.i64.wrap n
/-! ### Structs of whole numbers, compared -/
def intFields (P : Program) : List Field → Nat → Bool
  | [], _ => true
  | f :: r, j => (f.name != "_") && ((f.offset == j) && ((match P.underlying f.type with | some (.int .i64) => true | _ => false) && intFields P r (j + 1)))
theorem run_part_int {P : Program} {w : World} {t : TypeId} (h : P.underlying t = some (.int .i64)) {xs : List Int} {j : Nat} {x : Int} (hx : xs[j]? = some x) : (part t (xs.map (Value.int .i64)).toArray j).run P w = .ok (.int .i64 x) w := by
  have hag : (isAgg t).run P w = .ok false w := by simp [isAgg, run_underlying h]
  have : (xs.map (Value.int .i64)).toArray[j]? = some (.int .i64 x) := by simp [hx]
  simp [part, hag, this]
theorem run_eqFields {P : Program} {w : World} (d : Nat) (xs ys : List Int) : ∀ (fs : List Field) (j : Nat), intFields P fs j = true → j + fs.length = xs.length → xs.length = ys.length →
    (Op.eqFields (d + 1) (xs.map (Value.int .i64)).toArray (ys.map (Value.int .i64)).toArray fs).run P w = .ok (decide (xs.drop j = ys.drop j)) w
  | [], j, _, h1, h2 => by
    have e1 : xs.drop j = [] := List.drop_of_length_le (by simp at h1; omega)
    have e2 : ys.drop j = [] := List.drop_of_length_le (by simp at h1; omega)
    simp [Op.eqFields, e1, e2]
  | f :: fs, j, hf, h1, h2 => by
    simp only [intFields, Bool.and_eq_true] at hf
    obtain ⟨g1, g2, g3, g4⟩ := hf
    have hu : P.underlying f.type = some (.int .i64) := by
      split at g3
      · assumption
      · cases g3
    have hj : j < xs.length := by simp at h1; omega
    have hj2 : j < ys.length := by omega
    have ex : xs[j]? = some xs[j] := List.getElem?_eq_getElem hj
    have ey : ys[j]? = some ys[j] := List.getElem?_eq_getElem hj2
    have ho : f.offset = j := by simpa using g2
    have hn : f.name ≠ "_" := by simpa using g1
    have ih := run_eqFields (P := P) (w := w) d xs ys fs (j + 1) g4 (by simp at h1 ⊢; omega) h2
    have dx : xs.drop j = xs[j] :: xs.drop (j + 1) := List.drop_eq_getElem_cons hj
    have dy : ys.drop j = ys[j] :: ys.drop (j + 1) := List.drop_eq_getElem_cons hj2
    simp only [Op.eqFields, hn, ne_eq, not_false_eq_true, if_true, Sem.run_bind, ho, run_part_int hu ex, run_part_int hu ey, Result.andThen_ok, run_equalIn_int (P := P) w d f.type .i64 .i64 xs[j] ys[j] hu]
    rw [dx, dy]
    by_cases e : xs[j] = ys[j]
    · have hb : (xs[j] == ys[j]) = true := by simpa using e
      rw [hb]
      simp only [Bool.not_true, Bool.false_eq_true, if_false, ih, List.cons.injEq, e, true_and]
    · have hb : (xs[j] == ys[j]) = false := by simpa using e
      rw [hb]
      simp only [Bool.not_false, if_true, Sem.run_pure, List.cons.injEq, e, false_and, decide_false]
theorem eq_ints {P : Program} {t : TypeId} {n : Nat} (hu : P.underlying t = some (.struct (P.fieldsOf t))) (hp : P.stoodInHeld t = false) (hm : P.eqGuardType P.depth t = false) (hf : intFields P (P.fieldsOf t).toList 0 = true) (hn : (P.fieldsOf t).size = n)
    (x y : Operand) (xs ys : List Int) (hx : xs.length = n) (hy : ys.length = n) (w : World) :
    (do eqGuard .eql t x y (.agg (xs.map (Value.int .i64)).toArray) (.agg (ys.map (Value.int .i64)).toArray); binOp .eql t (.agg (xs.map (Value.int .i64)).toArray) (.agg (ys.map (Value.int .i64)).toArray) : Sem Value).run P w = .ok (.bool (decide (xs = ys))) w ∧
    (do eqGuard .neq t x y (.agg (xs.map (Value.int .i64)).toArray) (.agg (ys.map (Value.int .i64)).toArray); binOp .neq t (.agg (xs.map (Value.int .i64)).toArray) (.agg (ys.map (Value.int .i64)).toArray) : Sem Value).run P w = .ok (.bool (!decide (xs = ys))) w := by
  have key : (Op.equalIn 10000 t (.agg (xs.map (Value.int .i64)).toArray) (.agg (ys.map (Value.int .i64)).toArray)).run P w = .ok (decide (xs = ys)) w := by
    rw [show (10000 : Nat) = 9998 + 1 + 1 from rfl, run_equalIn_struct w (9998 + 1) t _ _ hu hp]
    have := run_eqFields (P := P) (w := w) 9998 xs ys (P.fieldsOf t).toList 0 hf (by simp; omega) (by omega)
    simpa using this
  exact ⟨by rw [Sem.run_bind, run_eqGuard_agg (hm := hm), Result.andThen_ok, run_eql_struct, key]; rfl, by rw [Sem.run_bind, run_eqGuard_agg (hm := hm), Result.andThen_ok, run_neq_struct, key]; rfl⟩
/-! ### Tables of callees -/
def Ent1 : Type 1 := Pk → (R : Type) → (Rs → Option R) → Option R
def ofL : List (FuncId × Ent1) → Oracle
  | [], _, _, _, _ => none
  | (n, e) :: r, g, A, R, K => if g = n then e A R K else ofL r g A R K
def OkE (P : Program) (n : FuncId) (e : Ent1) : Prop := ∀ A (R : Type) (K : Rs → Option R) (x : R), e A R K = some x → ∃ r, Ct P n A r ∧ K r = some x
theorem okO_nil : OkO (Ct P) (ofL []) := fun _ _ _ _ _ h => by cases h
theorem okO_cons {n : FuncId} {e : Ent1} {l : List (FuncId × Ent1)} (h : OkE P n e) (hl : OkO (Ct P) (ofL l)) : OkO (Ct P) (ofL ((n, e) :: l)) := fun g A R K x hx => by
  simp only [ofL] at hx
  split at hx
  · rename_i e; subst e; exact h A R K x hx
  · exact hl g A R K x hx

/-! ### The types, as equations -/
def aggD : TypeDesc → Bool
  | .struct _ | .array _ _ => true
  | _ => false
structure EnvEq (P : Program) (E : Env) : Prop where
  zero : ∀ t l, E.zero t = some l → ((P.info? t).bind (·.zero)).map (·.cells.toList) = some l
  agg : ∀ t o, E.agg t = some o → (P.underlying t).map aggD = some o.isSome ∧ (P.info? t).map (·.size) = some (o.getD 1)
  fields : ∀ t l, E.fields t = some l → (match P.underlying t with | some (.struct fs) => some (fs.toList.map fun f => (f.offset, f.type)) | _ => none) = some l ∧ l.all (fun p => match P.info? p.2 with | some i => i.size != 0 | none => false) = true
  elem : ∀ t k, E.elem t = some k → (match P.underlying t with | some (.slice e) => some e | _ => none) = some (ty k) ∧ (P.info? (ty k)).map (fun i => (i.size, decide (i.bytes ≤ 32))) = some (sz k, true) ∧ ((P.info? (ty k)).bind (·.zero)).map (·.cells.toList) = some (enc k (dflt k))
  isBool : ∀ t, E.isBool t = true → (match P.underlying t with | some .bool => true | _ => false) = true
  isStr : ∀ t, E.isStr t = true → (match P.underlying t with | some .string => true | _ => false) = true
  int : ∀ t k, E.int t = some k → (match P.underlying t with | some (.int k) => some k | _ => none) = some k
  byt : ∀ t k, E.elem t = some k → u8k k = true → (P.info? (ty k)).map (fun i => (i.zero, i.size, i.bytes)) = some (some (.int .u8 0), 1, 1)
  arr : ∀ t l, E.arr t = some l → (match P.underlying t with | some (.array n e) => (P.info? e).map fun i => (n, i.size) | _ => none) = some l
theorem EnvEq.ok {E : Env} (h : EnvEq P E) (he : ∀ t n, E.eqs t = some n → ∀ (x y : Operand) (xs ys : List Int), xs.length = n → ys.length = n → ∀ w, (do eqGuard .eql t x y (.agg (xs.map (Value.int .i64)).toArray) (.agg (ys.map (Value.int .i64)).toArray); binOp .eql t (.agg (xs.map (Value.int .i64)).toArray) (.agg (ys.map (Value.int .i64)).toArray) : Sem Value).run P w = .ok (.bool (decide (xs = ys))) w ∧ (do eqGuard .neq t x y (.agg (xs.map (Value.int .i64)).toArray) (.agg (ys.map (Value.int .i64)).toArray); binOp .neq t (.agg (xs.map (Value.int .i64)).toArray) (.agg (ys.map (Value.int .i64)).toArray) : Sem Value).run P w = .ok (.bool (!decide (xs = ys))) w) : EnvOk P E where
  zero := fun t l hl => by
    obtain ⟨z, h1, h2⟩ := Option.map_eq_some_iff.1 (h.zero t l hl)
    obtain ⟨i, h3, h4⟩ := Option.bind_eq_some_iff.1 h1
    exact ⟨i, z, h3, h4, h2⟩
  one := fun t ht => by
    obtain ⟨h1, h2⟩ := h.agg t none ht
    obtain ⟨d, h3, h4⟩ := Option.map_eq_some_iff.1 h1
    obtain ⟨i, h5, h6⟩ := Option.map_eq_some_iff.1 h2
    exact ⟨i, d, h3, by cases d <;> simp_all [aggD], h5, h6⟩
  agg := fun t n ht => by
    obtain ⟨h1, h2⟩ := h.agg t (some n) ht
    obtain ⟨d, h3, h4⟩ := Option.map_eq_some_iff.1 h1
    obtain ⟨i, h5, h6⟩ := Option.map_eq_some_iff.1 h2
    exact ⟨i, d, h3, by cases d <;> simp_all [aggD], h5, h6⟩
  fields := fun t l hl => by
    obtain ⟨h1, h2⟩ := h.fields t l hl
    split at h1
    · rename_i fs hfs
      cases h1
      refine ⟨fs, hfs, rfl, fun f hf => ?_⟩
      have := List.all_eq_true.1 h2 (f.offset, f.type) (List.mem_map.2 ⟨f, hf, rfl⟩)
      dsimp only at this
      split at this
      · rename_i i hi; exact ⟨i, hi, by simpa using this⟩
      · cases this
    · cases h1
  elem := fun t k hk => by
    obtain ⟨h1, h2, h3⟩ := h.elem t k hk
    split at h1
    · rename_i e hu
      cases h1
      obtain ⟨i, h4, h5⟩ := Option.map_eq_some_iff.1 h2
      obtain ⟨z, h6, h7⟩ := Option.map_eq_some_iff.1 h3
      rw [h4] at h6
      simp at h5
      exact ⟨hu, i, z, h4, h5.1, h5.2, h6, h7⟩
    · cases h1
  isBool := fun t ht => by
    have := h.isBool t ht
    split at this
    · assumption
    · cases this
  isStr := fun t ht => by
    have := h.isStr t ht
    split at this
    · assumption
    · cases this
  int := fun t k ht => by
    have := h.int t k ht
    split at this
    · cases this; assumption
    · cases this
  byt := fun t k hk h8 => by
    obtain ⟨i, h1, h2⟩ := Option.map_eq_some_iff.1 (h.byt t k hk h8)
    simp only [Prod.mk.injEq] at h2
    exact ⟨i, h1, h2.1, h2.2.1, h2.2.2⟩
  arr := fun t n s ht => by
    have := h.arr t (n, s) ht
    split at this
    · rename_i n' e hu
      obtain ⟨i, h1, h2⟩ := Option.map_eq_some_iff.1 this
      cases h2
      exact ⟨e, hu, i, h1, rfl⟩
    · cases this
  eqs := he
end
end Go.Proofs.YtlenacakmmikiaaGreatDoorX
