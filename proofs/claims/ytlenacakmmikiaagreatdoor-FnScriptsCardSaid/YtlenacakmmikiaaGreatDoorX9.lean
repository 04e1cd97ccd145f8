/- Regions: whatever order the operations take. -/
import Derived.Test.YtlenacakmmikiaaGreatDoorX8
namespace Go.Proofs.YtlenacakmmikiaaGreatDoorX
open Go
set_option linter.unusedVariables false
set_option linter.unusedSimpArgs false
section
variable {G : Bg} {S : St} {ρ : Nat → Value} {ow : Nat → Option Nat} {a : Act} {w : World} {P : Program} {E : Env} {o : Oper} {d : Nat} {lt lb lt' lb' : List Nat} {wr : Wr}
theorem op_lands (hE : EnvOk P E) (h : Rel G S ρ ow a w) (hr : Runs (Ct P) S (opBody E d o.op) lt lb wr lt' lb') : Lands P G S a w o wr := by
  cases ho : o.op <;> rw [ho] at hr
  case move x => exact lands_move h ho hr
  case assign x => exact lands_assign h ho hr
  case pick c x y => exact lands_pick h ho hr
  case alloc t => exact lands_alloc hE h ho hr
  case box t x => exact lands_box h ho hr
  case build t ps => exact lands_build hE h ho hr
  case buildSlice t n ps => exact lands_buildSlice hE h ho hr
  case load t x => exact lands_load hE h ho hr
  case store t x y => exact lands_store hE h ho hr
  case nilCheck x => exact lands_nilCheck h ho hr
  case binOp op t x y u => exact lands_binOp hE h ho hr
  case unOp op t x => exact lands_unOp h ho hr
  case convert s t x => exact lands_convert hE h ho hr
  case fieldAddr t x f => exact lands_fieldAddr hE h ho hr
  case field t x f => exact lands_field hE h ho hr
  case indexAddr t x i => exact lands_indexAddr hE h ho hr
  case index t x i => exact lands_index hE h ho hr
  case extract x n => exact lands_extract h ho hr
  case slice t x lo hi mx =>
    cases mx with
    | none => exact lands_slice hE h ho hr
    | some m => exact hr.elim
  case makeSlice t n c => exact lands_makeSlice hE h ho hr
  case makeFunc f first caps =>
    cases f with
    | func f => exact lands_makeFunc h ho hr
    | _ => exact hr.elim
  case call c =>
    obtain ⟨callee, as, ts⟩ := c
    cases callee with
    | value f => exact lands_call h ho hr
    | invoke r m => exact hr.elim
    | builtin b =>
      simp only [opBody] at hr
      obtain ⟨vs, _, hvs, hr1⟩ := runs_evOs h hr
      have two : ∀ {x y : AV}, F2 (VV S.b ρ) [x, y] (as.toList.map a.eval) → ∃ p q, as = #[p, q] ∧ VV S.b ρ x (a.eval p) ∧ VV S.b ρ y (a.eval q) := by
        intro x y hF
        obtain ⟨as⟩ := as
        match as, hF with
        | [p, q], hF => exact ⟨p, q, rfl, hF.1, hF.2.1⟩
        | [], hF => exact hF.elim
        | [_], hF => exact hF.2.elim
        | _ :: _ :: _ :: _, hF => exact hF.2.2.elim
      split at hr1
      · rename_i v t hts
        have : ∃ p, as = #[p] ∧ VV S.b ρ v (a.eval p) := by
          obtain ⟨as⟩ := as
          match as, hvs with
          | [p], hF => exact ⟨p, rfl, hF.1⟩
          | [], hF => exact hF.elim
          | _ :: _ :: _, hF => exact hF.2.elim
        obtain ⟨p, rfl, hv⟩ := this
        obtain rfl : ts = #[t] := by obtain ⟨ts⟩ := ts; simp at hts; subst hts; rfl
        exact lands_len hE h ho hv hr1
      · rename_i s x t t' hts
        obtain ⟨p, q, rfl, h1, h2⟩ := two hvs
        obtain rfl : ts = #[t, t'] := by obtain ⟨ts⟩ := ts; simp at hts; subst hts; rfl
        exact lands_append hE h ho h1 h2 hr1
      · rename_i x y _
        obtain ⟨p, q, rfl, h1, h2⟩ := two hvs
        exact lands_mm h ho h1 h2 (f := mn) (fun k m n => ⟨Builtin.min_ ts o.type #[.int k m, .int k n], fun c => rfl, run_min_int2 _ _ _ _ _ _ _⟩) hr1
      · rename_i x y _
        obtain ⟨p, q, rfl, h1, h2⟩ := two hvs
        exact lands_mm h ho h1 h2 (f := mx) (fun k m n => ⟨Builtin.max_ ts o.type #[.int k m, .int k n], fun c => rfl, run_max_int2 _ _ _ _ _ _ _⟩) hr1
      · exact hr1.elim
  all_goals exact hr.elim

/-- One operation with its guard. -/
def OpRuns (C : FuncId → Pk → Rs → Prop) (E : Env) (ops : Array Oper) (o : Oper) (S : St) (wr : Wr) (rt rb : List Nat) : Prop :=
  match o.guard with
  | none => Runs C S (opBody E (baseId o) o.op) [] [] wr rt rb
  | some (j, want) => (∃ g b, (ops[j]?).bind (·.dst) = some g ∧ S.t g = .a (.sc (.v (.bool b))) ∧
      (if b = want then Runs C S (opBody E (baseId o) o.op) [g] [] wr rt rb else wr = ⟨.tp [], []⟩ ∧ rt = [g] ∧ rb = [])) ∨
      (∃ g, (ops[j]?).bind (·.dst) = some g ∧ S.t g = .tp [] ∧ wr = ⟨.tp [], []⟩ ∧ rt = [g] ∧ rb = [])
theorem setT_same {g : Nat} {x : AV} (h : S.t g = x) : S.setT g x = S := by
  cases S with
  | mk t b =>
    simp only [St.setT]
    congr 1
    funext n
    by_cases e : n = g
    · subst e; rw [if_pos rfl]; exact h.symm
    · rw [if_neg e]
theorem opGo_runs {C : FuncId → Pk → Rs → Prop} {O : Oracle} (hO : OkO C O) {R : Type} {ops : Array Oper} {K : St → Wr → List Nat → List Nat → Option R} {x : R} (h : opGo E O ops o S K = some x) :
    ∃ wr rt rb, OpRuns C E ops o S wr rt rb ∧ K S wr rt rb = some x := by
  unfold opGo at h
  unfold OpRuns
  split at h
  · rename_i hg
    obtain ⟨wr, rt, rb, h1, h2⟩ := go_runs hO S _ _ _ _ _ h
    exact ⟨wr, rt, rb, by simp only [hg]; exact h1, h2⟩
  · rename_i j want hg
    simp only [hg]
    split at h
    · rename_i g hgt
      split at h
      · rename_i b hb
        have fin : ∀ b', b = b' → (if b' == want then RP.go O (S.setT g (.a (.sc (.v (.bool b'))))) (opBody E (baseId o) o.op) [g] [] (K (S.setT g (.a (.sc (.v (.bool b')))))) else K (S.setT g (.a (.sc (.v (.bool b'))))) ⟨.tp [], []⟩ [g] []) = some x →
            ∃ wr rt rb, ((∃ g' b, (ops[j]?).bind (·.dst) = some g' ∧ S.t g' = .a (.sc (.v (.bool b))) ∧ (if b = want then Runs C S (opBody E (baseId o) o.op) [g'] [] wr rt rb else wr = ⟨.tp [], []⟩ ∧ rt = [g'] ∧ rb = [])) ∨ (∃ g', (ops[j]?).bind (·.dst) = some g' ∧ S.t g' = .tp [] ∧ wr = ⟨.tp [], []⟩ ∧ rt = [g'] ∧ rb = [])) ∧ K S wr rt rb = some x := by
          intro b' e h
          subst e
          rw [setT_same hb] at h
          by_cases hw : b = want
          · subst hw
            rw [if_pos (by simp)] at h
            obtain ⟨wr, rt, rb, h1, h2⟩ := go_runs hO S _ _ _ _ _ h
            exact ⟨wr, rt, rb, .inl ⟨g, b, hgt, hb, by rw [if_pos rfl]; exact h1⟩, h2⟩
          · rw [if_neg (by simpa using hw)] at h
            exact ⟨_, _, _, .inl ⟨g, b, hgt, hb, by rw [if_neg hw]; exact ⟨rfl, rfl, rfl⟩⟩, h⟩
        cases b with
        | true => exact fin true rfl h
        | false => exact fin false rfl h
      · rename_i hb
        exact ⟨_, _, _, .inr ⟨g, hgt, hb, rfl, rfl, rfl⟩, h⟩
      · cases h
    · cases h
theorem yielded_of (h : Rel G S ρ ow a w) {ops : Array Oper} {j g : Nat} {b : Bool} (hj : (ops[j]?).bind (·.dst) = some g) (hb : S.t g = .a (.sc (.v (.bool b)))) : yielded ops a.tmps j = some b := by
  have ht := h.tm g
  rw [hb] at ht
  replace ht : a.tmps.getD g undef = .bool b := ht
  have : a.tmps[g]? = some (.bool b) := by
    rw [Array.getD_eq_getD_getElem?] at ht
    cases e : a.tmps[g]? with
    | none => rw [e] at ht; simp [undef] at ht
    | some v => rw [e] at ht; simp at ht; rw [ht]
  simp [yielded, hj, this]
theorem yielded_no (h : Rel G S ρ ow a w) {ops : Array Oper} {j g : Nat} (hj : (ops[j]?).bind (·.dst) = some g) (hb : S.t g = .tp []) : yielded ops a.tmps j = none := by
  have ht := h.tm g
  rw [hb] at ht
  obtain ⟨vs, hv, h0⟩ := ht
  obtain rfl : vs = #[] := by
    obtain ⟨l⟩ := vs
    cases l with
    | nil => rfl
    | cons _ _ => exact h0.elim
  rw [Array.getD_eq_getD_getElem?] at hv
  cases e : a.tmps[g]? with
  | none => simp [yielded, hj, e]
  | some v => rw [e] at hv; simp at hv; simp [yielded, hj, e, hv]
theorem app_rel (h : Rel G (S.ups wr.ups) ρ ow a w) {dst : Option Nat} (hd : ∀ x, dst = some x → x < G.nt) {v : Value} (hv : VV (S.ups wr.ups).b ρ wr.v v) : Rel G (S.app dst wr) ρ ow (a.put dst v) w := by
  cases dst with
  | none => exact h
  | some x => exact h.setT (hd x rfl) hv
theorem op_step (hE : EnvOk P E) (h : Rel G S ρ ow a w) {ops : Array Oper} {i : Nat} {rt rb : List Nat} (hi : ops[i]? = some o) (hd : ∀ x, o.dst = some x → x < G.nt) (hr : OpRuns (Ct P) E ops o S wr rt rb)
    {K : Act → World → Prop} {Q : Exit → Act → World → Prop} (hK : ∀ ρ' ow' a' w', Rel G (S.app o.dst wr) ρ' ow' a' w' → K a' w') : wpOp P ops Q i K a w := by
  unfold wpOp
  rw [hi]
  unfold OpRuns at hr
  dsimp only
  split at hr
  · rename_i hg
    rw [if_pos (by simp [Region.wanted, hg])]
    exact .inl (op_lands hE h hr K Q fun v w' ρ' ow' hR hv => hK ρ' ow' _ w' (app_rel hR hd hv))
  · rename_i j want hg
    rcases hr with ⟨g, b, h1, h2, h3⟩ | ⟨g, h1, h2, rfl, _, _⟩
    rotate_left
    · have hy := yielded_no h h1 h2
      rw [if_neg (by simp [Region.wanted, hg, hy])]
      exact hK ρ ow _ w (app_rel (wr := ⟨.tp [], []⟩) h hd ⟨#[], rfl, trivial⟩)
    have hy := yielded_of h h1 h2
    by_cases hw : b = want
    · rw [if_pos hw] at h3
      rw [if_pos (by simp [Region.wanted, hg, hy, hw])]
      exact .inl (op_lands hE h h3 K Q fun v w' ρ' ow' hR hv => hK ρ' ow' _ w' (app_rel hR hd hv))
    · rw [if_neg hw] at h3
      obtain ⟨rfl, _, _⟩ := h3
      rw [if_neg (by simp [Region.wanted, hg, hy, hw])]
      exact hK ρ ow _ w (app_rel (wr := ⟨.tp [], []⟩) h hd ⟨#[], rfl, trivial⟩)
theorem okDst_mem {n : Nat} : ∀ {l : List Oper}, okDst n l = true → ∀ o ∈ l, ∀ x, o.dst = some x → x < n
  | [], _, o, ho, _, _ => by cases ho
  | q :: l, h, o, ho, x, hx => by
    simp only [okDst, Bool.and_eq_true] at h
    rcases List.mem_cons.1 ho with rfl | ho
    · have := h.1; simp only [fits, hx, decide_eq_true_eq] at this; exact this
    · exact okDst_mem h.2 o ho x hx
/-- A region in the order of its text. -/
theorem regGo_ok (hE : EnvOk P E) {O : Oracle} (hO : OkO (Ct P) O) {R : Type} {ops : Array Oper} {nt : Nat} (hd : ∀ o ∈ ops.toList, ∀ x, o.dst = some x → x < nt) : ∀ {l : List Oper} {n : Nat} {S : St} {K : St → Option R} {x : R}, ops.toList.drop n = l → regGo E O ops l S K = some x →
    ∃ S', K S' = some x ∧ ∀ (G : Bg) (ρ : Nat → Value) (ow : Nat → Option Nat) (a : Act) (w : World) (Q : Exit → Act → World → Prop), G.nt = nt → Rel G S ρ ow a w → (∀ ρ' ow' a' w', Rel G S' ρ' ow' a' w' → Q .normal a' w') → wpOps P ops Q (List.range' n l.length) a w
  | [], n, S, K, x, hl, h => ⟨S, h, fun G ρ ow a w Q _ hR hQ => hQ ρ ow a w hR⟩
  | o :: l, n, S, K, x, hl, h => by
    simp only [regGo] at h
    obtain ⟨wr, rt, rb, hr, h1⟩ := opGo_runs hO h
    have hn : ops[n]? = some o := by
      have : (ops.toList.drop n)[0]? = some o := by rw [hl]; rfl
      rw [List.getElem?_drop] at this; simpa using this
    have hl' : ops.toList.drop (n + 1) = l := by rw [← List.drop_drop, hl]; rfl
    obtain ⟨S', hS, hw⟩ := regGo_ok hE hO hd hl' h1
    refine ⟨S', hS, fun G ρ ow a w Q hnt hR hQ => ?_⟩
    rw [List.length_cons, List.range'_succ, wpOps_cons]
    exact op_step hE hR hn (fun x hx => by rw [hnt]; exact hd o (List.mem_of_getElem? (by simpa using hn)) x hx) hr fun ρ' ow' a' w' hR' => hw G ρ' ow' a' w' Q hnt hR' hQ

/-! ### Any order -/
theorem runs_log {C : FuncId → Pk → Rs → Prop} {α : Type} : ∀ {p : RP α} {lt lb lt' lb' : List Nat} {y : α}, Runs C S p lt lb y lt' lb' → (∀ t ∈ lt, t ∈ lt') ∧ (∀ t ∈ lb, t ∈ lb')
  | .ret x, _, _, _, _, _, ⟨_, h1, h2⟩ => by subst h1; subst h2; exact ⟨fun _ h => h, fun _ h => h⟩
  | .fail, _, _, _, _, _, h => h.elim
  | .rdT t k, _, _, _, _, _, h => by
    have := runs_log (p := k (S.t t)) h
    exact ⟨fun x hx => this.1 x (by simp [hx]), this.2⟩
  | .rdB i k, _, _, _, _, _, h => by
    have := runs_log (p := k (S.b i)) h
    exact ⟨this.1, fun x hx => this.2 x (by simp [hx])⟩
  | .bsp b k, _, _, _, _, _, h => runs_log (p := k b) h
  | .grd p i k, _, _, _, _, _, h => runs_log (p := k) h.2
  | .call g A k, _, _, _, _, _, ⟨r, _, h⟩ => runs_log (p := k r) h
theorem runs_again {C : FuncId → Pk → Rs → Prop} {S2 : St} {α : Type} : ∀ {p : RP α} {lt lb lt' lb' : List Nat} {y : α}, (∀ t ∈ lt', S2.t t = S.t t) → (∀ i ∈ lb', S2.b i = S.b i) → Runs C S p lt lb y lt' lb' → Runs C S2 p lt lb y lt' lb'
  | .ret x, _, _, _, _, _, _, _, h => h
  | .fail, _, _, _, _, _, _, _, h => h.elim
  | .rdT t k, _, _, _, _, _, h1, h2, h => by
    have e := h1 t ((runs_log (p := k (S.t t)) h).1 t (by simp))
    show Runs C S2 (k (S2.t t)) _ _ _ _ _
    rw [e]
    exact runs_again h1 h2 h
  | .rdB i k, _, _, _, _, _, h1, h2, h => by
    have e := h2 i ((runs_log (p := k (S.b i)) h).2 i (by simp))
    show Runs C S2 (k (S2.b i)) _ _ _ _ _
    rw [e]
    exact runs_again h1 h2 h
  | .bsp b k, _, _, _, _, _, h1, h2, h => runs_again (p := k b) h1 h2 h
  | .grd p i k, _, _, _, _, _, h1, h2, h => ⟨h.1, runs_again (p := k) h1 h2 h.2⟩
  | .call g A k, _, _, _, _, _, h1, h2, ⟨r, hr, h⟩ => ⟨r, hr, runs_again (p := k r) h1 h2 h⟩
theorem opRuns_again {C : FuncId → Pk → Rs → Prop} {S2 : St} {ops : Array Oper} {rt rb : List Nat} (h1 : ∀ t ∈ rt, S2.t t = S.t t) (h2 : ∀ i ∈ rb, S2.b i = S.b i) (h : OpRuns C E ops o S wr rt rb) : OpRuns C E ops o S2 wr rt rb := by
  unfold OpRuns at h ⊢
  split at h
  · exact runs_again h1 h2 h
  · rename_i j want hg
    rcases h with ⟨g, b, e1, e2, e3⟩ | ⟨g, e1, e2, e3⟩
    rotate_left
    · exact .inr ⟨g, e1, by rw [h1 g (by rw [e3.2.1]; simp)]; exact e2, e3⟩
    refine .inl ⟨g, b, e1, ?_, ?_⟩
    · rw [h1 g ?_]; exact e2
      split at e3
      · exact (runs_log e3).1 g (by simp)
      · rw [e3.2.1]; simp
    · split at e3
      · rw [if_pos ‹_›]; exact runs_again h1 h2 e3
      · rw [if_neg ‹_›]; exact e3
def upsAt : List (Nat × Blk) → Nat → Option Blk
  | [], _ => none
  | (j, b) :: r, i => match upsAt r i with | some c => some c | none => if i = j then some b else none
theorem ups_at : ∀ {S : St} {l : List (Nat × Blk)} {i : Nat}, (S.ups l).b i = match upsAt l i with | some c => c | none => S.b i
  | S, [], i => rfl
  | S, (j, b) :: l, i => by
    simp only [St.ups, upsAt]
    rw [ups_at (S := S.setB j b) (l := l)]
    cases upsAt l i with
    | some c => rfl
    | none =>
      by_cases e : i = j
      · subst e; simp [St.setB]
      · simp [St.setB, e]
theorem upsAt_mem : ∀ {l : List (Nat × Blk)} {i : Nat} {c : Blk}, upsAt l i = some c → i ∈ l.map (·.1)
  | [], i, c, h => by simp [upsAt] at h
  | (j, b) :: l, i, c, h => by
    simp only [upsAt] at h
    split at h
    · rename_i c' hc; exact List.mem_cons_of_mem _ (upsAt_mem hc)
    · split at h
      · rename_i e; subst e; simp
      · cases h
theorem disj_spec : ∀ {l m : List Nat}, disj l m = true → ∀ x ∈ l, x ∉ m
  | [], _, _, x, hx => by cases hx
  | y :: l, m, h, x, hx => by
    simp only [disj, Bool.and_eq_true, Bool.not_eq_true'] at h
    rcases List.mem_cons.1 hx with rfl | hx
    · simpa using h.1
    · exact disj_spec h.2 x hx
theorem app_t {dst : Option Nat} {t : Nat} (h : ∀ x, dst = some x → t ≠ x) : (S.app dst wr).t t = S.t t := by
  cases dst with
  | none => simp [St.app, ups_t]
  | some x => simp only [St.app, St.setT]; rw [if_neg (h x rfl), ups_t]
theorem app_b {dst : Option Nat} {i : Nat} (h : i ∉ wr.ups.map (·.1)) : (S.app dst wr).b i = S.b i := by
  have : (S.ups wr.ups).b i = S.b i := by
    rw [ups_at]
    cases e : upsAt wr.ups i with
    | none => rfl
    | some c => exact absurd (upsAt_mem e) h
  cases dst <;> exact this
theorem app_b_eq {dst : Option Nat} {i : Nat} : (S.app dst wr).b i = match upsAt wr.ups i with | some c => c | none => S.b i := by
  cases dst <;> exact ups_at
theorem app_comm {wr2 : Wr} {d1 d2 : Option Nat} (ht : ∀ x, d1 = some x → d2 ≠ some x) (hb : ∀ i ∈ wr.ups.map (·.1), i ∉ wr2.ups.map (·.1)) : (S.app d1 wr).app d2 wr2 = (S.app d2 wr2).app d1 wr := by
  have e1 : ((S.app d1 wr).app d2 wr2).t = ((S.app d2 wr2).app d1 wr).t := by
    funext n
    cases d1 with
    | none => cases d2 <;> simp [St.app, St.setT, ups_t]
    | some x =>
      cases d2 with
      | none => simp [St.app, St.setT, ups_t]
      | some y =>
        have : x ≠ y := fun e => ht x rfl (by rw [e])
        simp only [St.app, St.setT, ups_t]
        by_cases h1 : n = x <;> by_cases h2 : n = y <;> simp [h1, h2]
        · exact absurd (h1.symm.trans h2) this
        · omega
        · omega
  have e2 : ((S.app d1 wr).app d2 wr2).b = ((S.app d2 wr2).app d1 wr).b := by
    funext i
    rw [app_b_eq, app_b_eq, app_b_eq, app_b_eq]
    cases h1 : upsAt wr.ups i with
    | none => cases upsAt wr2.ups i <;> rfl
    | some c =>
      cases h2 : upsAt wr2.ups i with
      | none => rfl
      | some c' => exact absurd (upsAt_mem h2) (hb i (upsAt_mem h1))
  cases hx : (S.app d1 wr).app d2 wr2
  cases hy : (S.app d2 wr2).app d1 wr
  rw [hx, hy] at e1 e2
  simp at e1 e2
  rw [e1, e2]
structure It where
  i : Nat
  o : Oper
  wr : Wr
  rt : List Nat
  rb : List Nat
def It.lg (x : It) : Lg := ⟨x.i, x.rt, x.rb, x.o.dst.toList, x.wr.ups.map (·.1)⟩
def Chain (C : FuncId → Pk → Rs → Prop) (E : Env) (ops : Array Oper) : St → List It → St → Prop
  | S, [], S' => S' = S
  | S, x :: l, S' => OpRuns C E ops x.o S x.wr x.rt x.rb ∧ Chain C E ops (S.app x.o.dst x.wr) l S'
theorem swap {C : FuncId → Pk → Rs → Prop} {ops : Array Oper} {x y : It} (hx : OpRuns C E ops x.o S x.wr x.rt x.rb) (hy : OpRuns C E ops y.o (S.app x.o.dst x.wr) y.wr y.rt y.rb) (ha : x.lg.apart y.lg = true) :
    OpRuns C E ops y.o S y.wr y.rt y.rb ∧ OpRuns C E ops x.o (S.app y.o.dst y.wr) x.wr x.rt x.rb ∧ (S.app y.o.dst y.wr).app x.o.dst x.wr = (S.app x.o.dst x.wr).app y.o.dst y.wr := by
  simp only [Lg.apart, It.lg, Bool.and_eq_true] at ha
  obtain ⟨h1, h2, h3, h4, h5, h6⟩ := ha
  refine ⟨opRuns_again (fun t ht => ?_) (fun i hi => ?_) hy, opRuns_again (fun t ht => ?_) (fun i hi => ?_) hx, (app_comm (fun z hz e => ?_) (fun i hi => disj_spec h4 i hi)).symm⟩
  · rw [app_t]; intro z hz e; subst e; exact disj_spec h1 t (by rw [hz]; simp) ht
  · rw [app_b]; exact fun hm => disj_spec h3 i hm hi
  · rw [app_t]; intro z hz e; subst e; exact disj_spec h5 t (by rw [hz]; simp) ht
  · rw [app_b]; exact fun hm => disj_spec h6 i hm hi
  · exact disj_spec h2 z (by rw [hz]; simp) (by rw [e]; simp)
theorem to_front {C : FuncId → Pk → Rs → Prop} {ops : Array Oper} {y : It} {l2 : List It} {S' : St} : ∀ {l1 : List It} {S : St}, Chain C E ops S (l1 ++ y :: l2) S' → (∀ x ∈ l1, x.lg.apart y.lg = true) → Chain C E ops S (y :: (l1 ++ l2)) S'
  | [], S, h, _ => h
  | x :: l1, S, ⟨h1, h2⟩, ha => by
    obtain ⟨g1, g2⟩ := to_front h2 fun z hz => ha z (by simp [hz])
    obtain ⟨q1, q2, q3⟩ := swap h1 g1 (ha x (by simp))
    exact ⟨q1, q2, by rw [q3]; exact g2⟩
def Apart (ops : Array Oper) (x y : It) : Prop := x.i < y.i ∧ (edge ops x.i y.i = true ∨ x.lg.apart y.lg = true)
theorem any_ok (hE : EnvOk P E) {ops : Array Oper} {S' : St} (hed : ∀ (i : Nat) (o : Oper), ops[i]? = some o → ∀ e ∈ o.after, Region.binds .any e = true → e.on < i) (hd : ∀ o ∈ ops.toList, ∀ x, o.dst = some x → x < G.nt) {Q : Exit → Act → World → Prop} (hQ : ∀ ρ' ow' a' w', Rel G S' ρ' ow' a' w' → Q .normal a' w') :
    ∀ {fuel : Nat} {listed : Array Bool} {l : List It} {S : St} {ρ : Nat → Value} {ow : Nat → Option Nat} {a : Act} {w : World}, l.length ≤ fuel → listed.size = ops.size → (∀ i, (∃ x ∈ l, x.i = i) ↔ listed.getD i true = false) → (∀ x ∈ l, ops[x.i]? = some x.o) →
      List.Pairwise (Apart ops) l → Chain (Ct P) E ops S l S' → Rel G S ρ ow a w → wpAny P .any ops Q fuel listed a w := by
  intro fuel
  have done : ∀ {listed : Array Bool} {l : List It} {S : St} {ρ : Nat → Value} {ow : Nat → Option Nat} {a : Act} {w : World}, listed.size = ops.size → (∀ i, (∃ x ∈ l, x.i = i) ↔ listed.getD i true = false) → (∀ x ∈ l, ops[x.i]? = some x.o) → List.Pairwise (Apart ops) l → Chain (Ct P) E ops S l S' → Rel G S ρ ow a w → Region.ready .any ops listed = [] → Q .normal a w := by
    intro listed l S ρ ow a w hsz hun hop hpw hch hR h0
    cases l with
    | nil => cases hch; exact hQ ρ ow a w hR
    | cons x l =>
      exfalso
      have hm : x.i ∈ Region.ready .any ops listed := by
        refine mem_ready.2 ⟨(hun x.i).1 ⟨x, by simp, rfl⟩, x.o, hop x (by simp), fun e he hb => ?_⟩
        have hlt := hed x.i x.o (hop x (by simp)) e he hb
        have hxs := (Array.getElem?_eq_some_iff.1 (hop x (by simp))).1
        cases hl : listed.getD e.on true with
        | true =>
          have : e.on < listed.size := by omega
          simp [this] at hl ⊢; exact hl
        | false =>
          obtain ⟨z, hz, e1⟩ := (hun e.on).2 hl
          rcases List.mem_cons.1 hz with rfl | hz
          · omega
          · have := (List.pairwise_cons.1 hpw).1 z hz
            have := this.1; omega
      rw [h0] at hm; cases hm
  induction fuel with
  | zero =>
    intro listed l S ρ ow a w hlen hsz hun hop hpw hch hR
    have hl : l = [] := List.eq_nil_of_length_eq_zero (by omega)
    subst hl
    have h0 : Region.ready .any ops listed = [] := by
      apply List.eq_nil_iff_forall_not_mem.2
      intro i hi
      obtain ⟨z, hz, _⟩ := (hun i).2 (mem_ready.1 hi).1
      cases hz
    exact ⟨h0, done hsz hun hop hpw hch hR h0⟩
  | succ fuel ih =>
    intro listed l S ρ ow a w hlen hsz hun hop hpw hch hR
    refine ⟨done hsz hun hop hpw hch hR, fun i hi => ?_⟩
    obtain ⟨hu, o, ho, hall⟩ := mem_ready.1 hi
    obtain ⟨y, hy, rfl⟩ := (hun i).2 hu
    have hyo := hop y hy
    rw [ho] at hyo
    cases hyo
    obtain ⟨l1, l2, rfl⟩ := List.append_of_mem hy
    have hpw' := List.pairwise_append.1 hpw
    have hap : ∀ x ∈ l1, x.lg.apart y.lg = true := fun x hx => by
      have := (hpw'.2.2 x hx y (by simp)).2
      rcases this with he | ha
      · exfalso
        have hux : listed.getD x.i true = false := (hun x.i).1 ⟨x, by simp [hx], rfl⟩
        simp only [edge, ho] at he
        obtain ⟨e, he1, he2⟩ := Array.any_eq_true'.1 he
        simp only [Bool.and_eq_true, beq_iff_eq] at he2
        have := hall e he1 he2.1
        rw [he2.2] at this
        rcases Nat.lt_or_ge x.i listed.size with h' | h'
        · simp [h'] at hux this; rw [hux] at this; cases this
        · simp [Array.getElem?_eq_none h'] at this
      · exact ha
    obtain ⟨g1, g2⟩ := to_front hch hap
    have hyi : y.i < ops.size := (Array.getElem?_eq_some_iff.1 ho).1
    refine op_step hE hR ho (fun z hz => hd y.o (List.mem_of_getElem? (by simpa using ho)) z hz) g1 fun ρ' ow' a' w' hR' => ?_
    have hne : ∀ x ∈ l1 ++ l2, x.i ≠ y.i := fun x hx => by
      rcases List.mem_append.1 hx with hx | hx
      · have := (hpw'.2.2 x hx y (by simp)).1; omega
      · have := ((List.pairwise_cons.1 hpw'.2.1).1 x hx).1; omega
    refine ih (l := l1 ++ l2) (by simp at hlen ⊢; omega) (by simpa using hsz) (fun i => ⟨?_, fun hi => ?_⟩) (fun x hx => hop x (by rcases List.mem_append.1 hx with hx | hx <;> simp [hx])) ?_ g2 hR'
    · rintro ⟨x, hx, rfl⟩
      rw [getD_set_ne true (Ne.symm (hne x hx))]
      exact (hun x.i).1 ⟨x, by rcases List.mem_append.1 hx with hx | hx <;> simp [hx], rfl⟩
    · by_cases e : i = y.i
      · subst e; simp [hsz, hyi] at hi
      · rw [getD_set_ne true (Ne.symm e)] at hi
        obtain ⟨x, hx, rfl⟩ := (hun i).2 hi
        refine ⟨x, ?_, rfl⟩
        rcases List.mem_append.1 hx with hx | hx
        · simp [hx]
        · rcases List.mem_cons.1 hx with rfl | hx
          · exact absurd rfl e
          · simp [hx]
    · exact hpw.sublist (List.Sublist.append_left (List.sublist_cons_self y l2) l1)
theorem edOk_spec : ∀ {l : List Oper} {n : Nat}, edOk l n = true → ∀ (j : Nat) (o : Oper), l[j]? = some o → ∀ e ∈ o.after, Region.binds .any e = true → e.on < n + j
  | [], _, _, j, o, h, _, _, _ => by simp at h
  | q :: l, n, h, j, o, ho, e, he, hb => by
    simp only [edOk, Bool.and_eq_true, List.all_eq_true] at h
    cases j with
    | zero =>
      simp at ho; subst ho
      have := h.1 e (by simpa using he)
      simp [hb] at this; omega
    | succ j =>
      have := edOk_spec h.2 j o (by simpa using ho) e he hb
      omega
theorem okWith_spec {ops : Array Oper} {y : Lg} : ∀ {L : List Lg}, y.okWith ops L = true → ∀ x ∈ L, edge ops x.i y.i = true ∨ x.apart y = true
  | [], _, x, hx => by cases hx
  | z :: L, h, x, hx => by
    simp only [Lg.okWith, Bool.and_eq_true, Bool.or_eq_true] at h
    rcases List.mem_cons.1 hx with rfl | hx
    · exact h.1
    · exact okWith_spec h.2 x hx
theorem regDr_chain {C : FuncId → Pk → Rs → Prop} {O : Oracle} (hO : OkO C O) {R : Type} {ops : Array Oper} : ∀ {l : List Oper} {n : Nat} {L : List Lg} {S : St} {K : St → Option R} {x : R}, ops.toList.drop n = l → regDr E O ops l n L S K = some x →
    ∃ S' its, K S' = some x ∧ Chain C E ops S its S' ∧ its.length = l.length ∧ (∀ z ∈ its, ops[z.i]? = some z.o ∧ n ≤ z.i ∧ ∀ q ∈ L, edge ops q.i z.i = true ∨ q.apart z.lg = true) ∧ List.Pairwise (Apart ops) its ∧ (∀ i, (∃ z ∈ its, z.i = i) ↔ n ≤ i ∧ i < ops.size)
  | [], n, L, S, K, x, hl, h => by
      have hn : ops.size ≤ n := by
        have := congrArg List.length hl
        simp at this; omega
      refine ⟨S, [], h, rfl, rfl, (fun z hz => by cases hz), List.Pairwise.nil, fun i => ?_⟩
      simp; omega
  | o :: l, n, L, S, K, x, hl, h => by
    simp only [regDr] at h
    obtain ⟨wr, rt, rb, hr, h1⟩ := opGo_runs hO h
    split at h1
    · rename_i hok
      have hn : ops[n]? = some o := by
        have : (ops.toList.drop n)[0]? = some o := by rw [hl]; rfl
        rw [List.getElem?_drop] at this; simpa using this
      have hl' : ops.toList.drop (n + 1) = l := by rw [← List.drop_drop, hl]; rfl
      obtain ⟨S', its, hS, hch, hlen, hmem, hpw, hun⟩ := regDr_chain hO hl' h1
      have hsz := (Array.getElem?_eq_some_iff.1 hn).1
      refine ⟨S', ⟨n, o, wr, rt, rb⟩ :: its, hS, ⟨hr, hch⟩, by simp [hlen], fun z hz => ?_, List.pairwise_cons.2 ⟨fun z hz => ?_, hpw⟩, fun i => ?_⟩
      · rcases List.mem_cons.1 hz with rfl | hz
        · exact ⟨hn, Nat.le_refl _, okWith_spec hok⟩
        · obtain ⟨q1, q2, q3⟩ := hmem z hz
          exact ⟨q1, by omega, fun q hq => q3 q (by simp [hq])⟩
      · obtain ⟨q1, q2, q3⟩ := hmem z hz
        exact ⟨by show n < z.i; omega, q3 _ (List.mem_append_right _ (List.mem_singleton.2 rfl))⟩
      · constructor
        · rintro ⟨z, hz, rfl⟩
          rcases List.mem_cons.1 hz with rfl | hz
          · exact ⟨Nat.le_refl _, hsz⟩
          · have := (hun z.i).1 ⟨z, hz, rfl⟩; omega
        · rintro ⟨h1, h2⟩
          by_cases e : i = n
          · exact ⟨_, List.mem_cons_self, e.symm⟩
          · obtain ⟨z, hz, e2⟩ := (hun i).2 ⟨by omega, h2⟩
            exact ⟨z, List.mem_cons_of_mem _ hz, e2⟩
    · cases h1
theorem Rel.drew (h : Rel G S ρ ow a w) : Rel G S ρ ow a { w with drawn := w.drawn + 1 } := by
  have hu := h.upd (B' := S.b) (ρ' := ρ) (ow' := ow) (w' := { w with drawn := w.drawn + 1 }) (fun _ => False) (Mono.refl _ _) (fun _ _ => rfl) (fun _ _ _ => ⟨rfl, rfl⟩) (Nat.le_refl _) rfl rfl rfl (fun _ h => h.elim) (fun g i e => .inl ⟨e, id⟩)
  exact hu
theorem region_ok (hE : EnvOk P E) {O : Oracle} (hO : OkO (Ct P) O) (hm : P.follows .mixedOrders = true) {R : Type} {X : Cx} (hXE : X.E = E) (hXO : X.O = O) {n id : Nat} {ops : Array Oper} {draw : Bool} {K : Ex → St → Option R} {x : R} (h : exec X n (.region id ops draw) S K = some x) :
    ∃ S', K .normal S' = some x ∧ ∀ (G : Bg) (ρ : Nat → Value) (ow : Nat → Option Nat) (a : Act) (w : World) (Q : Exit → Act → World → Prop), G.nt = X.nt → Rel G S ρ ow a w → (∀ ρ' ow' a' w', Rel G S' ρ' ow' a' w' → Q .normal a' w') → (Code.region id ops draw).wp P Q a w := by
  subst hXE; subst hXO
  simp only [exec] at h
  split at h
  · rename_i hdst
    have hd := okDst_mem hdst
    split at h
    · rename_i hdr
      subst hdr
      split at h
      · rename_i hed
        obtain ⟨S', its, hS, hch, hlen, hmem, hpw, hun⟩ := regDr_chain hO (n := 0) (by simp) h
        refine ⟨S', hS, fun G ρ ow a w Q hnt hR hQ => wp_region_any hm ?_⟩
        refine any_ok hE (fun i o ho e he hb => ?_) (fun o ho x hx => by rw [hnt]; exact hd o ho x hx) hQ (l := its) (by simp at hlen; omega) (by simp) (fun i => ?_) (fun z hz => (hmem z hz).1) hpw hch hR.drew
        · have := edOk_spec hed i o (by simpa using ho) e he hb; omega
        · rw [hun i]
          constructor
          · rintro ⟨_, h2⟩; simp [h2]
          · intro h2
            refine ⟨Nat.zero_le _, ?_⟩
            apply Classical.byContradiction
            intro hc
            simp [Array.getElem?_eq_none (xs := Array.replicate ops.size false) (i := i) (by simp; omega)] at h2
      · cases h
    · rename_i hdr
      have : draw = false := by simpa using hdr
      subst this
      obtain ⟨S', hS, hw⟩ := regGo_ok hE hO hd (n := 0) (by simp) h
      refine ⟨S', hS, fun G ρ ow a w Q hnt hR hQ => wp_region ?_⟩
      have := hw G ρ ow a w Q hnt hR hQ
      rw [List.range_eq_range']
      simpa using this
  · cases h
end
end Go.Proofs.YtlenacakmmikiaaGreatDoorX
