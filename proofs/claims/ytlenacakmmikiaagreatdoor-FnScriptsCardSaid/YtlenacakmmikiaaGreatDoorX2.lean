/- Readings of the state, contracts of calls, and the operations that touch no row. -/
import Derived.Test.YtlenacakmmikiaaGreatDoorX1
namespace Go.Proofs.YtlenacakmmikiaaGreatDoorX
open Go
set_option linter.unusedVariables false
set_option linter.unusedSimpArgs false
section
variable {a : Act} {w : World} {P : Program}
theorem wp_val {o : Oper} {next : Act → World → Prop} {Q : Exit → Act → World → Prop} {v : Value} {w' : World} (he : (execOp a.eval o).run P w = .ok (.value v) w') (hn : next (a.put o.dst v) w') : o.wp P a w next Q := by
  unfold Oper.wp; rw [he]; exact hn
theorem wp_skp {o : Oper} {next : Act → World → Prop} {Q : Exit → Act → World → Prop} {w' : World} (he : (execOp a.eval o).run P w = .ok .skip w') (hn : next (a.put o.dst undef) w') : o.wp P a w next Q := by
  unfold Oper.wp; rw [he]; exact hn
end
def fset {α : Type} (f : Nat → α) (d : Nat) (x : α) : Nat → α := fun i => if i = d then x else f i
theorem fset_same {α : Type} (f : Nat → α) (d : Nat) (x : α) : fset f d x d = x := by simp [fset]
theorem fset_ne {α : Type} (f : Nat → α) {d i : Nat} (x : α) (h : i ≠ d) : fset f d x i = f i := by simp [fset, h]
theorem cells_of_one {v : Value} (h : v.oneCell' = true) : v.cells = #[v] := by cases v <;> simp_all [Value.oneCell', Value.cells]
section
def Runs (C : FuncId → Pk → Rs → Prop) (S : St) {α : Type} : RP α → List Nat → List Nat → α → List Nat → List Nat → Prop
  | .ret x, lt, lb, y, lt', lb' => y = x ∧ lt' = lt ∧ lb' = lb
  | .fail, _, _, _, _, _ => False
  | .rdT t k, lt, lb, y, lt', lb' => Runs C S (k (S.t t)) (t :: lt) lb y lt' lb'
  | .rdB i k, lt, lb, y, lt', lb' => Runs C S (k (S.b i)) lt (i :: lb) y lt' lb'
  | .bsp b k, lt, lb, y, lt', lb' => Runs C S (k b) lt lb y lt' lb'
  | .grd p _ k, lt, lb, y, lt', lb' => p ∧ Runs C S k lt lb y lt' lb'
  | .call g A k, lt, lb, y, lt', lb' => ∃ r, C g A r ∧ Runs C S (k r) lt lb y lt' lb'
def OkO (C : FuncId → Pk → Rs → Prop) (O : Oracle) : Prop := ∀ g A (R : Type) (K : Rs → Option R) (x : R), O g A R K = some x → ∃ r, C g A r ∧ K r = some x
theorem go_runs {C : FuncId → Pk → Rs → Prop} {O : Oracle} (hO : OkO C O) (S : St) {α R : Type} : ∀ (p : RP α) (lt lb : List Nat) (K : α → List Nat → List Nat → Option R) (x : R), RP.go O S p lt lb K = some x → ∃ y lt' lb', Runs C S p lt lb y lt' lb' ∧ K y lt' lb' = some x
  | .ret y, lt, lb, K, x, h => ⟨y, lt, lb, ⟨rfl, rfl, rfl⟩, h⟩
  | .fail, _, _, _, _, h => by simp [RP.go] at h
  | .rdT t k, lt, lb, K, x, h => go_runs hO S (k (S.t t)) _ _ K x h
  | .rdB i k, lt, lb, K, x, h => go_runs hO S (k (S.b i)) _ _ K x h
  | .bsp b k, lt, lb, K, x, h => by
    cases b with
    | true => exact go_runs hO S (k true) _ _ K x h
    | false => exact go_runs hO S (k false) _ _ K x h
  | .grd p i k, lt, lb, K, x, h => by
    simp only [RP.go] at h
    split at h
    · rename_i hp
      obtain ⟨y, lt', lb', h1, h2⟩ := go_runs hO S k _ _ K x h
      exact ⟨y, lt', lb', ⟨hp, h1⟩, h2⟩
    · cases h
  | .call g A k, lt, lb, K, x, h => by
    obtain ⟨r, hr, h⟩ := hO _ _ _ _ _ h
    obtain ⟨y, lt', lb', h1, h2⟩ := go_runs hO S (k r) _ _ K x h
    exact ⟨y, lt', lb', ⟨r, hr, h1⟩, h2⟩

/-- What a call of function g does: to what was handed over, and what comes back. -/
def Ct (P : Program) (g : FuncId) (A : Pk) (r : Rs) : Prop :=
  (∃ fn, P.funcs[g]? = some fn ∧ (fn.name == "runtime.NumGoroutine") = false ∧ fn.body.isSome = true) ∧
  ∀ (w : World) (ρ : Nat → Value) (ow : Nat → Option Nat) (vs : Array Value),
    TB ow w → (∀ i, BlkOk (blF A.bl) w ρ ow i (blF A.bl i)) → F2 (V1 (blF A.bl) ρ) A.avs vs.toList → (∀ g i, ow g = some i → g < w.heap.size ∧ (blF A.bl i).own = true) → (∀ b ∈ A.bl, b ≠ .no) →
    Calls P g vs w fun e w' => ∃ v ρ' ow', e = .returned v ∧ VV (blF r.bl) ρ' r.av v ∧ (∀ i, BlkOk (blF r.bl) w' ρ' ow' i (blF r.bl i)) ∧
      (∀ g i, ow' g = some i → g < w'.heap.size ∧ (blF r.bl i).own = true ∧ (w.heap.size ≤ g ∨ ow g ≠ none)) ∧ Fr ow w w' ∧
      (∀ i, i < A.bl.length → blF r.bl i ≠ .no ∧ ρ' i = ρ i ∧ ((blF r.bl i).own = true → (blF A.bl i).own = true) ∧ ∀ own k xs, blF r.bl i = .row own k xs → ∃ own' xs', blF A.bl i = .row own' k xs' ∧ xs'.length = xs.length) ∧
      (∀ i, A.bl.length ≤ i → i < r.bl.length → (blF r.bl i).own = true)

/-- What the walk says of the types is so. -/
structure EnvOk (P : Program) (E : Env) : Prop where
  zero : ∀ t l, E.zero t = some l → ∃ i z, P.info? t = some i ∧ i.zero = some z ∧ z.cells.toList = l
  one : ∀ t, E.agg t = some none → ∃ i d, P.underlying t = some d ∧ (match d with | .struct _ | .array _ _ => true | _ => false) = false ∧ P.info? t = some i ∧ i.size = 1
  agg : ∀ t n, E.agg t = some (some n) → ∃ i d, P.underlying t = some d ∧ (match d with | .struct _ | .array _ _ => true | _ => false) = true ∧ P.info? t = some i ∧ i.size = n
  fields : ∀ t l, E.fields t = some l → ∃ fs, P.underlying t = some (.struct fs) ∧ fs.toList.map (fun f => (f.offset, f.type)) = l ∧ ∀ f ∈ fs.toList, ∃ i, P.info? f.type = some i ∧ i.size ≠ 0
  elem : ∀ t k, E.elem t = some k → P.underlying t = some (.slice (ty k)) ∧ ∃ i z, P.info? (ty k) = some i ∧ i.size = sz k ∧ i.bytes ≤ 32 ∧ i.zero = some z ∧ z.cells.toList = enc k (dflt k)
  isBool : ∀ t, E.isBool t = true → P.underlying t = some .bool
  isStr : ∀ t, E.isStr t = true → P.underlying t = some .string
  int : ∀ t k, E.int t = some k → P.underlying t = some (.int k)
  byt : ∀ t k, E.elem t = some k → u8k k = true → ∃ i, P.info? (ty k) = some i ∧ i.zero = some (.int .u8 0) ∧ i.size = 1 ∧ i.bytes = 1
  arr : ∀ t n s, E.arr t = some (n, s) → ∃ e, P.underlying t = some (.array n e) ∧ ∃ i, P.info? e = some i ∧ i.size = s
  eqs : ∀ t n, E.eqs t = some n → ∀ (x y : Operand) (xs ys : List Int), xs.length = n → ys.length = n → ∀ w, (do eqGuard .eql t x y (.agg (xs.map (Value.int .i64)).toArray) (.agg (ys.map (Value.int .i64)).toArray); binOp .eql t (.agg (xs.map (Value.int .i64)).toArray) (.agg (ys.map (Value.int .i64)).toArray) : Sem Value).run P w = .ok (.bool (decide (xs = ys))) w ∧ (do eqGuard .neq t x y (.agg (xs.map (Value.int .i64)).toArray) (.agg (ys.map (Value.int .i64)).toArray); binOp .neq t (.agg (xs.map (Value.int .i64)).toArray) (.agg (ys.map (Value.int .i64)).toArray) : Sem Value).run P w = .ok (.bool (!decide (xs = ys))) w

variable {G : Bg} {S : St} {ρ : Nat → Value} {ow : Nat → Option Nat} {a : Act} {w : World} {P : Program} {E : Env} {C : FuncId → Pk → Rs → Prop}
theorem VS_ofC (B : Nat → Blk) (ρ : Nat → Value) (u : Value) : VS B ρ (ofC u) u := by
  unfold ofC; split
  · rfl
  · rfl
theorem VV_ofV (B : Nat → Blk) (ρ : Nat → Value) (u : Value) : VV B ρ (ofV u) u := by
  unfold ofV; split
  · rename_i cs
    refine ⟨cs, rfl, F2.map_left ?_⟩
    generalize cs.toList = l
    induction l with
    | nil => trivial
    | cons x l ih => exact ⟨VS_ofC _ _ _, ih⟩
  · trivial
  · exact VS_ofC _ _ _
theorem runs_evO (h : Rel G S ρ ow a w) {α : Type} {o : Operand} {k : AV → RP α} {lt lb lt' lb' : List Nat} {x : α} (hr : Runs C S (evO o k) lt lb x lt' lb') :
    ∃ v lt1, VV S.b ρ v (a.eval o) ∧ Runs C S (k v) lt1 lb x lt' lb' := by
  cases o with
  | tmp t => exact ⟨_, _, h.tm t, hr⟩
  | const v => exact ⟨_, _, VV_ofV _ _ _, hr⟩
  | global g => exact hr.elim
  | func f => exact ⟨.a (.sc (.fn f [])), lt, (show VS S.b ρ (.fn f []) (.func (.func f) #[] #[]) from ⟨rfl, fun _ h => by cases h⟩), hr⟩
theorem runs_evOs (h : Rel G S ρ ow a w) {α : Type} : ∀ {os : List Operand} {k : List AV → RP α} {lt lb lt' lb' : List Nat} {x : α}, Runs C S (evOs os k) lt lb x lt' lb' →
    ∃ vs lt1, F2 (VV S.b ρ) vs (os.map a.eval) ∧ Runs C S (k vs) lt1 lb x lt' lb'
  | [], _, _, _, _, _, _, hr => ⟨[], _, trivial, hr⟩
  | o :: os, k, _, _, _, _, _, hr => by
    obtain ⟨v, lt1, hv, hr⟩ := runs_evO h hr
    obtain ⟨vs, lt2, hvs, hr⟩ := runs_evOs h hr
    exact ⟨v :: vs, lt2, ⟨hv, hvs⟩, hr⟩
theorem runs_asA1 {α : Type} {v : AV} {k : A1 → RP α} {lt lb lt' lb' : List Nat} {x : α} (hr : Runs C S (asA1 v k) lt lb x lt' lb') : ∃ y, v = .a y ∧ Runs C S (k y) lt lb x lt' lb' := by
  cases v with | a y => exact ⟨y, rfl, hr⟩ | tp l => exact hr.elim
theorem runs_asSc {α : Type} {v : AV} {k : Sc → RP α} {lt lb lt' lb' : List Nat} {x : α} (hr : Runs C S (asSc v k) lt lb x lt' lb') : ∃ y, v = .a (.sc y) ∧ Runs C S (k y) lt lb x lt' lb' := by
  cases v with | a y => (cases y with | sc s => exact ⟨s, rfl, hr⟩ | ag l => exact hr.elim) | tp l => exact hr.elim
theorem runs_asBool {α : Type} {v : AV} {k : Bool → RP α} {lt lb lt' lb' : List Nat} {x : α} (hr : Runs C S (asBool v k) lt lb x lt' lb') : ∃ b, v = .a (.sc (.v (.bool b))) ∧ Runs C S (k b) lt lb x lt' lb' := by
  unfold asBool at hr; split at hr
  · exact ⟨_, rfl, hr⟩
  · exact hr.elim
theorem runs_asInt {α : Type} {v : AV} {k : IntKind → Int → RP α} {lt lb lt' lb' : List Nat} {x : α} (hr : Runs C S (asInt v k) lt lb x lt' lb') : ∃ κ n, v = .a (.sc (.v (.int κ n))) ∧ Runs C S (k κ n) lt lb x lt' lb' := by
  unfold asInt at hr; split at hr
  · exact ⟨_, _, rfl, hr⟩
  · exact hr.elim
theorem mono_new {B : Nat → Blk} {ρ : Nat → Value} {d : Nat} (b : Blk) (u : Value) (hd : B d = .no) : Mono B (fset B d b) ρ (fset ρ d u) where
  no := fun i hi => by
    have : i ≠ d := fun e => hi (e ▸ hd)
    rw [fset_ne _ _ this]; exact hi
  row := fun i own k xs hi hb => by
    have : i ≠ d := fun e => hi (e ▸ hd)
    rw [fset_ne _ _ this] at hb; exact ⟨own, xs, hb, rfl⟩
  rho := fun i hi => by
    have : i ≠ d := fun e => hi (e ▸ hd)
    rw [fset_ne _ _ this]
  own := fun i hi ho => by
    have : i ≠ d := fun e => hi (e ▸ hd)
    rw [fset_ne _ _ this] at ho; exact ho
/-- A new block. -/
theorem Rel.new (h : Rel G S ρ ow a w) {d : Nat} (hd : S.b d = .no) {b : Blk} {o : Obj} {u : Value}
    (hb : b.own = true) (hk : BlkOk (fset S.b d b) (w.alloc o) (fset ρ d u) (fset ow w.heap.size (some d)) d b) :
    Rel G ⟨S.t, fset S.b d b⟩ (fset ρ d u) (fset ow w.heap.size (some d)) a (w.alloc o) := by
  refine h.upd (fun j => j = d) (mono_new b u hd) (fun j hj => fset_ne _ _ hj) (fun g hg _ => ⟨heap_alloc_old w o g hg, fset_ne _ _ (by omega)⟩) (by simp) rfl rfl rfl (fun j hj => by subst hj; rw [fset_same]; exact hk) (fun g i hi => ?_)
  by_cases e : g = w.heap.size
  · subst e; rw [fset_same] at hi; cases hi
    exact .inr ⟨by simp, by rw [fset_same]; exact hb, .inl (Nat.le_refl _)⟩
  · rw [fset_ne _ _ e] at hi
    refine .inl ⟨hi, fun e2 => ?_⟩
    subst e2
    have := (h.own g i hi).2.1
    rw [hd] at this; cases this
/-- A block of one's own changes, its place and kind being the same. -/
theorem Rel.chg (h : Rel G S ρ ow a w) {i g : Nat} {b : Blk} (hno : S.b i ≠ .no) (hbn : b ≠ .no) (hrow : ∀ own k xs, b = .row own k xs → ∃ own' xs', S.b i = .row own' k xs' ∧ xs'.length = xs.length)
    (hb : b.own = true) (hg : ow g = some i) {w' : World} (hp : ∀ k, k < w.heap.size → k ≠ g → w'.heap[k]? = w.heap[k]?) (hsz : w'.heap.size = w.heap.size) (hos : w'.os = w.os) (htp : w'.tape = w.tape) (hout : w'.output = w.output)
    (hk : BlkOk (fset S.b i b) w' ρ ow i b) : Rel G ⟨S.t, fset S.b i b⟩ ρ ow a w' := by
  have m : Mono S.b (fset S.b i b) ρ ρ := ⟨fun j hj => by
      by_cases e : j = i
      · subst e; rw [fset_same]; exact hbn
      · rw [fset_ne _ _ e]; exact hj, fun j own k xs hj hb' => by
      by_cases e : j = i
      · subst e; rw [fset_same] at hb'; exact hrow own k xs hb'
      · rw [fset_ne _ _ e] at hb'; exact ⟨own, xs, hb', rfl⟩, fun _ _ => rfl, fun j hj ho => by
      by_cases e : j = i
      · subst e; exact (h.own g _ hg).2.1
      · rw [fset_ne _ _ e] at ho; exact ho⟩
  refine h.upd (fun j => j = i) m (fun j hj => fset_ne _ _ hj) (fun k hk hc => ⟨hp k hk fun e => hc i (e ▸ hg) rfl, rfl⟩) (by omega) hos htp hout (fun j hj => by subst hj; rw [fset_same]; exact hk) (fun k j hj => ?_)
  by_cases e : j = i
  · subst e
    refine .inr ⟨by rw [hsz]; exact (h.own k j hj).1, by rw [fset_same]; exact hb, .inr (by rw [hj]; simp)⟩
  · exact .inl ⟨hj, e⟩
theorem setB_eq (S : St) (i : Nat) (b : Blk) : S.setB i b = ⟨S.t, fset S.b i b⟩ := rfl

theorem VS_one {B : Nat → Blk} {ρ : Nat → Value} : ∀ {s : Sc} {x : Value}, VS B ρ s x → s.one = true → x.oneCell' = true
  | .un, _, _, h => by simp [Sc.one] at h
  | .v u, x, hv, h => by cases hv; exact h
  | .nl, x, hv, _ => by cases hv; rfl
  | .sl i, x, hv, _ => hv.2.2
  | .bp i off, x, ⟨_, g, _, e⟩, _ => by subst e; rfl
  | .rp i s j off, x, ⟨_, ⟨_, _, _, _, e⟩, _⟩, _ => by subst e; rfl
  | .fn f c, x, ⟨e, _⟩, _ => by subst e; rfl

/-- What an operation comes to: a value for its place, and blocks changed. -/
def Lands (P : Program) (G : Bg) (S : St) (a : Act) (w : World) (o : Oper) (wr : Wr) : Prop :=
  ∀ (next : Act → World → Prop) (Q : Exit → Act → World → Prop),
    (∀ v w' ρ' ow', Rel G (S.ups wr.ups) ρ' ow' a w' → VV (S.ups wr.ups).b ρ' wr.v v → next (a.put o.dst v) w') → o.wp P a w next Q
theorem ups_t (S : St) : ∀ u : List (Nat × Blk), (S.ups u).t = S.t
  | [] => rfl
  | (i, b) :: r => by simp [St.ups, ups_t, St.setB]
/-- An operation that turns no memory. -/
theorem Lands.pure (h : Rel G S ρ ow a w) {o : Oper} {x : AV} {v : Value} (he : (execOp a.eval o).run P w = .ok (.value v) w) (hv : VV S.b ρ x v) : Lands P G S a w o ⟨x, []⟩ :=
  fun next Q hn => wp_val he (hn v w ρ ow h hv)
theorem lands_newB (h : Rel G S ρ ow a w) {o : Oper} {lt lb lt' lb' : List Nat} {wr : Wr} {d : Nat} {l : List Sc} {e : TypeId} {cs : Array Value}
    (hr : Runs C S (newB d (.box true l) (.a (.sc (.bp d 0))) []) lt lb wr lt' lb')
    (he : (execOp a.eval o).run P w = .ok (.value (.pointer (some ⟨w.heap.size, 0, none⟩))) (w.alloc (.cells cs e)))
    (hl : F2 (VS S.b ρ) l cs.toList) : Lands P G S a w o wr := by
  simp only [newB, Runs] at hr
  split at hr
  · rename_i hd
    obtain ⟨rfl, _, _⟩ := hr
    have m := mono_new (ρ := ρ) (.box true l) (.pointer (some ⟨w.heap.size, 0, none⟩)) hd
    intro next Q hn
    refine wp_val he (hn _ _ _ _ (h.new hd (b := .box true l) (u := .pointer (some ⟨w.heap.size, 0, none⟩)) rfl ⟨w.heap.size, cs, e, fset_same _ _ _, heap_alloc_new w _, hl.mono fun _ _ => VS.mono m, fset_same _ _ _⟩) ?_)
    exact ⟨by rw [show (St.ups S ([] ++ [(d, Blk.box true l)])).b = fset S.b d (.box true l) from rfl, fset_same]; simp, w.heap.size, fset_same _ _ _, rfl⟩
  · exact hr.elim
theorem F2_ofC (B : Nat → Blk) (ρ : Nat → Value) : ∀ l : List Value, F2 (VS B ρ) (l.map ofC) l
  | [] => trivial
  | x :: l => ⟨VS_ofC _ _ _, F2_ofC B ρ l⟩
theorem ups_append (S : St) : ∀ l m : List (Nat × Blk), S.ups (l ++ m) = (S.ups l).ups m
  | [], m => rfl
  | (i, b) :: l, m => by simp only [List.cons_append, St.ups]; exact ups_append (S.setB i b) l m
theorem runs_rdNos {α : Type} {k : RP α} {y : α} : ∀ {n d : Nat} {lt lb lt' lb' : List Nat}, Runs C S (rdNos d n k) lt lb y lt' lb' → (∀ j, j < n → S.b (d + j) = .no) ∧ ∃ lb1, Runs C S k lt lb1 y lt' lb'
  | 0, d, _, _, _, _, hr => ⟨fun j hj => by omega, _, hr⟩
  | n + 1, d, _, _, _, _, hr => by
    simp only [rdNos, Runs] at hr
    split at hr
    · rename_i hd
      obtain ⟨h1, h2⟩ := runs_rdNos hr
      refine ⟨fun j hj => ?_, h2⟩
      cases j with
      | zero => exact hd
      | succ j => rw [show d + (j + 1) = d + 1 + j by omega]; exact h1 j (by omega)
    · exact hr.elim
theorem Mono.trans {B B1 B2 : Nat → Blk} {ρ ρ1 ρ2 : Nat → Value} (m : Mono B B1 ρ ρ1) (k : Mono B1 B2 ρ1 ρ2) : Mono B B2 ρ ρ2 :=
  ⟨fun i h => k.no i (m.no i h), fun i own κ xs h e => by
    obtain ⟨o1, x1, e1, l1⟩ := k.row i own κ xs (m.no i h) e
    obtain ⟨o2, x2, e2, l2⟩ := m.row i o1 κ x1 h e1
    exact ⟨o2, x2, e2, l2.trans l1⟩, fun i h => (k.rho i (m.no i h)).trans (m.rho i h), fun i h e => m.own i h (k.own i (m.no i h) e)⟩
/-- A nil slice as a row of its own. -/
theorem Rel.nil (h : Rel G S ρ ow a w) {d : Nat} (hd : S.b d = .no) (k : K) : Rel G ⟨S.t, fset S.b d (.row true k [])⟩ (fset ρ d (.slice none 0 0)) ow a w := by
  refine h.upd (fun j => j = d) (mono_new _ _ hd) (fun j hj => fset_ne _ _ hj) (fun g _ _ => ⟨rfl, rfl⟩) (Nat.le_refl _) rfl rfl rfl (fun j hj => ?_) (fun g i hg => .inl ⟨hg, fun e => ?_⟩)
  · subst hj
    rw [fset_same]
    exact ⟨by rw [fset_same]; exact World.ownsRow_nil w 0 _ _, fun g hg => by rw [fset_same] at hg; simp [Value.ownBlock] at hg⟩
  · subst e
    have := (h.own g _ hg).2.1
    rw [hd] at this; cases this
theorem fix_ok : ∀ {ks : List (Option K)} {l : List Sc} {d : Nat} {S : St} {ρ : Nat → Value} {cs : List Value}, Rel G S ρ ow a w → (∀ j, j < (fixR d ks l).length → S.b (d + j) = .no) → F2 (VS S.b ρ) l cs →
    ∃ ρ', Rel G (S.ups (fixR d ks l)) ρ' ow a w ∧ F2 (VS (S.ups (fixR d ks l)).b ρ') (fixN d ks l) cs ∧ Mono S.b (S.ups (fixR d ks l)).b ρ ρ' ∧ ∀ i, i < d → (S.ups (fixR d ks l)).b i = S.b i := by
  intro ks
  induction ks with
  | nil => intro l d S ρ cs h _ hF; exact ⟨ρ, h, hF, Mono.refl _ _, fun _ _ => rfl⟩
  | cons o ks ih =>
    intro l d S ρ cs h hno hF
    cases l with
    | nil => cases o <;> exact ⟨ρ, h, hF, Mono.refl _ _, fun _ _ => rfl⟩
    | cons s l =>
      obtain ⟨u, cs', rfl, hu, hF'⟩ := hF.cons_left
      have skip : fixR d (o :: ks) (s :: l) = fixR d ks l → fixN d (o :: ks) (s :: l) = s :: fixN d ks l → ∃ ρ', Rel G (S.ups (fixR d (o :: ks) (s :: l))) ρ' ow a w ∧ F2 (VS (S.ups (fixR d (o :: ks) (s :: l))).b ρ') (fixN d (o :: ks) (s :: l)) (u :: cs') ∧ Mono S.b (S.ups (fixR d (o :: ks) (s :: l))).b ρ ρ' ∧ ∀ i, i < d → (S.ups (fixR d (o :: ks) (s :: l))).b i = S.b i := by
        intro e1 e2
        rw [e1, e2]
        rw [e1] at hno
        obtain ⟨ρ', h1, h2, h3, h4⟩ := ih h hno hF'
        exact ⟨ρ', h1, ⟨hu.mono h3, h2⟩, h3, h4⟩
      cases o with
      | none => exact skip rfl rfl
      | some k =>
        cases s with
        | nl =>
          have hd : S.b d = .no := hno 0 (by simp [fixR])
          have m := mono_new (ρ := ρ) (.row true k []) (.slice none 0 0) hd
          obtain ⟨ρ', h1, h2, h3, h4⟩ := ih (S := ⟨S.t, fset S.b d (.row true k [])⟩) (d := d + 1) (l := l) (h.nil hd k) (fun j hj => by
            show fset S.b d _ (d + 1 + j) = _
            rw [fset_ne _ _ (by omega), show d + 1 + j = d + (j + 1) by omega]
            exact hno (j + 1) (by simp [fixR]; omega)) (hF'.mono fun _ _ => VS.mono m)
          refine ⟨ρ', h1, ⟨?_, h2⟩, m.trans h3, fun i hi => ?_⟩
          · have hv : VS (fset S.b d (.row true k [])) (fset ρ d (.slice none 0 0)) (.sl d) u := by
              cases hu
              exact ⟨by rw [fset_same]; simp, by rw [fset_same], rfl⟩
            exact hv.mono h3
          · show (St.ups _ _).b i = _
            have := h4 i (by omega)
            refine this.trans (fset_ne _ _ (by omega))
        | _ => exact skip rfl rfl
theorem lands_alloc (hE : EnvOk P E) (h : Rel G S ρ ow a w) {o : Oper} {t : TypeId} (ho : o.op = .alloc t) {d : Nat} {lt lb lt' lb' : List Nat} {wr : Wr}
    (hr : Runs C S (opBody E d (.alloc t)) lt lb wr lt' lb') : Lands P G S a w o wr := by
  simp only [opBody] at hr
  split at hr
  · rename_i l hl
    obtain ⟨i, z, hi, hz, hzl⟩ := hE.zero t l hl
    obtain ⟨hno, _, rfl, _, _⟩ := runs_rdNos hr
    obtain ⟨ρ', h1, h2, h3, h4⟩ := fix_ok (ks := E.nils t) (l := l.map ofC) (d := d + 1) (cs := z.cells.toList) h (fun j hj => by rw [show d + 1 + j = d + (1 + j) by omega]; exact hno (1 + j) (by omega)) (hzl ▸ F2_ofC _ _ _)
    have hd : (S.ups (fixR (d + 1) (E.nils t) (l.map ofC))).b d = .no := by rw [h4 d (by omega)]; have := hno 0 (by omega); simpa using this
    have m := mono_new (ρ := ρ') (.box true (fixN (d + 1) (E.nils t) (l.map ofC))) (.pointer (some ⟨w.heap.size, 0, none⟩)) hd
    intro next Q hn
    have hrun : (execOp a.eval o).run P w = .ok (.value (.pointer (some ⟨w.heap.size, 0, none⟩))) (w.alloc (.cells z.cells t)) := by
      simp [execOp, ho, Instr.alloc, zeroValue, typeInfo, hi, hz, newVar, newRow]
    have hR := h1.new hd (b := .box true (fixN (d + 1) (E.nils t) (l.map ofC))) (u := .pointer (some ⟨w.heap.size, 0, none⟩)) rfl ⟨w.heap.size, z.cells, t, fset_same _ _ _, heap_alloc_new w _, h2.mono fun _ _ => VS.mono m, fset_same _ _ _⟩
    have e : S.ups (fixR (d + 1) (E.nils t) (l.map ofC) ++ [(d, .box true (fixN (d + 1) (E.nils t) (l.map ofC)))]) = ⟨(S.ups (fixR (d + 1) (E.nils t) (l.map ofC))).t, fset (S.ups (fixR (d + 1) (E.nils t) (l.map ofC))).b d (.box true (fixN (d + 1) (E.nils t) (l.map ofC)))⟩ := by rw [ups_append]; rfl
    simp only [e] at hn
    exact wp_val hrun (hn _ _ _ _ hR ⟨by show fset _ d _ d ≠ _; rw [fset_same]; simp, w.heap.size, fset_same _ _ _, rfl⟩)
  · exact hr.elim
theorem lands_box (h : Rel G S ρ ow a w) {o : Oper} {t : TypeId} {x : Operand} (ho : o.op = .box t x) {d : Nat} {lt lb lt' lb' : List Nat} {wr : Wr}
    (hr : Runs C S (opBody E d (.box t x)) lt lb wr lt' lb') : Lands P G S a w o wr := by
  simp only [opBody] at hr
  obtain ⟨v, lt1, hv, hr⟩ := runs_evO h hr
  have he : (execOp a.eval o).run P w = .ok (.value (.pointer (some ⟨w.heap.size, 0, none⟩))) (w.alloc (.cells (a.eval x).cells t)) := by
    simp [execOp, ho, Instr.box, newVar, newRow]
  split at hr
  · obtain ⟨cs, e, hcs⟩ := hv
    rw [e] at he
    split at hr
    · exact lands_newB h hr he hcs
    · exact hr.elim
  · split at hr
    · rename_i s hs
      have h1 := VS_one hv hs
      rw [cells_of_one h1] at he
      exact lands_newB h hr he ⟨hv, trivial⟩
    · exact hr.elim
  · exact hr.elim
end
end Go.Proofs.YtlenacakmmikiaaGreatDoorX
