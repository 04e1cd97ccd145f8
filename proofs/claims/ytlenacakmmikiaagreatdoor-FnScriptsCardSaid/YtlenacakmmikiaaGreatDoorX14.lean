/- Regions whose calls stand in a chain (one after the other, by way of a third), and the contract of a function of plain steps that holds one. -/
import Derived.Test.YtlenacakmmikiaaGreatDoorX13
namespace Go.Proofs.YtlenacakmmikiaaGreatDoorX
open Go
set_option linter.unusedVariables false
set_option linter.unusedSimpArgs false
def isChain : Ground → Bool | .chain => true | .data => true | _ => false
def edgeN (ops : Array Oper) : Nat → Nat → Nat → Bool
  | 0, _, _ => false
  | n + 1, i, j => match ops[j]? with | some o => o.after.any fun e => (e.on == i || (isChain e.ground && edgeN ops n i e.on)) && Region.binds .any e | none => false
def edgeT (ops : Array Oper) (i j : Nat) : Bool := edgeN ops 5 i j
def Lg.okWithT (ops : Array Oper) (y : Lg) : List Lg → Bool
  | [] => true
  | x :: r => (edge ops x.i y.i || (x.apart y || edgeT ops x.i y.i)) && Lg.okWithT ops y r
def regDrT {R : Type} (E : Env) (O : Oracle) (ops : Array Oper) : List Oper → Nat → List Lg → St → (St → Option R) → Option R
  | [], _, _, S, K => K S
  | o :: r, i, L, S, K => opGo E O ops o S fun S wr rt rb =>
    let l : Lg := ⟨i, rt, rb, o.dst.toList, wr.ups.map (·.1)⟩
    if l.okWithT ops L then regDrT E O ops r (i + 1) (L ++ [l]) (S.app o.dst wr) K else none
/-- Plain steps, one after the other. -/
def execD {R : Type} (X : Cx) : Code → St → (Ex → St → Option R) → Option R
  | .skip, S, K => K .normal S
  | .region _ ops draw, S, K => if okDst X.nt ops.toList then (if draw then (if edOk ops.toList 0 then regDrT X.E X.O ops ops.toList 0 [] S (K .normal) else none) else regGo X.E X.O ops ops.toList S (K .normal)) else none
  | .seq a b, S, K => execD X a S fun e S => match e with
    | .normal => execD X b S K
    | e => K e S
  | .cond c a b, S, K => RP.go X.O S (evO c fun v => asBool v fun x => .bsp x fun y => .ret y) [] [] fun y _ _ => cond y (execD X a S K) (execD X b S K)
  | .ret, S, K => K .ret S
  | _, _, _ => none
def callD {R : Type} (E : Env) (O : Oracle) (live : Nat → List Nat) (fn : Func) (n : Nat) (A : Pk) (K : Rs → Option R) : Option R :=
  match fn.body with
  | some c => if A.avs.length ≤ fn.ntmps then execD ⟨E, O, A.bl.length, fn.ntmps, live⟩ c (start A) fun e S => match e with
    | .exit _ => none
    | _ => finish E O fn A.bl.length S K
    else none
  | none => none
section
variable {G : Bg} {S : St} {ρ : Nat → Value} {ow : Nat → Option Nat} {a : Act} {w : World} {P : Program} {E : Env} {o : Oper} {d : Nat} {lt lb lt' lb' : List Nat} {wr : Wr}
def ApartT (ops : Array Oper) (x y : It) : Prop := x.i < y.i ∧ (edgeT ops x.i y.i = true ∨ x.lg.apart y.lg = true)
theorem edgeN_listed {ops : Array Oper} {listed : Array Bool} (hcl : ∀ (j : Nat) (o : Oper), ops[j]? = some o → listed.getD j false = true → ∀ e ∈ o.after, Region.binds .any e = true → listed.getD e.on false = true) :
    ∀ (n i j : Nat) (o : Oper), ops[j]? = some o → (∀ e ∈ o.after, Region.binds .any e = true → listed.getD e.on false = true) → edgeN ops n i j = true → listed.getD i false = true
  | 0, _, _, _, _, _, h => by cases h
  | n + 1, i, j, o, ho, hall, h => by
    simp only [edgeN, ho] at h
    obtain ⟨e, he1, he2⟩ := Array.any_eq_true'.1 h
    simp only [Bool.and_eq_true, Bool.or_eq_true, beq_iff_eq] at he2
    have hl := hall e he1 he2.2
    rcases he2.1 with h' | h'
    · rw [h'] at hl; exact hl
    · cases hq : ops[e.on]? with
      | none =>
        exfalso
        have h2 := h'.2
        cases n with
        | zero => cases h2
        | succ n => simp only [edgeN, hq] at h2; cases h2
      | some q => exact edgeN_listed hcl n i e.on q hq (hcl e.on q hq hl) h'.2
theorem any_okT (hE : EnvOk P E) {ops : Array Oper} {S' : St} (hed : ∀ (i : Nat) (o : Oper), ops[i]? = some o → ∀ e ∈ o.after, Region.binds .any e = true → e.on < i) (hd : ∀ o ∈ ops.toList, ∀ x, o.dst = some x → x < G.nt) {Q : Exit → Act → World → Prop} (hQ : ∀ ρ' ow' a' w', Rel G S' ρ' ow' a' w' → Q .normal a' w') :
    ∀ {fuel : Nat} {listed : Array Bool} {l : List It} {S : St} {ρ : Nat → Value} {ow : Nat → Option Nat} {a : Act} {w : World}, l.length ≤ fuel → listed.size = ops.size → (∀ i, (∃ x ∈ l, x.i = i) ↔ listed.getD i true = false) → (∀ x ∈ l, ops[x.i]? = some x.o) →
      (∀ (j : Nat) (o : Oper), ops[j]? = some o → listed.getD j false = true → ∀ e ∈ o.after, Region.binds .any e = true → listed.getD e.on false = true) →
      List.Pairwise (ApartT ops) l → Chain (Ct P) E ops S l S' → Rel G S ρ ow a w → wpAny P .any ops Q fuel listed a w := by
  intro fuel
  have done : ∀ {listed : Array Bool} {l : List It} {S : St} {ρ : Nat → Value} {ow : Nat → Option Nat} {a : Act} {w : World}, listed.size = ops.size → (∀ i, (∃ x ∈ l, x.i = i) ↔ listed.getD i true = false) → (∀ x ∈ l, ops[x.i]? = some x.o) → List.Pairwise (ApartT ops) l → Chain (Ct P) E ops S l S' → Rel G S ρ ow a w → Region.ready .any ops listed = [] → Q .normal a w := by
    intro listed l S ρ ow a w hsz hun hop hpw hch hR h0
    cases l with
    | nil => cases hch; exact hQ ρ ow a w hR
    | cons x l =>
      exfalso
      have hm : x.i ∈ Region.ready .any ops listed := by
        refine mem_ready.2 ⟨(hun x.i).1 ⟨x, by simp, rfl⟩, x.o, hop x (by simp), fun e he hb => ?_⟩
        have hlt := hed x.i x.o (hop x (by simp)) e he hb
        have hxs := (Array.getElem?_eq_some_iff.1 (hop x (by simp))).1
        cases hl : listed.getD e.on true with
        | true =>
          have : e.on < listed.size := by omega
          simp [this] at hl ⊢; exact hl
        | false =>
          obtain ⟨z, hz, e1⟩ := (hun e.on).2 hl
          rcases List.mem_cons.1 hz with rfl | hz
          · omega
          · have := (List.pairwise_cons.1 hpw).1 z hz
            have := this.1; omega
      rw [h0] at hm; cases hm
  induction fuel with
  | zero =>
    intro listed l S ρ ow a w hlen hsz hun hop hcl hpw hch hR
    have hl : l = [] := List.eq_nil_of_length_eq_zero (by omega)
    subst hl
    have h0 : Region.ready .any ops listed = [] := by
      apply List.eq_nil_iff_forall_not_mem.2
      intro i hi
      obtain ⟨z, hz, _⟩ := (hun i).2 (mem_ready.1 hi).1
      cases hz
    exact ⟨h0, done hsz hun hop hpw hch hR h0⟩
  | succ fuel ih =>
    intro listed l S ρ ow a w hlen hsz hun hop hcl hpw hch hR
    refine ⟨done hsz hun hop hpw hch hR, fun i hi => ?_⟩
    obtain ⟨hu, o, ho, hall⟩ := mem_ready.1 hi
    obtain ⟨y, hy, rfl⟩ := (hun i).2 hu
    have hyo := hop y hy
    rw [ho] at hyo
    cases hyo
    obtain ⟨l1, l2, rfl⟩ := List.append_of_mem hy
    have hpw' := List.pairwise_append.1 hpw
    have hap : ∀ x ∈ l1, x.lg.apart y.lg = true := fun x hx => by
      have := (hpw'.2.2 x hx y (by simp)).2
      rcases this with he | ha
      · exfalso
        have hux : listed.getD x.i true = false := (hun x.i).1 ⟨x, by simp [hx], rfl⟩
        have := edgeN_listed hcl 5 x.i y.i _ ho hall he
        rcases Nat.lt_or_ge x.i listed.size with h' | h'
        · simp [h'] at hux this; rw [hux] at this; cases this
        · simp [Array.getElem?_eq_none h'] at this
      · exact ha
    obtain ⟨g1, g2⟩ := to_front hch hap
    have hyi : y.i < ops.size := (Array.getElem?_eq_some_iff.1 ho).1
    refine op_step hE hR ho (fun z hz => hd y.o (List.mem_of_getElem? (by simpa using ho)) z hz) g1 fun ρ' ow' a' w' hR' => ?_
    have hne : ∀ x ∈ l1 ++ l2, x.i ≠ y.i := fun x hx => by
      rcases List.mem_append.1 hx with hx | hx
      · have := (hpw'.2.2 x hx y (by simp)).1; omega
      · have := ((List.pairwise_cons.1 hpw'.2.1).1 x hx).1; omega
    refine ih (l := l1 ++ l2) (by simp at hlen ⊢; omega) (by simpa using hsz) (fun i => ⟨?_, fun hi => ?_⟩) (fun x hx => hop x (by rcases List.mem_append.1 hx with hx | hx <;> simp [hx])) (fun j q hq hj e he hb => ?_) ?_ g2 hR'
    · rintro ⟨x, hx, rfl⟩
      rw [getD_set_ne true (Ne.symm (hne x hx))]
      exact (hun x.i).1 ⟨x, by rcases List.mem_append.1 hx with hx | hx <;> simp [hx], rfl⟩
    · by_cases e : i = y.i
      · subst e; simp [hsz, hyi] at hi
      · rw [getD_set_ne true (Ne.symm e)] at hi
        obtain ⟨x, hx, rfl⟩ := (hun i).2 hi
        refine ⟨x, ?_, rfl⟩
        rcases List.mem_append.1 hx with hx | hx
        · simp [hx]
        · rcases List.mem_cons.1 hx with rfl | hx
          · exact absurd rfl e
          · simp [hx]
    · by_cases e' : y.i = j
      · subst e'
        rw [ho] at hq; cases hq
        exact getD_set_true (hall e he hb)
      · rw [getD_set_ne false e'] at hj
        exact getD_set_true (hcl j q hq hj e he hb)
    · exact hpw.sublist (List.Sublist.append_left (List.sublist_cons_self y l2) l1)
theorem okWithT_spec {ops : Array Oper} {y : Lg} : ∀ {L : List Lg}, y.okWithT ops L = true → ∀ x ∈ L, edgeT ops x.i y.i = true ∨ x.apart y = true
  | [], _, x, hx => by cases hx
  | z :: L, h, x, hx => by
    simp only [Lg.okWithT, Bool.and_eq_true, Bool.or_eq_true] at h
    rcases List.mem_cons.1 hx with rfl | hx
    · rcases h.1 with h1 | h1 | h1
      · refine .inl ?_
        unfold edge at h1
        unfold edgeT
        cases ho : ops[y.i]? with
        | none => rw [ho] at h1; cases h1
        | some o =>
          rw [ho] at h1
          obtain ⟨e, he1, he2⟩ := Array.any_eq_true'.1 h1
          simp only [edgeN, ho]
          refine Array.any_eq_true'.2 ⟨e, he1, ?_⟩
          simp only [Bool.and_eq_true] at he2
          rw [he2.1, he2.2]; rfl
      · exact .inr h1
      · exact .inl h1
    · exact okWithT_spec h.2 x hx
theorem regDr_chainT {C : FuncId → Pk → Rs → Prop} {O : Oracle} (hO : OkO C O) {R : Type} {ops : Array Oper} : ∀ {l : List Oper} {n : Nat} {L : List Lg} {S : St} {K : St → Option R} {x : R}, ops.toList.drop n = l → regDrT E O ops l n L S K = some x →
    ∃ S' its, K S' = some x ∧ Chain C E ops S its S' ∧ its.length = l.length ∧ (∀ z ∈ its, ops[z.i]? = some z.o ∧ n ≤ z.i ∧ ∀ q ∈ L, edgeT ops q.i z.i = true ∨ q.apart z.lg = true) ∧ List.Pairwise (ApartT ops) its ∧ (∀ i, (∃ z ∈ its, z.i = i) ↔ n ≤ i ∧ i < ops.size)
  | [], n, L, S, K, x, hl, h => by
      have hn : ops.size ≤ n := by
        have := congrArg List.length hl
        simp at this; omega
      refine ⟨S, [], h, rfl, rfl, (fun z hz => by cases hz), List.Pairwise.nil, fun i => ?_⟩
      simp; omega
  | o :: l, n, L, S, K, x, hl, h => by
    simp only [regDrT] at h
    obtain ⟨wr, rt, rb, hr, h1⟩ := opGo_runs hO h
    split at h1
    · rename_i hok
      have hn : ops[n]? = some o := by
        have : (ops.toList.drop n)[0]? = some o := by rw [hl]; rfl
        rw [List.getElem?_drop] at this; simpa using this
      have hl' : ops.toList.drop (n + 1) = l := by rw [← List.drop_drop, hl]; rfl
      obtain ⟨S', its, hS, hch, hlen, hmem, hpw, hun⟩ := regDr_chainT hO hl' h1
      have hsz := (Array.getElem?_eq_some_iff.1 hn).1
      refine ⟨S', ⟨n, o, wr, rt, rb⟩ :: its, hS, ⟨hr, hch⟩, by simp [hlen], fun z hz => ?_, List.pairwise_cons.2 ⟨fun z hz => ?_, hpw⟩, fun i => ?_⟩
      · rcases List.mem_cons.1 hz with rfl | hz
        · exact ⟨hn, Nat.le_refl _, okWithT_spec hok⟩
        · obtain ⟨q1, q2, q3⟩ := hmem z hz
          exact ⟨q1, by omega, fun q hq => q3 q (by simp [hq])⟩
      · obtain ⟨q1, q2, q3⟩ := hmem z hz
        exact ⟨by show n < z.i; omega, q3 _ (List.mem_append_right _ (List.mem_singleton.2 rfl))⟩
      · constructor
        · rintro ⟨z, hz, rfl⟩
          rcases List.mem_cons.1 hz with rfl | hz
          · exact ⟨Nat.le_refl _, hsz⟩
          · have := (hun z.i).1 ⟨z, hz, rfl⟩; omega
        · rintro ⟨h1, h2⟩
          by_cases e : i = n
          · exact ⟨_, List.mem_cons_self, e.symm⟩
          · obtain ⟨z, hz, e2⟩ := (hun i).2 ⟨by omega, h2⟩
            exact ⟨z, List.mem_cons_of_mem _ hz, e2⟩
    · cases h1
theorem regionD_ok (hE : EnvOk P E) {O : Oracle} (hO : OkO (Ct P) O) (hm : P.follows .mixedOrders = true) {R : Type} {X : Cx} (hXE : X.E = E) (hXO : X.O = O) {id : Nat} {ops : Array Oper} {draw : Bool} {K : Ex → St → Option R} {x : R} (h : execD X (.region id ops draw) S K = some x) :
    ∃ S', K .normal S' = some x ∧ ∀ (G : Bg) (ρ : Nat → Value) (ow : Nat → Option Nat) (a : Act) (w : World) (Q : Exit → Act → World → Prop), G.nt = X.nt → Rel G S ρ ow a w → (∀ ρ' ow' a' w', Rel G S' ρ' ow' a' w' → Q .normal a' w') → (Code.region id ops draw).wp P Q a w := by
  subst hXE; subst hXO
  simp only [execD] at h
  split at h
  · rename_i hdst
    have hd := okDst_mem hdst
    split at h
    · rename_i hdr
      subst hdr
      split at h
      · rename_i hed
        obtain ⟨S', its, hS, hch, hlen, hmem, hpw, hun⟩ := regDr_chainT hO (n := 0) (by simp) h
        refine ⟨S', hS, fun G ρ ow a w Q hnt hR hQ => wp_region_any hm ?_⟩
        refine any_okT hE (fun i o ho e he hb => ?_) (fun o ho x hx => by rw [hnt]; exact hd o ho x hx) hQ (l := its) (by simp at hlen; omega) (by simp) (fun i => ?_) (fun z hz => (hmem z hz).1) (fun j q _ hj => ?_) hpw hch hR.drew
        · have := edOk_spec hed i o (by simpa using ho) e he hb; omega
        · rw [hun i]
          constructor
          · rintro ⟨_, h2⟩; simp [h2]
          · intro h2
            refine ⟨Nat.zero_le _, ?_⟩
            apply Classical.byContradiction
            intro hc
            simp [Array.getElem?_eq_none (xs := Array.replicate ops.size false) (i := i) (by simp; omega)] at h2
        · exfalso
          rcases Nat.lt_or_ge j ops.size with h' | h'
          · simp [h'] at hj
          · simp [Array.getElem?_eq_none (xs := Array.replicate ops.size false) (i := j) (by simp; omega)] at hj
      · cases h
    · rename_i hdr
      have : draw = false := by simpa using hdr
      subst this
      obtain ⟨S', hS, hw⟩ := regGo_ok hE hO hd (n := 0) (by simp) h
      refine ⟨S', hS, fun G ρ ow a w Q hnt hR hQ => wp_region ?_⟩
      have := hw G ρ ow a w Q hnt hR hQ
      rw [List.range_eq_range']
      simpa using this
  · cases h
theorem execD_ok (hE : EnvOk P E) {O : Oracle} (hO : OkO (Ct P) O) (hm : P.follows .mixedOrders = true) {R : Type} {X : Cx} (hXE : X.E = E) (hXO : X.O = O) : ∀ {c : Code} {S : St} {K : Ex → St → Option R} {x : R}, execD X c S K = some x →
    ∃ e S', K e S' = some x ∧ Goes P X.nt X.n0 c S e S'
  | .skip, S, K, x, h => ⟨.normal, S, h, fun G a w _ _ hA => wp_skip ⟨trivial, hA⟩⟩
  | .region id ops draw, S, K, x, h => by
    obtain ⟨S', h1, h2⟩ := regionD_ok hE hO hm hXE hXO h
    exact ⟨.normal, S', h1, fun G a w hnt _ ⟨ρ, ow, hR⟩ => h2 G ρ ow a w _ hnt hR fun ρ' ow' a' w' hR' => ⟨trivial, ρ', ow', hR'⟩⟩
  | .seq p q, S, K, x, h => by
    simp only [execD] at h
    obtain ⟨e, S1, h1, g1⟩ := execD_ok hE hO hm hXE hXO h
    cases e with
    | normal =>
      obtain ⟨e2, S2, h2, g2⟩ := execD_ok hE hO hm hXE hXO h1
      refine ⟨e2, S2, h2, fun G a w hnt hn0 hA => wp_seq (wp_mono (g1 G a w hnt hn0 hA) fun e' a' w' hq => ?_)⟩
      cases e' with
      | normal => exact g2 G a' w' hnt hn0 hq.2
      | _ => exact hq.1.elim
    | exit i =>
      refine ⟨.exit i, S1, h1, fun G a w hnt hn0 hA => wp_seq (wp_mono (g1 G a w hnt hn0 hA) fun e' a' w' hq => ?_)⟩
      cases e' with
      | exit j => exact hq
      | _ => exact hq.1.elim
    | ret =>
      refine ⟨.ret, S1, h1, fun G a w hnt hn0 hA => wp_seq (wp_mono (g1 G a w hnt hn0 hA) fun e' a' w' hq => ?_)⟩
      cases e' with
      | ret => exact hq
      | _ => exact hq.1.elim
  | .cond c p q, S, K, x, h => by
    simp only [execD] at h
    subst hXO
    obtain ⟨y, _, _, hr, h1⟩ := go_runs hO S _ _ _ _ _ h
    have hev : ∀ (G : Bg) (a : Act) (w : World), At G S a w → a.eval c = .bool y := fun G a w ⟨ρ, ow, hR⟩ => by
      obtain ⟨v, _, hv, hr1⟩ := runs_evO hR hr
      obtain ⟨b, hb, hr2⟩ := runs_asBool hr1
      subst hb
      obtain ⟨rfl, _, _⟩ := hr2
      exact hv
    cases y with
    | true =>
      obtain ⟨e, S', h2, g2⟩ := execD_ok hE hO hm hXE rfl h1
      exact ⟨e, S', h2, fun G a w hnt hn0 hA => wp_cond_true (hev G a w hA) (g2 G a w hnt hn0 hA)⟩
    | false =>
      obtain ⟨e, S', h2, g2⟩ := execD_ok hE hO hm hXE rfl h1
      exact ⟨e, S', h2, fun G a w hnt hn0 hA => wp_cond_false (hev G a w hA) (g2 G a w hnt hn0 hA)⟩
  | .ret, S, K, x, h => ⟨.ret, S, h, fun G a w _ _ hA => wp_ret ⟨trivial, hA⟩⟩
  | .rangeFunc .., _, _, _, h => by simp [execD] at h
  | .scope _, _, _, _, h => by simp [execD] at h
  | .goto _, _, _, _, h => by simp [execD] at h
  | .refuse _, _, _, _, h => by simp [execD] at h
  | .block _ _, _, _, _, h => by simp [execD] at h
  | .loop _, _, _, _, h => by simp [execD] at h
  | .exit _, _, _, _, h => by simp [execD] at h
  | .label _, _, _, _, h => by simp [execD] at h
theorem callD_ok (hE : EnvOk P E) {O : Oracle} (hO : OkO (Ct P) O) (hm : P.follows .mixedOrders = true) {g : FuncId} {fn : Func} (hfn : P.funcs[g]? = some fn) (hname : (fn.name == "runtime.NumGoroutine") = false) {live : Nat → List Nat} {n : Nat} {A : Pk} {R : Type} {K : Rs → Option R} {x : R}
    (h : callD E O live fn n A K = some x) : ∃ r, Ct P g A r ∧ K r = some x := by
  unfold callD at h
  split at h
  · rename_i c hc
    split at h
    · rename_i hlen
      obtain ⟨e, S', h1, g1⟩ := execD_ok (X := ⟨E, O, A.bl.length, fn.ntmps, live⟩) hE hO hm rfl rfl h
      have h2 : finish E O fn A.bl.length S' K = some x ∧ (e = .normal ∨ e = .ret) := by
        cases e with
        | exit i => cases h1
        | normal => exact ⟨h1, .inl rfl⟩
        | ret => exact ⟨h1, .inr rfl⟩
      obtain ⟨h2, he⟩ := h2
      unfold finish at h2
      split at h2
      · rename_i l hl
        obtain ⟨y, _, _, hr, h3⟩ := go_runs hO S' _ _ _ _ _ h2
        obtain ⟨acc, hP, hF, hl0, hold, hnew⟩ := runs_compact hr
        split at h3
        · rename_i v0 hv0
          split at h3
          · rename_i hall
            refine ⟨_, ⟨⟨fn, hfn, hname, by rw [hc]; rfl⟩, fun w ρ ow vs htb hb hFv ho hno => ?_⟩, h3⟩
            have hvl : vs.size = A.avs.length := by have := hFv.len; simpa using this.symm
            refine calls_of_wp hfn hc (wp_mono (g1 ⟨A.bl.length, blF A.bl, ρ, ow, w, fn.ntmps⟩ _ w rfl rfl ⟨ρ, ow, ?_⟩) fun e' a' w' hq => ?_)
            · refine ⟨by simp; omega, rfl, start_tm hFv _, hb, fun g i hg => ?_, ⟨rfl, rfl, rfl, Nat.le_refl _, fun _ _ _ => rfl⟩, fun i hi => ?_, htb⟩
              · obtain ⟨q1, q2⟩ := ho g i hg
                exact ⟨q1, q2, .inr (by show ow g ≠ none; rw [hg]; simp)⟩
              · refine ⟨?_, rfl, id, fun own k xs hbi => ⟨own, xs, hbi, rfl⟩⟩
                have : blF A.bl i = A.bl[i]'hi := by simp [blF, List.getElem?_eq_getElem (show i < A.bl.length from hi)]
                show blF A.bl i ≠ _
                rw [this]
                exact hno _ (List.getElem_mem _)
            · obtain ⟨hal, ρ', ow', hR⟩ := hq
              obtain ⟨v, hv, hV⟩ := results_ok hE hR hl
              have hBe : blF (y.2.1 ++ y.2.2) = newB' y.2.1 acc := by rw [hnew]; rfl
              have hownS : ∀ g i, ow' g = some i → (S'.b i).own = true := fun g i e => (hR.own g i e).2.1
              have fin : a'.defers = [] ∧ ∃ v, (results fn a'.tmps).run P w' = .ok v w' ∧ (∃ v_1 ρ'_1 ow'_1, Ending.returned v = .returned v_1 ∧ VV (blF (y.2.1 ++ y.2.2)) ρ'_1 v0 v_1 ∧ (∀ i, BlkOk (blF (y.2.1 ++ y.2.2)) w' ρ'_1 ow'_1 i (blF (y.2.1 ++ y.2.2) i)) ∧
                  (∀ g i, ow'_1 g = some i → g < w'.heap.size ∧ (blF (y.2.1 ++ y.2.2) i).own = true ∧ (w.heap.size ≤ g ∨ ow g ≠ none)) ∧ Fr ow w w' ∧
                  (∀ i, i < A.bl.length → blF (y.2.1 ++ y.2.2) i ≠ .no ∧ ρ'_1 i = ρ i ∧ ((blF (y.2.1 ++ y.2.2) i).own = true → (blF A.bl i).own = true) ∧ ∀ own k xs, blF (y.2.1 ++ y.2.2) i = .row own k xs → ∃ own' xs', blF A.bl i = .row own' k xs' ∧ xs'.length = xs.length) ∧
                  (∀ i, A.bl.length ≤ i → i < (y.2.1 ++ y.2.2).length → (blF (y.2.1 ++ y.2.2) i).own = true)) := by
                refine ⟨hR.defers, v, hv, v, tρ A.bl.length ρ' acc, tow A.bl.length ow' acc, rfl, ?_, ?_, fun g i hg => ?_, hR.fr, fun i hi => ?_, fun i h1 h2 => ?_⟩
                · rw [hBe]
                  rw [hv0] at hF
                  exact VV.pack hP hl0 hold hF.1 hV
                · rw [hBe]; exact blk_pack hP hl0 hold hR.bl
                · rw [hBe]
                  obtain ⟨h1, h2⟩ := own_pack hP hl0 hold hownS hg
                  obtain ⟨i', hi'⟩ := Option.ne_none_iff_exists'.1 h2
                  exact ⟨(hR.own g i' hi').1, h1, (hR.own g i' hi').2.2⟩
                · rw [hBe]
                  obtain ⟨b, e1, e2⟩ := newB_old (acc := acc) hl0 hi
                  obtain ⟨q1, q2, q3, q4⟩ := hR.m0 i hi
                  have ho := hold i b e1
                  rw [e2]
                  refine ⟨ho.ne, by simp only [tρ]; rw [if_pos hi]; exact q2, fun hb => q3 ?_, fun own k xs hb => ?_⟩
                  · rcases ho with ⟨own, l, l', p1, p2, _⟩ | ⟨p1, _⟩
                    · rw [p1]; rw [p2] at hb; exact hb
                    · rw [p1]; exact hb
                  · rcases ho with ⟨own', l, l', p1, p2, _⟩ | ⟨p1, _⟩
                    · rw [p2] at hb; cases hb
                    · exact q4 own k xs (by rw [p1]; exact hb)
                · have hlt : i - A.bl.length < y.2.2.length := by simp at h2; omega
                  have e1 : blF (y.2.1 ++ y.2.2) i = y.2.2[i - A.bl.length]'hlt := by
                    simp only [blF]
                    rw [List.getElem?_append_right (by omega)]
                    simp only [hl0]
                    rw [List.getElem?_eq_getElem hlt]
                  rw [e1]
                  exact List.all_eq_true.1 hall _ (List.getElem_mem _)
              rcases he with rfl | rfl
              · cases e' with
                | normal => exact fin
                | _ => exact hal.elim
              · cases e' with
                | ret => exact fin
                | _ => exact hal.elim
          · cases h3
        · cases h3
      · cases h2
    · cases h
  · cases h
end
end Go.Proofs.YtlenacakmmikiaaGreatDoorX
