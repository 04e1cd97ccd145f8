/- Code, loops, and the contract of a function. -/
import Derived.Test.YtlenacakmmikiaaGreatDoorX9
namespace Go.Proofs.YtlenacakmmikiaaGreatDoorX
open Go
set_option linter.unusedVariables false
set_option linter.unusedSimpArgs false
def Alike : Ex → Exit → Prop
  | .normal, .normal => True
  | .exit i, .exit j => j = i
  | .ret, .ret => True
  | _, _ => False
def resM (tmps : Array Value) (r : ResultVar) : Sem Value :=
  match r with
  | .tmp t => pure (tmps.getD t undef)
  | .cell a t => do loadVar t (← asAddr (tmps.getD a undef))
theorem results_eq (fn : Func) (tmps : Array Value) : results fn tmps = (do let vs ← fn.results.mapM (resM tmps); pure (if h : vs.size = 1 then vs[0] else .tuple vs)) := by
  unfold results
  congr 1
section
variable {G : Bg} {S : St} {ρ : Nat → Value} {ow : Nat → Option Nat} {a : Act} {w : World} {P : Program} {E : Env}
def At (G : Bg) (S : St) (a : Act) (w : World) : Prop := ∃ ρ ow, Rel G S ρ ow a w
def Post (G : Bg) (e : Ex) (S : St) : Exit → Act → World → Prop := fun e' a w => Alike e e' ∧ At G S a w
theorem runs_compact {C : FuncId → Pk → Rs → Prop} {n0 : Nat} {roots : List AV} {lt lb lt' lb' : List Nat} {y : List AV × List Blk × List Blk} (hr : Runs C S (compact n0 roots) lt lb y lt' lb') :
    ∃ acc, Pkd n0 S acc ∧ F2 (PV n0 acc) roots y.1 ∧ y.2.1.length = n0 ∧ (∀ (i : Nat) (b : Blk), y.2.1[i]? = some b → OldR n0 S acc i b) ∧ y.2.2 = acc.map (·.2) := by
  unfold compact at hr
  obtain ⟨rs, acc, _, h1, _, p1, hr1⟩ := runs_packVs (Pkd.nil n0 S) hr
  obtain ⟨olds, acc', _, h2, s2, e2, p2, hr2⟩ := runs_packOld h1 hr1
  obtain ⟨rfl, _, _⟩ := hr2
  exact ⟨acc', h2, p1.mono fun _ _ => PV.sub s2, e2, fun i b e => by have := p2 i b e; rwa [Nat.zero_add] at this, rfl⟩
theorem tmF_ok {B : Nat → Blk} {ρ : Nat → Value} {f : Nat → Value} : ∀ {live : List Nat} {rs : List AV}, F2 (VV B ρ) rs (live.map f) → ∀ t, VV B ρ (tmF live rs t) (f t)
  | [], rs, h, t => by rw [h.len.symm.symm |> fun _ => (show rs = [] by cases rs with | nil => rfl | cons _ _ => exact h.elim)]; trivial
  | d :: r, [], h, t => h.elim
  | d :: r, x :: s, h, t => by
    simp only [tmF]
    by_cases e : t = d
    · subst e; rw [if_pos rfl]; exact h.1
    · rw [if_neg e]; exact tmF_ok h.2 t
theorem trim_ok {O : Oracle} (hO : OkO (Ct P) O) {n0 : Nat} {live : List Nat} {R : Type} {K : St → Option R} {x : R} (h : trim O n0 live S K = some x) :
    ∃ S', K S' = some x ∧ ∀ (G : Bg) (ρ : Nat → Value) (ow : Nat → Option Nat) (a : Act) (w : World), G.n0 = n0 → Rel G S ρ ow a w → ∃ ρ' ow', Rel G S' ρ' ow' a w := by
  unfold trim at h
  obtain ⟨y, lt', lb', hr, hK⟩ := go_runs hO S _ _ _ _ _ h
  obtain ⟨acc, hP, hF, hl, hold, hnew⟩ := runs_compact hr
  refine ⟨_, hK, fun G ρ ow a w hn hR => ⟨tρ n0 ρ acc, tow n0 ow acc, ?_⟩⟩
  have hownS : ∀ g i, ow g = some i → (S.b i).own = true := fun g i e => (hR.own g i e).2.1
  have hBe : blF (y.2.1 ++ y.2.2) = newB' y.2.1 acc := by rw [hnew]; rfl
  refine ⟨hR.size, hR.defers, ?_, ?_, ?_, hR.fr, ?_, hR.tb⟩
  · show ∀ t, VV (blF (y.2.1 ++ y.2.2)) _ (tmF live y.1 t) _
    rw [hBe]
    refine tmF_ok (f := fun t => a.tmps.getD t undef) ?_
    have key : ∀ l : List Nat, F2 (VV S.b ρ) (l.map S.t) (l.map fun t => a.tmps.getD t undef) := by
      intro l
      induction l with
      | nil => trivial
      | cons t r ih => exact ⟨hR.tm t, ih⟩
    have := key live
    exact F2.trans' (δ := Unit) (R1 := PV n0 acc) (R2 := VV S.b ρ) (R3 := VV (newB' y.2.1 acc) (tρ n0 ρ acc)) (fun _ _ _ p q => VV.pack hP hl hold p q) hF this
  · show ∀ i, BlkOk (blF (y.2.1 ++ y.2.2)) w _ _ i (blF (y.2.1 ++ y.2.2) i)
    rw [hBe]
    exact blk_pack hP hl hold hR.bl
  · intro g i hg
    show g < _ ∧ (blF (y.2.1 ++ y.2.2) i).own = true ∧ _
    rw [hBe]
    obtain ⟨h1, h2⟩ := own_pack hP hl hold hownS hg
    obtain ⟨i', hi'⟩ := Option.ne_none_iff_exists'.1 h2
    exact ⟨(hR.own g i' hi').1, h1, (hR.own g i' hi').2.2⟩
  · intro i hi
    rw [hn] at hi
    show blF (y.2.1 ++ y.2.2) i ≠ _ ∧ _ ∧ ((blF (y.2.1 ++ y.2.2) i).own = true → _) ∧ ∀ own k xs, blF (y.2.1 ++ y.2.2) i = _ → _
    rw [hBe]
    obtain ⟨b, e1, e2⟩ := newB_old (acc := acc) hl hi
    obtain ⟨q1, q2, q3, q4⟩ := hR.m0 i (by rw [hn]; exact hi)
    have ho := hold i b e1
    rw [e2]
    refine ⟨ho.ne, by simp only [tρ]; rw [if_pos hi]; exact q2, fun hb => q3 ?_, fun own k xs hb => ?_⟩
    · rcases ho with ⟨own, l, l', p1, p2, _⟩ | ⟨p1, _⟩
      · rw [p1]; rw [p2] at hb; exact hb
      · rw [p1]; exact hb
    · rcases ho with ⟨own', l, l', p1, p2, _⟩ | ⟨p1, _⟩
      · rw [p2] at hb; cases hb
      · exact q4 own k xs (by rw [p1]; exact hb)
/-- What a walk of code comes to. -/
def Goes (P : Program) (nt n0 : Nat) (c : Code) (S : St) (e : Ex) (S' : St) : Prop :=
  ∀ (G : Bg) (a : Act) (w : World), G.nt = nt → G.n0 = n0 → At G S a w → c.wp P (Post G e S') a w
theorem iter_ok {nt n0 : Nat} {c : Code} {R : Type} {tr : St → (St → Option R) → Option R} {body : St → (Ex → St → Option R) → Option R}
    (htr : ∀ S K x, tr S K = some x → ∃ S', K S' = some x ∧ ∀ (G : Bg) (a : Act) (w : World), G.n0 = n0 → At G S a w → At G S' a w)
    (hb : ∀ S K x, body S K = some x → ∃ e S', K e S' = some x ∧ Goes P nt n0 c S e S') :
    ∀ {n : Nat} {S : St} {K : Ex → St → Option R} {x : R}, iter tr body n S K = some x → ∃ e S', K e S' = some x ∧ (∀ (G : Bg) (a : Act) (w : World), G.nt = nt → G.n0 = n0 → At G S a w →
      ∀ (b : Frame) (k : List Item) (cs : List Frame), ∃ e' a' w', Post G e S' e' a' w' ∧ e' ≠ .normal ∧ Arrives P (lone (b.at a (.code c :: .inLoop c :: k)) cs w) b k cs e' a' w')
  | 0, S, K, x, h => by simp [iter] at h
  | n + 1, S, K, x, h => by
    simp only [iter] at h
    obtain ⟨S1, h1, g1⟩ := htr _ _ _ h
    obtain ⟨e, S2, h2, g2⟩ := hb _ _ _ h1
    have leave : e ≠ .normal → K e S2 = some x → ∃ e S', K e S' = some x ∧ (∀ (G : Bg) (a : Act) (w : World), G.nt = nt → G.n0 = n0 → At G S a w →
        ∀ (b : Frame) (k : List Item) (cs : List Frame), ∃ e' a' w', Post G e S' e' a' w' ∧ e' ≠ .normal ∧ Arrives P (lone (b.at a (.code c :: .inLoop c :: k)) cs w) b k cs e' a' w') := by
      intro hne hk
      refine ⟨e, S2, hk, fun G a w hnt hn0 hA b k cs => ?_⟩
      obtain ⟨e', a', w', hq, harr⟩ := g2 G a w hnt hn0 (g1 G a w hn0 hA) b (.inLoop c :: k) cs
      have hne' : e' ≠ .normal := by
        intro he
        subst he
        cases e with
        | normal => exact hne rfl
        | exit i => exact hq.1
        | ret => exact hq.1
      refine ⟨e', a', w', hq, hne', .pass (x := .inLoop c) rfl (fun _ _ => .inl hne') harr⟩
    cases e with
    | normal =>
      obtain ⟨e3, S3, h3, g3⟩ := iter_ok htr hb h2
      refine ⟨e3, S3, h3, fun G a w hnt hn0 hA b k cs => ?_⟩
      obtain ⟨e', a', w', hq, harr⟩ := g2 G a w hnt hn0 (g1 G a w hn0 hA) b (.inLoop c :: k) cs
      cases e' with
      | normal =>
        obtain ⟨e2, a2, w2, hq2, hne2, harr2⟩ := g3 G a' w' hnt hn0 hq.2 b k cs
        exact ⟨e2, a2, w2, hq2, hne2, .of_steps (Steps.trans harr (.one step_inLoop)) harr2⟩
      | _ => exact hq.1.elim
    | exit i => exact leave (by simp) h2
    | ret => exact leave (by simp) h2
theorem exec_ok (hE : EnvOk P E) {O : Oracle} (hO : OkO (Ct P) O) (hm : P.follows .mixedOrders = true) {R : Type} {X : Cx} (hXE : X.E = E) (hXO : X.O = O) {n : Nat} : ∀ {c : Code} {S : St} {K : Ex → St → Option R} {x : R}, exec X n c S K = some x →
    ∃ e S', K e S' = some x ∧ Goes P X.nt X.n0 c S e S'
  | .skip, S, K, x, h => ⟨.normal, S, h, fun G a w _ _ hA => wp_skip ⟨trivial, hA⟩⟩
  | .label l, S, K, x, h => ⟨.normal, S, h, fun G a w _ _ hA => wp_label ⟨trivial, hA⟩⟩
  | .region id ops draw, S, K, x, h => by
    obtain ⟨S', h1, h2⟩ := region_ok hE hO hm hXE hXO h
    exact ⟨.normal, S', h1, fun G a w hnt _ ⟨ρ, ow, hR⟩ => h2 G ρ ow a w _ hnt hR fun ρ' ow' a' w' hR' => ⟨trivial, ρ', ow', hR'⟩⟩
  | .seq p q, S, K, x, h => by
    simp only [exec] at h
    obtain ⟨e, S1, h1, g1⟩ := exec_ok hE hO hm hXE hXO h
    cases e with
    | normal =>
      obtain ⟨e2, S2, h2, g2⟩ := exec_ok hE hO hm hXE hXO h1
      refine ⟨e2, S2, h2, fun G a w hnt hn0 hA => wp_seq (wp_mono (g1 G a w hnt hn0 hA) fun e' a' w' hq => ?_)⟩
      cases e' with
      | normal => exact g2 G a' w' hnt hn0 hq.2
      | _ => exact hq.1.elim
    | exit i =>
      refine ⟨.exit i, S1, h1, fun G a w hnt hn0 hA => wp_seq (wp_mono (g1 G a w hnt hn0 hA) fun e' a' w' hq => ?_)⟩
      cases e' with
      | exit j => exact hq
      | _ => exact hq.1.elim
    | ret =>
      refine ⟨.ret, S1, h1, fun G a w hnt hn0 hA => wp_seq (wp_mono (g1 G a w hnt hn0 hA) fun e' a' w' hq => ?_)⟩
      cases e' with
      | ret => exact hq
      | _ => exact hq.1.elim
  | .cond c p q, S, K, x, h => by
    simp only [exec] at h
    subst hXO
    obtain ⟨y, _, _, hr, h1⟩ := go_runs hO S _ _ _ _ _ h
    have hev : ∀ (G : Bg) (a : Act) (w : World), At G S a w → a.eval c = .bool y := fun G a w ⟨ρ, ow, hR⟩ => by
      obtain ⟨v, _, hv, hr1⟩ := runs_evO hR hr
      obtain ⟨b, hb, hr2⟩ := runs_asBool hr1
      subst hb
      obtain ⟨rfl, _, _⟩ := hr2
      exact hv
    cases y with
    | true =>
      obtain ⟨e, S', h2, g2⟩ := exec_ok hE hO hm hXE rfl h1
      exact ⟨e, S', h2, fun G a w hnt hn0 hA => wp_cond_true (hev G a w hA) (g2 G a w hnt hn0 hA)⟩
    | false =>
      obtain ⟨e, S', h2, g2⟩ := exec_ok hE hO hm hXE rfl h1
      exact ⟨e, S', h2, fun G a w hnt hn0 hA => wp_cond_false (hev G a w hA) (g2 G a w hnt hn0 hA)⟩
  | .block id c, S, K, x, h => by
    simp only [exec] at h
    obtain ⟨e, S1, h1, g1⟩ := exec_ok hE hO hm hXE hXO h
    cases e with
    | normal =>
      refine ⟨.normal, S1, h1, fun G a w hnt hn0 hA => wp_block (wp_mono (g1 G a w hnt hn0 hA) fun e' a' w' hq => ?_)⟩
      cases e' with
      | normal => exact hq
      | _ => exact hq.1.elim
    | ret =>
      refine ⟨.ret, S1, h1, fun G a w hnt hn0 hA => wp_block (wp_mono (g1 G a w hnt hn0 hA) fun e' a' w' hq => ?_)⟩
      cases e' with
      | ret => exact hq
      | _ => exact hq.1.elim
    | exit i =>
      dsimp only at h1
      split at h1
      · rename_i hi
        subst hi
        refine ⟨.normal, S1, h1, fun G a w hnt hn0 hA => wp_block (wp_mono (g1 G a w hnt hn0 hA) fun e' a' w' hq => ?_)⟩
        cases e' with
        | exit j => have := hq.1; simp only [Alike] at this; subst this; simp only [Exit.inBlock, if_true]; exact ⟨trivial, hq.2⟩
        | _ => exact hq.1.elim
      · rename_i hi
        refine ⟨.exit i, S1, h1, fun G a w hnt hn0 hA => wp_block (wp_mono (g1 G a w hnt hn0 hA) fun e' a' w' hq => ?_)⟩
        cases e' with
        | exit j => have := hq.1; simp only [Alike] at this; subst this; simp only [Exit.inBlock, hi, if_false]; exact ⟨rfl, hq.2⟩
        | _ => exact hq.1.elim
  | .loop c, S, K, x, h => by
    simp only [exec] at h
    subst hXO
    obtain ⟨e, S', h1, g1⟩ := iter_ok (P := P) (nt := X.nt) (n0 := X.n0) (c := c) (fun S K x h => by
      obtain ⟨S', h1, h2⟩ := trim_ok hO h
      exact ⟨S', h1, fun G a w hn ⟨ρ, ow, hR⟩ => h2 G ρ ow a w hn hR⟩) (fun S K x h => exec_ok hE hO hm hXE rfl h) h
    refine ⟨e, S', h1, fun G a w hnt hn0 hA b k cs => ?_⟩
    obtain ⟨e', a', w', hq, hne, harr⟩ := g1 G a w hnt hn0 hA b k cs
    exact ⟨e', a', w', hq, .of_steps (.one step_loop) harr⟩
  | .exit id, S, K, x, h => ⟨.exit id, S, h, fun G a w _ _ hA => wp_exit ⟨rfl, hA⟩⟩
  | .ret, S, K, x, h => ⟨.ret, S, h, fun G a w _ _ hA => wp_ret ⟨trivial, hA⟩⟩
  | .rangeFunc .., _, _, _, h => by simp [exec] at h
  | .scope _, _, _, _, h => by simp [exec] at h
  | .goto _, _, _, _, h => by simp [exec] at h
  | .refuse _, _, _, _, h => by simp [exec] at h

/-! ### Functions -/
theorem resV_ok (hE : EnvOk P E) (h : Rel G S ρ ow a w) {r : ResultVar} {x : A1} (hr : resV E S r = some x) :
    ∃ v, (resM a.tmps r).run P w = .ok v w ∧ V1 S.b ρ x v := by
  cases r with
  | tmp t =>
    simp only [resV] at hr
    have ht := h.tm t
    split at hr
    · rename_i y hy
      cases hr
      rw [hy] at ht
      exact ⟨_, rfl, ht⟩
    · cases hr
  | cell p t =>
    simp only [resV] at hr
    have ht := h.tm p
    split at hr
    · rename_i i off hp
      rw [hp] at ht
      obtain ⟨hno, g, hρ, he⟩ := ht
      have hb := h.bl i
      split at hr
      · rename_i own l hbi
        rw [hbi] at hb
        obtain ⟨g', cs, e, h1, h2, h3, h4⟩ := hb
        rw [hρ] at h1; cases h1
        obtain ⟨v, hv, hV⟩ := run_readA hE hr h3 (X := ⟨g, off, none⟩) fun m u hu => box_cell (B := S.b) h2 hu
        refine ⟨v, ?_, hV⟩
        show (do loadVar t (← asAddr (a.tmps.getD p undef)) : Sem Value).run P w = _
        rw [he]; simpa [asAddr] using hv
      · cases hr
    · cases hr
theorem resVs_ok (hE : EnvOk P E) (h : Rel G S ρ ow a w) : ∀ {rs : List ResultVar} {xs : List A1}, resVs E S rs = some xs →
    ∃ vs : List Value, (rs.mapM (resM a.tmps)).run P w = .ok vs w ∧ F2 (V1 S.b ρ) xs vs
  | [], xs, hr => by simp [resVs] at hr; subst hr; exact ⟨[], by simp, trivial⟩
  | r :: rs, xs, hr => by
    simp only [resVs] at hr
    split at hr
    · rename_i x xs' hx hxs
      cases hr
      obtain ⟨v, e1, e2⟩ := resV_ok hE h hx
      obtain ⟨vs, e3, e4⟩ := resVs_ok hE h hxs
      refine ⟨v :: vs, ?_, e2, e4⟩
      rw [List.mapM_cons]
      simp only [Sem.run_bind, e1, Result.andThen_ok, e3, Sem.run_pure]
    · cases hr
theorem results_ok (hE : EnvOk P E) (h : Rel G S ρ ow a w) {fn : Func} {xs : List A1} (hr : resVs E S fn.results.toList = some xs) : ∃ v, (results fn a.tmps).run P w = .ok v w ∧ VV S.b ρ (resAV xs) v := by
  obtain ⟨vs, e1, e2⟩ := resVs_ok hE h hr
  have hrun : (results fn a.tmps).run P w = .ok (if h : vs.toArray.size = 1 then vs.toArray[0] else .tuple vs.toArray) w := by
    rw [results_eq, Array.mapM_eq_mapM_toList, Sem.run_bind, Sem.run_map, e1]; rfl
  refine ⟨_, hrun, ?_⟩
  have hl := e2.len
  match xs, vs, e2 with
  | [], [], _ => exact ⟨#[], by simp, trivial⟩
  | [x], [v], e2 => simpa [resAV, VV] using e2.1
  | x :: y :: xs, u :: v :: vs, e2 => exact ⟨(u :: v :: vs).toArray, by simp, by simpa [resAV] using e2⟩
theorem start_tm {A : Pk} {vs : Array Value} {ρ : Nat → Value} (hF : F2 (V1 (blF A.bl) ρ) A.avs vs.toList) (n : Nat) (t : Nat) : VV (blF A.bl) ρ (startT A.avs t) ((vs ++ Array.replicate n undef).getD t undef) := by
  unfold startT
  split
  · rename_i x hx
    obtain ⟨v, hv, hV⟩ := hF.get hx
    have hv' : vs[t]? = some v := by simpa using hv
    have hlt := (Array.getElem?_eq_some_iff.1 hv').1
    have : (vs ++ Array.replicate n undef).getD t undef = v := by
      rw [Array.getD_eq_getD_getElem?, Array.getElem?_append_left hlt, hv']; rfl
    rw [this]
    exact hV
  · trivial
theorem callF_ok (hE : EnvOk P E) {O : Oracle} (hO : OkO (Ct P) O) (hm : P.follows .mixedOrders = true) {g : FuncId} {fn : Func} (hfn : P.funcs[g]? = some fn) (hname : (fn.name == "runtime.NumGoroutine") = false) {live : Nat → List Nat} {n : Nat} {A : Pk} {R : Type} {K : Rs → Option R} {x : R}
    (h : callF E O live fn n A K = some x) : ∃ r, Ct P g A r ∧ K r = some x := by
  unfold callF at h
  split at h
  · rename_i c hc
    split at h
    · rename_i hlen
      obtain ⟨e, S', h1, g1⟩ := exec_ok (X := ⟨E, O, A.bl.length, fn.ntmps, live⟩) hE hO hm rfl rfl h
      have h2 : finish E O fn A.bl.length S' K = some x ∧ (e = .normal ∨ e = .ret) := by
        cases e with
        | exit i => cases h1
        | normal => exact ⟨h1, .inl rfl⟩
        | ret => exact ⟨h1, .inr rfl⟩
      obtain ⟨h2, he⟩ := h2
      unfold finish at h2
      split at h2
      · rename_i l hl
        obtain ⟨y, _, _, hr, h3⟩ := go_runs hO S' _ _ _ _ _ h2
        obtain ⟨acc, hP, hF, hl0, hold, hnew⟩ := runs_compact hr
        split at h3
        · rename_i v0 hv0
          split at h3
          · rename_i hall
            refine ⟨_, ⟨⟨fn, hfn, hname, by rw [hc]; rfl⟩, fun w ρ ow vs htb hb hFv ho hno => ?_⟩, h3⟩
            have hvl : vs.size = A.avs.length := by have := hFv.len; simpa using this.symm
            refine calls_of_wp hfn hc (wp_mono (g1 ⟨A.bl.length, blF A.bl, ρ, ow, w, fn.ntmps⟩ _ w rfl rfl ⟨ρ, ow, ?_⟩) fun e' a' w' hq => ?_)
            · refine ⟨by simp; omega, rfl, start_tm hFv _, hb, fun g i hg => ?_, ⟨rfl, rfl, rfl, Nat.le_refl _, fun _ _ _ => rfl⟩, fun i hi => ?_, htb⟩
              · obtain ⟨q1, q2⟩ := ho g i hg
                exact ⟨q1, q2, .inr (by show ow g ≠ none; rw [hg]; simp)⟩
              · refine ⟨?_, rfl, id, fun own k xs hbi => ⟨own, xs, hbi, rfl⟩⟩
                have : blF A.bl i = A.bl[i]'hi := by simp [blF, List.getElem?_eq_getElem (show i < A.bl.length from hi)]
                show blF A.bl i ≠ _
                rw [this]
                exact hno _ (List.getElem_mem _)
            · obtain ⟨hal, ρ', ow', hR⟩ := hq
              obtain ⟨v, hv, hV⟩ := results_ok hE hR hl
              have hBe : blF (y.2.1 ++ y.2.2) = newB' y.2.1 acc := by rw [hnew]; rfl
              have hownS : ∀ g i, ow' g = some i → (S'.b i).own = true := fun g i e => (hR.own g i e).2.1
              have fin : a'.defers = [] ∧ ∃ v, (results fn a'.tmps).run P w' = .ok v w' ∧ (∃ v_1 ρ'_1 ow'_1, Ending.returned v = .returned v_1 ∧ VV (blF (y.2.1 ++ y.2.2)) ρ'_1 v0 v_1 ∧ (∀ i, BlkOk (blF (y.2.1 ++ y.2.2)) w' ρ'_1 ow'_1 i (blF (y.2.1 ++ y.2.2) i)) ∧
                  (∀ g i, ow'_1 g = some i → g < w'.heap.size ∧ (blF (y.2.1 ++ y.2.2) i).own = true ∧ (w.heap.size ≤ g ∨ ow g ≠ none)) ∧ Fr ow w w' ∧
                  (∀ i, i < A.bl.length → blF (y.2.1 ++ y.2.2) i ≠ .no ∧ ρ'_1 i = ρ i ∧ ((blF (y.2.1 ++ y.2.2) i).own = true → (blF A.bl i).own = true) ∧ ∀ own k xs, blF (y.2.1 ++ y.2.2) i = .row own k xs → ∃ own' xs', blF A.bl i = .row own' k xs' ∧ xs'.length = xs.length) ∧
                  (∀ i, A.bl.length ≤ i → i < (y.2.1 ++ y.2.2).length → (blF (y.2.1 ++ y.2.2) i).own = true)) := by
                refine ⟨hR.defers, v, hv, v, tρ A.bl.length ρ' acc, tow A.bl.length ow' acc, rfl, ?_, ?_, fun g i hg => ?_, hR.fr, fun i hi => ?_, fun i h1 h2 => ?_⟩
                · rw [hBe]
                  rw [hv0] at hF
                  exact VV.pack hP hl0 hold hF.1 hV
                · rw [hBe]; exact blk_pack hP hl0 hold hR.bl
                · rw [hBe]
                  obtain ⟨h1, h2⟩ := own_pack hP hl0 hold hownS hg
                  obtain ⟨i', hi'⟩ := Option.ne_none_iff_exists'.1 h2
                  exact ⟨(hR.own g i' hi').1, h1, (hR.own g i' hi').2.2⟩
                · rw [hBe]
                  obtain ⟨b, e1, e2⟩ := newB_old (acc := acc) hl0 hi
                  obtain ⟨q1, q2, q3, q4⟩ := hR.m0 i hi
                  have ho := hold i b e1
                  rw [e2]
                  refine ⟨ho.ne, by simp only [tρ]; rw [if_pos hi]; exact q2, fun hb => q3 ?_, fun own k xs hb => ?_⟩
                  · rcases ho with ⟨own, l, l', p1, p2, _⟩ | ⟨p1, _⟩
                    · rw [p1]; rw [p2] at hb; exact hb
                    · rw [p1]; exact hb
                  · rcases ho with ⟨own', l, l', p1, p2, _⟩ | ⟨p1, _⟩
                    · rw [p2] at hb; cases hb
                    · exact q4 own k xs (by rw [p1]; exact hb)
                · have hlt : i - A.bl.length < y.2.2.length := by simp at h2; omega
                  have e1 : blF (y.2.1 ++ y.2.2) i = y.2.2[i - A.bl.length]'hlt := by
                    simp only [blF]
                    rw [List.getElem?_append_right (by omega)]
                    simp only [hl0]
                    rw [List.getElem?_eq_getElem hlt]
                  rw [e1]
                  exact List.all_eq_true.1 hall _ (List.getElem_mem _)
              rcases he with rfl | rfl
              · cases e' with
                | normal => exact fin
                | _ => exact hal.elim
              · cases e' with
                | ret => exact fin
                | _ => exact hal.elim
          · cases h3
        · cases h3
      · cases h2
    · cases h
  · cases h
end
end Go.Proofs.YtlenacakmmikiaaGreatDoorX
