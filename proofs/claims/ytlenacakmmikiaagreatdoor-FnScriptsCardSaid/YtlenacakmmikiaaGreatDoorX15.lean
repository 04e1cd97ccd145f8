/- Walks with cuts: where ways meet again, only what still lives is kept, and what follows is walked once. -/
import Derived.Test.YtlenacakmmikiaaGreatDoorX14
namespace Go.Proofs.YtlenacakmmikiaaGreatDoorX
open Go
set_option linter.unusedVariables false
set_option linter.unusedSimpArgs false
/-- A walk of plain steps and tests. 'rest' is what is still to be done behind the code; at a cut, H is asked. -/
def execC {R : Type} (X : Cx) (cut : Nat → Option (List Nat)) (H : List Code → St → Option R) : List Code → Code → St → (Ex → St → Option R) → Option R
  | _, .skip, S, K => K .normal S
  | _, .region _ ops draw, S, K => if okDst X.nt ops.toList then (if draw then (if edOk ops.toList 0 then regDr X.E X.O ops ops.toList 0 [] S (K .normal) else none) else regGo X.E X.O ops ops.toList S (K .normal)) else none
  | rest, .seq a b, S, K => execC X cut H (b :: rest) a S fun e S => match e with
    | .normal => (match (firstR b).bind cut with
      | some live => trim X.O X.n0 live S (H (b :: rest))
      | none => execC X cut H rest b S K)
    | e => K e S
  | rest, .cond c a b, S, K => RP.go X.O S (evO c fun v => asBool v fun x => .bsp x fun y => .ret y) [] [] fun y _ _ => cond y (execC X cut H rest a S K) (execC X cut H rest b S K)
  | _, .ret, S, K => K .ret S
  | _, _, _, _ => none
def ctxL {R : Type} (X : Cx) (cut : Nat → Option (List Nat)) (H : List Code → St → Option R) (K0 : Ex → St → Option R) : List Code → Ex → St → Option R
  | [], e, S => K0 e S
  | b :: r, e, S => match e with
    | .normal => (match (firstR b).bind cut with
      | some live => trim X.O X.n0 live S (H (b :: r))
      | none => execC X cut H r b S (ctxL X cut H K0 r))
    | e => K0 e S
def hC {R : Type} (X : Cx) (cut : Nat → Option (List Nat)) (K0 : Ex → St → Option R) : Nat → List Code → St → Option R
  | 0, _, _ => none
  | _ + 1, [], _ => none
  | m + 1, c :: rest, S => execC X cut (hC X cut K0 m) rest c S (ctxL X cut (hC X cut K0 m) K0 rest)
def pendAt : Code → List Code → List Nat → List Code
  | .seq a b, r, 0 :: p => pendAt a (b :: r) p
  | .seq _ b, r, _ :: p => pendAt b r p
  | .cond _ a _, r, 0 :: p => pendAt a r p
  | .cond _ _ b, r, _ :: p => pendAt b r p
  | c, r, _ => c :: r
/-- What follows from the cut at place p of a function's text. -/
def hcAt {R : Type} (E : Env) (O : Oracle) (cut : Nat → Option (List Nat)) (fn : Func) (n0 : Nat) (K : Rs → Option R) (m : Nat) (p : List Nat) (S : St) : Option R :=
  hC ⟨E, O, n0, fn.ntmps, fun _ => []⟩ cut (fnK E O fn n0 K) m (pendAt (fn.body.getD .skip) [] p) S
def callH {R : Type} (E : Env) (O : Oracle) (cut : Nat → Option (List Nat)) (fn : Func) (n0 : Nat) (A : Pk) (K : Rs → Option R) (H : List Code → St → Option R) : Option R :=
  if A.bl.length = n0 then
    match fn.body with
    | some c => if A.avs.length ≤ fn.ntmps then execC ⟨E, O, n0, fn.ntmps, fun _ => []⟩ cut H [] c (start A) (fnK E O fn n0 K) else none
    | none => none
  else none
def callC {R : Type} (E : Env) (O : Oracle) (cut : Nat → Option (List Nat)) (fn : Func) (n0 m : Nat) (A : Pk) (K : Rs → Option R) : Option R :=
  callH E O cut fn n0 A K (hC ⟨E, O, n0, fn.ntmps, fun _ => []⟩ cut (fnK E O fn n0 K) m)
section
variable {G : Bg} {S : St} {ρ : Nat → Value} {ow : Nat → Option Nat} {a : Act} {w : World} {P : Program} {E : Env}
def wpL (P : Program) : List Code → (Exit → Act → World → Prop) → Act → World → Prop
  | [], Q, a, w => Q .normal a w
  | b :: r, Q, a, w => b.wp P (fun e a w => match e with | .normal => wpL P r Q a w | e => Q e a w) a w
def Fin (P : Program) (nt n0 : Nat) {R : Type} (K0 : Ex → St → Option R) (x : R) (l : List Code) (S : St) : Prop :=
  ∃ e' S', K0 e' S' = some x ∧ ∀ (G : Bg) (a : Act) (w : World), G.nt = nt → G.n0 = n0 → At G S a w → wpL P l (Post G e' S') a w
def Thus (P : Program) (nt n0 : Nat) {R : Type} (K0 : Ex → St → Option R) (x : R) (rest : List Code) (K : Ex → St → Option R) : Prop :=
  ∀ e S, K e S = some x → ∃ e' S', K0 e' S' = some x ∧ ∀ (G : Bg) (a : Act) (w : World) (eR : Exit), G.nt = nt → G.n0 = n0 → Post G e S eR a w → (match eR with | .normal => wpL P rest (Post G e' S') a w | eR => Post G e' S' eR a w)
theorem thus_of_fin {nt n0 : Nat} {R : Type} {K0 : Ex → St → Option R} {x : R} {b : Code} {rest : List Code} {S1 S2 : St} (h : Fin P nt n0 K0 x (b :: rest) S2) (hA : ∀ (G : Bg) (a : Act) (w : World), G.n0 = n0 → At G S1 a w → At G S2 a w) :
    ∃ e' S', K0 e' S' = some x ∧ ∀ (G : Bg) (a : Act) (w : World) (eR : Exit), G.nt = nt → G.n0 = n0 → Post G .normal S1 eR a w → (match eR with | .normal => wpL P (b :: rest) (Post G e' S') a w | eR => Post G e' S' eR a w) := by
  obtain ⟨e', S', h0, g⟩ := h
  refine ⟨e', S', h0, fun G a w eR hnt hn0 hp => ?_⟩
  cases eR with
  | normal => exact g G a w hnt hn0 (hA G a w hn0 hp.2)
  | _ => exact hp.1.elim
theorem execC_ok (hE : EnvOk P E) {O : Oracle} (hO : OkO (Ct P) O) (hm : P.follows .mixedOrders = true) {R : Type} {X : Cx} (hXE : X.E = E) (hXO : X.O = O) {cut : Nat → Option (List Nat)} {H : List Code → St → Option R} {K0 : Ex → St → Option R} {x : R}
    (hH : ∀ l S, H l S = some x → Fin P X.nt X.n0 K0 x l S) : ∀ {c : Code} {rest : List Code} {S : St} {K : Ex → St → Option R}, Thus P X.nt X.n0 K0 x rest K → execC X cut H rest c S K = some x → Fin P X.nt X.n0 K0 x (c :: rest) S
  | .skip, rest, S, K, hK, h => by
    obtain ⟨e', S', h0, g⟩ := hK _ _ h
    exact ⟨e', S', h0, fun G a w hnt hn0 hA => wp_skip (g G a w .normal hnt hn0 ⟨trivial, hA⟩)⟩
  | .region id ops draw, rest, S, K, hK, h => by
    have h' : exec X 0 (.region id ops draw) S K = some x := by
      simp only [execC] at h
      simp only [exec]
      exact h
    obtain ⟨S1, h1, h2⟩ := region_ok hE hO hm hXE hXO h'
    obtain ⟨e', S', h0, g⟩ := hK _ _ h1
    exact ⟨e', S', h0, fun G a w hnt hn0 ⟨ρ, ow, hR⟩ => h2 G ρ ow a w _ hnt hR fun ρ' ow' a' w' hR' => g G a' w' .normal hnt hn0 ⟨trivial, ρ', ow', hR'⟩⟩
  | .seq p q, rest, S, K, hK, h => by
    simp only [execC] at h
    have hK' : Thus P X.nt X.n0 K0 x (q :: rest) (fun e S => match e with
        | .normal => (match (firstR q).bind cut with
          | some live => trim X.O X.n0 live S (H (q :: rest))
          | none => execC X cut H rest q S K)
        | e => K e S) := by
      intro e S1 hk
      cases e with
      | normal =>
        dsimp only at hk
        split at hk
        · rename_i live hc
          obtain ⟨S2, h1, h2⟩ := trim_ok (hXO ▸ hO) hk
          exact thus_of_fin (hH _ _ h1) fun G a w hn ⟨ρ, ow, hR⟩ => h2 G ρ ow a w hn hR
        · exact thus_of_fin (execC_ok hE hO hm hXE hXO hH hK hk) fun G a w _ hA => hA
      | exit i =>
        obtain ⟨e', S', h0, g⟩ := hK _ _ hk
        refine ⟨e', S', h0, fun G a w eR hnt hn0 hp => ?_⟩
        have := g G a w eR hnt hn0 hp
        cases eR with
        | normal => exact hp.1.elim
        | _ => exact this
      | ret =>
        obtain ⟨e', S', h0, g⟩ := hK _ _ hk
        refine ⟨e', S', h0, fun G a w eR hnt hn0 hp => ?_⟩
        have := g G a w eR hnt hn0 hp
        cases eR with
        | normal => exact hp.1.elim
        | _ => exact this
    obtain ⟨e', S', h0, g⟩ := execC_ok hE hO hm hXE hXO hH hK' h
    refine ⟨e', S', h0, fun G a w hnt hn0 hA => wp_seq (wp_mono (g G a w hnt hn0 hA) fun e2 a2 w2 hq => ?_)⟩
    cases e2 <;> exact hq
  | .cond c p q, rest, S, K, hK, h => by
    simp only [execC] at h
    subst hXO
    obtain ⟨y, _, _, hr, h1⟩ := go_runs hO S _ _ _ _ _ h
    have hev : ∀ (G : Bg) (a : Act) (w : World), At G S a w → a.eval c = .bool y := fun G a w ⟨ρ, ow, hR⟩ => by
      obtain ⟨v, _, hv, hr1⟩ := runs_evO hR hr
      obtain ⟨b, hb, hr2⟩ := runs_asBool hr1
      subst hb
      obtain ⟨rfl, _, _⟩ := hr2
      exact hv
    cases y with
    | true =>
      obtain ⟨e', S', h0, g⟩ := execC_ok hE hO hm hXE rfl hH hK h1
      exact ⟨e', S', h0, fun G a w hnt hn0 hA => wp_cond_true (hev G a w hA) (g G a w hnt hn0 hA)⟩
    | false =>
      obtain ⟨e', S', h0, g⟩ := execC_ok hE hO hm hXE rfl hH hK h1
      exact ⟨e', S', h0, fun G a w hnt hn0 hA => wp_cond_false (hev G a w hA) (g G a w hnt hn0 hA)⟩
  | .ret, rest, S, K, hK, h => by
    obtain ⟨e', S', h0, g⟩ := hK _ _ h
    exact ⟨e', S', h0, fun G a w hnt hn0 hA => wp_ret (g G a w .ret hnt hn0 ⟨trivial, hA⟩)⟩
  | .rangeFunc .., _, _, _, _, h => by simp [execC] at h
  | .scope _, _, _, _, _, h => by simp [execC] at h
  | .goto _, _, _, _, _, h => by simp [execC] at h
  | .refuse _, _, _, _, _, h => by simp [execC] at h
  | .block _ _, _, _, _, _, h => by simp [execC] at h
  | .loop _, _, _, _, _, h => by simp [execC] at h
  | .exit _, _, _, _, _, h => by simp [execC] at h
  | .label _, _, _, _, _, h => by simp [execC] at h
theorem ctxL_ok (hE : EnvOk P E) {O : Oracle} (hO : OkO (Ct P) O) (hm : P.follows .mixedOrders = true) {R : Type} {X : Cx} (hXE : X.E = E) (hXO : X.O = O) {cut : Nat → Option (List Nat)} {H : List Code → St → Option R} {K0 : Ex → St → Option R} {x : R}
    (hH : ∀ l S, H l S = some x → Fin P X.nt X.n0 K0 x l S) : ∀ rest : List Code, Thus P X.nt X.n0 K0 x rest (ctxL X cut H K0 rest)
  | [] => fun e S h => ⟨e, S, h, fun G a w eR hnt hn0 hp => by cases eR <;> exact hp⟩
  | b :: r => fun e S h => by
    cases e with
    | normal =>
      simp only [ctxL] at h
      split at h
      · rename_i live hc
        obtain ⟨S2, h1, h2⟩ := trim_ok (hXO ▸ hO) h
        exact thus_of_fin (hH _ _ h1) fun G a w hn ⟨ρ, ow, hR⟩ => h2 G ρ ow a w hn hR
      · exact thus_of_fin (execC_ok hE hO hm hXE hXO hH (ctxL_ok hE hO hm hXE hXO hH r) h) fun G a w _ hA => hA
    | exit i =>
      refine ⟨_, _, h, fun G a w eR hnt hn0 hp => ?_⟩
      cases eR with
      | normal => exact hp.1.elim
      | _ => exact hp
    | ret =>
      refine ⟨_, _, h, fun G a w eR hnt hn0 hp => ?_⟩
      cases eR with
      | normal => exact hp.1.elim
      | _ => exact hp
theorem hC_ok (hE : EnvOk P E) {O : Oracle} (hO : OkO (Ct P) O) (hm : P.follows .mixedOrders = true) {R : Type} {X : Cx} (hXE : X.E = E) (hXO : X.O = O) {cut : Nat → Option (List Nat)} {K0 : Ex → St → Option R} {x : R} :
    ∀ {m : Nat} (l : List Code) (S : St), hC X cut K0 m l S = some x → Fin P X.nt X.n0 K0 x l S
  | 0, _, _, h => by cases h
  | _ + 1, [], _, h => by cases h
  | m + 1, c :: rest, S, h => execC_ok hE hO hm hXE hXO (hC_ok hE hO hm hXE hXO (m := m)) (ctxL_ok hE hO hm hXE hXO (hC_ok hE hO hm hXE hXO (m := m)) rest) h
theorem callC_ok (hE : EnvOk P E) {O : Oracle} (hO : OkO (Ct P) O) (hm : P.follows .mixedOrders = true) {g : FuncId} {fn : Func} (hfn : P.funcs[g]? = some fn) (hname : (fn.name == "runtime.NumGoroutine") = false) {cut : Nat → Option (List Nat)} {n0 m : Nat} {A : Pk} {R : Type} {K : Rs → Option R} {x : R}
    (h : callC E O cut fn n0 m A K = some x) : ∃ r, Ct P g A r ∧ K r = some x := by
  unfold callC callH at h
  split at h
  case isFalse => cases h
  rename_i hn0
  subst hn0
  split at h
  · rename_i c hc
    split at h
    · rename_i hlen
      obtain ⟨e, S', h1, g0⟩ := execC_ok (X := ⟨E, O, A.bl.length, fn.ntmps, fun _ => []⟩) hE hO hm rfl rfl (K0 := fnK E O fn A.bl.length K) (hC_ok hE hO hm rfl rfl) (K := fnK E O fn A.bl.length K) (fun e S h => ctxL_ok (X := ⟨E, O, A.bl.length, fn.ntmps, fun _ => []⟩) (cut := cut) (H := hC ⟨E, O, A.bl.length, fn.ntmps, fun _ => []⟩ cut (fnK E O fn A.bl.length K) m) hE hO hm rfl rfl (hC_ok hE hO hm rfl rfl) [] e S h) h
      have g1 : Goes P fn.ntmps A.bl.length c (start A) e S' := fun G a w hnt hn0 hA => wp_mono (g0 G a w hnt hn0 hA) fun e' a' w' hq => by
        cases e' <;> exact hq
      have h2 : finish E O fn A.bl.length S' K = some x ∧ (e = .normal ∨ e = .ret) := by
        cases e with
        | exit i => cases h1
        | normal => exact ⟨h1, .inl rfl⟩
        | ret => exact ⟨h1, .inr rfl⟩
      obtain ⟨h2, he⟩ := h2
      unfold finish at h2
      split at h2
      · rename_i l hl
        obtain ⟨y, _, _, hr, h3⟩ := go_runs hO S' _ _ _ _ _ h2
        obtain ⟨acc, hP, hF, hl0, hold, hnew⟩ := runs_compact hr
        split at h3
        · rename_i v0 hv0
          split at h3
          · rename_i hall
            refine ⟨_, ⟨⟨fn, hfn, hname, by rw [hc]; rfl⟩, fun w ρ ow vs htb hb hFv ho hno => ?_⟩, h3⟩
            have hvl : vs.size = A.avs.length := by have := hFv.len; simpa using this.symm
            refine calls_of_wp hfn hc (wp_mono (g1 ⟨A.bl.length, blF A.bl, ρ, ow, w, fn.ntmps⟩ _ w rfl rfl ⟨ρ, ow, ?_⟩) fun e' a' w' hq => ?_)
            · refine ⟨by simp; omega, rfl, start_tm hFv _, hb, fun g i hg => ?_, ⟨rfl, rfl, rfl, Nat.le_refl _, fun _ _ _ => rfl⟩, fun i hi => ?_, htb⟩
              · obtain ⟨q1, q2⟩ := ho g i hg
                exact ⟨q1, q2, .inr (by show ow g ≠ none; rw [hg]; simp)⟩
              · refine ⟨?_, rfl, id, fun own k xs hbi => ⟨own, xs, hbi, rfl⟩⟩
                have : blF A.bl i = A.bl[i]'hi := by simp [blF, List.getElem?_eq_getElem (show i < A.bl.length from hi)]
                show blF A.bl i ≠ _
                rw [this]
                exact hno _ (List.getElem_mem _)
            · obtain ⟨hal, ρ', ow', hR⟩ := hq
              obtain ⟨v, hv, hV⟩ := results_ok hE hR hl
              have hBe : blF (y.2.1 ++ y.2.2) = newB' y.2.1 acc := by rw [hnew]; rfl
              have hownS : ∀ g i, ow' g = some i → (S'.b i).own = true := fun g i e => (hR.own g i e).2.1
              have fin : a'.defers = [] ∧ ∃ v, (results fn a'.tmps).run P w' = .ok v w' ∧ (∃ v_1 ρ'_1 ow'_1, Ending.returned v = .returned v_1 ∧ VV (blF (y.2.1 ++ y.2.2)) ρ'_1 v0 v_1 ∧ (∀ i, BlkOk (blF (y.2.1 ++ y.2.2)) w' ρ'_1 ow'_1 i (blF (y.2.1 ++ y.2.2) i)) ∧
                  (∀ g i, ow'_1 g = some i → g < w'.heap.size ∧ (blF (y.2.1 ++ y.2.2) i).own = true ∧ (w.heap.size ≤ g ∨ ow g ≠ none)) ∧ Fr ow w w' ∧
                  (∀ i, i < A.bl.length → blF (y.2.1 ++ y.2.2) i ≠ .no ∧ ρ'_1 i = ρ i ∧ ((blF (y.2.1 ++ y.2.2) i).own = true → (blF A.bl i).own = true) ∧ ∀ own k xs, blF (y.2.1 ++ y.2.2) i = .row own k xs → ∃ own' xs', blF A.bl i = .row own' k xs' ∧ xs'.length = xs.length) ∧
                  (∀ i, A.bl.length ≤ i → i < (y.2.1 ++ y.2.2).length → (blF (y.2.1 ++ y.2.2) i).own = true)) := by
                refine ⟨hR.defers, v, hv, v, tρ A.bl.length ρ' acc, tow A.bl.length ow' acc, rfl, ?_, ?_, fun g i hg => ?_, hR.fr, fun i hi => ?_, fun i h1 h2 => ?_⟩
                · rw [hBe]
                  rw [hv0] at hF
                  exact VV.pack hP hl0 hold hF.1 hV
                · rw [hBe]; exact blk_pack hP hl0 hold hR.bl
                · rw [hBe]
                  obtain ⟨h1, h2⟩ := own_pack hP hl0 hold hownS hg
                  obtain ⟨i', hi'⟩ := Option.ne_none_iff_exists'.1 h2
                  exact ⟨(hR.own g i' hi').1, h1, (hR.own g i' hi').2.2⟩
                · rw [hBe]
                  obtain ⟨b, e1, e2⟩ := newB_old (acc := acc) hl0 hi
                  obtain ⟨q1, q2, q3, q4⟩ := hR.m0 i hi
                  have ho := hold i b e1
                  rw [e2]
                  refine ⟨ho.ne, by simp only [tρ]; rw [if_pos hi]; exact q2, fun hb => q3 ?_, fun own k xs hb => ?_⟩
                  · rcases ho with ⟨own, l, l', p1, p2, _⟩ | ⟨p1, _⟩
                    · rw [p1]; rw [p2] at hb; exact hb
                    · rw [p1]; exact hb
                  · rcases ho with ⟨own', l, l', p1, p2, _⟩ | ⟨p1, _⟩
                    · rw [p2] at hb; cases hb
                    · exact q4 own k xs (by rw [p1]; exact hb)
                · have hlt : i - A.bl.length < y.2.2.length := by simp at h2; omega
                  have e1 : blF (y.2.1 ++ y.2.2) i = y.2.2[i - A.bl.length]'hlt := by
                    simp only [blF]
                    rw [List.getElem?_append_right (by omega)]
                    simp only [hl0]
                    rw [List.getElem?_eq_getElem hlt]
                  rw [e1]
                  exact List.all_eq_true.1 hall _ (List.getElem_mem _)
              rcases he with rfl | rfl
              · cases e' with
                | normal => exact fin
                | _ => exact hal.elim
              · cases e' with
                | ret => exact fin
                | _ => exact hal.elim
          · cases h3
        · cases h3
      · cases h2
    · cases h
  · cases h
end
end Go.Proofs.YtlenacakmmikiaaGreatDoorX
