/- Calls: what was handed over comes back. -/
import Derived.Test.YtlenacakmmikiaaGreatDoorX7
namespace Go.Proofs.YtlenacakmmikiaaGreatDoorX
open Go
set_option linter.unusedVariables false
set_option linter.unusedSimpArgs false
def blockOf : Value → Option Nat
  | .pointer (some a) => some a.block
  | .slice (some a) _ _ => some a.block
  | _ => none
section
variable {S : St} {C : FuncId → Pk → Rs → Prop}
theorem ups_not {i : Nat} : ∀ {S : St} {l : List (Nat × Blk)}, (∀ p ∈ l, p.1 ≠ i) → (S.ups l).b i = S.b i
  | _, [], _ => rfl
  | S, (j, b) :: l, h => by
    simp only [St.ups]
    rw [ups_not fun p hp => h p (by simp [hp])]
    exact fset_ne _ _ fun e => h (j, b) (by simp) e.symm
theorem backNew_key (f : Nat → Nat) : ∀ {l : List Blk} {d : Nat} (p : Nat × Blk), p ∈ backNew f d l → d ≤ p.1 ∧ p.1 < d + l.length
  | [], d, p, h => by simp [backNew] at h
  | c :: l, d, p, h => by
    simp only [backNew, List.mem_cons] at h
    rcases h with rfl | h
    · simp
    · have := backNew_key f p h; simp; omega
theorem backNew_at (f : Nat → Nat) : ∀ {l : List Blk} {S : St} {d j : Nat} {c : Blk}, l[j]? = some c → (S.ups (backNew f d l)).b (d + j) = renB f c
  | [], _, _, _, _, h => by simp at h
  | c :: l, S, d, j, c', h => by
    simp only [backNew, St.ups]
    cases j with
    | zero =>
      simp at h; subst h
      rw [ups_not fun p hp => by have := backNew_key f p hp; omega]
      exact fset_same _ _ _
    | succ j =>
      rw [show d + (j + 1) = d + 1 + j by omega]
      exact backNew_at f (by simpa using h)
theorem backOld_key (f : Nat → Nat) : ∀ {acc : List (Nat × Blk)} {l : List Blk} (p : Nat × Blk), p ∈ backOld f acc l → ∃ (j : Nat) (b c : Blk), acc[j]? = some (p.1, b) ∧ b.own = true ∧ l[j]? = some c ∧ p.2 = renB f c
  | [], l, p, h => by simp [backOld] at h
  | _ :: _, [], p, h => by simp [backOld] at h
  | (i, b) :: acc, c :: l, p, h => by
    simp only [backOld] at h
    split at h
    · rename_i hb
      rcases List.mem_cons.1 h with rfl | h
      · exact ⟨0, b, c, rfl, hb, rfl, rfl⟩
      · obtain ⟨j, b', c', e1, e2, e3, e4⟩ := backOld_key f p h
        exact ⟨j + 1, b', c', by simpa using e1, e2, by simpa using e3, e4⟩
    · obtain ⟨j, b', c', e1, e2, e3, e4⟩ := backOld_key f p h
      exact ⟨j + 1, b', c', by simpa using e1, e2, by simpa using e3, e4⟩
theorem backOld_at (f : Nat → Nat) {i : Nat} : ∀ {acc : List (Nat × Blk)} {l : List Blk} {S : St} {j : Nat} {b c : Blk}, acc[j]? = some (i, b) → b.own = true → l[j]? = some c → (∀ (j' : Nat) (b' : Blk), acc[j']? = some (i, b') → j' ≠ j → b'.own = false) → (S.ups (backOld f acc l)).b i = renB f c
  | [], _, _, _, _, _, h, _, _, _ => by simp at h
  | _ :: _, [], _, _, _, _, _, _, h, _ => by simp at h
  | (i0, b0) :: acc, c0 :: l, S, j, b, c, h, hb, hc, hu => by
    simp only [backOld]
    cases j with
    | zero =>
      simp at h hc
      obtain ⟨rfl, rfl⟩ := h
      subst hc
      rw [if_pos hb]
      simp only [St.ups]
      rw [ups_not fun p hp => fun e => by
        obtain ⟨j', b', c', e1, e2, _⟩ := backOld_key f p hp
        rw [e] at e1
        have := hu (j' + 1) b' (by simpa using e1) (by omega)
        rw [e2] at this; cases this]
      exact fset_same _ _ _
    | succ j =>
      have ih : ∀ S : St, (S.ups (backOld f acc l)).b i = renB f c := fun S => backOld_at f (by simpa using h) hb (by simpa using hc) fun j' b' e hne => hu (j' + 1) b' (by simpa using e) (by omega)
      split
      · exact ih _
      · exact ih _
theorem renB_ne {f : Nat → Nat} {b : Blk} (h : b ≠ .no) : renB f b ≠ .no := by cases b <;> simp_all [renB]
theorem renB_own (f : Nat → Nat) (b : Blk) : (renB f b).own = b.own := by cases b <;> rfl
theorem renB_row {f : Nat → Nat} {b : Blk} {own : Bool} {k : K} {xs : List (T k)} (h : renB f b = .row own k xs) : b = .row own k xs := by cases b <;> simp_all [renB]
section ren
variable {Bx B1 : Nat → Blk} {ρr ρ1 : Nat → Value} {f : Nat → Nat}
theorem VS.ren (hB : ∀ m, Bx m ≠ .no → B1 (f m) ≠ .no) (hρ : ∀ m, Bx m ≠ .no → ρ1 (f m) = ρr m) : ∀ {s : Sc} {u : Value}, VS Bx ρr s u → VS B1 ρ1 (renS f s) u
  | .un, _, _ => trivial
  | .v _, _, h => h
  | .nl, _, h => h
  | .sl i, _, h => ⟨hB i h.1, by rw [hρ i h.1]; exact h.2.1, h.2.2⟩
  | .bp i off, _, h => ⟨hB i h.1, by rw [hρ i h.1]; exact h.2⟩
  | .rp _ _ _ _, _, _ => trivial
  | .fn g caps, _, h => ⟨by
      rw [h.1, List.map_map]; congr 2
      exact List.map_congr_left fun c hc => (hρ c (h.2 c hc).1).symm, fun c hc => by
      obtain ⟨c', hc', rfl⟩ := List.mem_map.1 hc
      exact ⟨hB c' (h.2 c' hc').1, by rw [hρ c' (h.2 c' hc').1]; exact (h.2 c' hc').2⟩⟩
theorem F2_ren (hB : ∀ m, Bx m ≠ .no → B1 (f m) ≠ .no) (hρ : ∀ m, Bx m ≠ .no → ρ1 (f m) = ρr m) {l : List Sc} {cs : List Value} (h : F2 (VS Bx ρr) l cs) : F2 (VS B1 ρ1) (l.map (renS f)) cs :=
  F2.map_left (h.mono fun _ _ => VS.ren hB hρ)
theorem V1.ren (hB : ∀ m, Bx m ≠ .no → B1 (f m) ≠ .no) (hρ : ∀ m, Bx m ≠ .no → ρ1 (f m) = ρr m) : ∀ {s : A1} {u : Value}, V1 Bx ρr s u → V1 B1 ρ1 (ren1 f s) u
  | .sc _, _, h => VS.ren hB hρ h
  | .ag _, _, ⟨cs, e, h⟩ => ⟨cs, e, F2_ren hB hρ h⟩
theorem VV.ren (hB : ∀ m, Bx m ≠ .no → B1 (f m) ≠ .no) (hρ : ∀ m, Bx m ≠ .no → ρ1 (f m) = ρr m) : ∀ {s : AV} {u : Value}, VV Bx ρr s u → VV B1 ρ1 (renV f s) u
  | .a _, _, h => V1.ren hB hρ h
  | .tp _, _, ⟨cs, e, h⟩ => ⟨cs, e, F2.map_left (h.mono fun _ _ => V1.ren hB hρ)⟩
theorem BlkOk.ren (hB : ∀ m, Bx m ≠ .no → B1 (f m) ≠ .no) (hρ : ∀ m, Bx m ≠ .no → ρ1 (f m) = ρr m) {w : World} {owr ow1 : Nat → Option Nat} {m : Nat} {b : Blk} (hm : b ≠ .no → Bx m ≠ .no)
    (ho : ∀ g, owr g = some m → ow1 g = some (f m)) (hn : b.own = false → ∀ g, blockOf (ρr m) = some g → owr g = none → ow1 g = none)
    (h : BlkOk Bx w ρr owr m b) : BlkOk B1 w ρ1 ow1 (f m) (renB f b) := by
  match b, h with
  | .no, _ => trivial
  | .dead, _ => trivial
  | .box own l, ⟨g, cs, e, h1, h2, h3, h4⟩ =>
    refine ⟨g, cs, e, by rw [hρ m (hm (by simp))]; exact h1, h2, F2_ren hB hρ h3, ?_⟩
    cases own with
    | true => exact ho g h4
    | false => exact hn rfl g (by rw [h1]; rfl) h4
  | .row true k xs, ⟨h1, h2⟩ => exact ⟨by rw [hρ m (hm (by simp))]; exact h1, fun g hg => ho g (h2 g (by rw [← hρ m (hm (by simp))]; exact hg))⟩
  | .row false k xs, ⟨A, cap, h1, h2, h3⟩ => exact ⟨A, cap, by rw [hρ m (hm (by simp))]; exact h1, h2, fun j u hu => by
      obtain ⟨a, e1, e2, e3⟩ := h3 j u hu
      exact ⟨a, e1, e2, hn rfl a.block (by rw [h1, e1]; rfl) e3⟩⟩
end ren
variable {G : Bg} {ρ : Nat → Value} {ow : Nat → Option Nat} {a : Act} {w : World} {P : Program} {E : Env} {o : Oper} {d : Nat} {lt lb lt' lb' : List Nat} {wr : Wr}
theorem a1s_ok {B : Nat → Blk} {ρ : Nat → Value} : ∀ {vs : List AV} {as : List A1} {us : List Value}, a1s vs = some as → F2 (VV B ρ) vs us → F2 (V1 B ρ) as us
  | [], as, us, h, hF => by simp [a1s] at h; subst h; rw [hF.nil_left]; trivial
  | .a x :: r, as, us, h, hF => by
    obtain ⟨l, h1, rfl⟩ := Option.map_eq_some_iff.1 h
    obtain ⟨u, us', rfl, hu, hF'⟩ := hF.cons_left
    exact ⟨hu, a1s_ok h1 hF'⟩
  | .tp _ :: _, as, us, h, hF => by simp [a1s] at h
theorem own_block {i : Nat} (hb : BlkOk S.b w ρ ow i (S.b i)) (ho : (S.b i).own = true) {g : Nat} (hg : blockOf (ρ i) = some g) : ow g = some i := by
  cases e : S.b i with
  | no => rw [e] at ho; cases ho
  | dead => rw [e] at ho; cases ho
  | box own l =>
    rw [e] at ho hb
    obtain ⟨g', cs, e0, h1, h2, h3, h4⟩ := hb
    rw [h1] at hg; cases hg
    have : own = true := ho
    subst this
    exact h4
  | row own k xs =>
    rw [e] at ho hb
    have : own = true := ho
    subst this
    refine hb.2 g ?_
    rcases hb.1.2 with ⟨e1, _⟩ | ⟨g', cap, cur, e1, _⟩
    · rw [e1] at hg; cases hg
    · rw [e1] at hg ⊢; exact hg
theorem lands_callS (h : Rel G S ρ ow a w) {g : FuncId} {args : List AV} {vs : List Value} (hF : F2 (VV S.b ρ) args vs)
    (hr : Runs (Ct P) S (callS E d g args) lt lb wr lt' lb') (hx : ∀ fn, P.funcs[g]? = some fn → (fn.name == "runtime.NumGoroutine") = false → fn.body.isSome = true → (execOp a.eval o).run P w = .ok (.enter g vs.toArray) w) : Lands P G S a w o wr := by
  unfold callS at hr
  split at hr
  · rename_i as has
    obtain ⟨avs, acc, _, hP, _, hF1, hr1⟩ := runs_pack1s (Pkd.nil 0 S) hr
    obtain ⟨r, ⟨⟨fn, hfn, hname, hbody⟩, hct⟩, hr2⟩ := hr1
    obtain ⟨hno, _, rfl, _, _⟩ := runs_rdNos hr2
    have hold : ∀ (i : Nat) (b : Blk), ([] : List Blk)[i]? = some b → OldR 0 S acc i b := fun i b e => by simp at e
    have hownS : ∀ g i, ow g = some i → (S.b i).own = true := fun g i e => (h.own g i e).2.1
    have hlen : (acc.map (·.2)).length = acc.length := by simp
    intro next Q hn
    have hcall := hct w (tρ 0 ρ acc) (tow 0 ow acc) vs.toArray (h.tbs.go (Fr.refl ow w) fun g i e => .inr (own_pack (olds := []) hP rfl hold hownS e).2) (blk_pack (olds := []) hP rfl hold h.bl)
      (show F2 (V1 (newB' [] acc) (tρ 0 ρ acc)) avs vs from F2.trans' (δ := Unit) (R1 := P1 0 acc) (R2 := V1 S.b ρ) (R3 := V1 (newB' [] acc) (tρ 0 ρ acc)) (fun _ _ _ p q => V1.pack (olds := []) hP rfl hold p q) hF1 (a1s_ok has hF))
      (fun g i e => by
        obtain ⟨h1, h2⟩ := own_pack (olds := []) hP rfl hold hownS e
        obtain ⟨i', hi'⟩ := Option.ne_none_iff_exists'.1 h2
        exact ⟨(h.own g i' hi').1, h1⟩)
      (fun b hb => by
        obtain ⟨p, hp, rfl⟩ := List.mem_map.1 hb
        obtain ⟨j, hj⟩ := List.getElem?_of_mem hp
        exact (hP.ent j p.1 p.2 hj).ne)
    unfold Oper.wp
    rw [hx fn hfn hname hbody]
    refine Calls.mono hcall fun e w' hpost => ?_
    obtain ⟨v, ρr, owr, rfl, hv, hblk, hown, hfr, hargs, hnew⟩ := hpost
    rw [hlen] at hargs hnew
    -- the places
    have hNM : acc.length ≤ r.bl.length := by
      rcases Nat.eq_zero_or_pos acc.length with e | e
      · omega
      · have := (hargs (acc.length - 1) (by omega)).1
        apply Classical.byContradiction
        intro hc
        apply this
        simp only [blF]
        rw [List.getElem?_eq_none (by omega)]
    have fL : ∀ {m i : Nat} {b : Blk}, acc[m]? = some (i, b) → idOf acc d m = i := fun e => by simp [idOf, e]
    have fG : ∀ {m : Nat}, acc.length ≤ m → idOf acc d m = d + (m - acc.length) := fun e => by simp only [idOf]; rw [List.getElem?_eq_none e]
    have hAt : ∀ {m : Nat}, m < acc.length → ∃ i b, acc[m]? = some (i, b) := fun e => ⟨_, _, List.getElem?_eq_getElem e⟩
    have hSno : ∀ {m i : Nat} {b : Blk}, acc[m]? = some (i, b) → S.b i ≠ .no := fun e => by
      rcases (hP.ent _ _ _ e).2 with ⟨_, _, _, _, q, _⟩ | ⟨_, _, _, _, q, _⟩ <;> rw [q] <;> simp
    have hnewno : ∀ {i : Nat}, d ≤ i → i < d + (r.bl.length - acc.length) → S.b i = .no := fun {i} e1 e2 => by
      have := hno (i - d) (by omega)
      rwa [show d + (i - d) = i by omega] at this
    have hblr : ∀ {m : Nat}, blF r.bl m ≠ .no → m < r.bl.length := fun e => by
      apply Classical.byContradiction
      intro hc
      apply e; simp only [blF]; rw [List.getElem?_eq_none (by omega)]
    have hblA : ∀ {m i : Nat} {b : Blk}, acc[m]? = some (i, b) → blF (acc.map (·.2)) m = b := fun e => by simp [blF, e]
    have hget : ∀ {m : Nat}, m < r.bl.length → r.bl[m]? = some (blF r.bl m) := fun e => by simp [blF, List.getElem?_eq_getElem e]
    -- the blocks behind the call
    let U := backOld (idOf acc d) acc r.bl ++ backNew (idOf acc d) d (r.bl.drop acc.length)
    have hBnew : ∀ {m : Nat}, acc.length ≤ m → m < r.bl.length → (S.ups U).b (d + (m - acc.length)) = renB (idOf acc d) (blF r.bl m) := fun {m} e1 e2 => by
      show (S.ups (_ ++ _)).b _ = _
      rw [ups_append]
      refine backNew_at _ ?_
      rw [List.getElem?_drop, show acc.length + (m - acc.length) = m by omega]
      exact hget e2
    have hnk : ∀ {i : Nat} {S' : St}, S.b i ≠ .no → (S'.ups (backNew (idOf acc d) d (r.bl.drop acc.length))).b i = S'.b i := fun e => ups_not fun p hp he => by
      have := backNew_key _ p hp
      rw [he] at this
      simp at this
      exact e (hnewno this.1 (by omega))
    have hBown : ∀ {m i : Nat} {b : Blk}, acc[m]? = some (i, b) → b.own = true → (S.ups U).b i = renB (idOf acc d) (blF r.bl m) := fun {m i b} e hb => by
      show (S.ups (_ ++ _)).b _ = _
      rw [ups_append, hnk (hSno e)]
      exact backOld_at _ e hb (hget (by have := (List.getElem?_eq_some_iff.1 e).1; omega)) fun j' b' e' hne => (hP.apart j' m i b' b e' e hne).1
    have hBsame : ∀ {i : Nat}, (∀ (m : Nat) (b : Blk), acc[m]? = some (i, b) → b.own = false) → (¬ (d ≤ i ∧ i < d + (r.bl.length - acc.length))) → (S.ups U).b i = S.b i := fun {i} e1 e2 => by
      show (S.ups (_ ++ _)).b _ = _
      rw [ups_append, ups_not fun p hp he => by
        have := backNew_key _ p hp
        rw [he] at this
        simp at this
        exact e2 ⟨this.1, by omega⟩]
      exact ups_not fun p hp he => by
        obtain ⟨j, b, c, q1, q2, _⟩ := backOld_key _ p hp
        rw [he] at q1
        rw [e1 j b q1] at q2; cases q2
    let ρ1 : Nat → Value := fun i => if d ≤ i ∧ i < d + (r.bl.length - acc.length) then ρr (acc.length + (i - d)) else ρ i
    let ow1 : Nat → Option Nat := fun g => match owr g with | some m => some (idOf acc d m) | none => if tow 0 ow acc g = none then ow g else none
    have hρ1old : ∀ {i : Nat}, S.b i ≠ .no → ρ1 i = ρ i := fun e => if_neg fun hc => e (hnewno hc.1 hc.2)
    have hρ1 : ∀ m, blF r.bl m ≠ .no → ρ1 (idOf acc d m) = ρr m := fun m e => by
      have hm := hblr e
      rcases Nat.lt_or_ge m acc.length with hlt | hge
      · obtain ⟨i, b, q⟩ := hAt hlt
        rw [fL q, hρ1old (hSno q), (hargs m hlt).2.1]
        have := tρ_new (n0 := 0) (ρ := ρ) q
        rw [Nat.zero_add] at this
        exact this.symm
      · rw [fG hge]
        show (if _ then _ else _) = _
        rw [if_pos ⟨by omega, by omega⟩, show acc.length + (d + (m - acc.length) - d) = m by omega]
    have hB1 : ∀ m, blF r.bl m ≠ .no → (S.ups U).b (idOf acc d m) ≠ .no := fun m e => by
      have hm := hblr e
      rcases Nat.lt_or_ge m acc.length with hlt | hge
      · obtain ⟨i, b, q⟩ := hAt hlt
        rw [fL q]
        cases hb : b.own with
        | true => rw [hBown q hb]; exact renB_ne e
        | false =>
          by_cases hex : ∃ (m' : Nat) (b' : Blk), acc[m']? = some (i, b') ∧ b'.own = true
          · obtain ⟨m', b', q', hb'⟩ := hex
            rw [hBown q' hb']
            exact renB_ne (hargs m' (List.getElem?_eq_some_iff.1 q').1).1
          · rw [hBsame (fun m' b' q' => by
              cases hb' : b'.own with
              | false => rfl
              | true => exact absurd ⟨m', b', q', hb'⟩ hex) fun hc => hSno q (hnewno hc.1 hc.2)]
            exact hSno q
      · rw [fG hge, hBnew hge hm]; exact renB_ne e
    have htow : ∀ {g m i : Nat} {b : Blk}, acc[m]? = some (i, b) → b.own = true → ow g = some i → tow 0 ow acc g = some m := fun q hb e => by
      simp only [tow, e]
      rw [if_neg (by omega), findOwn_at hP q hb, Nat.zero_add]
    -- the state behind the call
    have hR : Rel G ⟨S.t, (S.ups U).b⟩ ρ1 ow1 a w' := by
      refine h.upd (fun i => (∃ (m : Nat) (b : Blk), acc[m]? = some (i, b) ∧ b.own = true) ∨ (d ≤ i ∧ i < d + (r.bl.length - acc.length))) ⟨fun i hi => ?_, fun i own k xs hi hb => ?_, fun i hi => hρ1old hi, fun i hi ho => ?_⟩
        (fun i hi => hBsame (fun m b q => by
          cases hb : b.own with
          | false => rfl
          | true => exact absurd (.inl ⟨m, b, q, hb⟩) hi) fun hc => hi (.inr hc)) ?_ hfr.size hfr.os hfr.tape hfr.output ?_ ?_
      · by_cases hex : ∃ (m' : Nat) (b' : Blk), acc[m']? = some (i, b') ∧ b'.own = true
        · obtain ⟨m', b', q', hb'⟩ := hex
          rw [hBown q' hb']
          exact renB_ne (hargs m' (List.getElem?_eq_some_iff.1 q').1).1
        · rw [hBsame (fun m' b' q' => by
            cases hb' : b'.own with
            | false => rfl
            | true => exact absurd ⟨m', b', q', hb'⟩ hex) fun hc => hi (hnewno hc.1 hc.2)]
          exact hi
      · by_cases hex : ∃ (m' : Nat) (b' : Blk), acc[m']? = some (i, b') ∧ b'.own = true
        · obtain ⟨m', b', q', hb'⟩ := hex
          rw [hBown q' hb'] at hb
          obtain ⟨own', xs', e1, e2⟩ := (hargs m' (List.getElem?_eq_some_iff.1 q').1).2.2.2 own k xs (renB_row hb)
          rw [hblA q'] at e1
          rcases (hP.ent _ _ _ q').2 with ⟨own2, k2, xs2, o2, p1, p2, _⟩ | ⟨_, _, _, _, _, p2, _⟩
          · rw [e1] at p2; cases p2; exact ⟨own2, xs', p1, e2⟩
          · rw [e1] at p2; cases p2
        · rw [hBsame (fun m' b' q' => by
            cases hb' : b'.own with
            | false => rfl
            | true => exact absurd ⟨m', b', q', hb'⟩ hex) fun hc => hi (hnewno hc.1 hc.2)] at hb
          exact ⟨own, xs, hb, rfl⟩
      · by_cases hex : ∃ (m' : Nat) (b' : Blk), acc[m']? = some (i, b') ∧ b'.own = true
        · obtain ⟨m', b', q', hb'⟩ := hex
          rcases (hP.ent _ _ _ q').2 with ⟨own2, k2, xs2, o2, p1, p2, p3⟩ | ⟨own2, _, o2, _, p1, p2, p3, _⟩
          · subst p2; have := p3 hb'; rw [p1]; exact this
          · subst p2; have := p3 hb'; rw [p1]; exact this
        · rw [hBsame (fun m' b' q' => by
            cases hb' : b'.own with
            | false => rfl
            | true => exact absurd ⟨m', b', q', hb'⟩ hex) fun hc => hi (hnewno hc.1 hc.2)] at ho
          exact ho
      · intro g hg hc
        have ht : tow 0 ow acc g = none := by
          cases ht : tow 0 ow acc g with
          | none => rfl
          | some m =>
            exfalso
            unfold tow at ht
            split at ht
            · rename_i i hi
              rw [if_neg (by omega)] at ht
              obtain ⟨j, b, q1, q2, _⟩ := findOwn_some ht
              exact hc i hi (.inl ⟨j, b, q1, q2⟩)
            · cases ht
        refine ⟨hfr.block g hg ht, ?_⟩
        show (match owr g with | some m => _ | none => _) = _
        cases ho : owr g with
        | none => exact if_pos ht
        | some m =>
          exfalso
          rcases (hown g m ho).2.2 with h1 | h1
          · omega
          · exact h1 ht
      · intro i hi
        have key : ∀ m, m < r.bl.length → (m < acc.length → ∃ (i' : Nat) (b : Blk), acc[m]? = some (i', b) ∧ b.own = true) → BlkOk (S.ups U).b w' ρ1 ow1 (idOf acc d m) (renB (idOf acc d) (blF r.bl m)) := by
          intro m hm hacc
          refine BlkOk.ren (Bx := blF r.bl) (ρr := ρr) (owr := owr) hB1 hρ1 id (fun g hg => by show (match owr g with | some m => _ | none => _) = _; rw [hg]) (fun hb g hg hon => ?_) (hblk m)
          show (match owr g with | some m => _ | none => _) = _
          rw [hon]
          rcases Nat.lt_or_ge m acc.length with hlt | hge
          · obtain ⟨i', b, q, hb'⟩ := hacc hlt
            refine if_neg fun ht => ?_
            rw [(hargs m hlt).2.1] at hg
            have e1 := tρ_new (n0 := 0) (ρ := ρ) q
            rw [Nat.zero_add] at e1
            rw [e1] at hg
            have hSo : (S.b i').own = true := by
              rcases (hP.ent _ _ _ q).2 with ⟨own2, k2, xs2, o2, p1, p2, p3⟩ | ⟨own2, _, o2, _, p1, p2, p3, _⟩
              · subst p2; have := p3 hb'; rw [p1]; exact this
              · subst p2; have := p3 hb'; rw [p1]; exact this
            rw [htow q hb' (own_block (h.bl i') hSo hg)] at ht
            cases ht
          · rw [hnew m hge hm] at hb; cases hb
        rcases hi with ⟨m, b, q, hb⟩ | ⟨h1, h2⟩
        · have := key m (by have := (List.getElem?_eq_some_iff.1 q).1; omega) (fun _ => ⟨i, b, q, hb⟩)
          rw [fL q] at this
          rw [hBown q hb]
          exact this
        · have := key (acc.length + (i - d)) (by omega) (fun hc => by omega)
          rw [fG (by omega), show d + (acc.length + (i - d) - acc.length) = i by omega] at this
          have e2 := hBnew (m := acc.length + (i - d)) (by omega) (by omega)
          rw [show d + (acc.length + (i - d) - acc.length) = i by omega] at e2
          rw [e2]
          exact this
      · intro g i hi
        replace hi : (match owr g with | some m => some (idOf acc d m) | none => if tow 0 ow acc g = none then ow g else none) = some i := hi
        cases ho : owr g with
        | some m =>
          rw [ho] at hi
          cases hi
          obtain ⟨h1, h2, h3⟩ := hown g m ho
          refine .inr ⟨h1, ?_, h3.imp id fun e => by obtain ⟨m', hm'⟩ := Option.ne_none_iff_exists'.1 e; exact tow_ne hm'⟩
          have hm : m < r.bl.length := hblr fun e => by rw [e] at h2; cases h2
          rcases Nat.lt_or_ge m acc.length with hlt | hge
          · obtain ⟨i, b, q⟩ := hAt hlt
            have hb : b.own = true := by
              have := (hargs m hlt).2.2.1 h2
              rwa [hblA q] at this
            rw [fL q, hBown q hb, renB_own]; exact h2
          · rw [fG hge, hBnew hge hm, renB_own]; exact h2
        | none =>
          rw [ho] at hi
          dsimp only at hi
          split at hi
          · rename_i ht
            refine .inl ⟨hi, ?_⟩
            rintro (⟨m, b, q, hb⟩ | ⟨h1, h2⟩)
            · rw [htow q hb hi] at ht; cases ht
            · have := (h.own g i hi).2.1
              rw [hnewno h1 h2] at this; cases this
          · cases hi
    exact hn v w' ρ1 ow1 (by have e : S.ups U = ⟨S.t, (S.ups U).b⟩ := by rw [← ups_t S U]
                             show Rel G (S.ups U) ρ1 ow1 a w'
                             rw [e]; exact hR) (VV.ren hB1 hρ1 hv)
  · exact hr.elim
theorem lands_call (h : Rel G S ρ ow a w) {f : Operand} {as : Array Operand} {ts : Array TypeId} (ho : o.op = .call { callee := .value f, args := as, argTypes := ts })
    (hr : Runs (Ct P) S (opBody E d (.call { callee := .value f, args := as, argTypes := ts })) lt lb wr lt' lb') : Lands P G S a w o wr := by
  simp only [opBody] at hr
  obtain ⟨v, _, hv, hr1⟩ := runs_evO h hr
  split at hr1
  · rename_i g caps
    obtain ⟨vs, _, hvs, hr2⟩ := runs_evOs h hr1
    obtain ⟨he, hc⟩ := hv
    have hF : F2 (VV S.b ρ) (vs ++ caps.map fun i => AV.a (.sc (.bp i 0))) (as.toList.map a.eval ++ caps.map ρ) := by
      refine hvs.app ?_
      have key : ∀ l : List Nat, (∀ c ∈ l, S.b c ≠ .no ∧ ∃ g, ρ c = .pointer (some ⟨g, 0, none⟩)) → F2 (VV S.b ρ) (l.map fun i => AV.a (.sc (.bp i 0))) (l.map ρ) := by
        intro l
        induction l with
        | nil => intro _; trivial
        | cons c r ih =>
          intro hl
          obtain ⟨h1, g', h2⟩ := hl c (by simp)
          exact ⟨⟨h1, g', h2, h2⟩, ih fun c' hc' => hl c' (by simp [hc'])⟩
      exact key caps hc
    refine lands_callS h hF hr2 fun fn hfn hname hbody => ?_
    have e : execOp a.eval o = (do let d ← resolve a.eval { callee := .value f, args := as, argTypes := ts } o.type; invoke d.target d.args) := by simp only [execOp, ho]
    rw [e]
    have hb : fn.body ≠ none := by intro hq; rw [hq] at hbody; cases hbody
    have hnm : fn.name ≠ "runtime.NumGoroutine" := by simpa using hname
    have eA : as.map a.eval ++ (caps.map ρ).toArray = (as.toList.map a.eval ++ caps.map ρ).toArray := by apply Array.ext'; simp
    simp [resolve, Deferred.ofValue, he, invoke, callFunc, hfn, hnm, hb, -List.map_append, -List.append_toArray]
  · exact hr1.elim
end
end Go.Proofs.YtlenacakmmikiaaGreatDoorX
