/- Rows that were handed over and come back inside another block are given a new place, so that a result has one form. -/
import Derived.Test.YtlenacakmmikiaaGreatDoorX12
namespace Go.Proofs.YtlenacakmmikiaaGreatDoorX
open Go
set_option linter.unusedVariables false
def refS (i : Nat) : Sc → Bool
  | .sl j => j == i
  | .rp j _ _ _ => j == i
  | .bp j _ => j == i
  | .fn _ cs => cs.any fun c => c == i
  | _ => false
def ref1 (i : Nat) : A1 → Bool
  | .sc s => refS i s
  | .ag l => l.any (refS i)
def refV (i : Nat) : AV → Bool
  | .a x => ref1 i x
  | .tp l => l.any (ref1 i)
def refB (i : Nat) : Blk → Bool
  | .box _ l => l.any (refS i)
  | _ => false
def mvf (i j : Nat) (m : Nat) : Nat := if m = i then j else m
def Rs.mv1 (i : Nat) (r : Rs) : Rs := match r.bl[i]? with
  | some (.row true k xs) => cond (refV i r.av || r.bl.any (refB i)) ⟨renV (mvf i r.bl.length) r.av, (r.bl.map (renB (mvf i r.bl.length))).set i .dead ++ [.row true k xs]⟩ ⟨r.av, r.bl.set i .dead⟩
  | _ => r
def Rs.mv : List Nat → Rs → Rs
  | [], r => r
  | i :: l, r => Rs.mv l (r.mv1 i)
variable {P : Program}
theorem Ct.mv1 {g : FuncId} {A : Pk} {r : Rs} {i : Nat} (hi : i < A.bl.length) (h : Ct P g A r) : Ct P g A (r.mv1 i) := by
  unfold Rs.mv1
  split
  · rename_i k xs hrow
    have hil : i < r.bl.length := (List.getElem?_eq_some_iff.1 hrow).1
    have hBi : blF r.bl i = .row true k xs := by simp only [blF, hrow]
    refine ⟨h.1, fun w ρ ow vs h0 h1 h2 h3 h4 => (h.2 w ρ ow vs h0 h1 h2 h3 h4).mono fun e w' hp => ?_⟩
    obtain ⟨v, ρ', ow', he, hv, hb, ho, hfr, ha, hn⟩ := hp
    cases hc : refV i r.av || r.bl.any (refB i) with
    | false =>
      simp only [cond_false]
      have hin : ∀ m, blF (r.bl.set i .dead) m = if m = i then .dead else blF r.bl m := fun m => by
        simp only [blF, List.getElem?_set]
        by_cases e : i = m
        · rw [if_pos e, if_pos (by omega), if_pos e.symm]
        · rw [if_neg e, if_neg (by omega)]
      have mo : Mono (blF r.bl) (blF (r.bl.set i .dead)) ρ' ρ' := by
        refine ⟨fun m hm => ?_, fun m own k' ys hm hx => ?_, fun _ _ => rfl, fun m hm hx => ?_⟩
        · rw [hin]; split
          · simp
          · exact hm
        · rw [hin] at hx; split at hx
          · cases hx
          · exact ⟨own, ys, hx, rfl⟩
        · rw [hin] at hx; split at hx
          · cases hx
          · exact hx
      refine ⟨v, ρ', fun g => if ow' g = some i then none else ow' g, he, hv.mono mo, fun m => ?_, fun g m hg => ?_, hfr, fun m hm => ?_, fun m h5 h6 => ?_⟩
      · rw [hin]
        split
        · trivial
        · rename_i hmi
          have := hb m
          match hq : blF r.bl m, this with
          | .no, _ => trivial
          | .dead, _ => trivial
          | .box own l, ⟨g, cs, e', p1, p2, p3, p4⟩ =>
            refine ⟨g, cs, e', p1, p2, p3.mono fun _ _ => VS.mono mo, ?_⟩
            show (if ow' g = some i then none else ow' g) = _
            rw [p4]
            cases own with
            | true => simp; omega
            | false => simp
          | .row true k' ys, ⟨p1, p2⟩ => exact ⟨p1, fun g hg => by show (if ow' g = some i then none else ow' g) = _; rw [p2 g hg, if_neg (by simp; omega)]⟩
          | .row false k' ys, ⟨B, cap, p1, p2, p3⟩ => exact ⟨B, cap, p1, p2, fun j u hu => by
              obtain ⟨a, q1, q2, q3⟩ := p3 j u hu
              exact ⟨a, q1, q2, by show (if ow' a.block = some i then none else ow' a.block) = _; rw [q3]; simp⟩⟩
      · have hg' : (if ow' g = some i then none else ow' g) = some m := hg
        split at hg'
        · cases hg'
        · rename_i hne
          obtain ⟨q1, q2, q3⟩ := ho g m hg'
          refine ⟨q1, ?_, q3⟩
          rw [hin, if_neg (by intro e; rw [e] at hg'; exact hne hg')]; exact q2
      · obtain ⟨q1, q2, q3, q4⟩ := ha m hm
        rw [hin]
        refine ⟨?_, q2, fun hx => ?_, fun own k' ys hx => ?_⟩
        · split
          · simp
          · exact q1
        · split at hx
          · cases hx
          · exact q3 hx
        · split at hx
          · cases hx
          · exact q4 own k' ys hx
      · rw [hin, if_neg (by omega)]
        exact hn m h5 (by simpa using h6)
    | true =>
      simp only [cond_true]
      generalize hL : r.bl.length = L at *
      have hin : ∀ m, m < L → blF ((r.bl.map (renB (mvf i L))).set i .dead ++ [.row true k xs]) m = if m = i then .dead else renB (mvf i L) (blF r.bl m) := fun m hm => by
        simp only [blF]
        rw [List.getElem?_append_left (by simp [hL]; exact hm), List.getElem?_set]
        by_cases e : i = m
        · rw [if_pos e, if_pos (by simp [hL]; omega), if_pos e.symm]
        · rw [if_neg e, if_neg (by omega), List.getElem?_map, List.getElem?_eq_getElem (by omega)]
          rfl
      have hat : blF ((r.bl.map (renB (mvf i L))).set i .dead ++ [.row true k xs]) L = .row true k xs := by
        simp only [blF]
        rw [List.getElem?_append_right (by simp [hL])]
        simp [hL]
      have hpast : ∀ m, L < m → blF ((r.bl.map (renB (mvf i L))).set i .dead ++ [.row true k xs]) m = .no := fun m hm => by
        simp only [blF]
        rw [List.getElem?_eq_none (by simp [hL]; omega)]
      generalize hnew : blF ((r.bl.map (renB (mvf i L))).set i .dead ++ [.row true k xs]) = Bn at hin hat hpast
      have lt : ∀ {m}, blF r.bl m ≠ .no → m < L := fun hm => by rw [← hL]; exact lt_of_blF hm
      have hB : ∀ m, blF r.bl m ≠ .no → Bn (mvf i L m) ≠ .no := fun m hm => by
        unfold mvf
        split
        · rw [hat]; simp
        · rename_i hmi; rw [hin m (lt hm), if_neg hmi]; exact renB_ne hm
      have hρ : ∀ m, blF r.bl m ≠ .no → (fun m => if m = L then ρ' i else ρ' m) (mvf i L m) = ρ' m := fun m hm => by
        have hlt := lt hm
        unfold mvf
        dsimp only
        split
        · rename_i e; rw [if_pos rfl, e]
        · rw [if_neg (by omega)]
      refine ⟨v, fun m => if m = L then ρ' i else ρ' m, fun g => if ow' g = some i then some L else ow' g, he, hv.ren hB hρ, fun m => ?_, fun g m hg => ?_, hfr, fun m hm => ?_, fun m h5 h6 => ?_⟩
      · have step : ∀ m, blF r.bl m ≠ .no → BlkOk Bn w' (fun m => if m = L then ρ' i else ρ' m) (fun g => if ow' g = some i then some L else ow' g) (mvf i L m) (renB (mvf i L) (blF r.bl m)) := fun m hm =>
          BlkOk.ren (owr := ow') hB hρ id (fun g hg => by
            unfold mvf
            by_cases e : m = i
            · rw [if_pos e]; show (if ow' g = some i then some L else ow' g) = _; rw [hg, e, if_pos rfl]
            · rw [if_neg e]; show (if ow' g = some i then some L else ow' g) = _; rw [hg, if_neg (by simpa using e)]) (fun _ g _ hg => by show (if ow' g = some i then some L else ow' g) = _; rw [hg]; simp) (hb m)
        rcases Nat.lt_trichotomy m L with hm | hm | hm
        · rw [hin m hm]
          split
          · trivial
          · rename_i hmi
            by_cases hno : blF r.bl m = .no
            · rw [hno]; trivial
            · have := step m hno
              rw [show mvf i L m = m by unfold mvf; rw [if_neg hmi]] at this
              exact this
        · have := step i (by rw [hBi]; simp)
          rw [hBi, show mvf i L i = m by unfold mvf; rw [if_pos rfl, hm]] at this
          have hq : Bn m = .row true k xs := by rw [hm]; exact hat
          rw [hq]
          exact this
        · rw [hpast m hm]; trivial
      · have hg' : (if ow' g = some i then some L else ow' g) = some m := hg
        split at hg'
        · rename_i e
          obtain ⟨q1, _, q3⟩ := ho g i e
          cases hg'
          exact ⟨q1, by rw [hat]; rfl, q3⟩
        · rename_i hne
          obtain ⟨q1, q2, q3⟩ := ho g m hg'
          have hm : m < L := lt (by intro e; rw [e] at q2; cases q2)
          refine ⟨q1, ?_, q3⟩
          rw [hin m hm, if_neg (by intro e; rw [e] at hg'; exact hne hg'), renB_own]
          exact q2
      · obtain ⟨q1, q2, q3, q4⟩ := ha m hm
        have hmL := lt q1
        rw [hin m hmL]
        refine ⟨?_, ?_, fun hx => ?_, fun own k' ys hx => ?_⟩
        · split
          · simp
          · exact renB_ne q1
        · dsimp only; rw [if_neg (by omega)]; exact q2
        · split at hx
          · cases hx
          · rw [renB_own] at hx; exact q3 hx
        · split at hx
          · cases hx
          · exact q4 own k' ys (renB_row hx)
      · have hlen : m < L + 1 := by simpa [hL] using h6
        rcases Nat.lt_or_ge m L with hm | hm
        · rw [hin m hm, if_neg (by omega), renB_own]; exact hn m h5 (by omega)
        · rw [show m = L by omega, hat]; rfl
  · exact h
theorem Ct.mv {g : FuncId} {A : Pk} : ∀ {l : List Nat} {r : Rs}, (∀ i ∈ l, i < A.bl.length) → Ct P g A r → Ct P g A (r.mv l)
  | [], r, _, h => h
  | i :: l, r, hl, h => Ct.mv (l := l) (fun j hj => hl j (List.mem_cons_of_mem _ hj)) (h.mv1 (hl i (List.mem_cons_self ..)))
theorem Ct.mvn {g : FuncId} {A : Pk} {l : List Nat} {r : Rs} (h : Ct P g A r) (n : Nat) (hn : A.bl.length = n) (hl : (l.all fun i => decide (i < n)) = true) : Ct P g A (r.mv l) :=
  h.mv fun i hi => by rw [hn]; exact of_decide_eq_true (List.all_eq_true.1 hl i hi)
end Go.Proofs.YtlenacakmmikiaaGreatDoorX
