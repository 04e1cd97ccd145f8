/- What a call of a function of the walk does, where it is handed nothing that it could change: as a contract over worlds; what stays over such calls. -/
import Derived.Test.YtlenacakmmikiaaGreatDoorX17
import Derived.Lib.Builder
namespace Go.Proofs.YtlenacakmmikiaaGreatDoorX
open Go Go.RowKit
set_option linter.unusedVariables false
theorem TB.plain {ow : Nat → Option Nat} {w : World} (h : TB ow w) : TB (fun _ => none) w := fun q hq => ⟨rfl, (h q hq).2⟩
theorem TB.below {w w' : World} (h : TB (fun _ => none) w) (hb : Below w.heap.size w w') : TB (fun _ => none) w' := fun q hq => by
  obtain ⟨_, cs, e, f, h2, h3⟩ := h q hq
  exact ⟨rfl, cs, e, f, (hb.block q.1 (Array.getElem?_eq_some_iff.1 h2).1).trans h2, h3⟩
/-- A call that is handed plain values alone. -/
theorem ct_calls {P : Program} {g : FuncId} {avs : List A1} {r : Rs} (h : Ct P g ⟨avs, []⟩ r) {w : World} (htb : TB (fun _ => none) w) {vs : Array Value} (hF : F2 (V1 (blF []) fun _ => .nilIface) avs vs.toList) :
    Calls P g vs w fun e w' => ∃ v ρ', e = .returned v ∧ VV (blF r.bl) ρ' r.av v ∧ Below w.heap.size w w' := by
  refine (h.2 w (fun _ => .nilIface) (fun _ => none) vs htb (fun i => ?_) hF (fun g i hg => by cases hg) (fun b hb => by cases hb)).mono ?_
  · show BlkOk _ _ _ _ _ (blF [] i)
    simp [blF]; trivial
  · rintro e w' ⟨v, ρ', ow', he, hv, _, _, hfr, _, _⟩
    exact ⟨v, ρ', he, hv, ⟨hfr.os, hfr.tape, hfr.output, hfr.size, fun k hk => hfr.block k hk rfl⟩⟩
/-- What a builder holds stays where all that lay stays. -/
theorem builderAt_below {T e : TypeId} {B b : Nat} {p : Value} {bs : List Value} {w w' : World} (h : Lib.BuilderAt T e B b p bs w) (hb : Below w.heap.size w w') : Lib.BuilderAt T e B b p bs w' := by
  obtain ⟨hB, v, hbk, hown, hne⟩ := h
  refine ⟨hB, v, (hb.block b (Array.getElem?_eq_some_iff.1 hbk).1).trans hbk, ⟨hown.1, ?_⟩, hne⟩
  rcases hown.2 with q | ⟨g, cap, cur, e1, e2, e3, e4⟩
  · exact .inl q
  · exact .inr ⟨g, cap, cur, e1, e2, (hb.block g (Array.getElem?_eq_some_iff.1 e3).1).trans e3, e4⟩
theorem isBuilder_below {T e : TypeId} {B b : Nat} {bs : List Value} {w w' : World} (h : Lib.IsBuilder T e B b bs w) (hb : Below w.heap.size w w') : Lib.IsBuilder T e B b bs w' := by
  rcases h with h | h
  · exact .inl (builderAt_below h hb)
  · exact .inr (builderAt_below h hb)
theorem row1_v {B : Nat → Blk} {ρ : Nat → Value} {i : Nat} {vs : Array Value} (h : F2 (V1 B ρ) [.sc (.sl i)] vs.toList) : vs = #[ρ i] := by
  obtain ⟨l⟩ := vs
  match l, h with
  | [x], ⟨h1, _⟩ =>
    have e : x = ρ i := h1.2.1
    rw [e]
end Go.Proofs.YtlenacakmmikiaaGreatDoorX
