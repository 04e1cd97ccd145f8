/- Functions of the library whose contracts are known: as entries of the walk. -/
import Derived.Test.YtlenacakmmikiaaGreatDoorX15
import Derived.Below
namespace Go.Proofs.YtlenacakmmikiaaGreatDoorX
open Go Go.RowKit
set_option linter.unusedVariables false
/-- A function that changes nothing of what it was handed, and answers a plain value. -/
theorem ct_keep {P : Program} {g : FuncId} {fn : Func} (hfn : P.funcs[g]? = some fn) (hname : (fn.name == "runtime.NumGoroutine") = false) (hbody : fn.body.isSome = true) {A : Pk} {u : Value}
    (h : ∀ (w : World) (ρ : Nat → Value) (ow : Nat → Option Nat) (vs : Array Value), TB ow w → (∀ i, BlkOk (blF A.bl) w ρ ow i (blF A.bl i)) → F2 (V1 (blF A.bl) ρ) A.avs vs.toList → Calls P g vs w fun e w' => e = .returned u ∧ Below w.heap.size w w') :
    Ct P g A ⟨.a (.sc (.v u)), A.bl⟩ := by
  refine ⟨⟨fn, hfn, hname, hbody⟩, fun w ρ ow vs htb hB hF ho hno => ?_⟩
  refine (h w ρ ow vs htb hB hF).mono fun e w' ⟨he, hb⟩ => ⟨u, ρ, ow, he, rfl, fun i => ?_, fun g i hg => ?_, ⟨hb.os, hb.tape, hb.output, hb.size, fun k hk _ => hb.block k hk⟩, fun i hi => ?_, fun i h1 h2 => ?_⟩
  · refine BlkOk.mono (Mono.refl _ _) ?_ (fun g hg _ => ⟨hb.block g hg, rfl⟩) (hB i)
    cases hc : blF A.bl i with
    | no => exact .inl rfl
    | _ => exact .inr (by simp)
  · obtain ⟨q1, q2⟩ := ho g i hg
    exact ⟨Nat.lt_of_lt_of_le q1 hb.size, q2, .inr (by rw [hg]; simp)⟩
  · have e : blF A.bl i = A.bl[i]'hi := by simp [blF, List.getElem?_eq_getElem hi]
    refine ⟨by show blF A.bl i ≠ _; rw [e]; exact hno _ (List.getElem_mem _), rfl, id, fun own k xs hr => ⟨own, xs, hr, rfl⟩⟩
  · simp at h2; omega
/-- The arguments of a function of one plain value. -/
theorem one_v {B : Nat → Blk} {ρ : Nat → Value} {u : Value} {vs : Array Value} (h : F2 (V1 B ρ) [.sc (.v u)] vs.toList) : vs = #[u] := by
  obtain ⟨l⟩ := vs
  match l, h with
  | [x], ⟨h1, _⟩ => have e : x = u := h1; rw [e]
theorem row_v {B : Nat → Blk} {ρ : Nat → Value} {i : Nat} {u : Value} {vs : Array Value} (h : F2 (V1 B ρ) [.sc (.sl i), .sc (.v u)] vs.toList) : vs = #[ρ i, u] := by
  obtain ⟨l⟩ := vs
  match l, h with
  | [x, y], ⟨h1, h2, _⟩ =>
    have e : x = ρ i := h1.2.1
    have e2 : y = u := h2
    rw [e, e2]
theorem two_v {B : Nat → Blk} {ρ : Nat → Value} {u v : Value} {vs : Array Value} (h : F2 (V1 B ρ) [.sc (.v u), .sc (.v v)] vs.toList) : vs = #[u, v] := by
  obtain ⟨l⟩ := vs
  match l, h with
  | [x, y], ⟨h1, h2, _⟩ =>
    have e : x = u := h1
    have e2 : y = v := h2
    rw [e, e2]
end Go.Proofs.YtlenacakmmikiaaGreatDoorX
