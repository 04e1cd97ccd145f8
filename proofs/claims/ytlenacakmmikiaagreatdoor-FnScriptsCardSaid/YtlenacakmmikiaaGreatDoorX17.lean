/- Library functions whose answer is more than one plain value, or a new row. -/
import Derived.Test.YtlenacakmmikiaaGreatDoorX16
namespace Go.Proofs.YtlenacakmmikiaaGreatDoorX
open Go Go.RowKit
set_option linter.unusedVariables false
/-- A function that changes nothing of what it was handed, and answers plain values. -/
theorem ct_plain {P : Program} {g : FuncId} {fn : Func} (hfn : P.funcs[g]? = some fn) (hname : (fn.name == "runtime.NumGoroutine") = false) (hbody : fn.body.isSome = true) {A : Pk} {x : AV} {u : Value} (hx : ∀ B ρ, VV B ρ x u)
    (h : ∀ (w : World) (ρ : Nat → Value) (ow : Nat → Option Nat) (vs : Array Value), TB ow w → (∀ i, BlkOk (blF A.bl) w ρ ow i (blF A.bl i)) → F2 (V1 (blF A.bl) ρ) A.avs vs.toList → Calls P g vs w fun e w' => e = .returned u ∧ Below w.heap.size w w') :
    Ct P g A ⟨x, A.bl⟩ := by
  refine ⟨⟨fn, hfn, hname, hbody⟩, fun w ρ ow vs htb hB hF ho hno => ?_⟩
  refine (h w ρ ow vs htb hB hF).mono fun e w' ⟨he, hb⟩ => ⟨u, ρ, ow, he, hx _ _, fun i => ?_, fun g i hg => ?_, ⟨hb.os, hb.tape, hb.output, hb.size, fun k hk _ => hb.block k hk⟩, fun i hi => ?_, fun i h1 h2 => ?_⟩
  · refine BlkOk.mono (Mono.refl _ _) ?_ (fun g hg _ => ⟨hb.block g hg, rfl⟩) (hB i)
    cases hc : blF A.bl i with
    | no => exact .inl rfl
    | _ => exact .inr (by simp)
  · obtain ⟨q1, q2⟩ := ho g i hg
    exact ⟨Nat.lt_of_lt_of_le q1 hb.size, q2, .inr (by rw [hg]; simp)⟩
  · have e : blF A.bl i = A.bl[i]'hi := by simp [blF, List.getElem?_eq_getElem hi]
    refine ⟨by show blF A.bl i ≠ _; rw [e]; exact hno _ (List.getElem_mem _), rfl, id, fun own k xs hr => ⟨own, xs, hr, rfl⟩⟩
  · simp at h2; omega
theorem vv_one (u : Value) : ∀ B ρ, VV B ρ (.a (.sc (.v u))) u := fun _ _ => rfl
theorem vv_two (u v : Value) : ∀ B ρ, VV B ρ (.tp [.sc (.v u), .sc (.v v)]) (.tuple #[u, v]) := fun _ _ => ⟨_, rfl, rfl, rfl, trivial⟩
theorem vv_three (u v t : Value) : ∀ B ρ, VV B ρ (.tp [.sc (.v u), .sc (.v v), .sc (.v t)]) (.tuple #[u, v, t]) := fun _ _ => ⟨_, rfl, rfl, rfl, rfl, trivial⟩
/-- A function that is handed plain values and answers a new row. -/
theorem ct_row {P : Program} {g : FuncId} {fn : Func} (hfn : P.funcs[g]? = some fn) (hname : (fn.name == "runtime.NumGoroutine") = false) (hbody : fn.body.isSome = true) {avs : List A1} {k : K} {xs : List (T k)}
    (h : ∀ (w : World) (ρ : Nat → Value) (ow : Nat → Option Nat) (vs : Array Value), TB ow w → F2 (V1 (blF []) ρ) avs vs.toList → Calls P g vs w fun e w' => ∃ v, e = .returned v ∧ v.oneCell' = true ∧ w'.ownsRow w.heap.size (ty k) (sz k) v xs.length (flat k xs) ∧ Below w.heap.size w w') :
    Ct P g ⟨avs, []⟩ ⟨.a (.sc (.sl 0)), [.row true k xs]⟩ := by
  refine ⟨⟨fn, hfn, hname, hbody⟩, fun w ρ ow vs htb hB hF ho hno => ?_⟩
  refine (h w ρ ow vs htb hF).mono fun e w' ⟨v, he, h1, hr, hb⟩ => ⟨v, fun _ => v, fun g => if v.ownBlock = some g then some 0 else none, he, ?_, fun i => ?_, fun g i hg => ?_, ⟨hb.os, hb.tape, hb.output, hb.size, fun k hk _ => hb.block k hk⟩, fun i hi => ?_, fun i h1 h2 => ?_⟩
  · exact ⟨by simp [blF], rfl, h1⟩
  · match i with
    | 0 =>
      refine ⟨⟨hr.1, ?_⟩, fun g hg => by simp [hg]⟩
      rcases hr.2 with q | ⟨g, cap, cur, e1, e2, e3⟩
      · exact .inl q
      · exact .inr ⟨g, cap, cur, e1, Nat.zero_le _, e3⟩
    | i + 1 => exact trivial
  · simp only at hg
    split at hg
    · rename_i hv; cases hg
      rcases hr.2 with ⟨q, _⟩ | ⟨g', cap, cur, e1, e2, e3, _⟩
      · rw [q] at hv; cases hv
      · rw [e1] at hv
        have : g' = g := by simpa [Value.ownBlock] using hv
        subst this
        exact ⟨(Array.getElem?_eq_some_iff.1 e3).1, rfl, .inl e2⟩
    · cases hg
  · simp at hi
  · simp at h2; subst h2; rfl
theorem one_f {B : Nat → Blk} {ρ : Nat → Value} {u : Value} {f : FuncId} {vs : Array Value} (h : F2 (V1 B ρ) [.sc (.v u), .sc (.fn f [])] vs.toList) : vs = #[u, .func (.func f) #[] #[]] := by
  obtain ⟨l⟩ := vs
  match l, h with
  | [x, y], ⟨h1, h2, _⟩ =>
    have e : x = u := h1
    have e2 : y = .func (.func f) #[] #[] := h2.1
    rw [e, e2]
theorem owns_alloc (w : World) (k : K) (us : List Value) (n : Nat) (hn : us.length = n * sz k) (hl : n ≤ maxLen) : (w.alloc (.cells us.toArray (ty k))).ownsRow w.heap.size (ty k) (sz k) (.slice (some ⟨w.heap.size, 0, none⟩) n n) n us :=
  ⟨hn, .inr ⟨w.heap.size, n, us.toArray, rfl, Nat.le_refl _, heap_alloc_new w _, Nat.le_refl _, hl, by simpa using hn, by rw [← hn]; simp⟩⟩
theorem below_alloc (w : World) (o : Obj) : Below w.heap.size w (w.alloc o) :=
  ⟨rfl, rfl, rfl, by simp, fun k hk => heap_alloc_old w o k hk⟩
end Go.Proofs.YtlenacakmmikiaaGreatDoorX
