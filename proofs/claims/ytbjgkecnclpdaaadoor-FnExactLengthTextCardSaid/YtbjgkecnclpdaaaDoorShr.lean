-- Written for this claim by wip/xprint.py of this repository (by way of the kit's print); Lean checks every line.
import Derived.Test.YtbjgkecnclpdaaaDoorWMore
import Derived.Below
namespace Go.Proofs.YtbjgkecnclpdaaaDoorW.PrintWords
open Go.RowKit
set_option linter.unusedVariables false
/-- A block of the world, some blocks and draws later. -/
theorem bkq {W W' : World} {g : Nat} {o : Obj} (h : W.heap[g]? = some o) (hs : Below W.heap.size W W' := by (with_reducible repeat (first | exact Below.refl _ _ | apply below_alloc | apply pw_below_drewN | apply below_drew1))) : W'.heap[g]? = some o := blk_below h hs
/-- What lay in w lies there still, some blocks, draws and stores of the call's own later. -/
theorem blq {w W W' : World} (h : Below w.heap.size w W) (hs : Below w.heap.size w W → Below w.heap.size w W' := by (intro h_; repeat (first | (with_reducible first | exact h_ | apply below_alloc | apply pw_below_drewN | apply below_drew1 | refine below_set ?_ (Aside0.out (by assumption))) | exact h_))) : Below w.heap.size w W' := hs h
/-- A new block's number is not below w's. -/
theorem sq {w W W' : World} {g : Nat} (hg : g = W'.heap.size) (h : Below w.heap.size w W) (hs : Below w.heap.size w W → Below w.heap.size w W' := by (intro h_; repeat (first | (with_reducible first | exact h_ | apply below_alloc | apply pw_below_drewN | apply below_drew1 | refine below_set ?_ (Aside0.out (by assumption))) | exact h_))) : w.heap.size ≤ g := by rw [hg]; exact below_size (hs h)
theorem nql {W W' : World} {g g' : Nat} {o : Obj} (hg : g' = W'.heap.size) (h : W.heap[g]? = some o) (hs : Below W.heap.size W W' := by (with_reducible repeat (first | exact Below.refl _ _ | apply below_alloc | apply pw_below_drewN | apply below_drew1))) : g ≠ g' := by rw [hg]; exact Nat.ne_of_lt (blk_lt (blk_below h hs))
theorem nqg {W W' : World} {g g' : Nat} {o : Obj} (hg : g' = W'.heap.size) (h : W.heap[g]? = some o) (hs : Below W.heap.size W W' := by (with_reducible repeat (first | exact Below.refl _ _ | apply below_alloc | apply pw_below_drewN | apply below_drew1))) : g' ≠ g := by rw [hg]; exact Nat.ne_of_gt (blk_lt (blk_below h hs))
/-- A row of the call's own, some blocks and draws later. -/
theorem Kd.Rq {α : Type} {d : Kd α} {e base : Nat} {ok : Nat → Prop} {v : Value} {xs : List α} {W W' : World} (h : Kd.R d e W base ok v xs) (hs : Below W.heap.size W W' := by (with_reducible repeat (first | exact Below.refl _ _ | apply below_alloc | apply pw_below_drewN | apply below_drew1))) : Kd.R d e W' base ok v xs := Kd.R_below h hs
/-- A row of a parameter, some blocks and draws later. -/
theorem Kd.Cq {α : Type} {d : Kd α} {A : Option Addr} {n : Nat} {xs : List α} {W W' : World} (h : Kd.C d W A n xs) (hs : Below W.heap.size W W' := by (with_reducible repeat (first | exact Below.refl _ _ | apply below_alloc | apply pw_below_drewN | apply below_drew1))) : Kd.C d W' A n xs := Kd.C_below h hs
/-- The same facts at the world behind a call or a new block. -/
theorem bkb {W W1 W2 : World} {g : Nat} {o : Obj} (h : Aside0 (W.heap[g]? = some o)) (hb : Below W1.heap.size W1 W2) (hs : Below W.heap.size W W1 := by (with_reducible repeat (first | exact Below.refl _ _ | apply below_alloc | apply pw_below_drewN | apply below_drew1))) : Aside0 (W2.heap[g]? = some o) := ⟨blk_below (blk_below h.out hs) hb⟩
theorem hbs {w W W1 W2 : World} (h : Aside0 (Below w.heap.size w W)) (hb : Below W1.heap.size W1 W2) (hs : Below w.heap.size w W → Below w.heap.size w W1 := by (intro h_; repeat (first | (with_reducible first | exact h_ | apply below_alloc | apply pw_below_drewN | apply below_drew1 | refine below_set ?_ (Aside0.out (by assumption))) | exact h_))) : Aside0 (Below w.heap.size w W2) := ⟨below_step (hs h.out) hb⟩
theorem rob {α : Type} {d : Kd α} {e base : Nat} {ok : Nat → Prop} {v : Value} {xs : List α} {W W1 W2 : World} (h : Aside0 (Kd.R d e W base ok v xs)) (hb : Below W1.heap.size W1 W2) (hs : Below W.heap.size W W1 := by (with_reducible repeat (first | exact Below.refl _ _ | apply below_alloc | apply pw_below_drewN | apply below_drew1))) : Aside0 (Kd.R d e W2 base ok v xs) := ⟨Kd.R_below (Kd.R_below h.out hs) hb⟩
theorem sQ {w W W' : World} {g : Nat} (hg : g = W'.heap.size) (h : Aside0 (Below w.heap.size w W)) (hs : Below w.heap.size w W → Below w.heap.size w W' := by (intro h_; repeat (first | (with_reducible first | exact h_ | apply below_alloc | apply pw_below_drewN | apply below_drew1 | refine below_set ?_ (Aside0.out (by assumption))) | exact h_))) : Aside0 (w.heap.size ≤ g) := ⟨sq hg h.out hs⟩
theorem qL {W W' : World} {g g' : Nat} {o : Obj} (hg : g' = W'.heap.size) (h : Aside0 (W.heap[g]? = some o)) (hs : Below W.heap.size W W' := by (with_reducible repeat (first | exact Below.refl _ _ | apply below_alloc | apply pw_below_drewN | apply below_drew1))) : Aside0 (g ≠ g') := ⟨nql hg h.out hs⟩
theorem qG {W W' : World} {g g' : Nat} {o : Obj} (hg : g' = W'.heap.size) (h : Aside0 (W.heap[g]? = some o)) (hs : Below W.heap.size W W' := by (with_reducible repeat (first | exact Below.refl _ _ | apply below_alloc | apply pw_below_drewN | apply below_drew1))) : Aside0 (g' ≠ g) := ⟨nqg hg h.out hs⟩
end Go.Proofs.YtbjgkecnclpdaaaDoorW.PrintWords
namespace Go.Proofs.YtbjgkecnclpdaaaDoorW.PrintLast
open Go.RowKit Go.Proofs.YtbjgkecnclpdaaaDoorW.PrintWords
theorem gLq {P : Program} {ops : Array Oper} {Q : Exit → Act → World → Prop} {rest : List Oper} {oi : Oper} {a : Act} {w : World} (N : Option Tmp) {f : FuncId} {fn : Func} {as : Array Operand} {ts : Array TypeId} (hf : P.funcs[f]? = some fn) (args : Array Value)
    (h : Calls P f args w fun e w' => ∃ v, e = .returned v ∧ wpList P ops Q rest (a.put N v) w')
    (hd : oi.dst = N := by exact rfl) (hg : oi.guard = none := by exact rfl) (hname : (fn.name == "runtime.NumGoroutine") = false := by kernel_rfl) (hb : fn.body.isSome = true := by exact rfl)
    (hop : oi.op = .call { callee := .value (.func f), args := as, argTypes := ts } := by exact rfl)
    (hargs : as.map a.eval = args := by ((try simp only [List.map_toArray, List.map_cons, List.map_nil]); first | done | rfl | (simp only [List.length_drop, List.length_take]; rfl))) : wpList P ops Q (oi :: rest) a w := goesL_ N hd hg hf hname hb args hop hargs h
end Go.Proofs.YtbjgkecnclpdaaaDoorW.PrintLast
