-- Written for this claim by wip/xprint.py of this repository (by way of the kit's print); Lean checks every line.
import Derived.Test.YtnlioefgpgamdaaWMore
import Derived.Below
namespace Go.Proofs.YtnlioefgpgamdaaW.PrintWords
open Go.RowKit
set_option linter.unusedVariables false
/-- A block of the world, some blocks and draws later. -/
theorem bkq {W W' : World} {g : Nat} {o : Obj} (h : W.heap[g]? = some o) (hs : Below W.heap.size W W' := by (with_reducible repeat (first | exact Below.refl _ _ | apply below_alloc | apply pw_below_drewN | apply below_drew1))) : W'.heap[g]? = some o := blk_below h hs
/-- What lay in w lies there still, some blocks, draws and stores of the call's own later. -/
theorem blq {w W W' : World} (h : Below w.heap.size w W) (hs : Below w.heap.size w W → Below w.heap.size w W' := by (intro h_; repeat (first | (with_reducible first | exact h_ | apply below_alloc | apply pw_below_drewN | apply below_drew1 | refine below_set ?_ (Aside0.out (by assumption))) | exact h_))) : Below w.heap.size w W' := hs h
/-- A new block's number is not below w's. -/
theorem sq {w W W' : World} {g : Nat} (hg : g = W'.heap.size) (h : Below w.heap.size w W) (hs : Below w.heap.size w W → Below w.heap.size w W' := by (intro h_; repeat (first | (with_reducible first | exact h_ | apply below_alloc | apply pw_below_drewN | apply below_drew1 | refine below_set ?_ (Aside0.out (by assumption))) | exact h_))) : w.heap.size ≤ g := by rw [hg]; exact below_size (hs h)
theorem nql {W W' : World} {g g' : Nat} {o : Obj} (hg : g' = W'.heap.size) (h : W.heap[g]? = some o) (hs : Below W.heap.size W W' := by (with_reducible repeat (first | exact Below.refl _ _ | apply below_alloc | apply pw_below_drewN | apply below_drew1))) : g ≠ g' := by rw [hg]; exact Nat.ne_of_lt (blk_lt (blk_below h hs))
theorem nqg {W W' : World} {g g' : Nat} {o : Obj} (hg : g' = W'.heap.size) (h : W.heap[g]? = some o) (hs : Below W.heap.size W W' := by (with_reducible repeat (first | exact Below.refl _ _ | apply below_alloc | apply pw_below_drewN | apply below_drew1))) : g' ≠ g := by rw [hg]; exact Nat.ne_of_gt (blk_lt (blk_below h hs))
/-- A row of the call's own, some blocks and draws later. -/
theorem Kd.Rq {α : Type} {d : Kd α} {e base : Nat} {ok : Nat → Prop} {v : Value} {xs : List α} {W W' : World} (h : Kd.R d e W base ok v xs) (hs : Below W.heap.size W W' := by (with_reducible repeat (first | exact Below.refl _ _ | apply below_alloc | apply pw_below_drewN | apply below_drew1))) : Kd.R d e W' base ok v xs := Kd.R_below h hs
end Go.Proofs.YtnlioefgpgamdaaW.PrintWords
