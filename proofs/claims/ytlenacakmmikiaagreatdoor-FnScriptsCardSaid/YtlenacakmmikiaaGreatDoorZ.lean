/- The types of the program as the walk of its functions asks for them, and that they are so. (The file is written by wip/x/vxp.py of this repository.) -/
import Derived.Test.YtlenacakmmikiaaGreatDoorX14
import Derived.Test.YtlenacakmmikiaaGreatDoorProg
namespace Go.Proofs.YtlenacakmmikiaaGreatDoorX
open Go Go.Proofs
set_option linter.unusedVariables false
def env : Env where
  zero := fun t => match t with | 32 => some [.slice none 0 0] | 34 => some [.int .i64 0, .int .i64 0, .int .i64 0] | 36 => some [.int .i64 0, .int .i64 0] | 39 => some [.int .i64 0, .int .i64 0, .int .i64 0] | 41 => some [.slice none 0 0, .int .i64 0, .int .i64 0, .int .i64 0, .int .i64 0, .int .i64 0, .int .i64 0] | 43 => some [.slice none 0 0, .int .i64 0, .int .i64 0, .int .i64 0, .int .i64 0, .int .i64 0, .slice none 0 0, .int .i64 0, .int .i64 0, .int .i64 0, .int .i64 0, .int .i64 0, .int .i64 0, .int .i64 0] | 55 => some [.int .i64 0, .int .i64 0, .int .i64 0] | 89 => some [.int .i64 0, .int .i64 0] | 94 => some [.slice none 0 0, .int .i64 0, .int .i64 0] | 133 => some [.int .i64 0, .int .i64 0] | _ => none
  agg := fun t => match t with | 3 => some none | 4 => some none | 5 => some none | 9 => some none | 28 => some none | 30 => some none | 32 => some (some 1) | 34 => some (some 3) | 36 => some (some 2) | 37 => some none | 39 => some (some 3) | 41 => some (some 7) | 43 => some (some 14) | 55 => some (some 3) | 89 => some (some 2) | 133 => some (some 2) | _ => none
  fields := fun t => match t with | 32 => some [(0, 30)] | 34 => some [(0, 3), (1, 3), (2, 3)] | 36 => some [(0, 3), (1, 3)] | 39 => some [(0, 3), (1, 3), (2, 3)] | 41 => some [(0, 37), (1, 39), (4, 3), (5, 3), (6, 3)] | 43 => some [(0, 32), (1, 34), (4, 36), (6, 41), (13, 3)] | 55 => some [(0, 3), (1, 3), (2, 3)] | 94 => some [(0, 28), (1, 3), (2, 3)] | 133 => some [(0, 3), (1, 3)] | _ => none
  elem := fun t => match t with | 22 => some K.kstr | 28 => some K.ku8 | 30 => some K.ki64 | 37 => some K.k_impl_Event | 44 => some K.k_impl_Act | _ => none
  chg := fun g => match g with | 12 => true | 52 => true | 75 => true | _ => false
  eqs := fun t => match t with | 39 => some 3 | _ => none
  nils := fun t => match t with | 32 => [some K.ki64] | 41 => [some K.k_impl_Event, none, none, none, none, none, none] | 43 => [some K.ki64, none, none, none, none, none, some K.k_impl_Event, none, none, none, none, none, none, none] | 94 => [some K.ku8, none, none] | _ => []
  isBool := fun t => false
  isStr := fun t => t == 9
  int := fun t => match t with | 3 => some .i64 | 5 => some .u8 | _ => none
  arr := fun t => match t with | 89 => some (2, 1) | _ => none
set_option maxRecDepth 100000 in
theorem envEq : EnvEq Tryz.prog env where
  zero := by intro t l h; unfold env at h; dsimp only at h; first | (cases h; done) | (split at h <;> first | (cases h; done) | (cases h; kernel_rfl))
  agg := by intro t l h; unfold env at h; dsimp only at h; first | (cases h; done) | (split at h <;> first | (cases h; done) | (cases h; exact ⟨by kernel_rfl, by kernel_rfl⟩))
  fields := by intro t l h; unfold env at h; dsimp only at h; first | (cases h; done) | (split at h <;> first | (cases h; done) | (cases h; exact ⟨by kernel_rfl, by kernel_rfl⟩))
  elem := by intro t l h; unfold env at h; dsimp only at h; first | (cases h; done) | (split at h <;> first | (cases h; done) | (cases h; exact ⟨by kernel_rfl, by kernel_rfl, by kernel_rfl⟩))
  isBool := by intro t h; unfold env at h; simp at h
  isStr := by intro t h; unfold env at h; simp at h; subst h; kernel_rfl
  int := by intro t l h; unfold env at h; dsimp only at h; first | (cases h; done) | (split at h <;> first | (cases h; done) | (cases h; kernel_rfl))
  arr := by intro t l h; unfold env at h; dsimp only at h; first | (cases h; done) | (split at h <;> first | (cases h; done) | (cases h; kernel_rfl))
  byt := by intro t l h h2; unfold env at h; dsimp only at h; first | (cases h; done) | (split at h <;> first | (cases h; done) | (cases h; first | (cases h2; done) | kernel_rfl))
theorem follows : Tryz.prog.follows .mixedOrders = true := by kernel_rfl
set_option maxRecDepth 100000 in
theorem eqs39 (x y : Operand) (xs ys : List Int) (hx : xs.length = 3) (hy : ys.length = 3) (w : World) : (do eqGuard .eql 39 x y (.agg (xs.map (Value.int .i64)).toArray) (.agg (ys.map (Value.int .i64)).toArray); binOp .eql 39 (.agg (xs.map (Value.int .i64)).toArray) (.agg (ys.map (Value.int .i64)).toArray) : Sem Value).run Tryz.prog w = .ok (.bool (decide (xs = ys))) w ∧ (do eqGuard .neq 39 x y (.agg (xs.map (Value.int .i64)).toArray) (.agg (ys.map (Value.int .i64)).toArray); binOp .neq 39 (.agg (xs.map (Value.int .i64)).toArray) (.agg (ys.map (Value.int .i64)).toArray) : Sem Value).run Tryz.prog w = .ok (.bool (!decide (xs = ys))) w :=
  eq_ints (by kernel_rfl) (by kernel_rfl) (by kernel_rfl) (by kernel_rfl) (by kernel_rfl) x y xs ys hx hy w
set_option maxRecDepth 100000 in
theorem envOk : EnvOk Tryz.prog env := envEq.ok (by
  intro t n h; unfold env at h; dsimp only at h; (try cases h); try split at h <;> first | (cases h; done) | (cases h; first | (intro x y xs ys hx hy w; exact eqs39 x y xs ys hx hy w)))
end Go.Proofs.YtlenacakmmikiaaGreatDoorX
