/- The types of the program as the walk of its functions asks for them, and that they are so. (The file is written by wip/x/vxp.py of this repository.) -/
import Derived.Test.YtonaabffckkdlaaX13
import Derived.Test.YtonaabffckkdlaaProg
namespace Go.Proofs.YtonaabffckkdlaaX
open Go Go.Proofs
set_option linter.unusedVariables false
def env : Env where
  zero := fun t => match t with | 29 => some [.int .i64 0, .int .i64 0, .int .i64 0] | 31 => some [.slice none 0 0, .int .i64 0, .int .i64 0, .int .i64 0, .int .i64 0, .int .i64 0, .int .i64 0] | 41 => some [.int .i64 0, .int .i64 0] | 55 => some [.slice none 0 0] | 56 => some [.int .i64 0, .int .i64 0, .int .i64 0] | 57 => some [.int .i64 0, .int .i64 0] | 59 => some [.slice none 0 0, .int .i64 0, .int .i64 0, .int .i64 0, .int .i64 0, .int .i64 0, .slice none 0 0, .int .i64 0, .int .i64 0, .int .i64 0, .int .i64 0, .int .i64 0, .int .i64 0, .int .i64 0] | _ => none
  agg := fun t => match t with | 3 => some none | 4 => some none | 22 => some none | 24 => some (some 3) | 26 => some (some 7) | 28 => some none | 29 => some (some 3) | 31 => some (some 7) | 39 => some (some 2) | 41 => some (some 2) | 44 => some none | 46 => some (some 1) | 48 => some (some 3) | 50 => some (some 2) | 52 => some (some 14) | 55 => some (some 1) | 56 => some (some 3) | 57 => some (some 2) | 59 => some (some 14) | _ => none
  fields := fun t => match t with | 24 => some [(0, 3), (1, 3), (2, 3)] | 26 => some [(0, 22), (1, 24), (4, 3), (5, 3), (6, 3)] | 29 => some [(0, 3), (1, 3), (2, 3)] | 31 => some [(0, 28), (1, 29), (4, 3), (5, 3), (6, 3)] | 39 => some [(0, 3), (1, 3)] | 41 => some [(0, 3), (1, 3)] | 46 => some [(0, 44)] | 48 => some [(0, 3), (1, 3), (2, 3)] | 50 => some [(0, 3), (1, 3)] | 52 => some [(0, 46), (1, 48), (4, 50), (6, 26), (13, 3)] | 55 => some [(0, 44)] | 56 => some [(0, 3), (1, 3), (2, 3)] | 57 => some [(0, 3), (1, 3)] | 59 => some [(0, 55), (1, 56), (4, 57), (6, 31), (13, 3)] | _ => none
  elem := fun t => match t with | 22 => some K.k_laws_Event | 28 => some K.k_impl_Event | 44 => some K.ki64 | _ => none
  chg := fun g => match g with | 18 => true | 30 => true | 38 => true | 60 => true | 75 => true | _ => false
  eqs := fun t => match t with | 29 => some 3 | _ => none
  nils := fun t => match t with | 31 => [some K.k_impl_Event, none, none, none, none, none, none] | 55 => [some K.ki64] | 59 => [some K.ki64, none, none, none, none, none, some K.k_impl_Event, none, none, none, none, none, none, none] | _ => []
  isBool := fun t => t == 4
  isStr := fun t => false
set_option maxRecDepth 100000 in
theorem envEq : EnvEq Try.prog env where
  zero := by intro t l h; unfold env at h; dsimp only at h; split at h <;> first | (cases h; done) | (cases h; kernel_rfl)
  agg := by intro t l h; unfold env at h; dsimp only at h; split at h <;> first | (cases h; done) | (cases h; exact ⟨by kernel_rfl, by kernel_rfl⟩)
  fields := by intro t l h; unfold env at h; dsimp only at h; split at h <;> first | (cases h; done) | (cases h; exact ⟨by kernel_rfl, by kernel_rfl⟩)
  elem := by intro t l h; unfold env at h; dsimp only at h; split at h <;> first | (cases h; done) | (cases h; exact ⟨by kernel_rfl, by kernel_rfl, by kernel_rfl⟩)
  isBool := by intro t h; unfold env at h; simp at h; subst h; kernel_rfl
  isStr := by intro t h; unfold env at h; simp at h
theorem follows : Try.prog.follows .mixedOrders = true := by kernel_rfl
set_option maxRecDepth 100000 in
theorem eqs29 (x y : Operand) (xs ys : List Int) (hx : xs.length = 3) (hy : ys.length = 3) (w : World) : (do eqGuard .eql 29 x y (.agg (xs.map (Value.int .i64)).toArray) (.agg (ys.map (Value.int .i64)).toArray); binOp .eql 29 (.agg (xs.map (Value.int .i64)).toArray) (.agg (ys.map (Value.int .i64)).toArray) : Sem Value).run Try.prog w = .ok (.bool (decide (xs = ys))) w ∧ (do eqGuard .neq 29 x y (.agg (xs.map (Value.int .i64)).toArray) (.agg (ys.map (Value.int .i64)).toArray); binOp .neq 29 (.agg (xs.map (Value.int .i64)).toArray) (.agg (ys.map (Value.int .i64)).toArray) : Sem Value).run Try.prog w = .ok (.bool (!decide (xs = ys))) w :=
  eq_ints (by kernel_rfl) (by kernel_rfl) (by kernel_rfl) (by kernel_rfl) (by kernel_rfl) x y xs ys hx hy w
theorem envOk : EnvOk Try.prog env := envEq.ok (by
  intro t n h; unfold env at h; dsimp only at h; split at h <;> first | (cases h; done) | (cases h; first | (intro x y xs ys hx hy w; exact eqs29 x y xs ys hx hy w)))
end Go.Proofs.YtonaabffckkdlaaX
