/- The types of the program as the walk of its functions asks for them, and that they are so. (The file is written by wip/x/vxp.py of this repository.) -/
import Derived.Test.YtlhcphoojiemmaaGreatX14
import Derived.Test.YtlhcphoojiemmaaGreatProg
namespace Go.Proofs.YtlhcphoojiemmaaGreatX
open Go Go.Proofs
set_option linter.unusedVariables false
def env : Env where
  zero := fun t => match t with | 39 => some [.slice none 0 0] | 40 => some [.int .i64 0, .int .i64 0, .int .i64 0] | 41 => some [.int .i64 0, .int .i64 0] | 43 => some [.int .i64 0, .int .i64 0, .int .i64 0] | 45 => some [.slice none 0 0, .int .i64 0, .int .i64 0, .int .i64 0, .int .i64 0, .int .i64 0, .int .i64 0] | 47 => some [.slice none 0 0, .int .i64 0, .int .i64 0, .int .i64 0, .int .i64 0, .int .i64 0, .slice none 0 0, .int .i64 0, .int .i64 0, .int .i64 0, .int .i64 0, .int .i64 0, .int .i64 0, .int .i64 0] | 51 => some [.int .i64 0, .int .i64 0, .int .i64 0] | 104 => some [.int .i64 0, .int .i64 0] | _ => none
  agg := fun t => match t with | 3 => some none | 4 => some none | 22 => some none | 24 => some (some 1) | 26 => some (some 3) | 28 => some (some 2) | 29 => some none | 31 => some (some 3) | 33 => some (some 7) | 35 => some (some 14) | 37 => some (some 3) | 39 => some (some 1) | 40 => some (some 3) | 41 => some (some 2) | 42 => some none | 43 => some (some 3) | 45 => some (some 7) | 47 => some (some 14) | 51 => some (some 3) | 104 => some (some 2) | 126 => some (some 2) | _ => none
  fields := fun t => match t with | 24 => some [(0, 22)] | 26 => some [(0, 3), (1, 3), (2, 3)] | 28 => some [(0, 3), (1, 3)] | 31 => some [(0, 3), (1, 3), (2, 3)] | 33 => some [(0, 29), (1, 31), (4, 3), (5, 3), (6, 3)] | 35 => some [(0, 24), (1, 26), (4, 28), (6, 33), (13, 3)] | 37 => some [(0, 3), (1, 3), (2, 3)] | 39 => some [(0, 22)] | 40 => some [(0, 3), (1, 3), (2, 3)] | 41 => some [(0, 3), (1, 3)] | 43 => some [(0, 3), (1, 3), (2, 3)] | 45 => some [(0, 42), (1, 43), (4, 3), (5, 3), (6, 3)] | 47 => some [(0, 39), (1, 40), (4, 41), (6, 45), (13, 3)] | 51 => some [(0, 3), (1, 3), (2, 3)] | 104 => some [(0, 3), (1, 3)] | 126 => some [(0, 3), (1, 3)] | _ => none
  elem := fun t => match t with | 22 => some K.ki64 | 29 => some K.k_laws_Event | 42 => some K.k_impl_Event | 56 => some K.k_laws_Act | 59 => some K.k_impl_Act | _ => none
  chg := fun g => match g with | 12 => true | 23 => true | 24 => true | 53 => true | 54 => true | 96 => true | _ => false
  eqs := fun t => match t with | 43 => some 3 | _ => none
  nils := fun t => match t with | 39 => [some K.ki64] | 45 => [some K.k_impl_Event, none, none, none, none, none, none] | 47 => [some K.ki64, none, none, none, none, none, some K.k_impl_Event, none, none, none, none, none, none, none] | _ => []
  isBool := fun t => t == 4
  isStr := fun t => false
  int := fun t => match t with | _ => none
set_option maxRecDepth 100000 in
theorem envEq : EnvEq Tryz.prog env where
  zero := by intro t l h; unfold env at h; dsimp only at h; first | (cases h; done) | (split at h <;> first | (cases h; done) | (cases h; kernel_rfl))
  agg := by intro t l h; unfold env at h; dsimp only at h; first | (cases h; done) | (split at h <;> first | (cases h; done) | (cases h; exact ⟨by kernel_rfl, by kernel_rfl⟩))
  fields := by intro t l h; unfold env at h; dsimp only at h; first | (cases h; done) | (split at h <;> first | (cases h; done) | (cases h; exact ⟨by kernel_rfl, by kernel_rfl⟩))
  elem := by intro t l h; unfold env at h; dsimp only at h; first | (cases h; done) | (split at h <;> first | (cases h; done) | (cases h; exact ⟨by kernel_rfl, by kernel_rfl, by kernel_rfl⟩))
  isBool := by intro t h; unfold env at h; simp at h; subst h; kernel_rfl
  isStr := by intro t h; unfold env at h; simp at h
  int := by intro t l h; unfold env at h; dsimp only at h; first | (cases h; done) | (split at h <;> first | (cases h; done) | (cases h; kernel_rfl))
theorem follows : Tryz.prog.follows .mixedOrders = true := by kernel_rfl
set_option maxRecDepth 100000 in
theorem eqs43 (x y : Operand) (xs ys : List Int) (hx : xs.length = 3) (hy : ys.length = 3) (w : World) : (do eqGuard .eql 43 x y (.agg (xs.map (Value.int .i64)).toArray) (.agg (ys.map (Value.int .i64)).toArray); binOp .eql 43 (.agg (xs.map (Value.int .i64)).toArray) (.agg (ys.map (Value.int .i64)).toArray) : Sem Value).run Tryz.prog w = .ok (.bool (decide (xs = ys))) w ∧ (do eqGuard .neq 43 x y (.agg (xs.map (Value.int .i64)).toArray) (.agg (ys.map (Value.int .i64)).toArray); binOp .neq 43 (.agg (xs.map (Value.int .i64)).toArray) (.agg (ys.map (Value.int .i64)).toArray) : Sem Value).run Tryz.prog w = .ok (.bool (!decide (xs = ys))) w :=
  eq_ints (by kernel_rfl) (by kernel_rfl) (by kernel_rfl) (by kernel_rfl) (by kernel_rfl) x y xs ys hx hy w
theorem envOk : EnvOk Tryz.prog env := envEq.ok (by
  intro t n h; unfold env at h; dsimp only at h; split at h <;> first | (cases h; done) | (cases h; first | (intro x y xs ys hx hy w; exact eqs43 x y xs ys hx hy w)))
end Go.Proofs.YtlhcphoojiemmaaGreatX
