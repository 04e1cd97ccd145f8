/- The types of the program as the walk of its functions asks for them, and that they are so. (The file is written by wip/x/vxp.py of this repository.) -/
import Derived.Test.YtlenacakmmikiaaDoorX14
import Derived.Test.YtlenacakmmikiaaDoorProg
namespace Go.Proofs.YtlenacakmmikiaaDoorX
open Go Go.Proofs
set_option linter.unusedVariables false
def env : Env where
  zero := fun t => match t with | 26 => some [.slice none 0 0] | 28 => some [.int .i64 0, .int .i64 0, .int .i64 0] | 30 => some [.int .i64 0, .int .i64 0] | 33 => some [.int .i64 0, .int .i64 0, .int .i64 0] | 35 => some [.slice none 0 0, .int .i64 0, .int .i64 0, .int .i64 0, .int .i64 0, .int .i64 0, .int .i64 0] | 37 => some [.slice none 0 0, .int .i64 0, .int .i64 0, .int .i64 0, .int .i64 0, .int .i64 0, .slice none 0 0, .int .i64 0, .int .i64 0, .int .i64 0, .int .i64 0, .int .i64 0, .int .i64 0, .int .i64 0] | 44 => some [.int .i64 0, .int .i64 0, .int .i64 0] | 59 => some [.int .i64 0, .int .i64 0] | 63 => some [.slice none 0 0, .int .i64 0, .int .i64 0] | 97 => some [.int .i64 0, .int .i64 0] | _ => none
  agg := fun t => match t with | 3 => some none | 5 => some none | 9 => some none | 22 => some none | 24 => some none | 26 => some (some 1) | 28 => some (some 3) | 30 => some (some 2) | 31 => some none | 33 => some (some 3) | 35 => some (some 7) | 37 => some (some 14) | 44 => some (some 3) | 59 => some (some 2) | 97 => some (some 2) | _ => none
  fields := fun t => match t with | 26 => some [(0, 24)] | 28 => some [(0, 3), (1, 3), (2, 3)] | 30 => some [(0, 3), (1, 3)] | 33 => some [(0, 3), (1, 3), (2, 3)] | 35 => some [(0, 31), (1, 33), (4, 3), (5, 3), (6, 3)] | 37 => some [(0, 26), (1, 28), (4, 30), (6, 35), (13, 3)] | 44 => some [(0, 3), (1, 3), (2, 3)] | 63 => some [(0, 22), (1, 3), (2, 3)] | 97 => some [(0, 3), (1, 3)] | _ => none
  elem := fun t => match t with | 22 => some K.ku8 | 24 => some K.ki64 | 31 => some K.k_impl_Event | 38 => some K.k_impl_Act | 53 => some K.kstr | _ => none
  chg := fun g => match g with | 16 => true | 25 => true | _ => false
  eqs := fun t => match t with | 33 => some 3 | 44 => some 3 | _ => none
  nils := fun t => match t with | 26 => [some K.ki64] | 35 => [some K.k_impl_Event, none, none, none, none, none, none] | 37 => [some K.ki64, none, none, none, none, none, some K.k_impl_Event, none, none, none, none, none, none, none] | 63 => [some K.ku8, none, none] | _ => []
  isBool := fun t => false
  isStr := fun t => t == 9
  int := fun t => match t with | 3 => some .i64 | 5 => some .u8 | _ => none
  arr := fun t => match t with | 59 => some (2, 1) | _ => none
set_option maxRecDepth 100000 in
theorem envEq : EnvEq Tryd.prog env where
  zero := by intro t l h; unfold env at h; dsimp only at h; first | (cases h; done) | (split at h <;> first | (cases h; done) | (cases h; kernel_rfl))
  agg := by intro t l h; unfold env at h; dsimp only at h; first | (cases h; done) | (split at h <;> first | (cases h; done) | (cases h; exact ⟨by kernel_rfl, by kernel_rfl⟩))
  fields := by intro t l h; unfold env at h; dsimp only at h; first | (cases h; done) | (split at h <;> first | (cases h; done) | (cases h; exact ⟨by kernel_rfl, by kernel_rfl⟩))
  elem := by intro t l h; unfold env at h; dsimp only at h; first | (cases h; done) | (split at h <;> first | (cases h; done) | (cases h; exact ⟨by kernel_rfl, by kernel_rfl, by kernel_rfl⟩))
  isBool := by intro t h; unfold env at h; simp at h
  isStr := by intro t h; unfold env at h; simp at h; subst h; kernel_rfl
  int := by intro t l h; unfold env at h; dsimp only at h; first | (cases h; done) | (split at h <;> first | (cases h; done) | (cases h; kernel_rfl))
  arr := by intro t l h; unfold env at h; dsimp only at h; first | (cases h; done) | (split at h <;> first | (cases h; done) | (cases h; kernel_rfl))
theorem follows : Tryd.prog.follows .mixedOrders = true := by kernel_rfl
set_option maxRecDepth 100000 in
theorem eqs33 (x y : Operand) (xs ys : List Int) (hx : xs.length = 3) (hy : ys.length = 3) (w : World) : (do eqGuard .eql 33 x y (.agg (xs.map (Value.int .i64)).toArray) (.agg (ys.map (Value.int .i64)).toArray); binOp .eql 33 (.agg (xs.map (Value.int .i64)).toArray) (.agg (ys.map (Value.int .i64)).toArray) : Sem Value).run Tryd.prog w = .ok (.bool (decide (xs = ys))) w ∧ (do eqGuard .neq 33 x y (.agg (xs.map (Value.int .i64)).toArray) (.agg (ys.map (Value.int .i64)).toArray); binOp .neq 33 (.agg (xs.map (Value.int .i64)).toArray) (.agg (ys.map (Value.int .i64)).toArray) : Sem Value).run Tryd.prog w = .ok (.bool (!decide (xs = ys))) w :=
  eq_ints (by kernel_rfl) (by kernel_rfl) (by kernel_rfl) (by kernel_rfl) (by kernel_rfl) x y xs ys hx hy w
set_option maxRecDepth 100000 in
theorem eqs44 (x y : Operand) (xs ys : List Int) (hx : xs.length = 3) (hy : ys.length = 3) (w : World) : (do eqGuard .eql 44 x y (.agg (xs.map (Value.int .i64)).toArray) (.agg (ys.map (Value.int .i64)).toArray); binOp .eql 44 (.agg (xs.map (Value.int .i64)).toArray) (.agg (ys.map (Value.int .i64)).toArray) : Sem Value).run Tryd.prog w = .ok (.bool (decide (xs = ys))) w ∧ (do eqGuard .neq 44 x y (.agg (xs.map (Value.int .i64)).toArray) (.agg (ys.map (Value.int .i64)).toArray); binOp .neq 44 (.agg (xs.map (Value.int .i64)).toArray) (.agg (ys.map (Value.int .i64)).toArray) : Sem Value).run Tryd.prog w = .ok (.bool (!decide (xs = ys))) w :=
  eq_ints (by kernel_rfl) (by kernel_rfl) (by kernel_rfl) (by kernel_rfl) (by kernel_rfl) x y xs ys hx hy w
set_option maxRecDepth 100000 in
theorem envOk : EnvOk Tryd.prog env := envEq.ok (by
  intro t n h; unfold env at h; dsimp only at h; (try cases h); try split at h <;> first | (cases h; done) | (cases h; first | (intro x y xs ys hx hy w; exact eqs33 x y xs ys hx hy w) | (intro x y xs ys hx hy w; exact eqs44 x y xs ys hx hy w)))
end Go.Proofs.YtlenacakmmikiaaDoorX
