/- The types of the program as the walk of its functions asks for them, and that they are so. (The file is written by wip/x/vxp.py of this repository.) -/
import Derived.Test.YtfbnbdcjnbgibaaDoorX14
import Derived.Test.YtfbnbdcjnbgibaaDoorProg
namespace Go.Proofs.YtfbnbdcjnbgibaaDoorX
open Go Go.Proofs
set_option linter.unusedVariables false
def env : Env where
  zero := fun t => match t with | 26 => some [.int .i64 0, .int .i64 0, .int .i64 0] | 40 => some [.slice none 0 0] | 42 => some [.int .i64 0, .int .i64 0, .int .i64 0] | 44 => some [.int .i64 0, .int .i64 0] | 47 => some [.int .i64 0, .int .i64 0, .int .i64 0] | 49 => some [.slice none 0 0, .int .i64 0, .int .i64 0, .int .i64 0, .int .i64 0, .int .i64 0, .int .i64 0] | 51 => some [.slice none 0 0, .int .i64 0, .int .i64 0, .int .i64 0, .int .i64 0, .int .i64 0, .slice none 0 0, .int .i64 0, .int .i64 0, .int .i64 0, .int .i64 0, .int .i64 0, .int .i64 0, .int .i64 0] | 109 => some [.slice none 0 0, .int .i64 0, .int .i64 0] | 142 => some [.int .i64 0, .int .i64 0] | _ => none
  agg := fun t => match t with | 3 => some none | 5 => some none | 9 => some none | 23 => some (some 3) | 26 => some (some 3) | 36 => some none | 38 => some none | 40 => some (some 1) | 42 => some (some 3) | 44 => some (some 2) | 45 => some none | 47 => some (some 3) | 49 => some (some 7) | 51 => some (some 14) | 57 => some (some 1) | 58 => some (some 3) | 59 => some (some 2) | 60 => some none | 61 => some (some 3) | 63 => some (some 7) | 65 => some (some 14) | 142 => some (some 2) | 144 => some (some 2) | _ => none
  fields := fun t => match t with | 23 => some [(0, 3), (1, 3), (2, 3)] | 26 => some [(0, 3), (1, 3), (2, 3)] | 40 => some [(0, 38)] | 42 => some [(0, 3), (1, 3), (2, 3)] | 44 => some [(0, 3), (1, 3)] | 47 => some [(0, 3), (1, 3), (2, 3)] | 49 => some [(0, 45), (1, 47), (4, 3), (5, 3), (6, 3)] | 51 => some [(0, 40), (1, 42), (4, 44), (6, 49), (13, 3)] | 57 => some [(0, 38)] | 58 => some [(0, 3), (1, 3), (2, 3)] | 59 => some [(0, 3), (1, 3)] | 61 => some [(0, 3), (1, 3), (2, 3)] | 63 => some [(0, 60), (1, 61), (4, 3), (5, 3), (6, 3)] | 65 => some [(0, 57), (1, 58), (4, 59), (6, 63), (13, 3)] | 109 => some [(0, 36), (1, 3), (2, 3)] | 142 => some [(0, 3), (1, 3)] | 144 => some [(0, 3), (1, 3)] | _ => none
  elem := fun t => match t with | 32 => some K.k_impl_Act | 36 => some K.ku8 | 38 => some K.ki64 | 45 => some K.k_impl_Event | 54 => some K.kstr | 60 => some K.k_laws_Event | _ => none
  chg := fun g => match g with | 24 => true | 25 => true | 53 => true | 54 => true | 55 => true | 59 => true | 83 => true | 84 => true | _ => false
  eqs := fun t => match t with | 47 => some 3 | _ => none
  nils := fun t => match t with | 40 => [some K.ki64] | 49 => [some K.k_impl_Event, none, none, none, none, none, none] | 51 => [some K.ki64, none, none, none, none, none, some K.k_impl_Event, none, none, none, none, none, none, none] | 109 => [some K.ku8, none, none] | _ => []
  isBool := fun t => t == 4
  isStr := fun t => t == 9
  int := fun t => match t with | 3 => some .i64 | 5 => some .u8 | _ => none
set_option maxRecDepth 100000 in
theorem envEq : EnvEq Tryd.prog env where
  zero := by intro t l h; unfold env at h; dsimp only at h; first | (cases h; done) | (split at h <;> first | (cases h; done) | (cases h; kernel_rfl))
  agg := by intro t l h; unfold env at h; dsimp only at h; first | (cases h; done) | (split at h <;> first | (cases h; done) | (cases h; exact ⟨by kernel_rfl, by kernel_rfl⟩))
  fields := by intro t l h; unfold env at h; dsimp only at h; first | (cases h; done) | (split at h <;> first | (cases h; done) | (cases h; exact ⟨by kernel_rfl, by kernel_rfl⟩))
  elem := by intro t l h; unfold env at h; dsimp only at h; first | (cases h; done) | (split at h <;> first | (cases h; done) | (cases h; exact ⟨by kernel_rfl, by kernel_rfl, by kernel_rfl⟩))
  isBool := by intro t h; unfold env at h; simp at h; subst h; kernel_rfl
  isStr := by intro t h; unfold env at h; simp at h; subst h; kernel_rfl
  int := by intro t l h; unfold env at h; dsimp only at h; first | (cases h; done) | (split at h <;> first | (cases h; done) | (cases h; kernel_rfl))
theorem follows : Tryd.prog.follows .mixedOrders = true := by kernel_rfl
set_option maxRecDepth 100000 in
theorem eqs47 (x y : Operand) (xs ys : List Int) (hx : xs.length = 3) (hy : ys.length = 3) (w : World) : (do eqGuard .eql 47 x y (.agg (xs.map (Value.int .i64)).toArray) (.agg (ys.map (Value.int .i64)).toArray); binOp .eql 47 (.agg (xs.map (Value.int .i64)).toArray) (.agg (ys.map (Value.int .i64)).toArray) : Sem Value).run Tryd.prog w = .ok (.bool (decide (xs = ys))) w ∧ (do eqGuard .neq 47 x y (.agg (xs.map (Value.int .i64)).toArray) (.agg (ys.map (Value.int .i64)).toArray); binOp .neq 47 (.agg (xs.map (Value.int .i64)).toArray) (.agg (ys.map (Value.int .i64)).toArray) : Sem Value).run Tryd.prog w = .ok (.bool (!decide (xs = ys))) w :=
  eq_ints (by kernel_rfl) (by kernel_rfl) (by kernel_rfl) (by kernel_rfl) (by kernel_rfl) x y xs ys hx hy w
theorem envOk : EnvOk Tryd.prog env := envEq.ok (by
  intro t n h; unfold env at h; dsimp only at h; split at h <;> first | (cases h; done) | (cases h; first | (intro x y xs ys hx hy w; exact eqs47 x y xs ys hx hy w)))
end Go.Proofs.YtfbnbdcjnbgibaaDoorX
