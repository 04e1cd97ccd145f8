/- The types of the program as the walk of its functions asks for them, and that they are so. (The file is written by wip/x/vxp.py of this repository.) -/
import Derived.Test.YtdgkohichikpdaaDoorX14
import Derived.Test.YtdgkohichikpdaaDoorProg
namespace Go.Proofs.YtdgkohichikpdaaDoorX
open Go Go.Proofs
set_option linter.unusedVariables false
def env : Env where
  zero := fun t => match t with | 33 => some [.int .i64 0, .int .i64 0, .int .i64 0] | _ => none
  agg := fun t => match t with | 3 => some none | 9 => some none | 33 => some (some 3) | 35 => some (some 3) | _ => none
  fields := fun t => match t with | 33 => some [(0, 3), (1, 3), (2, 3)] | 35 => some [(0, 3), (1, 3), (2, 3)] | _ => none
  elem := fun t => match t with | 22 => some K.k_laws_Act | 26 => some K.k_impl_Act | 30 => some K.ku8 | 46 => some K.kstr | 47 => some K.ki64 | _ => none
  chg := fun g => match g with | 7 => true | 26 => true | _ => false
  eqs := fun t => match t with | _ => none
  nils := fun t => match t with | _ => []
  isBool := fun t => t == 4
  isStr := fun t => t == 9
  int := fun t => match t with | 3 => some .i64 | 5 => some .u8 | _ => none
  arr := fun t => match t with | _ => none
set_option maxRecDepth 100000 in
theorem envEq : EnvEq Tryd.prog env where
  zero := by intro t l h; unfold env at h; dsimp only at h; first | (cases h; done) | (split at h <;> first | (cases h; done) | (cases h; kernel_rfl))
  agg := by intro t l h; unfold env at h; dsimp only at h; first | (cases h; done) | (split at h <;> first | (cases h; done) | (cases h; exact ⟨by kernel_rfl, by kernel_rfl⟩))
  fields := by intro t l h; unfold env at h; dsimp only at h; first | (cases h; done) | (split at h <;> first | (cases h; done) | (cases h; exact ⟨by kernel_rfl, by kernel_rfl⟩))
  elem := by intro t l h; unfold env at h; dsimp only at h; first | (cases h; done) | (split at h <;> first | (cases h; done) | (cases h; exact ⟨by kernel_rfl, by kernel_rfl, by kernel_rfl⟩))
  isBool := by intro t h; unfold env at h; simp at h; subst h; kernel_rfl
  isStr := by intro t h; unfold env at h; simp at h; subst h; kernel_rfl
  int := by intro t l h; unfold env at h; dsimp only at h; first | (cases h; done) | (split at h <;> first | (cases h; done) | (cases h; kernel_rfl))
  arr := by intro t l h; unfold env at h; dsimp only at h; first | (cases h; done) | (split at h <;> first | (cases h; done) | (cases h; kernel_rfl))
  byt := by intro t l h h2; unfold env at h; dsimp only at h; first | (cases h; done) | (split at h <;> first | (cases h; done) | (cases h; first | (cases h2; done) | kernel_rfl))
theorem follows : Tryd.prog.follows .mixedOrders = true := by kernel_rfl
set_option maxRecDepth 100000 in
theorem envOk : EnvOk Tryd.prog env := envEq.ok (by
  intro t n h; unfold env at h; dsimp only at h; (try cases h); try split at h <;> first | (cases h; done) | (cases h; done))
end Go.Proofs.YtdgkohichikpdaaDoorX
