/- The types of the program as the walk of its functions asks for them, and that they are so. (The file is written by wip/x/vxp.py of this repository.) -/
import Derived.Test.YtldpjfacoaplhaaDoorX14
import Derived.Test.YtldpjfacoaplhaaDoorProg
namespace Go.Proofs.YtldpjfacoaplhaaDoorX
open Go Go.Proofs
set_option linter.unusedVariables false
def env : Env where
  zero := fun t => match t with | 32 => some [.int .i64 0, .int .i64 0, .int .i64 0] | 52 => some [.int .i64 0, .int .i64 0] | _ => none
  agg := fun t => match t with | 3 => some none | 5 => some none | 9 => some none | 32 => some (some 3) | 52 => some (some 2) | _ => none
  fields := fun t => match t with | 32 => some [(0, 3), (1, 3), (2, 3)] | _ => none
  elem := fun t => match t with | 25 => some K.ku8 | 39 => some K.kstr | 44 => some K.ki64 | _ => none
  chg := fun g => match g with | 37 => true | _ => false
  eqs := fun t => match t with | _ => none
  nils := fun t => match t with | _ => []
  isBool := fun t => t == 4
  isStr := fun t => t == 9
  int := fun t => match t with | 3 => some .i64 | 5 => some .u8 | _ => none
  arr := fun t => match t with | 52 => some (2, 1) | _ => none
set_option maxRecDepth 100000 in
theorem envEq : EnvEq Tryd.prog env where
  zero := by intro t l h; unfold env at h; dsimp only at h; first | (cases h; done) | (split at h <;> first | (cases h; done) | (cases h; kernel_rfl))
  agg := by intro t l h; unfold env at h; dsimp only at h; first | (cases h; done) | (split at h <;> first | (cases h; done) | (cases h; exact ⟨by kernel_rfl, by kernel_rfl⟩))
  fields := by intro t l h; unfold env at h; dsimp only at h; first | (cases h; done) | (split at h <;> first | (cases h; done) | (cases h; exact ⟨by kernel_rfl, by kernel_rfl⟩))
  elem := by intro t l h; unfold env at h; dsimp only at h; first | (cases h; done) | (split at h <;> first | (cases h; done) | (cases h; exact ⟨by kernel_rfl, by kernel_rfl, by kernel_rfl⟩))
  isBool := by intro t h; unfold env at h; simp at h; subst h; kernel_rfl
  isStr := by intro t h; unfold env at h; simp at h; subst h; kernel_rfl
  int := by intro t l h; unfold env at h; dsimp only at h; first | (cases h; done) | (split at h <;> first | (cases h; done) | (cases h; kernel_rfl))
  arr := by intro t l h; unfold env at h; dsimp only at h; first | (cases h; done) | (split at h <;> first | (cases h; done) | (cases h; kernel_rfl))
theorem follows : Tryd.prog.follows .mixedOrders = true := by kernel_rfl
theorem envOk : EnvOk Tryd.prog env := envEq.ok (by
  intro t n h; unfold env at h; dsimp only at h; (try cases h); try split at h <;> first | (cases h; done) | (cases h; done))
end Go.Proofs.YtldpjfacoaplhaaDoorX
