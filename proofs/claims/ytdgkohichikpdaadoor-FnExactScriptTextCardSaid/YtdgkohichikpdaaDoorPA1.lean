/- Which acts are right. -/
import Derived.Test.YtdgkohichikpdaaDoorPA0
namespace Go.Proofs.YtdgkohichikpdaaDoorX
open Go
def actOk (a : Deed) : Bool :=
  cond (decide (a.Kind = 1) || decide (a.Kind = 2) || decide (a.Kind = 3) || decide (a.Kind = 6)) (inR a.A 0 1000 && decide (a.B = 0))
    (cond (decide (a.Kind = 4)) (decide (a.A = 0) && decide (a.B = 0)) (cond (decide (a.Kind = 5)) (inR a.A 0 3 && inR a.B 0 100000) false))
theorem spec_ActOk_eq (k : Nat) (a : Deed) : spec_ActOk k a = some (actOk a) := by
  unfold spec_ActOk actOk
  simp only [spec_l01In_eq, Option.bind_some, cond_and]
  by_cases k1 : a.Kind = 1
  · simp [k1]
  by_cases k2 : a.Kind = 2
  · simp [k2]
  by_cases k3 : a.Kind = 3
  · simp [k3]
  by_cases k6 : a.Kind = 6
  · simp [k6]
  by_cases k5 : a.Kind = 5
  · simp [k5]
  by_cases k4 : a.Kind = 4
  · simp [k4]
  · simp [k1, k2, k3, k4, k5, k6]
theorem impl_ActOk_eq (k : Nat) (a : Deed) : impl_ActOk k a = some (actOk a) := by
  unfold impl_ActOk actOk
  simp only [impl_in_eq, Option.bind_some, cond_and]
  by_cases k1 : a.Kind = 1
  · simp [k1]
  by_cases k2 : a.Kind = 2
  · simp [k2]
  by_cases k3 : a.Kind = 3
  · simp [k3]
  by_cases k6 : a.Kind = 6
  · simp [k6]
  by_cases k5 : a.Kind = 5
  · simp [k5]
  by_cases k4 : a.Kind = 4
  · simp [k4]
  · simp [k1, k2, k3, k4, k5, k6]
theorem actOk_kind {a : Deed} (h : actOk a = true) (k1 : ¬ a.Kind = 1) (k2 : ¬ a.Kind = 2) (k3 : ¬ a.Kind = 3) (k4 : ¬ a.Kind = 4) (k5 : ¬ a.Kind = 5) : a.Kind = 6 := by
  apply Classical.byContradiction
  intro k6
  simp [actOk, k1, k2, k3, k4, k5, k6] at h
end Go.Proofs.YtdgkohichikpdaaDoorX
