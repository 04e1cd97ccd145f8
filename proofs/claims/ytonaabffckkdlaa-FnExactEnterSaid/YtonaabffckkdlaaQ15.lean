-- Written for this claim by wip/xprint.py of this repository (by way of the kit's print); Lean checks every line.
import Derived.Test.YtonaabffckkdlaaQ0
import Derived.Test.YtonaabffckkdlaaQ2
import Derived.Test.YtonaabffckkdlaaQ7
import Derived.Test.YtonaabffckkdlaaQ12
import Derived.Test.YtonaabffckkdlaaQ13
import Derived.Test.YtonaabffckkdlaaQ14
namespace Go.Proofs.Ytonaabffckkdlaa.Q
open Go.RowKit Go.Proofs.YtonaabffckkdlaaW.PrintWords Go.Proofs.YtonaabffckkdlaaW.PrintLast Go.Proofs.YtonaabffckkdlaaW.PrintMore
attribute [local go_sem] max2_int min2_int max_two min_two max_three min_three max_four min_four   -- for this text's walks alone
set_option linter.unusedVariables false
set_option linter.unusedSimpArgs false

/-! ### laws_FnExactEnter: function 4 -/
mutual
def laws_FnExactEnter.j0 : Nat → Bool → Bool → Bool → List (S39) → Int → Int → Int → Int → Int → Int → Int → Int → List (S41) → Int → Int → Int → Int → Int → Int → List (S41) → Int → Int → Int → Int → Int → Int → List (S41) → Int → Int → Int → Int → Int → Int → Option (Bool)
 | 0, _, _, _, _, _, _, _, _, _, _, _, _, _, _, _, _, _, _, _, _, _, _, _, _, _, _, _, _, _, _, _, _, _ => none
 | k + 1, x7, x10, x46, x532000, x532001, x532002, x532003, x532004, x532005, x532006, x533000, x533001, x556000, x556001, x556002, x556003, x556004, x556005, x556006, x566000, x566001, x566002, x566003, x566004, x566005, x566006, x579000, x579001, x579002, x579003, x579004, x579005, x579006 => if x46 = true then (some false) else ((laws_toBook.f k x532000 x532001 x532002 x532003 x532004 x532005 x532006).bind fun bt580 => ((laws_eqBook.f k x566000 x566001 x566002 x566003 x566004 x566005 x566006 bt580.1 bt580.2.1 bt580.2.2.1 bt580.2.2.2.1 bt580.2.2.2.2.1 bt580.2.2.2.2.2.1 bt580.2.2.2.2.2.2).bind fun t589 => (if t589 = true then ((laws_markBook.f k x566000 x566001 x566002 x566003 x566004 x566005 x566006 1).bind fun bt590 => (if bt590.1 < 0 then (laws_FnExactEnter.j1 k x7 true x532000 x532001 x532002 x532003 x532004 x532005 x532006 x533000 x533001 x556000 x556001 x556002 x556003 x556004 x556005 x556006 x579000 x579001 x579002 x579003 x579004 x579005 x579006) else ((laws_eqBook.f k x579000 x579001 x579002 x579003 x579004 x579005 x579006 x556000 x556001 x556002 x556003 x556004 x556005 x556006).bind fun t592 => (if t592 = true then (laws_FnExactEnter.j1 k x7 (x10 != x7) x532000 x532001 x532002 x532003 x532004 x532005 x532006 x533000 x533001 x556000 x556001 x556002 x556003 x556004 x556005 x556006 x579000 x579001 x579002 x579003 x579004 x579005 x579006) else (laws_FnExactEnter.j1 k x7 true x532000 x532001 x532002 x532003 x532004 x532005 x532006 x533000 x533001 x556000 x556001 x556002 x556003 x556004 x556005 x556006 x579000 x579001 x579002 x579003 x579004 x579005 x579006))))) else (some false))))
def laws_FnExactEnter.j1 : Nat → Bool → Bool → List (S39) → Int → Int → Int → Int → Int → Int → Int → Int → List (S41) → Int → Int → Int → Int → Int → Int → List (S41) → Int → Int → Int → Int → Int → Int → Option (Bool)
 | 0, _, _, _, _, _, _, _, _, _, _, _, _, _, _, _, _, _, _, _, _, _, _, _, _, _ => none
 | k + 1, x7, x67, x532000, x532001, x532002, x532003, x532004, x532005, x532006, x533000, x533001, x556000, x556001, x556002, x556003, x556004, x556005, x556006, x579000, x579001, x579002, x579003, x579004, x579005, x579006 => if x67 = true then (some false) else ((laws_markBook.f k x579000 x579001 x579002 x579003 x579004 x579005 x579006 1).bind fun bt593 => ((laws_heldBook.f k bt593.2 x579001 x579002 x579003 x579004 x579005 x579006 1).bind fun t595 => (if t595 < 0 then (some false) else (if t595 = bt593.1 then ((laws_toBook.f k x532000 x532001 x532002 x532003 x532004 x532005 x532006).bind fun bt596 => ((laws_toEvent.f x533000 x533001).bind fun bt605 => ((impl_Enter.f k bt596.1 bt596.2.1 bt596.2.2.1 bt596.2.2.2.1 bt596.2.2.2.2.1 bt596.2.2.2.2.2.1 bt596.2.2.2.2.2.2 bt605.1 bt605.2).bind fun bt607 => ((laws_eqBook.f k bt607.1 bt607.2.1 bt607.2.2.1 bt607.2.2.2.1 bt607.2.2.2.2.1 bt607.2.2.2.2.2.1 bt607.2.2.2.2.2.2.1 x556000 x556001 x556002 x556003 x556004 x556005 x556006).bind fun t618 => (if t618 = true then (laws_FnExactEnter.j2 k bt593.1 (bt607.2.2.2.2.2.2.2 != x7) bt593.2 x579001 x579002 x579003 x579004 x579005 x579006) else (laws_FnExactEnter.j2 k bt593.1 true bt593.2 x579001 x579002 x579003 x579004 x579005 x579006)))))) else (some false)))))
def laws_FnExactEnter.j2 : Nat → Int → Bool → List (S41) → Int → Int → Int → Int → Int → Int → Option (Bool)
 | 0, _, _, _, _, _, _, _, _, _ => none
 | k + 1, x12, x95, x579000, x579001, x579002, x579003, x579004, x579005, x579006 => if x95 = true then (some false) else ((laws_heldBook.f k x579000 x579001 x579002 x579003 x579004 x579005 x579006 1).bind fun t619 => (if t619 < 0 then (some false) else (if t619 = x12 then (some true) else (some false))))
end
def laws_FnExactEnter.f (k : Nat) (l0_0 : List (S39)) (a0_1 : Int) (a0_2 : Int) (a0_3 : Int) (a0_4 : Int) (a0_5 : Int) (a0_6 : Int) (a1_0 : Int) (a1_1 : Int) : Option (Bool) := (laws_szBook.f l0_0 a0_1 a0_2 a0_3 a0_4 a0_5 a0_6 1048576).bind fun t533 => (if t533 < 0 then (some true) else ((laws_toBook.f k l0_0 a0_1 a0_2 a0_3 a0_4 a0_5 a0_6).bind fun bt534 => ((laws_toEvent.f a1_0 a1_1).bind fun bt543 => ((spec_Enter.f k bt534.1 bt534.2.1 bt534.2.2.1 bt534.2.2.2.1 bt534.2.2.2.2.1 bt534.2.2.2.2.2.1 bt534.2.2.2.2.2.2 bt543.1 bt543.2).bind fun bt545 => ((laws_toBook.f k l0_0 a0_1 a0_2 a0_3 a0_4 a0_5 a0_6).bind fun bt556 => ((laws_toEvent.f a1_0 a1_1).bind fun bt566 => ((impl_Enter.f k bt556.1 bt556.2.1 bt556.2.2.1 bt556.2.2.2.1 bt556.2.2.2.2.1 bt556.2.2.2.2.2.1 bt556.2.2.2.2.2.2 bt566.1 bt566.2).bind fun bt568 => ((laws_eqBook.f k bt568.1 bt568.2.1 bt568.2.2.1 bt568.2.2.2.1 bt568.2.2.2.2.1 bt568.2.2.2.2.2.1 bt568.2.2.2.2.2.2.1 bt545.1 bt545.2.1 bt545.2.2.1 bt545.2.2.2.1 bt545.2.2.2.2.1 bt545.2.2.2.2.2.1 bt545.2.2.2.2.2.2.1).bind fun t579 => (if t579 = true then (laws_FnExactEnter.j0 k bt545.2.2.2.2.2.2.2 bt568.2.2.2.2.2.2.2 (bt568.2.2.2.2.2.2.2 != bt545.2.2.2.2.2.2.2) l0_0 a0_1 a0_2 a0_3 a0_4 a0_5 a0_6 a1_0 a1_1 bt545.1 bt545.2.1 bt545.2.2.1 bt545.2.2.2.1 bt545.2.2.2.2.1 bt545.2.2.2.2.2.1 bt545.2.2.2.2.2.2.1 bt556.1 bt556.2.1 bt556.2.2.1 bt556.2.2.2.1 bt556.2.2.2.2.1 bt556.2.2.2.2.2.1 bt556.2.2.2.2.2.2 bt568.1 bt568.2.1 bt568.2.2.1 bt568.2.2.2.1 bt568.2.2.2.2.1 bt568.2.2.2.2.2.1 bt568.2.2.2.2.2.2.1) else (laws_FnExactEnter.j0 k bt545.2.2.2.2.2.2.2 bt568.2.2.2.2.2.2.2 true l0_0 a0_1 a0_2 a0_3 a0_4 a0_5 a0_6 a1_0 a1_1 bt545.1 bt545.2.1 bt545.2.2.1 bt545.2.2.2.1 bt545.2.2.2.2.1 bt545.2.2.2.2.2.1 bt545.2.2.2.2.2.2.1 bt556.1 bt556.2.1 bt556.2.2.1 bt556.2.2.2.1 bt556.2.2.2.2.1 bt556.2.2.2.2.2.1 bt556.2.2.2.2.2.2 bt568.1 bt568.2.1 bt568.2.2.1 bt568.2.2.2.1 bt568.2.2.2.2.1 bt568.2.2.2.2.2.1 bt568.2.2.2.2.2.2.1))))))))))
theorem laws_FnExactEnter.mono_l : ∀ k, (∀ y0 y1 y2 y3 y4 y5 y6 y7 y8 y9 y10 y11 y12 y13 y14 y15 y16 y17 y18 y19 y20 y21 y22 y23 y24 y25 y26 y27 y28 y29 y30 y31 y32, LeO (laws_FnExactEnter.j0 k y0 y1 y2 y3 y4 y5 y6 y7 y8 y9 y10 y11 y12 y13 y14 y15 y16 y17 y18 y19 y20 y21 y22 y23 y24 y25 y26 y27 y28 y29 y30 y31 y32) (laws_FnExactEnter.j0 (k + 1) y0 y1 y2 y3 y4 y5 y6 y7 y8 y9 y10 y11 y12 y13 y14 y15 y16 y17 y18 y19 y20 y21 y22 y23 y24 y25 y26 y27 y28 y29 y30 y31 y32)) ∧ (∀ y0 y1 y2 y3 y4 y5 y6 y7 y8 y9 y10 y11 y12 y13 y14 y15 y16 y17 y18 y19 y20 y21 y22 y23 y24, LeO (laws_FnExactEnter.j1 k y0 y1 y2 y3 y4 y5 y6 y7 y8 y9 y10 y11 y12 y13 y14 y15 y16 y17 y18 y19 y20 y21 y22 y23 y24) (laws_FnExactEnter.j1 (k + 1) y0 y1 y2 y3 y4 y5 y6 y7 y8 y9 y10 y11 y12 y13 y14 y15 y16 y17 y18 y19 y20 y21 y22 y23 y24)) ∧ (∀ y0 y1 y2 y3 y4 y5 y6 y7 y8, LeO (laws_FnExactEnter.j2 k y0 y1 y2 y3 y4 y5 y6 y7 y8) (laws_FnExactEnter.j2 (k + 1) y0 y1 y2 y3 y4 y5 y6 y7 y8))
 | 0 => ⟨fun _ _ _ _ _ _ _ _ _ _ _ _ _ _ _ _ _ _ _ _ _ _ _ _ _ _ _ _ _ _ _ _ _ r h => by simp [laws_FnExactEnter.j0] at h, fun _ _ _ _ _ _ _ _ _ _ _ _ _ _ _ _ _ _ _ _ _ _ _ _ _ r h => by simp [laws_FnExactEnter.j1] at h, fun _ _ _ _ _ _ _ _ _ r h => by simp [laws_FnExactEnter.j2] at h⟩
 | k + 1 => by
  obtain ⟨ih0, ih1, ih2⟩ := laws_FnExactEnter.mono_l k
  refine ⟨?_, ?_, ?_⟩
  ·
   intro y0 y1 y2 y3 y4 y5 y6 y7 y8 y9 y10 y11 y12 y13 y14 y15 y16 y17 y18 y19 y20 y21 y22 y23 y24 y25 y26 y27 y28 y29 y30 y31 y32
   unfold laws_FnExactEnter.j0
   repeat' first
   | (with_reducible exact ih0 _ _ _ _ _ _ _ _ _ _ _ _ _ _ _ _ _ _ _ _ _ _ _ _ _ _ _ _ _ _ _ _ _)
   | (with_reducible exact ih1 _ _ _ _ _ _ _ _ _ _ _ _ _ _ _ _ _ _ _ _ _ _ _ _ _)
   | (with_reducible exact ih2 _ _ _ _ _ _ _ _ _)
   | (with_reducible exact impl_Enter.mono _ _ _ _ _ _ _ _ _ _)
   | (with_reducible exact laws_eqBook.mono _ _ _ _ _ _ _ _ _ _ _ _ _ _ _)
   | (with_reducible exact laws_heldBook.mono _ _ _ _ _ _ _ _ _)
   | (with_reducible exact laws_markBook.mono _ _ _ _ _ _ _ _ _)
   | (with_reducible exact laws_toBook.mono _ _ _ _ _ _ _ _)
   | (with_reducible exact spec_Enter.mono _ _ _ _ _ _ _ _ _ _)
   | (with_reducible exact LeO.refl _)
   | (with_reducible exact LeO.none _)
   | (with_reducible refine LeO.ite ?_ ?_)
   | (with_reducible refine LeO.bind ?_ (fun _ => ?_))
   | exact ih0 _ _ _ _ _ _ _ _ _ _ _ _ _ _ _ _ _ _ _ _ _ _ _ _ _ _ _ _ _ _ _ _ _
   | exact ih1 _ _ _ _ _ _ _ _ _ _ _ _ _ _ _ _ _ _ _ _ _ _ _ _ _
   | exact ih2 _ _ _ _ _ _ _ _ _
   | exact impl_Enter.mono _ _ _ _ _ _ _ _ _ _
   | exact laws_eqBook.mono _ _ _ _ _ _ _ _ _ _ _ _ _ _ _
   | exact laws_heldBook.mono _ _ _ _ _ _ _ _ _
   | exact laws_markBook.mono _ _ _ _ _ _ _ _ _
   | exact laws_toBook.mono _ _ _ _ _ _ _ _
   | exact spec_Enter.mono _ _ _ _ _ _ _ _ _ _
   | exact LeO.none _
   | refine LeO.ite ?_ ?_
   | refine LeO.bind ?_ (fun _ => ?_)
  ·
   intro y0 y1 y2 y3 y4 y5 y6 y7 y8 y9 y10 y11 y12 y13 y14 y15 y16 y17 y18 y19 y20 y21 y22 y23 y24
   unfold laws_FnExactEnter.j1
   repeat' first
   | (with_reducible exact ih0 _ _ _ _ _ _ _ _ _ _ _ _ _ _ _ _ _ _ _ _ _ _ _ _ _ _ _ _ _ _ _ _ _)
   | (with_reducible exact ih1 _ _ _ _ _ _ _ _ _ _ _ _ _ _ _ _ _ _ _ _ _ _ _ _ _)
   | (with_reducible exact ih2 _ _ _ _ _ _ _ _ _)
   | (with_reducible exact impl_Enter.mono _ _ _ _ _ _ _ _ _ _)
   | (with_reducible exact laws_eqBook.mono _ _ _ _ _ _ _ _ _ _ _ _ _ _ _)
   | (with_reducible exact laws_heldBook.mono _ _ _ _ _ _ _ _ _)
   | (with_reducible exact laws_markBook.mono _ _ _ _ _ _ _ _ _)
   | (with_reducible exact laws_toBook.mono _ _ _ _ _ _ _ _)
   | (with_reducible exact spec_Enter.mono _ _ _ _ _ _ _ _ _ _)
   | (with_reducible exact LeO.refl _)
   | (with_reducible exact LeO.none _)
   | (with_reducible refine LeO.ite ?_ ?_)
   | (with_reducible refine LeO.bind ?_ (fun _ => ?_))
   | exact ih0 _ _ _ _ _ _ _ _ _ _ _ _ _ _ _ _ _ _ _ _ _ _ _ _ _ _ _ _ _ _ _ _ _
   | exact ih1 _ _ _ _ _ _ _ _ _ _ _ _ _ _ _ _ _ _ _ _ _ _ _ _ _
   | exact ih2 _ _ _ _ _ _ _ _ _
   | exact impl_Enter.mono _ _ _ _ _ _ _ _ _ _
   | exact laws_eqBook.mono _ _ _ _ _ _ _ _ _ _ _ _ _ _ _
   | exact laws_heldBook.mono _ _ _ _ _ _ _ _ _
   | exact laws_markBook.mono _ _ _ _ _ _ _ _ _
   | exact laws_toBook.mono _ _ _ _ _ _ _ _
   | exact spec_Enter.mono _ _ _ _ _ _ _ _ _ _
   | exact LeO.none _
   | refine LeO.ite ?_ ?_
   | refine LeO.bind ?_ (fun _ => ?_)
  ·
   intro y0 y1 y2 y3 y4 y5 y6 y7 y8
   unfold laws_FnExactEnter.j2
   repeat' first
   | (with_reducible exact ih0 _ _ _ _ _ _ _ _ _ _ _ _ _ _ _ _ _ _ _ _ _ _ _ _ _ _ _ _ _ _ _ _ _)
   | (with_reducible exact ih1 _ _ _ _ _ _ _ _ _ _ _ _ _ _ _ _ _ _ _ _ _ _ _ _ _)
   | (with_reducible exact ih2 _ _ _ _ _ _ _ _ _)
   | (with_reducible exact impl_Enter.mono _ _ _ _ _ _ _ _ _ _)
   | (with_reducible exact laws_eqBook.mono _ _ _ _ _ _ _ _ _ _ _ _ _ _ _)
   | (with_reducible exact laws_heldBook.mono _ _ _ _ _ _ _ _ _)
   | (with_reducible exact laws_markBook.mono _ _ _ _ _ _ _ _ _)
   | (with_reducible exact laws_toBook.mono _ _ _ _ _ _ _ _)
   | (with_reducible exact spec_Enter.mono _ _ _ _ _ _ _ _ _ _)
   | (with_reducible exact LeO.refl _)
   | (with_reducible exact LeO.none _)
   | (with_reducible refine LeO.ite ?_ ?_)
   | (with_reducible refine LeO.bind ?_ (fun _ => ?_))
   | exact ih0 _ _ _ _ _ _ _ _ _ _ _ _ _ _ _ _ _ _ _ _ _ _ _ _ _ _ _ _ _ _ _ _ _
   | exact ih1 _ _ _ _ _ _ _ _ _ _ _ _ _ _ _ _ _ _ _ _ _ _ _ _ _
   | exact ih2 _ _ _ _ _ _ _ _ _
   | exact impl_Enter.mono _ _ _ _ _ _ _ _ _ _
   | exact laws_eqBook.mono _ _ _ _ _ _ _ _ _ _ _ _ _ _ _
   | exact laws_heldBook.mono _ _ _ _ _ _ _ _ _
   | exact laws_markBook.mono _ _ _ _ _ _ _ _ _
   | exact laws_toBook.mono _ _ _ _ _ _ _ _
   | exact spec_Enter.mono _ _ _ _ _ _ _ _ _ _
   | exact LeO.none _
   | refine LeO.ite ?_ ?_
   | refine LeO.bind ?_ (fun _ => ?_)
theorem laws_FnExactEnter.mono : ∀ a0 a1 a2 a3 a4 a5 a6 a7 a8 k, LeO (laws_FnExactEnter.f k a0 a1 a2 a3 a4 a5 a6 a7 a8) (laws_FnExactEnter.f (k + 1) a0 a1 a2 a3 a4 a5 a6 a7 a8) := by
 intro a0 a1 a2 a3 a4 a5 a6 a7 a8 k
 obtain ⟨ih0, ih1, ih2⟩ := laws_FnExactEnter.mono_l k
 unfold laws_FnExactEnter.f
 repeat' first
   | (with_reducible exact ih0 _ _ _ _ _ _ _ _ _ _ _ _ _ _ _ _ _ _ _ _ _ _ _ _ _ _ _ _ _ _ _ _ _)
   | (with_reducible exact ih1 _ _ _ _ _ _ _ _ _ _ _ _ _ _ _ _ _ _ _ _ _ _ _ _ _)
   | (with_reducible exact ih2 _ _ _ _ _ _ _ _ _)
   | (with_reducible exact impl_Enter.mono _ _ _ _ _ _ _ _ _ _)
   | (with_reducible exact laws_eqBook.mono _ _ _ _ _ _ _ _ _ _ _ _ _ _ _)
   | (with_reducible exact laws_heldBook.mono _ _ _ _ _ _ _ _ _)
   | (with_reducible exact laws_markBook.mono _ _ _ _ _ _ _ _ _)
   | (with_reducible exact laws_toBook.mono _ _ _ _ _ _ _ _)
   | (with_reducible exact spec_Enter.mono _ _ _ _ _ _ _ _ _ _)
   | (with_reducible exact LeO.refl _)
   | (with_reducible exact LeO.none _)
   | (with_reducible refine LeO.ite ?_ ?_)
   | (with_reducible refine LeO.bind ?_ (fun _ => ?_))
   | exact ih0 _ _ _ _ _ _ _ _ _ _ _ _ _ _ _ _ _ _ _ _ _ _ _ _ _ _ _ _ _ _ _ _ _
   | exact ih1 _ _ _ _ _ _ _ _ _ _ _ _ _ _ _ _ _ _ _ _ _ _ _ _ _
   | exact ih2 _ _ _ _ _ _ _ _ _
   | exact impl_Enter.mono _ _ _ _ _ _ _ _ _ _
   | exact laws_eqBook.mono _ _ _ _ _ _ _ _ _ _ _ _ _ _ _
   | exact laws_heldBook.mono _ _ _ _ _ _ _ _ _
   | exact laws_markBook.mono _ _ _ _ _ _ _ _ _
   | exact laws_toBook.mono _ _ _ _ _ _ _ _
   | exact spec_Enter.mono _ _ _ _ _ _ _ _ _ _
   | exact LeO.none _
   | refine LeO.ite ?_ ?_
   | refine LeO.bind ?_ (fun _ => ?_)
def laws_FnExactEnter.T5 : Bool × List (List Nat × List Nat) := (true, [([], []), ([0], [0]), ([], []), ([2, 1], [2]), ([1, 3, 3], [1, 3]), ([4], [4]), ([5], [5]), ([5], [5]), ([], []), ([8, 6, 4, 0, 1, 2, 3, 4, 5, 6, 8], [6, 8]), ([7, 9, 0, 1, 2, 3, 4, 5, 6, 7, 8, 9], [7])])
def laws_FnExactEnter.B5 : List Nat := [0, 1, 0, 7, 15, 31, 63, 63, 0, 383, 1023]
theorem laws_FnExactEnter.tab5 : rtab .any (opsOf Try.f4 5) = laws_FnExactEnter.T5 := by kernel_rfl
theorem laws_FnExactEnter.bits5 : waitsOk laws_FnExactEnter.T5.2 laws_FnExactEnter.B5 = true := by kernel_rfl
def laws_FnExactEnter.T7 : Bool × List (List Nat × List Nat) := (true, [([], []), ([], []), ([1], [1]), ([0, 2, 2], [0, 2]), ([3], [3]), ([4], [4]), ([4], [4]), ([], []), ([7, 5, 3, 0, 1, 2, 3, 4, 5, 7], [5, 7]), ([6, 8, 0, 1, 2, 3, 4, 5, 6, 7, 8], [6])])
def laws_FnExactEnter.B7 : List Nat := [0, 0, 2, 7, 15, 31, 31, 0, 191, 511]
theorem laws_FnExactEnter.tab7 : rtab .any (opsOf Try.f4 7) = laws_FnExactEnter.T7 := by kernel_rfl
theorem laws_FnExactEnter.bits7 : waitsOk laws_FnExactEnter.T7.2 laws_FnExactEnter.B7 = true := by kernel_rfl
def laws_FnExactEnter.T24 : Bool × List (List Nat × List Nat) := (true, [([], []), ([0], [0]), ([], []), ([2, 1], [2]), ([1, 3, 3], [1, 3]), ([4], [4]), ([5], [5]), ([5], [5]), ([], []), ([8, 6, 4, 0, 1, 2, 3, 4, 5, 6, 8], [6, 8]), ([7, 9, 0, 1, 2, 3, 4, 5, 6, 7, 8, 9], [7])])
def laws_FnExactEnter.B24 : List Nat := [0, 1, 0, 7, 15, 31, 63, 63, 0, 383, 1023]
theorem laws_FnExactEnter.tab24 : rtab .any (opsOf Try.f4 24) = laws_FnExactEnter.T24 := by kernel_rfl
theorem laws_FnExactEnter.bits24 : waitsOk laws_FnExactEnter.T24.2 laws_FnExactEnter.B24 = true := by kernel_rfl
set_option maxHeartbeats 8000000 in
set_option maxRecDepth 100000 in
theorem laws_FnExactEnter.calls (k : Nat) (A0_0 : Option Addr) (c0_0 : Nat) (l0_0 : List (S39)) (a0_1 : Int) (a0_2 : Int) (a0_3 : Int) (a0_4 : Int) (a0_5 : Int) (a0_6 : Int) (a1_0 : Int) (a1_1 : Int) (r : Bool) (w : World) (hr0_0 : Kd.C k39 w A0_0 l0_0.length l0_0) (hc0_0 : l0_0.length ≤ c0_0) (h : laws_FnExactEnter.f k l0_0 a0_1 a0_2 a0_3 a0_4 a0_5 a0_6 a1_0 a1_1 = some r) :
  Calls Try.prog 4 #[.agg #[.slice A0_0 l0_0.length c0_0, .int .i64 a0_1, .int .i64 a0_2, .int .i64 a0_3, .int .i64 a0_4, .int .i64 a0_5, .int .i64 a0_6], .agg #[.int .i64 a1_0, .int .i64 a1_1]] w fun e w' => e = .returned (.bool r) ∧ Below w.heap.size w w' := by
 have hu26 := Try.underlying26
 have hu39 := Try.underlying39
 have hu31 := Try.underlying31
 have HR0_0 := Aside0.mk hr0_0
 have HC0_0 := Aside0.mk hc0_0
 clear hr0_0 hc0_0
 have HB := Aside0.mk (Below.refl w.heap.size w)
 have H : ((laws_szBook.f l0_0 a0_1 a0_2 a0_3 a0_4 a0_5 a0_6 1048576).bind fun t533 => (if t533 < 0 then (some true) else ((laws_toBook.f k l0_0 a0_1 a0_2 a0_3 a0_4 a0_5 a0_6).bind fun bt534 => ((laws_toEvent.f a1_0 a1_1).bind fun bt543 => ((spec_Enter.f k bt534.1 bt534.2.1 bt534.2.2.1 bt534.2.2.2.1 bt534.2.2.2.2.1 bt534.2.2.2.2.2.1 bt534.2.2.2.2.2.2 bt543.1 bt543.2).bind fun bt545 => ((laws_toBook.f k l0_0 a0_1 a0_2 a0_3 a0_4 a0_5 a0_6).bind fun bt556 => ((laws_toEvent.f a1_0 a1_1).bind fun bt566 => ((impl_Enter.f k bt556.1 bt556.2.1 bt556.2.2.1 bt556.2.2.2.1 bt556.2.2.2.2.1 bt556.2.2.2.2.2.1 bt556.2.2.2.2.2.2 bt566.1 bt566.2).bind fun bt568 => ((laws_eqBook.f k bt568.1 bt568.2.1 bt568.2.2.1 bt568.2.2.2.1 bt568.2.2.2.2.1 bt568.2.2.2.2.2.1 bt568.2.2.2.2.2.2.1 bt545.1 bt545.2.1 bt545.2.2.1 bt545.2.2.2.1 bt545.2.2.2.2.1 bt545.2.2.2.2.2.1 bt545.2.2.2.2.2.2.1).bind fun t579 => (if t579 = true then (laws_FnExactEnter.j0 k bt545.2.2.2.2.2.2.2 bt568.2.2.2.2.2.2.2 (bt568.2.2.2.2.2.2.2 != bt545.2.2.2.2.2.2.2) l0_0 a0_1 a0_2 a0_3 a0_4 a0_5 a0_6 a1_0 a1_1 bt545.1 bt545.2.1 bt545.2.2.1 bt545.2.2.2.1 bt545.2.2.2.2.1 bt545.2.2.2.2.2.1 bt545.2.2.2.2.2.2.1 bt556.1 bt556.2.1 bt556.2.2.1 bt556.2.2.2.1 bt556.2.2.2.2.1 bt556.2.2.2.2.2.1 bt556.2.2.2.2.2.2 bt568.1 bt568.2.1 bt568.2.2.1 bt568.2.2.2.1 bt568.2.2.2.2.1 bt568.2.2.2.2.2.1 bt568.2.2.2.2.2.2.1) else (laws_FnExactEnter.j0 k bt545.2.2.2.2.2.2.2 bt568.2.2.2.2.2.2.2 true l0_0 a0_1 a0_2 a0_3 a0_4 a0_5 a0_6 a1_0 a1_1 bt545.1 bt545.2.1 bt545.2.2.1 bt545.2.2.2.1 bt545.2.2.2.2.1 bt545.2.2.2.2.2.1 bt545.2.2.2.2.2.2.1 bt556.1 bt556.2.1 bt556.2.2.1 bt556.2.2.2.1 bt556.2.2.2.2.1 bt556.2.2.2.2.2.1 bt556.2.2.2.2.2.2 bt568.1 bt568.2.1 bt568.2.2.1 bt568.2.2.2.1 bt568.2.2.2.2.1 bt568.2.2.2.2.2.1 bt568.2.2.2.2.2.2.1))))))))))) = some r := h
 clear h
 replace H := Option.bind_eq_some_iff.mp H
 obtain ⟨t533, A30, H⟩ := H
 replace H : (if t533 < 0 then (some true) else ((laws_toBook.f k l0_0 a0_1 a0_2 a0_3 a0_4 a0_5 a0_6).bind fun bt534 => ((laws_toEvent.f a1_0 a1_1).bind fun bt543 => ((spec_Enter.f k bt534.1 bt534.2.1 bt534.2.2.1 bt534.2.2.2.1 bt534.2.2.2.2.1 bt534.2.2.2.2.2.1 bt534.2.2.2.2.2.2 bt543.1 bt543.2).bind fun bt545 => ((laws_toBook.f k l0_0 a0_1 a0_2 a0_3 a0_4 a0_5 a0_6).bind fun bt556 => ((laws_toEvent.f a1_0 a1_1).bind fun bt566 => ((impl_Enter.f k bt556.1 bt556.2.1 bt556.2.2.1 bt556.2.2.2.1 bt556.2.2.2.2.1 bt556.2.2.2.2.2.1 bt556.2.2.2.2.2.2 bt566.1 bt566.2).bind fun bt568 => ((laws_eqBook.f k bt568.1 bt568.2.1 bt568.2.2.1 bt568.2.2.2.1 bt568.2.2.2.2.1 bt568.2.2.2.2.2.1 bt568.2.2.2.2.2.2.1 bt545.1 bt545.2.1 bt545.2.2.1 bt545.2.2.2.1 bt545.2.2.2.2.1 bt545.2.2.2.2.2.1 bt545.2.2.2.2.2.2.1).bind fun t579 => (if t579 = true then (laws_FnExactEnter.j0 k bt545.2.2.2.2.2.2.2 bt568.2.2.2.2.2.2.2 (bt568.2.2.2.2.2.2.2 != bt545.2.2.2.2.2.2.2) l0_0 a0_1 a0_2 a0_3 a0_4 a0_5 a0_6 a1_0 a1_1 bt545.1 bt545.2.1 bt545.2.2.1 bt545.2.2.2.1 bt545.2.2.2.2.1 bt545.2.2.2.2.2.1 bt545.2.2.2.2.2.2.1 bt556.1 bt556.2.1 bt556.2.2.1 bt556.2.2.2.1 bt556.2.2.2.2.1 bt556.2.2.2.2.2.1 bt556.2.2.2.2.2.2 bt568.1 bt568.2.1 bt568.2.2.1 bt568.2.2.2.1 bt568.2.2.2.2.1 bt568.2.2.2.2.2.1 bt568.2.2.2.2.2.2.1) else (laws_FnExactEnter.j0 k bt545.2.2.2.2.2.2.2 bt568.2.2.2.2.2.2.2 true l0_0 a0_1 a0_2 a0_3 a0_4 a0_5 a0_6 a1_0 a1_1 bt545.1 bt545.2.1 bt545.2.2.1 bt545.2.2.2.1 bt545.2.2.2.2.1 bt545.2.2.2.2.2.1 bt545.2.2.2.2.2.2.1 bt556.1 bt556.2.1 bt556.2.2.1 bt556.2.2.2.1 bt556.2.2.2.2.1 bt556.2.2.2.2.2.1 bt556.2.2.2.2.2.2 bt568.1 bt568.2.1 bt568.2.2.1 bt568.2.2.2.1 bt568.2.2.2.2.1 bt568.2.2.2.2.2.1 bt568.2.2.2.2.2.2.1)))))))))) = some r := H
 have A3 := Aside0.mk A30
 clear A30
 have HF4 := Aside0.mk H
 clear H
 go_enter Try.func4, Try.ntmps4
 go_upto_if 20 with (first | ((with_reducible refine gate_dst (N := 2) rfl ?_); refine box_event ?hg (N := 2) ?hd (cs := #[.slice A0_0 l0_0.length c0_0, .int .i64 a0_1, .int .i64 a0_2, .int .i64 a0_3, .int .i64 a0_4, .int .i64 a0_5, .int .i64 a0_6]) (t := 26) ?hr ?_; (case hd => rfl); (case hg => rfl); (case hr => first | (go_simp; done) | (go_simp; rfl)); intro gb531 hg w5 hbox hb; have BK531 := Aside0.mk (hbox); have GW531 := sQ hg HB; have GE531 := sQ hg HB; replace HB := hbs HB hb; clear hb hbox hg) | ((with_reducible refine gate_dst (N := 3) rfl ?_); refine box_event ?hg (N := 3) ?hd (cs := #[.int .i64 a1_0, .int .i64 a1_1]) (t := 39) ?hr ?_; (case hd => rfl); (case hg => rfl); (case hr => first | (go_simp; done) | (go_simp; rfl)); intro gb532 hg w6 hbox hb; have BK532 := Aside0.mk (hbox); have GW532 := sQ hg HB; have GE532 := sQ hg HB; have NB531_532 := qL hg BK531; have NB532_531 := qG hg BK531; replace BK531 := bkb BK531 hb; replace HB := hbs HB hb; clear hb hbox hg; obtain ⟨_, _⟩ := ne2 NB531_532 NB532_531; obtain ⟨hcz8_0, hcz8_1, hcz8_2, hcz8_3, hcz8_4, hcz8_5, hcz8_6, hfz8_0, hfz8_1, hfz8_2, hfz8_3, hfz8_4, hfz8_5, hfz8_6⟩ := bq7 BK531.out) | ((with_reducible refine gate_callee (f := 13) rfl ?_); refine gLq (some 18) Try.func13 #[.agg #[.slice A0_0 l0_0.length c0_0, .int .i64 a0_1, .int .i64 a0_2, .int .i64 a0_3, .int .i64 a0_4, .int .i64 a0_5, .int .i64 a0_6], .int .i64 1048576] ?_; (with_reducible refine (laws_szBook.calls _ _ l0_0 a0_1 a0_2 a0_3 a0_4 a0_5 a0_6 1048576 t533 _ ?side1 ?side2 A3.out).mono ?_); (case side1 => exact Kd.Cq (Kd.C_below HR0_0.out HB.out)); (case side2 => exact HC0_0.out); rintro e w9 ⟨rfl, hb⟩; refine ⟨_, rfl, ?_⟩; replace BK531 := bkb BK531 hb; replace BK532 := bkb BK532 hb; replace HB := hbs HB hb; (try clear hb); (try clear hb2); (try clear hk); (try clear hi)))
 have H := HF4.out
 clear HF4
 by_cases c10 : t533 < 0
 ·
  rw [if_pos c10] at H
  have c10b0 : decide (t533 < 0) = true := decide_eq_true c10
  clear c10
  (first | rw [c10b0] | (simp only [i64_w, i32_w]; rw [c10b0]) | skip)
  obtain rfl := Option.some.inj H
  go_wp2
  go_ret
  exact ⟨by first | rfl | (simp [errW_none, errW_some] <;> rfl) | (simp [*, errW_none, errW_some] <;> rfl), blq HB.out⟩
 ·
  rw [if_neg c10] at H
  have c10b0 : decide (t533 < 0) = false := decide_eq_false c10
  clear c10
  (first | rw [c10b0] | (simp only [i64_w, i32_w]; rw [c10b0]) | skip)
  replace H := Option.bind_eq_some_iff.mp H
  obtain ⟨⟨t534, t537, t538, t539, t540, t541, t542⟩, A110, H⟩ := H
  replace H : ((laws_toEvent.f a1_0 a1_1).bind fun bt543 => ((spec_Enter.f k t534 t537 t538 t539 t540 t541 t542 bt543.1 bt543.2).bind fun bt545 => ((laws_toBook.f k l0_0 a0_1 a0_2 a0_3 a0_4 a0_5 a0_6).bind fun bt556 => ((laws_toEvent.f a1_0 a1_1).bind fun bt566 => ((impl_Enter.f k bt556.1 bt556.2.1 bt556.2.2.1 bt556.2.2.2.1 bt556.2.2.2.2.1 bt556.2.2.2.2.2.1 bt556.2.2.2.2.2.2 bt566.1 bt566.2).bind fun bt568 => ((laws_eqBook.f k bt568.1 bt568.2.1 bt568.2.2.1 bt568.2.2.2.1 bt568.2.2.2.2.1 bt568.2.2.2.2.2.1 bt568.2.2.2.2.2.2.1 bt545.1 bt545.2.1 bt545.2.2.1 bt545.2.2.2.1 bt545.2.2.2.2.1 bt545.2.2.2.2.2.1 bt545.2.2.2.2.2.2.1).bind fun t579 => (if t579 = true then (laws_FnExactEnter.j0 k bt545.2.2.2.2.2.2.2 bt568.2.2.2.2.2.2.2 (bt568.2.2.2.2.2.2.2 != bt545.2.2.2.2.2.2.2) l0_0 a0_1 a0_2 a0_3 a0_4 a0_5 a0_6 a1_0 a1_1 bt545.1 bt545.2.1 bt545.2.2.1 bt545.2.2.2.1 bt545.2.2.2.2.1 bt545.2.2.2.2.2.1 bt545.2.2.2.2.2.2.1 bt556.1 bt556.2.1 bt556.2.2.1 bt556.2.2.2.1 bt556.2.2.2.2.1 bt556.2.2.2.2.2.1 bt556.2.2.2.2.2.2 bt568.1 bt568.2.1 bt568.2.2.1 bt568.2.2.2.1 bt568.2.2.2.2.1 bt568.2.2.2.2.2.1 bt568.2.2.2.2.2.2.1) else (laws_FnExactEnter.j0 k bt545.2.2.2.2.2.2.2 bt568.2.2.2.2.2.2.2 true l0_0 a0_1 a0_2 a0_3 a0_4 a0_5 a0_6 a1_0 a1_1 bt545.1 bt545.2.1 bt545.2.2.1 bt545.2.2.2.1 bt545.2.2.2.2.1 bt545.2.2.2.2.2.1 bt545.2.2.2.2.2.2.1 bt556.1 bt556.2.1 bt556.2.2.1 bt556.2.2.2.1 bt556.2.2.2.2.1 bt556.2.2.2.2.2.1 bt556.2.2.2.2.2.2 bt568.1 bt568.2.1 bt568.2.2.1 bt568.2.2.2.1 bt568.2.2.2.2.1 bt568.2.2.2.2.2.1 bt568.2.2.2.2.2.2.1)))))))) = some r := H
  have A11 := Aside0.mk A110
  clear A110
  replace H := Option.bind_eq_some_iff.mp H
  obtain ⟨⟨t543, t544⟩, A120, H⟩ := H
  replace H : ((spec_Enter.f k t534 t537 t538 t539 t540 t541 t542 t543 t544).bind fun bt545 => ((laws_toBook.f k l0_0 a0_1 a0_2 a0_3 a0_4 a0_5 a0_6).bind fun bt556 => ((laws_toEvent.f a1_0 a1_1).bind fun bt566 => ((impl_Enter.f k bt556.1 bt556.2.1 bt556.2.2.1 bt556.2.2.2.1 bt556.2.2.2.2.1 bt556.2.2.2.2.2.1 bt556.2.2.2.2.2.2 bt566.1 bt566.2).bind fun bt568 => ((laws_eqBook.f k bt568.1 bt568.2.1 bt568.2.2.1 bt568.2.2.2.1 bt568.2.2.2.2.1 bt568.2.2.2.2.2.1 bt568.2.2.2.2.2.2.1 bt545.1 bt545.2.1 bt545.2.2.1 bt545.2.2.2.1 bt545.2.2.2.2.1 bt545.2.2.2.2.2.1 bt545.2.2.2.2.2.2.1).bind fun t579 => (if t579 = true then (laws_FnExactEnter.j0 k bt545.2.2.2.2.2.2.2 bt568.2.2.2.2.2.2.2 (bt568.2.2.2.2.2.2.2 != bt545.2.2.2.2.2.2.2) l0_0 a0_1 a0_2 a0_3 a0_4 a0_5 a0_6 a1_0 a1_1 bt545.1 bt545.2.1 bt545.2.2.1 bt545.2.2.2.1 bt545.2.2.2.2.1 bt545.2.2.2.2.2.1 bt545.2.2.2.2.2.2.1 bt556.1 bt556.2.1 bt556.2.2.1 bt556.2.2.2.1 bt556.2.2.2.2.1 bt556.2.2.2.2.2.1 bt556.2.2.2.2.2.2 bt568.1 bt568.2.1 bt568.2.2.1 bt568.2.2.2.1 bt568.2.2.2.2.1 bt568.2.2.2.2.2.1 bt568.2.2.2.2.2.2.1) else (laws_FnExactEnter.j0 k bt545.2.2.2.2.2.2.2 bt568.2.2.2.2.2.2.2 true l0_0 a0_1 a0_2 a0_3 a0_4 a0_5 a0_6 a1_0 a1_1 bt545.1 bt545.2.1 bt545.2.2.1 bt545.2.2.2.1 bt545.2.2.2.2.1 bt545.2.2.2.2.2.1 bt545.2.2.2.2.2.2.1 bt556.1 bt556.2.1 bt556.2.2.1 bt556.2.2.2.1 bt556.2.2.2.2.1 bt556.2.2.2.2.2.1 bt556.2.2.2.2.2.2 bt568.1 bt568.2.1 bt568.2.2.1 bt568.2.2.2.1 bt568.2.2.2.2.1 bt568.2.2.2.2.2.1 bt568.2.2.2.2.2.2.1))))))) = some r := H
  have A12 := Aside0.mk A120
  clear A120
  replace H := Option.bind_eq_some_iff.mp H
  obtain ⟨⟨t545, t548, t549, t550, t551, t552, t553, t554⟩, A130, H⟩ := H
  replace H : ((laws_toBook.f k l0_0 a0_1 a0_2 a0_3 a0_4 a0_5 a0_6).bind fun bt556 => ((laws_toEvent.f a1_0 a1_1).bind fun bt566 => ((impl_Enter.f k bt556.1 bt556.2.1 bt556.2.2.1 bt556.2.2.2.1 bt556.2.2.2.2.1 bt556.2.2.2.2.2.1 bt556.2.2.2.2.2.2 bt566.1 bt566.2).bind fun bt568 => ((laws_eqBook.f k bt568.1 bt568.2.1 bt568.2.2.1 bt568.2.2.2.1 bt568.2.2.2.2.1 bt568.2.2.2.2.2.1 bt568.2.2.2.2.2.2.1 t545 t548 t549 t550 t551 t552 t553).bind fun t579 => (if t579 = true then (laws_FnExactEnter.j0 k t554 bt568.2.2.2.2.2.2.2 (bt568.2.2.2.2.2.2.2 != t554) l0_0 a0_1 a0_2 a0_3 a0_4 a0_5 a0_6 a1_0 a1_1 t545 t548 t549 t550 t551 t552 t553 bt556.1 bt556.2.1 bt556.2.2.1 bt556.2.2.2.1 bt556.2.2.2.2.1 bt556.2.2.2.2.2.1 bt556.2.2.2.2.2.2 bt568.1 bt568.2.1 bt568.2.2.1 bt568.2.2.2.1 bt568.2.2.2.2.1 bt568.2.2.2.2.2.1 bt568.2.2.2.2.2.2.1) else (laws_FnExactEnter.j0 k t554 bt568.2.2.2.2.2.2.2 true l0_0 a0_1 a0_2 a0_3 a0_4 a0_5 a0_6 a1_0 a1_1 t545 t548 t549 t550 t551 t552 t553 bt556.1 bt556.2.1 bt556.2.2.1 bt556.2.2.2.1 bt556.2.2.2.2.1 bt556.2.2.2.2.2.1 bt556.2.2.2.2.2.2 bt568.1 bt568.2.1 bt568.2.2.1 bt568.2.2.2.1 bt568.2.2.2.2.1 bt568.2.2.2.2.2.1 bt568.2.2.2.2.2.2.1)))))) = some r := H
  have A13 := Aside0.mk A130
  clear A130
  replace H := Option.bind_eq_some_iff.mp H
  obtain ⟨⟨t556, t559, t560, t561, t562, t563, t564⟩, A140, H⟩ := H
  replace H : ((laws_toEvent.f a1_0 a1_1).bind fun bt566 => ((impl_Enter.f k t556 t559 t560 t561 t562 t563 t564 bt566.1 bt566.2).bind fun bt568 => ((laws_eqBook.f k bt568.1 bt568.2.1 bt568.2.2.1 bt568.2.2.2.1 bt568.2.2.2.2.1 bt568.2.2.2.2.2.1 bt568.2.2.2.2.2.2.1 t545 t548 t549 t550 t551 t552 t553).bind fun t579 => (if t579 = true then (laws_FnExactEnter.j0 k t554 bt568.2.2.2.2.2.2.2 (bt568.2.2.2.2.2.2.2 != t554) l0_0 a0_1 a0_2 a0_3 a0_4 a0_5 a0_6 a1_0 a1_1 t545 t548 t549 t550 t551 t552 t553 t556 t559 t560 t561 t562 t563 t564 bt568.1 bt568.2.1 bt568.2.2.1 bt568.2.2.2.1 bt568.2.2.2.2.1 bt568.2.2.2.2.2.1 bt568.2.2.2.2.2.2.1) else (laws_FnExactEnter.j0 k t554 bt568.2.2.2.2.2.2.2 true l0_0 a0_1 a0_2 a0_3 a0_4 a0_5 a0_6 a1_0 a1_1 t545 t548 t549 t550 t551 t552 t553 t556 t559 t560 t561 t562 t563 t564 bt568.1 bt568.2.1 bt568.2.2.1 bt568.2.2.2.1 bt568.2.2.2.2.1 bt568.2.2.2.2.2.1 bt568.2.2.2.2.2.2.1))))) = some r := H
  have A14 := Aside0.mk A140
  clear A140
  replace H := Option.bind_eq_some_iff.mp H
  obtain ⟨⟨t566, t567⟩, A150, H⟩ := H
  replace H : ((impl_Enter.f k t556 t559 t560 t561 t562 t563 t564 t566 t567).bind fun bt568 => ((laws_eqBook.f k bt568.1 bt568.2.1 bt568.2.2.1 bt568.2.2.2.1 bt568.2.2.2.2.1 bt568.2.2.2.2.2.1 bt568.2.2.2.2.2.2.1 t545 t548 t549 t550 t551 t552 t553).bind fun t579 => (if t579 = true then (laws_FnExactEnter.j0 k t554 bt568.2.2.2.2.2.2.2 (bt568.2.2.2.2.2.2.2 != t554) l0_0 a0_1 a0_2 a0_3 a0_4 a0_5 a0_6 a1_0 a1_1 t545 t548 t549 t550 t551 t552 t553 t556 t559 t560 t561 t562 t563 t564 bt568.1 bt568.2.1 bt568.2.2.1 bt568.2.2.2.1 bt568.2.2.2.2.1 bt568.2.2.2.2.2.1 bt568.2.2.2.2.2.2.1) else (laws_FnExactEnter.j0 k t554 bt568.2.2.2.2.2.2.2 true l0_0 a0_1 a0_2 a0_3 a0_4 a0_5 a0_6 a1_0 a1_1 t545 t548 t549 t550 t551 t552 t553 t556 t559 t560 t561 t562 t563 t564 bt568.1 bt568.2.1 bt568.2.2.1 bt568.2.2.2.1 bt568.2.2.2.2.1 bt568.2.2.2.2.2.1 bt568.2.2.2.2.2.2.1)))) = some r := H
  have A15 := Aside0.mk A150
  clear A150
  replace H := Option.bind_eq_some_iff.mp H
  obtain ⟨⟨t568, t571, t572, t573, t574, t575, t576, t577⟩, A160, H⟩ := H
  replace H : ((laws_eqBook.f k t568 t571 t572 t573 t574 t575 t576 t545 t548 t549 t550 t551 t552 t553).bind fun t579 => (if t579 = true then (laws_FnExactEnter.j0 k t554 t577 (t577 != t554) l0_0 a0_1 a0_2 a0_3 a0_4 a0_5 a0_6 a1_0 a1_1 t545 t548 t549 t550 t551 t552 t553 t556 t559 t560 t561 t562 t563 t564 t568 t571 t572 t573 t574 t575 t576) else (laws_FnExactEnter.j0 k t554 t577 true l0_0 a0_1 a0_2 a0_3 a0_4 a0_5 a0_6 a1_0 a1_1 t545 t548 t549 t550 t551 t552 t553 t556 t559 t560 t561 t562 t563 t564 t568 t571 t572 t573 t574 t575 t576))) = some r := H
  have A16 := Aside0.mk A160
  clear A160
  have HC17 := Aside0.mk H
  clear H
  try go_wp2
  replace BK531 := Aside0.mk (blk_drew BK531.out)
  replace BK532 := Aside0.mk (blk_drew BK532.out)
  replace HB := Aside0.mk (below_drew1 HB.out)
  refine start_ (n := 11) (S := fun w' => w'.cell? ⟨gb531, 0, none⟩ = some (.slice A0_0 l0_0.length c0_0) ∧ w'.cell? ⟨gb531, 1, none⟩ = some (.int .i64 a0_1) ∧ w'.cell? ⟨gb531, 2, none⟩ = some (.int .i64 a0_2) ∧ w'.cell? ⟨gb531, 3, none⟩ = some (.int .i64 a0_3) ∧ w'.cell? ⟨gb531, 4, none⟩ = some (.int .i64 a0_4) ∧ w'.cell? ⟨gb531, 5, none⟩ = some (.int .i64 a0_5) ∧ w'.cell? ⟨gb531, 6, none⟩ = some (.int .i64 a0_6) ∧ w'.cell? ⟨gb532, 0, none⟩ = some (.int .i64 a1_0) ∧ w'.cell? ⟨gb532, 1, none⟩ = some (.int .i64 a1_1)) (ds := []) #[false, false, false, false, false, false, false, false, false, false, false] (by kernel_rfl) rfl rfl ⟨bc BK531 0, bc BK531 1, bc BK531 2, bc BK531 3, bc BK531 4, bc BK531 5, bc BK531 6, bc BK532 0, bc BK532 1⟩ (fun hHeld => ?_); refine with_tabW laws_FnExactEnter.tab5 laws_FnExactEnter.bits5 (fun HT_ HW_ => ?_)
  generalize w9.drew = w18 at BK531 BK532 HB hHeld ⊢
  refine take_ (i := 0) (N := some 22) (v := ?_) (a' := ?_) #[true, false, false, false, false, false, false, false, false, false, false] rfl rfl (take_ofW HT_.out HW_.out (by kernel_rfl)) (fun _ _ _ h => h) (Or.inl ⟨by rfl, ?_⟩) hHeld ?_ ?_
  rotate_left
  ·
   rintro w' ⟨s0, s1, s2, s3, s4, s5, s6, s7, s8⟩
   go_simp
   with_reducible rfl
  rotate_left
  ·
   simp only [Act.put, List.setIfInBounds_toArray, List.set_cons_zero, List.set_cons_succ, i64_w, i32_w]
   rfl
  refine take_ (i := 2) (N := some 24) (v := ?_) (a' := ?_) #[true, false, true, false, false, false, false, false, false, false, false] rfl rfl (take_ofW HT_.out HW_.out (by kernel_rfl)) (fun _ _ _ h => h) (Or.inl ⟨by rfl, ?_⟩) hHeld ?_ ?_
  rotate_left
  ·
   rintro w' ⟨s0, s1, s2, s3, s4, s5, s6, s7, s8⟩
   go_simp
   with_reducible rfl
  rotate_left
  ·
   simp only [Act.put, List.setIfInBounds_toArray, List.set_cons_zero, List.set_cons_succ, i64_w, i32_w]
   rfl
  refine join_ (σ := Value × Value × Nat) 2 #[true, true, true, true, true, true, true, true, true, false, false] (fun s_ => [(23, .agg #[s_.1, .int .i64 t537, .int .i64 t538, .int .i64 t539, .int .i64 t540, .int .i64 t541, .int .i64 t542]), (25, .agg #[.int .i64 t543, .int .i64 t544]), (26, .tuple #[.agg #[s_.2.1, .int .i64 t548, .int .i64 t549, .int .i64 t550, .int .i64 t551, .int .i64 t552, .int .i64 t553], .bool t554]), (6, .pointer (some ⟨s_.2.2, 0, none⟩)), (21, .tuple #[.agg #[s_.2.1, .int .i64 t548, .int .i64 t549, .int .i64 t550, .int .i64 t551, .int .i64 t552, .int .i64 t553], .bool t554]), (27, .agg #[s_.2.1, .int .i64 t548, .int .i64 t549, .int .i64 t550, .int .i64 t551, .int .i64 t552, .int .i64 t553]), (28, .bool t554)]) (fun s_ w' => (w'.cell? ⟨gb531, 0, none⟩ = some (.slice A0_0 l0_0.length c0_0) ∧ w'.cell? ⟨gb531, 1, none⟩ = some (.int .i64 a0_1) ∧ w'.cell? ⟨gb531, 2, none⟩ = some (.int .i64 a0_2) ∧ w'.cell? ⟨gb531, 3, none⟩ = some (.int .i64 a0_3) ∧ w'.cell? ⟨gb531, 4, none⟩ = some (.int .i64 a0_4) ∧ w'.cell? ⟨gb531, 5, none⟩ = some (.int .i64 a0_5) ∧ w'.cell? ⟨gb531, 6, none⟩ = some (.int .i64 a0_6) ∧ w'.cell? ⟨gb532, 0, none⟩ = some (.int .i64 a1_0) ∧ w'.cell? ⟨gb532, 1, none⟩ = some (.int .i64 a1_1)) ∧ (Kd.R k41 41 w' w.heap.size (fun k_ => some k_ ≠ (s_.2.1 : Value).ownBlock) s_.1 t534) ∧ (Kd.R k41 41 w' w.heap.size (fun k_ => some k_ ≠ (s_.1 : Value).ownBlock) s_.2.1 t545) ∧ (w'.heap[gb531]? = some (.cells #[.slice A0_0 l0_0.length c0_0, .int .i64 a0_1, .int .i64 a0_2, .int .i64 a0_3, .int .i64 a0_4, .int .i64 a0_5, .int .i64 a0_6] 26 (0, 0))) ∧ (w'.heap[gb532]? = some (.cells #[.int .i64 a1_0, .int .i64 a1_1] 39 (0, 0))) ∧ (w'.heap[s_.2.2]? = some (.cells #[.slice none 0 0, .int .i64 0, .int .i64 0, .int .i64 0, .int .i64 0, .int .i64 0, .int .i64 0] 31 (0, 0))) ∧ (w.heap.size ≤ s_.2.2) ∧ (w.heap.size ≤ s_.2.2) ∧ (gb531 ≠ s_.2.2) ∧ (s_.2.2 ≠ gb531) ∧ (gb532 ≠ s_.2.2) ∧ (s_.2.2 ≠ gb532) ∧ (Below w.heap.size w w')) ?_ ?_
  rotate_left
  ·
   intro hCont
   refine two_ (i := 1) (j := 8) (Ni := some 23) (Nj := some 6) #[true, true, true, false, false, false, false, false, false, false, false] #[true, false, true, false, false, false, false, false, true, false, false] rfl rfl rfl rfl (two_of HT_.out (by kernel_rfl)) (by decide) (by decide) (fun K hK => ?_) (fun K hK => ?_)
   ·
    skip
    refine goes_ Try.func15 (by kernel_rfl) rfl #[.agg #[.slice A0_0 l0_0.length c0_0, .int .i64 a0_1, .int .i64 a0_2, .int .i64 a0_3, .int .i64 a0_4, .int .i64 a0_5, .int .i64 a0_6]] (by rfl) rfl rfl (by (try simp only [List.map_toArray, List.map_cons, List.map_nil]); first | done | rfl | (simp only [List.length_drop, List.length_take]; rfl)) ?_
    with_reducible refine (laws_toBook.calls k _ _ l0_0 a0_1 a0_2 a0_3 a0_4 a0_5 a0_6 t534 t537 t538 t539 t540 t541 t542 _ ?side1 ?side2 A11.out).mono ?_
    (case side1 => exact Kd.Cq (Kd.C_below HR0_0.out HB.out))
    (case side2 => exact HC0_0.out)
    rintro e w19 ⟨v535, rfl, ho0, hb⟩
    refine ⟨_, rfl, ?_⟩
    have HO536 := Aside0.mk (Kd.R_lower ho0 (below_size (blq HB.out)))
    replace BK531 := bkb BK531 hb
    replace BK532 := bkb BK532 hb
    replace HB := hbs HB hb
    (try clear hb)
    (try clear hb2)
    (try clear hk)
    (try clear hi)
    (try clear ho0)
    refine hK.out _ _ ⟨bc BK531 0, bc BK531 1, bc BK531 2, bc BK531 3, bc BK531 4, bc BK531 5, bc BK531 6, bc BK532 0, bc BK532 1⟩ (fun hHeld => ?_)
    clear hK K
    refine norm_ (a' := ?_) ?_ ?_
    rotate_left
    ·
     show Act.put _ (some 23) _ = _
     simp only [Act.put, List.setIfInBounds_toArray, List.set_cons_zero, List.set_cons_succ, i64_w, i32_w]
     rfl
    refine two_ (i := 3) (j := 8) (Ni := some 25) (Nj := some 6) #[true, true, true, true, false, false, false, false, false, false, false] #[true, true, true, false, false, false, false, false, true, false, false] rfl rfl rfl rfl (two_of HT_.out (by kernel_rfl)) (by decide) (by decide) (fun K hK => ?_) (fun K hK => ?_)
    ·
     skip
     refine goes_ Try.func21 (by kernel_rfl) rfl #[.agg #[.int .i64 a1_0, .int .i64 a1_1]] (by rfl) rfl rfl (by (try simp only [List.map_toArray, List.map_cons, List.map_nil]); first | done | rfl | (simp only [List.length_drop, List.length_take]; rfl)) ?_
     with_reducible refine (laws_toEvent.calls a1_0 a1_1 t543 t544 _ A12.out).mono ?_
     rintro e w20 ⟨rfl, hb⟩
     refine ⟨_, rfl, ?_⟩
     replace HO536 := rob HO536 hb
     replace BK531 := bkb BK531 hb
     replace BK532 := bkb BK532 hb
     replace HB := hbs HB hb
     (try clear hb)
     (try clear hb2)
     (try clear hk)
     (try clear hi)
     obtain ⟨Ao21, co21, eo21⟩ := Kd.R_slice HO536.out
     (first | subst eo21 | (injection eo21 with f1_ f2_ f3_; have f4_ := f1_.symm; have f5_ := f3_.symm; clear f1_ f2_ f3_; subst f4_; subst f5_))
     refine hK.out _ _ ⟨bc BK531 0, bc BK531 1, bc BK531 2, bc BK531 3, bc BK531 4, bc BK531 5, bc BK531 6, bc BK532 0, bc BK532 1⟩ (fun hHeld => ?_)
     clear hK K
     refine norm_ (a' := ?_) ?_ ?_
     rotate_left
     ·
      show Act.put _ (some 25) _ = _
      simp only [Act.put, List.setIfInBounds_toArray, List.set_cons_zero, List.set_cons_succ, i64_w, i32_w]
      rfl
     refine two_ (i := 4) (j := 8) (Ni := some 26) (Nj := some 6) #[true, true, true, true, true, false, false, false, false, false, false] #[true, true, true, true, false, false, false, false, true, false, false] rfl rfl rfl rfl (two_of HT_.out (by kernel_rfl)) (by decide) (by decide) (fun K hK => ?_) (fun K hK => ?_)
     ·
      skip
      refine goes_ Try.func20 (by kernel_rfl) rfl #[.agg #[.slice Ao21 t534.length co21, .int .i64 t537, .int .i64 t538, .int .i64 t539, .int .i64 t540, .int .i64 t541, .int .i64 t542], .agg #[.int .i64 t543, .int .i64 t544]] (by rfl) rfl rfl (by (try simp only [List.map_toArray, List.map_cons, List.map_nil]); first | done | rfl | (simp only [List.length_drop, List.length_take]; rfl)) ?_
      with_reducible refine (spec_Enter.calls k _ _ t534 t537 t538 t539 t540 t541 t542 t543 t544 t545 t548 t549 t550 t551 t552 t553 t554 _ ?side1 ?side2 A13.out).mono ?_
      (case side1 => repeat (first | exact (Kd.R_reads' HO536.out).2.2 | (with_reducible refine Kd.C_alloc ?_ _) | (with_reducible refine Kd.C_drewN ?_ _) | (with_reducible refine Kd.C_drew ?_)))
      (case side2 => exact (Kd.R_reads' HO536.out).2.1)
      rintro e w22 ⟨v546, rfl, ho0, hb⟩
      refine ⟨_, rfl, ?_⟩
      have HO547 := Aside0.mk (Kd.R_lower (Kd.R_new' ho0 (Kd.R_lt (Kd.Rq HO536.out))) (below_size (blq HB.out)))
      replace HO536 := Aside0.mk (Kd.R_elder' (Kd.Rq HO536.out) (Kd.R_base ho0) hb)
      replace BK531 := bkb BK531 hb
      replace BK532 := bkb BK532 hb
      replace HB := hbs HB hb
      (try clear hb)
      (try clear hb2)
      (try clear hk)
      (try clear hi)
      (try clear ho0)
      refine hK.out _ _ ⟨bc BK531 0, bc BK531 1, bc BK531 2, bc BK531 3, bc BK531 4, bc BK531 5, bc BK531 6, bc BK532 0, bc BK532 1⟩ (fun hHeld => ?_)
      clear hK K
      refine norm_ (a' := ?_) ?_ ?_
      rotate_left
      ·
       show Act.put _ (some 26) _ = _
       simp only [Act.put, List.setIfInBounds_toArray, List.set_cons_zero, List.set_cons_succ, i64_w, i32_w]
       rfl
      refine pure_ (i := 5) (N := some 21) (v := ?_) (a' := ?_) #[true, true, true, true, true, true, false, false, false, false, false] rfl rfl (any_of HT_.out (by kernel_rfl)) (fun _ _ _ h => h) (Or.inl ⟨by rfl, ?_⟩) ?_ ?_
      rotate_left
      ·
       intro w'
       go_simp
       with_reducible rfl
      rotate_left
      ·
       simp only [Act.put, List.setIfInBounds_toArray, List.set_cons_zero, List.set_cons_succ, i64_w, i32_w]
       rfl
      refine pure_ (i := 6) (N := some 27) (v := ?_) (a' := ?_) #[true, true, true, true, true, true, true, false, false, false, false] rfl rfl (any_of HT_.out (by kernel_rfl)) (fun _ _ _ h => h) (Or.inl ⟨by rfl, ?_⟩) ?_ ?_
      rotate_left
      ·
       intro w'
       go_simp
       with_reducible rfl
      rotate_left
      ·
       simp only [Act.put, List.setIfInBounds_toArray, List.set_cons_zero, List.set_cons_succ, i64_w, i32_w]
       rfl
      refine pure_ (i := 7) (N := some 28) (v := ?_) (a' := ?_) #[true, true, true, true, true, true, true, true, false, false, false] rfl rfl (any_of HT_.out (by kernel_rfl)) (fun _ _ _ h => h) (Or.inl ⟨by rfl, ?_⟩) ?_ ?_
      rotate_left
      ·
       intro w'
       go_simp
       with_reducible rfl
      rotate_left
      ·
       simp only [Act.put, List.setIfInBounds_toArray, List.set_cons_zero, List.set_cons_succ, i64_w, i32_w]
       rfl
      refine one_ (i := 8) (N := some 6) #[true, true, true, true, true, true, true, true, true, false, false] rfl rfl (one_of HT_.out (by kernel_rfl)) (by decide) (fun K hK => ?_)
      refine box_step ?hg (N := 6) ?hd (cs := #[.slice none 0 0, .int .i64 0, .int .i64 0, .int .i64 0, .int .i64 0, .int .i64 0, .int .i64 0]) (t := 31) ?hr ?_; (case hd => rfl); (case hg => rfl); (case hr => first | (go_simp; done) | (go_simp; rfl))
      intro gb555 hg w23 hbox hb
      have BK555 := Aside0.mk (hbox)
      have GW555 := sQ hg HB
      have GE555 := sQ hg HB
      have NB531_555 := qL hg BK531
      have NB555_531 := qG hg BK531
      have NB532_555 := qL hg BK532
      have NB555_532 := qG hg BK532
      replace HO536 := rob HO536 hb
      replace HO547 := rob HO547 hb
      replace BK531 := bkb BK531 hb
      replace BK532 := bkb BK532 hb
      replace HB := hbs HB hb
      clear hb hbox hg
      refine hK.out _ _ ⟨bc BK531 0, bc BK531 1, bc BK531 2, bc BK531 3, bc BK531 4, bc BK531 5, bc BK531 6, bc BK532 0, bc BK532 1⟩ (fun hHeld => ?_)
      clear hK K
      refine norm_ (a' := ?_) ?_ ?_
      rotate_left
      ·
       show Act.put _ (some 6) _ = _
       simp only [Act.put, List.setIfInBounds_toArray, List.set_cons_zero, List.set_cons_succ, i64_w, i32_w]
       rfl
      exact norm_ (by simp only [putAll, Act.put, List.setIfInBounds_toArray, List.set_cons_zero, List.set_cons_succ]) (hCont (.slice Ao21 t534.length co21, v546, gb555) _ ⟨hHeld, (Kd.Rq (Kd.R_mono HO536.out (fun _ hk => hk.2))), (Kd.Rq (Kd.R_mono HO547.out (fun _ hk => hk.2))), (bkq BK531.out), (bkq BK532.out), (bkq BK555.out), GW555.out, GE555.out, NB531_555.out, NB555_531.out, NB532_555.out, NB555_532.out, (blq HB.out)⟩)
     ·
      skip
      refine box_step ?hg (N := 6) ?hd (cs := #[.slice none 0 0, .int .i64 0, .int .i64 0, .int .i64 0, .int .i64 0, .int .i64 0, .int .i64 0]) (t := 31) ?hr ?_; (case hd => rfl); (case hg => rfl); (case hr => first | (go_simp; done) | (go_simp; rfl))
      intro gb555 hg w21 hbox hb
      have BK555 := Aside0.mk (hbox)
      have GW555 := sQ hg HB
      have GE555 := sQ hg HB
      have NB531_555 := qL hg BK531
      have NB555_531 := qG hg BK531
      have NB532_555 := qL hg BK532
      have NB555_532 := qG hg BK532
      replace HO536 := rob HO536 hb
      replace BK531 := bkb BK531 hb
      replace BK532 := bkb BK532 hb
      replace HB := hbs HB hb
      clear hb hbox hg
      obtain ⟨Ao22, co22, eo22⟩ := Kd.R_slice HO536.out
      (first | subst eo22 | (injection eo22 with f1_ f2_ f3_; have f4_ := f1_.symm; have f5_ := f3_.symm; clear f1_ f2_ f3_; subst f4_; subst f5_))
      refine hK.out _ _ ⟨bc BK531 0, bc BK531 1, bc BK531 2, bc BK531 3, bc BK531 4, bc BK531 5, bc BK531 6, bc BK532 0, bc BK532 1⟩ (fun hHeld => ?_)
      clear hK K
      refine norm_ (a' := ?_) ?_ ?_
      rotate_left
      ·
       show Act.put _ (some 6) _ = _
       simp only [Act.put, List.setIfInBounds_toArray, List.set_cons_zero, List.set_cons_succ, i64_w, i32_w]
       rfl
      refine one_ (i := 4) (N := some 26) #[true, true, true, true, true, false, false, false, true, false, false] rfl rfl (one_of HT_.out (by kernel_rfl)) (by decide) (fun K hK => ?_)
      refine goes_ Try.func20 (by kernel_rfl) rfl #[.agg #[.slice Ao22 t534.length co22, .int .i64 t537, .int .i64 t538, .int .i64 t539, .int .i64 t540, .int .i64 t541, .int .i64 t542], .agg #[.int .i64 t543, .int .i64 t544]] (by rfl) rfl rfl (by (try simp only [List.map_toArray, List.map_cons, List.map_nil]); first | done | rfl | (simp only [List.length_drop, List.length_take]; rfl)) ?_
      with_reducible refine (spec_Enter.calls k _ _ t534 t537 t538 t539 t540 t541 t542 t543 t544 t545 t548 t549 t550 t551 t552 t553 t554 _ ?side1 ?side2 A13.out).mono ?_
      (case side1 => repeat (first | exact (Kd.R_reads' HO536.out).2.2 | (with_reducible refine Kd.C_alloc ?_ _) | (with_reducible refine Kd.C_drewN ?_ _) | (with_reducible refine Kd.C_drew ?_)))
      (case side2 => exact (Kd.R_reads' HO536.out).2.1)
      rintro e w23 ⟨v546, rfl, ho0, hb⟩
      refine ⟨_, rfl, ?_⟩
      have HO547 := Aside0.mk (Kd.R_lower (Kd.R_new' ho0 (Kd.R_lt (Kd.Rq HO536.out))) (below_size (blq HB.out)))
      replace HO536 := Aside0.mk (Kd.R_elder' (Kd.Rq HO536.out) (Kd.R_base ho0) hb)
      replace BK531 := bkb BK531 hb
      replace BK532 := bkb BK532 hb
      replace BK555 := bkb BK555 hb
      replace HB := hbs HB hb
      (try clear hb)
      (try clear hb2)
      (try clear hk)
      (try clear hi)
      (try clear ho0)
      refine hK.out _ _ ⟨bc BK531 0, bc BK531 1, bc BK531 2, bc BK531 3, bc BK531 4, bc BK531 5, bc BK531 6, bc BK532 0, bc BK532 1⟩ (fun hHeld => ?_)
      clear hK K
      refine norm_ (a' := ?_) ?_ ?_
      rotate_left
      ·
       show Act.put _ (some 26) _ = _
       simp only [Act.put, List.setIfInBounds_toArray, List.set_cons_zero, List.set_cons_succ, i64_w, i32_w]
       rfl
      refine pure_ (i := 5) (N := some 21) (v := ?_) (a' := ?_) #[true, true, true, true, true, true, false, false, true, false, false] rfl rfl (any_of HT_.out (by kernel_rfl)) (fun _ _ _ h => h) (Or.inl ⟨by rfl, ?_⟩) ?_ ?_
      rotate_left
      ·
       intro w'
       go_simp
       with_reducible rfl
      rotate_left
      ·
       simp only [Act.put, List.setIfInBounds_toArray, List.set_cons_zero, List.set_cons_succ, i64_w, i32_w]
       rfl
      refine pure_ (i := 6) (N := some 27) (v := ?_) (a' := ?_) #[true, true, true, true, true, true, true, false, true, false, false] rfl rfl (any_of HT_.out (by kernel_rfl)) (fun _ _ _ h => h) (Or.inl ⟨by rfl, ?_⟩) ?_ ?_
      rotate_left
      ·
       intro w'
       go_simp
       with_reducible rfl
      rotate_left
      ·
       simp only [Act.put, List.setIfInBounds_toArray, List.set_cons_zero, List.set_cons_succ, i64_w, i32_w]
       rfl
      refine pure_ (i := 7) (N := some 28) (v := ?_) (a' := ?_) #[true, true, true, true, true, true, true, true, true, false, false] rfl rfl (any_of HT_.out (by kernel_rfl)) (fun _ _ _ h => h) (Or.inl ⟨by rfl, ?_⟩) ?_ ?_
      rotate_left
      ·
       intro w'
       go_simp
       with_reducible rfl
      rotate_left
      ·
       simp only [Act.put, List.setIfInBounds_toArray, List.set_cons_zero, List.set_cons_succ, i64_w, i32_w]
       rfl
      exact norm_ (by simp only [putAll, Act.put, List.setIfInBounds_toArray, List.set_cons_zero, List.set_cons_succ]) (hCont (.slice Ao22 t534.length co22, v546, gb555) _ ⟨hHeld, (Kd.Rq (Kd.R_mono HO536.out (fun _ hk => hk.2))), (Kd.Rq (Kd.R_mono HO547.out (fun _ hk => hk.2))), (bkq BK531.out), (bkq BK532.out), (bkq BK555.out), GW555.out, GE555.out, NB531_555.out, NB555_531.out, NB532_555.out, NB555_532.out, (blq HB.out)⟩)
    ·
     skip
     refine box_step ?hg (N := 6) ?hd (cs := #[.slice none 0 0, .int .i64 0, .int .i64 0, .int .i64 0, .int .i64 0, .int .i64 0, .int .i64 0]) (t := 31) ?hr ?_; (case hd => rfl); (case hg => rfl); (case hr => first | (go_simp; done) | (go_simp; rfl))
     intro gb555 hg w20 hbox hb
     have BK555 := Aside0.mk (hbox)
     have GW555 := sQ hg HB
     have GE555 := sQ hg HB
     have NB531_555 := qL hg BK531
     have NB555_531 := qG hg BK531
     have NB532_555 := qL hg BK532
     have NB555_532 := qG hg BK532
     replace HO536 := rob HO536 hb
     replace BK531 := bkb BK531 hb
     replace BK532 := bkb BK532 hb
     replace HB := hbs HB hb
     clear hb hbox hg
     refine hK.out _ _ ⟨bc BK531 0, bc BK531 1, bc BK531 2, bc BK531 3, bc BK531 4, bc BK531 5, bc BK531 6, bc BK532 0, bc BK532 1⟩ (fun hHeld => ?_)
     clear hK K
     refine norm_ (a' := ?_) ?_ ?_
     rotate_left
     ·
      show Act.put _ (some 6) _ = _
      simp only [Act.put, List.setIfInBounds_toArray, List.set_cons_zero, List.set_cons_succ, i64_w, i32_w]
      rfl
     refine one_ (i := 3) (N := some 25) #[true, true, true, true, false, false, false, false, true, false, false] rfl rfl (one_of HT_.out (by kernel_rfl)) (by decide) (fun K hK => ?_)
     refine goes_ Try.func21 (by kernel_rfl) rfl #[.agg #[.int .i64 a1_0, .int .i64 a1_1]] (by rfl) rfl rfl (by (try simp only [List.map_toArray, List.map_cons, List.map_nil]); first | done | rfl | (simp only [List.length_drop, List.length_take]; rfl)) ?_
     with_reducible refine (laws_toEvent.calls a1_0 a1_1 t543 t544 _ A12.out).mono ?_
     rintro e w21 ⟨rfl, hb⟩
     refine ⟨_, rfl, ?_⟩
     replace HO536 := rob HO536 hb
     replace BK531 := bkb BK531 hb
     replace BK532 := bkb BK532 hb
     replace BK555 := bkb BK555 hb
     replace HB := hbs HB hb
     (try clear hb)
     (try clear hb2)
     (try clear hk)
     (try clear hi)
     obtain ⟨Ao22, co22, eo22⟩ := Kd.R_slice HO536.out
     (first | subst eo22 | (injection eo22 with f1_ f2_ f3_; have f4_ := f1_.symm; have f5_ := f3_.symm; clear f1_ f2_ f3_; subst f4_; subst f5_))
     refine hK.out _ _ ⟨bc BK531 0, bc BK531 1, bc BK531 2, bc BK531 3, bc BK531 4, bc BK531 5, bc BK531 6, bc BK532 0, bc BK532 1⟩ (fun hHeld => ?_)
     clear hK K
     refine norm_ (a' := ?_) ?_ ?_
     rotate_left
     ·
      show Act.put _ (some 25) _ = _
      simp only [Act.put, List.setIfInBounds_toArray, List.set_cons_zero, List.set_cons_succ, i64_w, i32_w]
      rfl
     refine one_ (i := 4) (N := some 26) #[true, true, true, true, true, false, false, false, true, false, false] rfl rfl (one_of HT_.out (by kernel_rfl)) (by decide) (fun K hK => ?_)
     refine goes_ Try.func20 (by kernel_rfl) rfl #[.agg #[.slice Ao22 t534.length co22, .int .i64 t537, .int .i64 t538, .int .i64 t539, .int .i64 t540, .int .i64 t541, .int .i64 t542], .agg #[.int .i64 t543, .int .i64 t544]] (by rfl) rfl rfl (by (try simp only [List.map_toArray, List.map_cons, List.map_nil]); first | done | rfl | (simp only [List.length_drop, List.length_take]; rfl)) ?_
     with_reducible refine (spec_Enter.calls k _ _ t534 t537 t538 t539 t540 t541 t542 t543 t544 t545 t548 t549 t550 t551 t552 t553 t554 _ ?side1 ?side2 A13.out).mono ?_
     (case side1 => repeat (first | exact (Kd.R_reads' HO536.out).2.2 | (with_reducible refine Kd.C_alloc ?_ _) | (with_reducible refine Kd.C_drewN ?_ _) | (with_reducible refine Kd.C_drew ?_)))
     (case side2 => exact (Kd.R_reads' HO536.out).2.1)
     rintro e w23 ⟨v546, rfl, ho0, hb⟩
     refine ⟨_, rfl, ?_⟩
     have HO547 := Aside0.mk (Kd.R_lower (Kd.R_new' ho0 (Kd.R_lt (Kd.Rq HO536.out))) (below_size (blq HB.out)))
     replace HO536 := Aside0.mk (Kd.R_elder' (Kd.Rq HO536.out) (Kd.R_base ho0) hb)
     replace BK531 := bkb BK531 hb
     replace BK532 := bkb BK532 hb
     replace BK555 := bkb BK555 hb
     replace HB := hbs HB hb
     (try clear hb)
     (try clear hb2)
     (try clear hk)
     (try clear hi)
     (try clear ho0)
     refine hK.out _ _ ⟨bc BK531 0, bc BK531 1, bc BK531 2, bc BK531 3, bc BK531 4, bc BK531 5, bc BK531 6, bc BK532 0, bc BK532 1⟩ (fun hHeld => ?_)
     clear hK K
     refine norm_ (a' := ?_) ?_ ?_
     rotate_left
     ·
      show Act.put _ (some 26) _ = _
      simp only [Act.put, List.setIfInBounds_toArray, List.set_cons_zero, List.set_cons_succ, i64_w, i32_w]
      rfl
     refine pure_ (i := 5) (N := some 21) (v := ?_) (a' := ?_) #[true, true, true, true, true, true, false, false, true, false, false] rfl rfl (any_of HT_.out (by kernel_rfl)) (fun _ _ _ h => h) (Or.inl ⟨by rfl, ?_⟩) ?_ ?_
     rotate_left
     ·
      intro w'
      go_simp
      with_reducible rfl
     rotate_left
     ·
      simp only [Act.put, List.setIfInBounds_toArray, List.set_cons_zero, List.set_cons_succ, i64_w, i32_w]
      rfl
     refine pure_ (i := 6) (N := some 27) (v := ?_) (a' := ?_) #[true, true, true, true, true, true, true, false, true, false, false] rfl rfl (any_of HT_.out (by kernel_rfl)) (fun _ _ _ h => h) (Or.inl ⟨by rfl, ?_⟩) ?_ ?_
     rotate_left
     ·
      intro w'
      go_simp
      with_reducible rfl
     rotate_left
     ·
      simp only [Act.put, List.setIfInBounds_toArray, List.set_cons_zero, List.set_cons_succ, i64_w, i32_w]
      rfl
     refine pure_ (i := 7) (N := some 28) (v := ?_) (a' := ?_) #[true, true, true, true, true, true, true, true, true, false, false] rfl rfl (any_of HT_.out (by kernel_rfl)) (fun _ _ _ h => h) (Or.inl ⟨by rfl, ?_⟩) ?_ ?_
     rotate_left
     ·
      intro w'
      go_simp
      with_reducible rfl
     rotate_left
     ·
      simp only [Act.put, List.setIfInBounds_toArray, List.set_cons_zero, List.set_cons_succ, i64_w, i32_w]
      rfl
     exact norm_ (by simp only [putAll, Act.put, List.setIfInBounds_toArray, List.set_cons_zero, List.set_cons_succ]) (hCont (.slice Ao22 t534.length co22, v546, gb555) _ ⟨hHeld, (Kd.Rq (Kd.R_mono HO536.out (fun _ hk => hk.2))), (Kd.Rq (Kd.R_mono HO547.out (fun _ hk => hk.2))), (bkq BK531.out), (bkq BK532.out), (bkq BK555.out), GW555.out, GE555.out, NB531_555.out, NB555_531.out, NB532_555.out, NB555_532.out, (blq HB.out)⟩)
   ·
    skip
    refine box_step ?hg (N := 6) ?hd (cs := #[.slice none 0 0, .int .i64 0, .int .i64 0, .int .i64 0, .int .i64 0, .int .i64 0, .int .i64 0]) (t := 31) ?hr ?_; (case hd => rfl); (case hg => rfl); (case hr => first | (go_simp; done) | (go_simp; rfl))
    intro gb555 hg w19 hbox hb
    have BK555 := Aside0.mk (hbox)
    have GW555 := sQ hg HB
    have GE555 := sQ hg HB
    have NB531_555 := qL hg BK531
    have NB555_531 := qG hg BK531
    have NB532_555 := qL hg BK532
    have NB555_532 := qG hg BK532
    replace BK531 := bkb BK531 hb
    replace BK532 := bkb BK532 hb
    replace HB := hbs HB hb
    clear hb hbox hg
    refine hK.out _ _ ⟨bc BK531 0, bc BK531 1, bc BK531 2, bc BK531 3, bc BK531 4, bc BK531 5, bc BK531 6, bc BK532 0, bc BK532 1⟩ (fun hHeld => ?_)
    clear hK K
    refine norm_ (a' := ?_) ?_ ?_
    rotate_left
    ·
     show Act.put _ (some 6) _ = _
     simp only [Act.put, List.setIfInBounds_toArray, List.set_cons_zero, List.set_cons_succ, i64_w, i32_w]
     rfl
    refine one_ (i := 1) (N := some 23) #[true, true, true, false, false, false, false, false, true, false, false] rfl rfl (one_of HT_.out (by kernel_rfl)) (by decide) (fun K hK => ?_)
    refine goes_ Try.func15 (by kernel_rfl) rfl #[.agg #[.slice A0_0 l0_0.length c0_0, .int .i64 a0_1, .int .i64 a0_2, .int .i64 a0_3, .int .i64 a0_4, .int .i64 a0_5, .int .i64 a0_6]] (by rfl) rfl rfl (by (try simp only [List.map_toArray, List.map_cons, List.map_nil]); first | done | rfl | (simp only [List.length_drop, List.length_take]; rfl)) ?_
    with_reducible refine (laws_toBook.calls k _ _ l0_0 a0_1 a0_2 a0_3 a0_4 a0_5 a0_6 t534 t537 t538 t539 t540 t541 t542 _ ?side1 ?side2 A11.out).mono ?_
    (case side1 => exact Kd.Cq (Kd.C_below HR0_0.out HB.out))
    (case side2 => exact HC0_0.out)
    rintro e w20 ⟨v535, rfl, ho0, hb⟩
    refine ⟨_, rfl, ?_⟩
    have HO536 := Aside0.mk (Kd.R_lower ho0 (below_size (blq HB.out)))
    replace BK531 := bkb BK531 hb
    replace BK532 := bkb BK532 hb
    replace BK555 := bkb BK555 hb
    replace HB := hbs HB hb
    (try clear hb)
    (try clear hb2)
    (try clear hk)
    (try clear hi)
    (try clear ho0)
    refine hK.out _ _ ⟨bc BK531 0, bc BK531 1, bc BK531 2, bc BK531 3, bc BK531 4, bc BK531 5, bc BK531 6, bc BK532 0, bc BK532 1⟩ (fun hHeld => ?_)
    clear hK K
    refine norm_ (a' := ?_) ?_ ?_
    rotate_left
    ·
     show Act.put _ (some 23) _ = _
     simp only [Act.put, List.setIfInBounds_toArray, List.set_cons_zero, List.set_cons_succ, i64_w, i32_w]
     rfl
    refine one_ (i := 3) (N := some 25) #[true, true, true, true, false, false, false, false, true, false, false] rfl rfl (one_of HT_.out (by kernel_rfl)) (by decide) (fun K hK => ?_)
    refine goes_ Try.func21 (by kernel_rfl) rfl #[.agg #[.int .i64 a1_0, .int .i64 a1_1]] (by rfl) rfl rfl (by (try simp only [List.map_toArray, List.map_cons, List.map_nil]); first | done | rfl | (simp only [List.length_drop, List.length_take]; rfl)) ?_
    with_reducible refine (laws_toEvent.calls a1_0 a1_1 t543 t544 _ A12.out).mono ?_
    rintro e w21 ⟨rfl, hb⟩
    refine ⟨_, rfl, ?_⟩
    replace HO536 := rob HO536 hb
    replace BK531 := bkb BK531 hb
    replace BK532 := bkb BK532 hb
    replace BK555 := bkb BK555 hb
    replace HB := hbs HB hb
    (try clear hb)
    (try clear hb2)
    (try clear hk)
    (try clear hi)
    obtain ⟨Ao22, co22, eo22⟩ := Kd.R_slice HO536.out
    (first | subst eo22 | (injection eo22 with f1_ f2_ f3_; have f4_ := f1_.symm; have f5_ := f3_.symm; clear f1_ f2_ f3_; subst f4_; subst f5_))
    refine hK.out _ _ ⟨bc BK531 0, bc BK531 1, bc BK531 2, bc BK531 3, bc BK531 4, bc BK531 5, bc BK531 6, bc BK532 0, bc BK532 1⟩ (fun hHeld => ?_)
    clear hK K
    refine norm_ (a' := ?_) ?_ ?_
    rotate_left
    ·
     show Act.put _ (some 25) _ = _
     simp only [Act.put, List.setIfInBounds_toArray, List.set_cons_zero, List.set_cons_succ, i64_w, i32_w]
     rfl
    refine one_ (i := 4) (N := some 26) #[true, true, true, true, true, false, false, false, true, false, false] rfl rfl (one_of HT_.out (by kernel_rfl)) (by decide) (fun K hK => ?_)
    refine goes_ Try.func20 (by kernel_rfl) rfl #[.agg #[.slice Ao22 t534.length co22, .int .i64 t537, .int .i64 t538, .int .i64 t539, .int .i64 t540, .int .i64 t541, .int .i64 t542], .agg #[.int .i64 t543, .int .i64 t544]] (by rfl) rfl rfl (by (try simp only [List.map_toArray, List.map_cons, List.map_nil]); first | done | rfl | (simp only [List.length_drop, List.length_take]; rfl)) ?_
    with_reducible refine (spec_Enter.calls k _ _ t534 t537 t538 t539 t540 t541 t542 t543 t544 t545 t548 t549 t550 t551 t552 t553 t554 _ ?side1 ?side2 A13.out).mono ?_
    (case side1 => repeat (first | exact (Kd.R_reads' HO536.out).2.2 | (with_reducible refine Kd.C_alloc ?_ _) | (with_reducible refine Kd.C_drewN ?_ _) | (with_reducible refine Kd.C_drew ?_)))
    (case side2 => exact (Kd.R_reads' HO536.out).2.1)
    rintro e w23 ⟨v546, rfl, ho0, hb⟩
    refine ⟨_, rfl, ?_⟩
    have HO547 := Aside0.mk (Kd.R_lower (Kd.R_new' ho0 (Kd.R_lt (Kd.Rq HO536.out))) (below_size (blq HB.out)))
    replace HO536 := Aside0.mk (Kd.R_elder' (Kd.Rq HO536.out) (Kd.R_base ho0) hb)
    replace BK531 := bkb BK531 hb
    replace BK532 := bkb BK532 hb
    replace BK555 := bkb BK555 hb
    replace HB := hbs HB hb
    (try clear hb)
    (try clear hb2)
    (try clear hk)
    (try clear hi)
    (try clear ho0)
    refine hK.out _ _ ⟨bc BK531 0, bc BK531 1, bc BK531 2, bc BK531 3, bc BK531 4, bc BK531 5, bc BK531 6, bc BK532 0, bc BK532 1⟩ (fun hHeld => ?_)
    clear hK K
    refine norm_ (a' := ?_) ?_ ?_
    rotate_left
    ·
     show Act.put _ (some 26) _ = _
     simp only [Act.put, List.setIfInBounds_toArray, List.set_cons_zero, List.set_cons_succ, i64_w, i32_w]
     rfl
    refine pure_ (i := 5) (N := some 21) (v := ?_) (a' := ?_) #[true, true, true, true, true, true, false, false, true, false, false] rfl rfl (any_of HT_.out (by kernel_rfl)) (fun _ _ _ h => h) (Or.inl ⟨by rfl, ?_⟩) ?_ ?_
    rotate_left
    ·
     intro w'
     go_simp
     with_reducible rfl
    rotate_left
    ·
     simp only [Act.put, List.setIfInBounds_toArray, List.set_cons_zero, List.set_cons_succ, i64_w, i32_w]
     rfl
    refine pure_ (i := 6) (N := some 27) (v := ?_) (a' := ?_) #[true, true, true, true, true, true, true, false, true, false, false] rfl rfl (any_of HT_.out (by kernel_rfl)) (fun _ _ _ h => h) (Or.inl ⟨by rfl, ?_⟩) ?_ ?_
    rotate_left
    ·
     intro w'
     go_simp
     with_reducible rfl
    rotate_left
    ·
     simp only [Act.put, List.setIfInBounds_toArray, List.set_cons_zero, List.set_cons_succ, i64_w, i32_w]
     rfl
    refine pure_ (i := 7) (N := some 28) (v := ?_) (a' := ?_) #[true, true, true, true, true, true, true, true, true, false, false] rfl rfl (any_of HT_.out (by kernel_rfl)) (fun _ _ _ h => h) (Or.inl ⟨by rfl, ?_⟩) ?_ ?_
    rotate_left
    ·
     intro w'
     go_simp
     with_reducible rfl
    rotate_left
    ·
     simp only [Act.put, List.setIfInBounds_toArray, List.set_cons_zero, List.set_cons_succ, i64_w, i32_w]
     rfl
    exact norm_ (by simp only [putAll, Act.put, List.setIfInBounds_toArray, List.set_cons_zero, List.set_cons_succ]) (hCont (.slice Ao22 t534.length co22, v546, gb555) _ ⟨hHeld, (Kd.Rq (Kd.R_mono HO536.out (fun _ hk => hk.2))), (Kd.Rq (Kd.R_mono HO547.out (fun _ hk => hk.2))), (bkq BK531.out), (bkq BK532.out), (bkq BK555.out), GW555.out, GE555.out, NB531_555.out, NB555_531.out, NB532_555.out, NB555_532.out, (blq HB.out)⟩)
  rintro ⟨v535, v546, gb555⟩ w24 ⟨hS_, h0_, h1_, h2_, h3_, h4_, h5_, h6_, h7_, h8_, h9_, h10_, h11_⟩
  have n0_ : Aside0 (Kd.R k41 41 w24 w.heap.size (fun k_ => some k_ ≠ (v546 : Value).ownBlock) v535 t534) := ⟨h0_⟩
  have n1_ : Aside0 (Kd.R k41 41 w24 w.heap.size (fun k_ => some k_ ≠ (v535 : Value).ownBlock) v546 t545) := ⟨h1_⟩
  have n2_ : Aside0 (w24.heap[gb531]? = some (.cells #[.slice A0_0 l0_0.length c0_0, .int .i64 a0_1, .int .i64 a0_2, .int .i64 a0_3, .int .i64 a0_4, .int .i64 a0_5, .int .i64 a0_6] 26 (0, 0))) := ⟨h2_⟩
  have n3_ : Aside0 (w24.heap[gb532]? = some (.cells #[.int .i64 a1_0, .int .i64 a1_1] 39 (0, 0))) := ⟨h3_⟩
  have n4_ : Aside0 (w24.heap[gb555]? = some (.cells #[.slice none 0 0, .int .i64 0, .int .i64 0, .int .i64 0, .int .i64 0, .int .i64 0, .int .i64 0] 31 (0, 0))) := ⟨h4_⟩
  have n5_ : Aside0 (w.heap.size ≤ gb555) := ⟨h5_⟩
  have n6_ : Aside0 (w.heap.size ≤ gb555) := ⟨h6_⟩
  have n7_ : Aside0 (gb531 ≠ gb555) := ⟨h7_⟩
  have n8_ : Aside0 (gb555 ≠ gb531) := ⟨h8_⟩
  have n9_ : Aside0 (gb532 ≠ gb555) := ⟨h9_⟩
  have n10_ : Aside0 (gb555 ≠ gb532) := ⟨h10_⟩
  have n11_ : Aside0 (Below w.heap.size w w24) := ⟨h11_⟩
  clear BK531
  clear BK532
  clear HB
  clear h0_ h1_ h2_ h3_ h4_ h5_ h6_ h7_ h8_ h9_ h10_ h11_
  have HO536 := n0_
  have HO547 := n1_
  have BK531 := n2_
  have BK532 := n3_
  have BK555 := n4_
  have GW555 := n5_
  have GE555 := n6_
  have NB531_555 := n7_
  have NB555_531 := n8_
  have NB532_555 := n9_
  have NB555_532 := n10_
  have HB := n11_
  clear n0_ n1_ n2_ n3_ n4_ n5_ n6_ n7_ n8_ n9_ n10_ n11_
  have hHeld : w24.cell? ⟨gb531, 0, none⟩ = some (.slice A0_0 l0_0.length c0_0) ∧ w24.cell? ⟨gb531, 1, none⟩ = some (.int .i64 a0_1) ∧ w24.cell? ⟨gb531, 2, none⟩ = some (.int .i64 a0_2) ∧ w24.cell? ⟨gb531, 3, none⟩ = some (.int .i64 a0_3) ∧ w24.cell? ⟨gb531, 4, none⟩ = some (.int .i64 a0_4) ∧ w24.cell? ⟨gb531, 5, none⟩ = some (.int .i64 a0_5) ∧ w24.cell? ⟨gb531, 6, none⟩ = some (.int .i64 a0_6) ∧ w24.cell? ⟨gb532, 0, none⟩ = some (.int .i64 a1_0) ∧ w24.cell? ⟨gb532, 1, none⟩ = some (.int .i64 a1_1) := hS_
  obtain ⟨Ao25, co25, eo25⟩ := Kd.R_slice HO547.out
  (first | subst eo25 | (injection eo25 with f1_ f2_ f3_; have f4_ := f1_.symm; have f5_ := f3_.symm; clear f1_ f2_ f3_; subst f4_; subst f5_))
  refine norm_ (a' := ?_) ?_ ?_
  rotate_left
  ·
   simp only [putAll, Act.put, List.setIfInBounds_toArray, List.set_cons_zero, List.set_cons_succ]
   rfl
  refine one_ (i := 9) (N := none) #[true, true, true, true, true, true, true, true, true, true, false] rfl rfl (one_of HT_.out (by kernel_rfl)) (by decide) (fun K hK => ?_)
  have hs26 : w24.cell? ⟨gb555, 0, none⟩ = some (.slice none 0 0) := bc BK555 0
  have hfs26 := blk_frozen BK555.out 0
  have hns26_0 := NB531_555.out
  have hns26_1 := NB532_555.out
  have hms26_0 := NB555_531.out
  have hms26_1 := NB555_532.out
  have hs27 : w24.cell? ⟨gb555, 1, none⟩ = some (.int .i64 0) := bc BK555 1
  have hfs27 := blk_frozen BK555.out 1
  have hns27_0 := NB531_555.out
  have hns27_1 := NB532_555.out
  have hms27_0 := NB555_531.out
  have hms27_1 := NB555_532.out
  have hs28 : w24.cell? ⟨gb555, 2, none⟩ = some (.int .i64 0) := bc BK555 2
  have hfs28 := blk_frozen BK555.out 2
  have hns28_0 := NB531_555.out
  have hns28_1 := NB532_555.out
  have hms28_0 := NB555_531.out
  have hms28_1 := NB555_532.out
  have hs29 : w24.cell? ⟨gb555, 3, none⟩ = some (.int .i64 0) := bc BK555 3
  have hfs29 := blk_frozen BK555.out 3
  have hns29_0 := NB531_555.out
  have hns29_1 := NB532_555.out
  have hms29_0 := NB555_531.out
  have hms29_1 := NB555_532.out
  have hs30 : w24.cell? ⟨gb555, 4, none⟩ = some (.int .i64 0) := bc BK555 4
  have hfs30 := blk_frozen BK555.out 4
  have hns30_0 := NB531_555.out
  have hns30_1 := NB532_555.out
  have hms30_0 := NB555_531.out
  have hms30_1 := NB555_532.out
  have hs31 : w24.cell? ⟨gb555, 5, none⟩ = some (.int .i64 0) := bc BK555 5
  have hfs31 := blk_frozen BK555.out 5
  have hns31_0 := NB531_555.out
  have hns31_1 := NB532_555.out
  have hms31_0 := NB555_531.out
  have hms31_1 := NB555_532.out
  have hs32 : w24.cell? ⟨gb555, 6, none⟩ = some (.int .i64 0) := bc BK555 6
  have hfs32 := blk_frozen BK555.out 6
  have hns32_0 := NB531_555.out
  have hns32_1 := NB532_555.out
  have hms32_0 := NB555_531.out
  have hms32_1 := NB555_532.out
  refine skip_ (w1 := ?_) (by rfl) rfl ?_ ?_
  rotate_left
  ·
   go_simp
   rfl
  refine hK.out _ _ ⟨((cf NB531_555).trans (((cf NB531_555).trans (((cf NB531_555).trans (((cf NB531_555).trans (((cf NB531_555).trans (((cf NB531_555).trans (((cf NB531_555).trans (hHeld.1)))))))))))))), ((cf NB531_555).trans (((cf NB531_555).trans (((cf NB531_555).trans (((cf NB531_555).trans (((cf NB531_555).trans (((cf NB531_555).trans (((cf NB531_555).trans (hHeld.2.1)))))))))))))), ((cf NB531_555).trans (((cf NB531_555).trans (((cf NB531_555).trans (((cf NB531_555).trans (((cf NB531_555).trans (((cf NB531_555).trans (((cf NB531_555).trans (hHeld.2.2.1)))))))))))))), ((cf NB531_555).trans (((cf NB531_555).trans (((cf NB531_555).trans (((cf NB531_555).trans (((cf NB531_555).trans (((cf NB531_555).trans (((cf NB531_555).trans (hHeld.2.2.2.1)))))))))))))), ((cf NB531_555).trans (((cf NB531_555).trans (((cf NB531_555).trans (((cf NB531_555).trans (((cf NB531_555).trans (((cf NB531_555).trans (((cf NB531_555).trans (hHeld.2.2.2.2.1)))))))))))))), ((cf NB531_555).trans (((cf NB531_555).trans (((cf NB531_555).trans (((cf NB531_555).trans (((cf NB531_555).trans (((cf NB531_555).trans (((cf NB531_555).trans (hHeld.2.2.2.2.2.1)))))))))))))), ((cf NB531_555).trans (((cf NB531_555).trans (((cf NB531_555).trans (((cf NB531_555).trans (((cf NB531_555).trans (((cf NB531_555).trans (((cf NB531_555).trans (hHeld.2.2.2.2.2.2.1)))))))))))))), ((cf NB532_555).trans (((cf NB532_555).trans (((cf NB532_555).trans (((cf NB532_555).trans (((cf NB532_555).trans (((cf NB532_555).trans (((cf NB532_555).trans (hHeld.2.2.2.2.2.2.2.1)))))))))))))), ((cf NB532_555).trans (((cf NB532_555).trans (((cf NB532_555).trans (((cf NB532_555).trans (((cf NB532_555).trans (((cf NB532_555).trans (((cf NB532_555).trans (hHeld.2.2.2.2.2.2.2.2))))))))))))))⟩ (fun hHeld => ?_)
  clear hK K
  refine pure_ (i := 10) (N := some 7) (v := ?_) (a' := ?_) #[true, true, true, true, true, true, true, true, true, true, true] rfl rfl (any_of HT_.out (by kernel_rfl)) (fun _ _ _ h => h) (Or.inl ⟨by rfl, ?_⟩) ?_ ?_
  rotate_left
  ·
   intro w'
   go_simp
   with_reducible rfl
  rotate_left
  ·
   simp only [Act.put, List.setIfInBounds_toArray, List.set_cons_zero, List.set_cons_succ, i64_w, i32_w]
   rfl
  refine done_ (done_of HT_.out (by kernel_rfl)) ?_
  obtain ⟨_, _, _, _⟩ := ne4 NB531_532 NB532_531 NB531_555 NB555_531
  obtain ⟨hcz35_0, hcz35_1, hcz35_2, hcz35_3, hcz35_4, hcz35_5, hcz35_6, hfz35_0, hfz35_1, hfz35_2, hfz35_3, hfz35_4, hfz35_5, hfz35_6⟩ := bq7 BK531.out
  try go_wp2_with (first | ((with_reducible refine gate_callee (f := 15) rfl ?_); refine gLq (some 30) Try.func15 #[.agg #[.slice A0_0 l0_0.length c0_0, .int .i64 a0_1, .int .i64 a0_2, .int .i64 a0_3, .int .i64 a0_4, .int .i64 a0_5, .int .i64 a0_6]] ?_; (with_reducible refine (laws_toBook.calls k _ _ l0_0 a0_1 a0_2 a0_3 a0_4 a0_5 a0_6 t556 t559 t560 t561 t562 t563 t564 _ ?side1 ?side2 A14.out).mono ?_); (case side1 => exact Kd.C_below HR0_0.out (blq HB.out)); (case side2 => exact HC0_0.out); rintro e w36 ⟨v557, rfl, ho0, hb⟩; refine ⟨_, rfl, ?_⟩; have HO558 := Aside0.mk (Kd.R_lower (Kd.R_new' (Kd.R_new' ho0 (Kd.R_lt (Kd.Rq (Kd.R_mono (Kd.R_far (p := ⟨gb555, 6, none⟩) (Kd.R_far (p := ⟨gb555, 5, none⟩) (Kd.R_far (p := ⟨gb555, 4, none⟩) (Kd.R_far (p := ⟨gb555, 3, none⟩) (Kd.R_far (p := ⟨gb555, 2, none⟩) (Kd.R_far (p := ⟨gb555, 1, none⟩) (Kd.R_far (p := ⟨gb555, 0, none⟩) (Kd.R_types HO536.out BK555.out (by decide)) (fun _ hk => hk.2) (.slice Ao25 t545.length co25)) (fun _ hk => hk.2) (.int .i64 t548)) (fun _ hk => hk.2) (.int .i64 t549)) (fun _ hk => hk.2) (.int .i64 t550)) (fun _ hk => hk.2) (.int .i64 t551)) (fun _ hk => hk.2) (.int .i64 t552)) (fun _ hk => hk.2) (.int .i64 t553)) (fun _ h_ => h_.1))))) (Kd.R_lt (Kd.Rq (Kd.R_mono (Kd.R_far (p := ⟨gb555, 6, none⟩) (Kd.R_far (p := ⟨gb555, 5, none⟩) (Kd.R_far (p := ⟨gb555, 4, none⟩) (Kd.R_far (p := ⟨gb555, 3, none⟩) (Kd.R_far (p := ⟨gb555, 2, none⟩) (Kd.R_far (p := ⟨gb555, 1, none⟩) (Kd.R_far (p := ⟨gb555, 0, none⟩) (Kd.R_types HO547.out BK555.out (by decide)) (fun _ hk => hk.2) (.slice Ao25 t545.length co25)) (fun _ hk => hk.2) (.int .i64 t548)) (fun _ hk => hk.2) (.int .i64 t549)) (fun _ hk => hk.2) (.int .i64 t550)) (fun _ hk => hk.2) (.int .i64 t551)) (fun _ hk => hk.2) (.int .i64 t552)) (fun _ hk => hk.2) (.int .i64 t553)) (fun _ h_ => h_.1))))) (below_size (blq HB.out))); replace HO536 := Aside0.mk (Kd.R_elder' (Kd.Rq (Kd.R_mono (Kd.R_far (p := ⟨gb555, 6, none⟩) (Kd.R_far (p := ⟨gb555, 5, none⟩) (Kd.R_far (p := ⟨gb555, 4, none⟩) (Kd.R_far (p := ⟨gb555, 3, none⟩) (Kd.R_far (p := ⟨gb555, 2, none⟩) (Kd.R_far (p := ⟨gb555, 1, none⟩) (Kd.R_far (p := ⟨gb555, 0, none⟩) (Kd.R_types HO536.out BK555.out (by decide)) (fun _ hk => hk.2) (.slice Ao25 t545.length co25)) (fun _ hk => hk.2) (.int .i64 t548)) (fun _ hk => hk.2) (.int .i64 t549)) (fun _ hk => hk.2) (.int .i64 t550)) (fun _ hk => hk.2) (.int .i64 t551)) (fun _ hk => hk.2) (.int .i64 t552)) (fun _ hk => hk.2) (.int .i64 t553)) (fun _ h_ => h_.1))) (Kd.R_base ho0) hb); replace HO547 := Aside0.mk (Kd.R_elder' (Kd.Rq (Kd.R_mono (Kd.R_far (p := ⟨gb555, 6, none⟩) (Kd.R_far (p := ⟨gb555, 5, none⟩) (Kd.R_far (p := ⟨gb555, 4, none⟩) (Kd.R_far (p := ⟨gb555, 3, none⟩) (Kd.R_far (p := ⟨gb555, 2, none⟩) (Kd.R_far (p := ⟨gb555, 1, none⟩) (Kd.R_far (p := ⟨gb555, 0, none⟩) (Kd.R_types HO547.out BK555.out (by decide)) (fun _ hk => hk.2) (.slice Ao25 t545.length co25)) (fun _ hk => hk.2) (.int .i64 t548)) (fun _ hk => hk.2) (.int .i64 t549)) (fun _ hk => hk.2) (.int .i64 t550)) (fun _ hk => hk.2) (.int .i64 t551)) (fun _ hk => hk.2) (.int .i64 t552)) (fun _ hk => hk.2) (.int .i64 t553)) (fun _ h_ => h_.1))) (Kd.R_base ho0) hb); replace BK531 := Aside0.mk (blk_below (g := gb531) (o := .cells #[.slice A0_0 l0_0.length c0_0, .int .i64 a0_1, .int .i64 a0_2, .int .i64 a0_3, .int .i64 a0_4, .int .i64 a0_5, .int .i64 a0_6] 26 (0, 0)) (qk BK531.out) hb); replace BK532 := Aside0.mk (blk_below (g := gb532) (o := .cells #[.int .i64 a1_0, .int .i64 a1_1] 39 (0, 0)) (qk BK532.out) hb); replace BK555 := Aside0.mk (blk_below (g := gb555) (o := .cells #[.slice Ao25 t545.length co25, .int .i64 t548, .int .i64 t549, .int .i64 t550, .int .i64 t551, .int .i64 t552, .int .i64 t553] 31 (0, 0)) (by (with_reducible repeat (first | refine blk_drewN ?_ _ | refine blk_drew ?_ | refine blk_alloc ?_ _)); refine blk_put (cs := #[.slice Ao25 t545.length co25, .int .i64 t548, .int .i64 t549, .int .i64 t550, .int .i64 t551, .int .i64 t552, .int .i64 0]) ?_ 6 _ rfl; (with_reducible repeat (first | refine blk_drewN ?_ _ | refine blk_drew ?_ | refine blk_alloc ?_ _)); refine blk_put (cs := #[.slice Ao25 t545.length co25, .int .i64 t548, .int .i64 t549, .int .i64 t550, .int .i64 t551, .int .i64 0, .int .i64 0]) ?_ 5 _ rfl; (with_reducible repeat (first | refine blk_drewN ?_ _ | refine blk_drew ?_ | refine blk_alloc ?_ _)); refine blk_put (cs := #[.slice Ao25 t545.length co25, .int .i64 t548, .int .i64 t549, .int .i64 t550, .int .i64 0, .int .i64 0, .int .i64 0]) ?_ 4 _ rfl; (with_reducible repeat (first | refine blk_drewN ?_ _ | refine blk_drew ?_ | refine blk_alloc ?_ _)); refine blk_put (cs := #[.slice Ao25 t545.length co25, .int .i64 t548, .int .i64 t549, .int .i64 0, .int .i64 0, .int .i64 0, .int .i64 0]) ?_ 3 _ rfl; (with_reducible repeat (first | refine blk_drewN ?_ _ | refine blk_drew ?_ | refine blk_alloc ?_ _)); refine blk_put (cs := #[.slice Ao25 t545.length co25, .int .i64 t548, .int .i64 0, .int .i64 0, .int .i64 0, .int .i64 0, .int .i64 0]) ?_ 2 _ rfl; (with_reducible repeat (first | refine blk_drewN ?_ _ | refine blk_drew ?_ | refine blk_alloc ?_ _)); refine blk_put (cs := #[.slice Ao25 t545.length co25, .int .i64 0, .int .i64 0, .int .i64 0, .int .i64 0, .int .i64 0, .int .i64 0]) ?_ 1 _ rfl; (with_reducible repeat (first | refine blk_drewN ?_ _ | refine blk_drew ?_ | refine blk_alloc ?_ _)); refine blk_put (cs := #[.slice none 0 0, .int .i64 0, .int .i64 0, .int .i64 0, .int .i64 0, .int .i64 0, .int .i64 0]) ?_ 0 _ rfl; (with_reducible repeat (first | refine blk_drewN ?_ _ | refine blk_drew ?_ | refine blk_alloc ?_ _)); exact BK555.out) hb); replace HB := hbs HB hb; (try clear hb); (try clear hb2); (try clear hk); (try clear hi); (try clear ho0)) | ((with_reducible refine gate_dst (N := 8) rfl ?_); refine box_event ?hg (N := 8) ?hd (cs := #[.slice none 0 0, .int .i64 0, .int .i64 0, .int .i64 0, .int .i64 0, .int .i64 0, .int .i64 0]) (t := 31) ?hr ?_; (case hd => rfl); (case hg => rfl); (case hr => first | (go_simp; done) | (go_simp; rfl)); intro gb565 hg w37 hbox hb; have BK565 := Aside0.mk (hbox); have GW565 := sQ hg HB; have GE565 := sQ hg HB; have NB531_565 := qL hg BK531; have NB565_531 := qG hg BK531; have NB532_565 := qL hg BK532; have NB565_532 := qG hg BK532; have NB555_565 := qL hg BK555; have NB565_555 := qG hg BK555; replace HO536 := rob HO536 hb; replace HO547 := rob HO547 hb; replace HO558 := rob HO558 hb; replace BK531 := bkb BK531 hb; replace BK532 := bkb BK532 hb; replace BK555 := bkb BK555 hb; replace HB := hbs HB hb; clear hb hbox hg; obtain ⟨Ao38, co38, eo38⟩ := Kd.R_slice HO558.out; subst eo38; obtain ⟨_, _, _, _, _, _⟩ := ne6 NB565_531 NB531_565 NB565_532 NB532_565 NB565_555 NB555_565; obtain ⟨hcz42_0, hcz42_1, hcz42_2, hcz42_3, hcz42_4, hcz42_5, hcz42_6, hfz42_0, hfz42_1, hfz42_2, hfz42_3, hfz42_4, hfz42_5, hfz42_6⟩ := bq7 BK565.out))
  have n0_ : Aside0 (Kd.R k41 41 (((((((w37.setCell ⟨gb565, 0, none⟩ (.slice Ao38 t556.length co38)).setCell ⟨gb565, 1, none⟩ (.int .i64 t559)).setCell ⟨gb565, 2, none⟩ (.int .i64 t560)).setCell ⟨gb565, 3, none⟩ (.int .i64 t561)).setCell ⟨gb565, 4, none⟩ (.int .i64 t562)).setCell ⟨gb565, 5, none⟩ (.int .i64 t563)).setCell ⟨gb565, 6, none⟩ (.int .i64 t564)) w.heap.size (fun k_ => some k_ ≠ (.slice Ao25 t545.length co25 : Value).ownBlock ∧ some k_ ≠ (.slice Ao38 t556.length co38 : Value).ownBlock) v535 t534) := ⟨Kd.Rq (Kd.R_mono (Kd.R_far (p := ⟨gb565, 6, none⟩) (Kd.R_far (p := ⟨gb565, 5, none⟩) (Kd.R_far (p := ⟨gb565, 4, none⟩) (Kd.R_far (p := ⟨gb565, 3, none⟩) (Kd.R_far (p := ⟨gb565, 2, none⟩) (Kd.R_far (p := ⟨gb565, 1, none⟩) (Kd.R_far (p := ⟨gb565, 0, none⟩) (Kd.R_types HO536.out BK565.out (by decide)) (fun _ hk => hk.2) (.slice Ao38 t556.length co38)) (fun _ hk => hk.2) (.int .i64 t559)) (fun _ hk => hk.2) (.int .i64 t560)) (fun _ hk => hk.2) (.int .i64 t561)) (fun _ hk => hk.2) (.int .i64 t562)) (fun _ hk => hk.2) (.int .i64 t563)) (fun _ hk => hk.2) (.int .i64 t564)) (fun _ hk => ⟨hk.1.1, hk.1.2⟩))⟩
  have n1_ : Aside0 (Kd.R k41 41 (((((((w37.setCell ⟨gb565, 0, none⟩ (.slice Ao38 t556.length co38)).setCell ⟨gb565, 1, none⟩ (.int .i64 t559)).setCell ⟨gb565, 2, none⟩ (.int .i64 t560)).setCell ⟨gb565, 3, none⟩ (.int .i64 t561)).setCell ⟨gb565, 4, none⟩ (.int .i64 t562)).setCell ⟨gb565, 5, none⟩ (.int .i64 t563)).setCell ⟨gb565, 6, none⟩ (.int .i64 t564)) w.heap.size (fun k_ => some k_ ≠ (v535 : Value).ownBlock ∧ some k_ ≠ (.slice Ao38 t556.length co38 : Value).ownBlock) (.slice Ao25 t545.length co25) t545) := ⟨Kd.Rq (Kd.R_mono (Kd.R_far (p := ⟨gb565, 6, none⟩) (Kd.R_far (p := ⟨gb565, 5, none⟩) (Kd.R_far (p := ⟨gb565, 4, none⟩) (Kd.R_far (p := ⟨gb565, 3, none⟩) (Kd.R_far (p := ⟨gb565, 2, none⟩) (Kd.R_far (p := ⟨gb565, 1, none⟩) (Kd.R_far (p := ⟨gb565, 0, none⟩) (Kd.R_types HO547.out BK565.out (by decide)) (fun _ hk => hk.2) (.slice Ao38 t556.length co38)) (fun _ hk => hk.2) (.int .i64 t559)) (fun _ hk => hk.2) (.int .i64 t560)) (fun _ hk => hk.2) (.int .i64 t561)) (fun _ hk => hk.2) (.int .i64 t562)) (fun _ hk => hk.2) (.int .i64 t563)) (fun _ hk => hk.2) (.int .i64 t564)) (fun _ hk => ⟨hk.1.1, hk.1.2⟩))⟩
  have n2_ : Aside0 (Kd.R k41 41 (((((((w37.setCell ⟨gb565, 0, none⟩ (.slice Ao38 t556.length co38)).setCell ⟨gb565, 1, none⟩ (.int .i64 t559)).setCell ⟨gb565, 2, none⟩ (.int .i64 t560)).setCell ⟨gb565, 3, none⟩ (.int .i64 t561)).setCell ⟨gb565, 4, none⟩ (.int .i64 t562)).setCell ⟨gb565, 5, none⟩ (.int .i64 t563)).setCell ⟨gb565, 6, none⟩ (.int .i64 t564)) w.heap.size (fun k_ => some k_ ≠ (v535 : Value).ownBlock ∧ some k_ ≠ (.slice Ao25 t545.length co25 : Value).ownBlock) (.slice Ao38 t556.length co38) t556) := ⟨Kd.Rq (Kd.R_mono (Kd.R_far (p := ⟨gb565, 6, none⟩) (Kd.R_far (p := ⟨gb565, 5, none⟩) (Kd.R_far (p := ⟨gb565, 4, none⟩) (Kd.R_far (p := ⟨gb565, 3, none⟩) (Kd.R_far (p := ⟨gb565, 2, none⟩) (Kd.R_far (p := ⟨gb565, 1, none⟩) (Kd.R_far (p := ⟨gb565, 0, none⟩) (Kd.R_types HO558.out BK565.out (by decide)) (fun _ hk => hk.2) (.slice Ao38 t556.length co38)) (fun _ hk => hk.2) (.int .i64 t559)) (fun _ hk => hk.2) (.int .i64 t560)) (fun _ hk => hk.2) (.int .i64 t561)) (fun _ hk => hk.2) (.int .i64 t562)) (fun _ hk => hk.2) (.int .i64 t563)) (fun _ hk => hk.2) (.int .i64 t564)) (fun _ hk => ⟨hk.1.1.2, hk.1.2⟩))⟩
  have n3_ : Aside0 ((((((((w37.setCell ⟨gb565, 0, none⟩ (.slice Ao38 t556.length co38)).setCell ⟨gb565, 1, none⟩ (.int .i64 t559)).setCell ⟨gb565, 2, none⟩ (.int .i64 t560)).setCell ⟨gb565, 3, none⟩ (.int .i64 t561)).setCell ⟨gb565, 4, none⟩ (.int .i64 t562)).setCell ⟨gb565, 5, none⟩ (.int .i64 t563)).setCell ⟨gb565, 6, none⟩ (.int .i64 t564)).heap[gb531]? = some (.cells #[.slice A0_0 l0_0.length c0_0, .int .i64 a0_1, .int .i64 a0_2, .int .i64 a0_3, .int .i64 a0_4, .int .i64 a0_5, .int .i64 a0_6] 26 (0, 0))) := ⟨qk BK531.out⟩
  have n4_ : Aside0 ((((((((w37.setCell ⟨gb565, 0, none⟩ (.slice Ao38 t556.length co38)).setCell ⟨gb565, 1, none⟩ (.int .i64 t559)).setCell ⟨gb565, 2, none⟩ (.int .i64 t560)).setCell ⟨gb565, 3, none⟩ (.int .i64 t561)).setCell ⟨gb565, 4, none⟩ (.int .i64 t562)).setCell ⟨gb565, 5, none⟩ (.int .i64 t563)).setCell ⟨gb565, 6, none⟩ (.int .i64 t564)).heap[gb532]? = some (.cells #[.int .i64 a1_0, .int .i64 a1_1] 39 (0, 0))) := ⟨qk BK532.out⟩
  have n5_ : Aside0 ((((((((w37.setCell ⟨gb565, 0, none⟩ (.slice Ao38 t556.length co38)).setCell ⟨gb565, 1, none⟩ (.int .i64 t559)).setCell ⟨gb565, 2, none⟩ (.int .i64 t560)).setCell ⟨gb565, 3, none⟩ (.int .i64 t561)).setCell ⟨gb565, 4, none⟩ (.int .i64 t562)).setCell ⟨gb565, 5, none⟩ (.int .i64 t563)).setCell ⟨gb565, 6, none⟩ (.int .i64 t564)).heap[gb555]? = some (.cells #[.slice Ao25 t545.length co25, .int .i64 t548, .int .i64 t549, .int .i64 t550, .int .i64 t551, .int .i64 t552, .int .i64 t553] 31 (0, 0))) := ⟨qk BK555.out⟩
  have n6_ : Aside0 ((((((((w37.setCell ⟨gb565, 0, none⟩ (.slice Ao38 t556.length co38)).setCell ⟨gb565, 1, none⟩ (.int .i64 t559)).setCell ⟨gb565, 2, none⟩ (.int .i64 t560)).setCell ⟨gb565, 3, none⟩ (.int .i64 t561)).setCell ⟨gb565, 4, none⟩ (.int .i64 t562)).setCell ⟨gb565, 5, none⟩ (.int .i64 t563)).setCell ⟨gb565, 6, none⟩ (.int .i64 t564)).heap[gb565]? = some (.cells #[.slice Ao38 t556.length co38, .int .i64 t559, .int .i64 t560, .int .i64 t561, .int .i64 t562, .int .i64 t563, .int .i64 t564] 31 (0, 0))) := ⟨by (with_reducible repeat (first | refine blk_drewN ?_ _ | refine blk_drew ?_ | refine blk_alloc ?_ _)); refine blk_put (cs := #[.slice Ao38 t556.length co38, .int .i64 t559, .int .i64 t560, .int .i64 t561, .int .i64 t562, .int .i64 t563, .int .i64 0]) ?_ 6 _ rfl; (with_reducible repeat (first | refine blk_drewN ?_ _ | refine blk_drew ?_ | refine blk_alloc ?_ _)); refine blk_put (cs := #[.slice Ao38 t556.length co38, .int .i64 t559, .int .i64 t560, .int .i64 t561, .int .i64 t562, .int .i64 0, .int .i64 0]) ?_ 5 _ rfl; (with_reducible repeat (first | refine blk_drewN ?_ _ | refine blk_drew ?_ | refine blk_alloc ?_ _)); refine blk_put (cs := #[.slice Ao38 t556.length co38, .int .i64 t559, .int .i64 t560, .int .i64 t561, .int .i64 0, .int .i64 0, .int .i64 0]) ?_ 4 _ rfl; (with_reducible repeat (first | refine blk_drewN ?_ _ | refine blk_drew ?_ | refine blk_alloc ?_ _)); refine blk_put (cs := #[.slice Ao38 t556.length co38, .int .i64 t559, .int .i64 t560, .int .i64 0, .int .i64 0, .int .i64 0, .int .i64 0]) ?_ 3 _ rfl; (with_reducible repeat (first | refine blk_drewN ?_ _ | refine blk_drew ?_ | refine blk_alloc ?_ _)); refine blk_put (cs := #[.slice Ao38 t556.length co38, .int .i64 t559, .int .i64 0, .int .i64 0, .int .i64 0, .int .i64 0, .int .i64 0]) ?_ 2 _ rfl; (with_reducible repeat (first | refine blk_drewN ?_ _ | refine blk_drew ?_ | refine blk_alloc ?_ _)); refine blk_put (cs := #[.slice Ao38 t556.length co38, .int .i64 0, .int .i64 0, .int .i64 0, .int .i64 0, .int .i64 0, .int .i64 0]) ?_ 1 _ rfl; (with_reducible repeat (first | refine blk_drewN ?_ _ | refine blk_drew ?_ | refine blk_alloc ?_ _)); refine blk_put (cs := #[.slice none 0 0, .int .i64 0, .int .i64 0, .int .i64 0, .int .i64 0, .int .i64 0, .int .i64 0]) ?_ 0 _ rfl; (with_reducible repeat (first | refine blk_drewN ?_ _ | refine blk_drew ?_ | refine blk_alloc ?_ _)); exact BK565.out⟩
  have n7_ : Aside0 (Below w.heap.size w (((((((w37.setCell ⟨gb565, 0, none⟩ (.slice Ao38 t556.length co38)).setCell ⟨gb565, 1, none⟩ (.int .i64 t559)).setCell ⟨gb565, 2, none⟩ (.int .i64 t560)).setCell ⟨gb565, 3, none⟩ (.int .i64 t561)).setCell ⟨gb565, 4, none⟩ (.int .i64 t562)).setCell ⟨gb565, 5, none⟩ (.int .i64 t563)).setCell ⟨gb565, 6, none⟩ (.int .i64 t564))) := ⟨blq HB.out⟩
  (try clear HO536)
  (try clear HO547)
  (try clear HO558)
  (try clear BK531)
  (try clear BK532)
  (try clear BK555)
  (try clear BK565)
  (try clear HB)
  generalize (((((((w37.setCell ⟨gb565, 0, none⟩ (.slice Ao38 t556.length co38)).setCell ⟨gb565, 1, none⟩ (.int .i64 t559)).setCell ⟨gb565, 2, none⟩ (.int .i64 t560)).setCell ⟨gb565, 3, none⟩ (.int .i64 t561)).setCell ⟨gb565, 4, none⟩ (.int .i64 t562)).setCell ⟨gb565, 5, none⟩ (.int .i64 t563)).setCell ⟨gb565, 6, none⟩ (.int .i64 t564)) = w43 at n0_ n1_ n2_ n3_ n4_ n5_ n6_ n7_ ⊢
  have HO536 := n0_
  have HO547 := n1_
  have HO558 := n2_
  have BK531 := n3_
  have BK532 := n4_
  have BK555 := n5_
  have BK565 := n6_
  have HB := n7_
  clear n0_ n1_ n2_ n3_ n4_ n5_ n6_ n7_
  replace HO536 := Aside0.mk (Kd.R_drew HO536.out)
  replace HO547 := Aside0.mk (Kd.R_drew HO547.out)
  replace HO558 := Aside0.mk (Kd.R_drew HO558.out)
  replace BK531 := Aside0.mk (blk_drew BK531.out)
  replace BK532 := Aside0.mk (blk_drew BK532.out)
  replace BK555 := Aside0.mk (blk_drew BK555.out)
  replace BK565 := Aside0.mk (blk_drew BK565.out)
  replace HB := Aside0.mk (below_drew1 HB.out)
  refine start_ (n := 10) (S := fun w' => w'.cell? ⟨gb565, 0, none⟩ = some (.slice Ao38 t556.length co38) ∧ w'.cell? ⟨gb565, 1, none⟩ = some (.int .i64 t559) ∧ w'.cell? ⟨gb565, 2, none⟩ = some (.int .i64 t560) ∧ w'.cell? ⟨gb565, 3, none⟩ = some (.int .i64 t561) ∧ w'.cell? ⟨gb565, 4, none⟩ = some (.int .i64 t562) ∧ w'.cell? ⟨gb565, 5, none⟩ = some (.int .i64 t563) ∧ w'.cell? ⟨gb565, 6, none⟩ = some (.int .i64 t564) ∧ w'.cell? ⟨gb532, 0, none⟩ = some (.int .i64 a1_0) ∧ w'.cell? ⟨gb532, 1, none⟩ = some (.int .i64 a1_1)) (ds := []) #[false, false, false, false, false, false, false, false, false, false] (by kernel_rfl) rfl rfl ⟨bc BK565 0, bc BK565 1, bc BK565 2, bc BK565 3, bc BK565 4, bc BK565 5, bc BK565 6, bc BK532 0, bc BK532 1⟩ (fun hHeld => ?_); refine with_tabW laws_FnExactEnter.tab7 laws_FnExactEnter.bits7 (fun HT_ HW_ => ?_)
  generalize w43.drew = w44 at HO536 HO547 HO558 BK531 BK532 BK555 BK565 HB hHeld ⊢
  refine take_ (i := 0) (N := some 32) (v := ?_) (a' := ?_) #[true, false, false, false, false, false, false, false, false, false] rfl rfl (take_ofW HT_.out HW_.out (by kernel_rfl)) (fun _ _ _ h => h) (Or.inl ⟨by rfl, ?_⟩) hHeld ?_ ?_
  rotate_left
  ·
   rintro w' ⟨s0, s1, s2, s3, s4, s5, s6, s7, s8⟩
   go_simp
   with_reducible rfl
  rotate_left
  ·
   simp only [Act.put, List.setIfInBounds_toArray, List.set_cons_zero, List.set_cons_succ, i64_w, i32_w]
   rfl
  refine take_ (i := 1) (N := some 33) (v := ?_) (a' := ?_) #[true, true, false, false, false, false, false, false, false, false] rfl rfl (take_ofW HT_.out HW_.out (by kernel_rfl)) (fun _ _ _ h => h) (Or.inl ⟨by rfl, ?_⟩) hHeld ?_ ?_
  rotate_left
  ·
   rintro w' ⟨s0, s1, s2, s3, s4, s5, s6, s7, s8⟩
   go_simp
   with_reducible rfl
  rotate_left
  ·
   simp only [Act.put, List.setIfInBounds_toArray, List.set_cons_zero, List.set_cons_succ, i64_w, i32_w]
   rfl
  refine join_ (σ := Value × Nat) 2 #[true, true, true, true, true, true, true, true, false, false] (fun s_ => [(34, .agg #[.int .i64 t566, .int .i64 t567]), (35, .tuple #[.agg #[s_.1, .int .i64 t571, .int .i64 t572, .int .i64 t573, .int .i64 t574, .int .i64 t575, .int .i64 t576], .bool t577]), (9, .pointer (some ⟨s_.2, 0, none⟩)), (31, .tuple #[.agg #[s_.1, .int .i64 t571, .int .i64 t572, .int .i64 t573, .int .i64 t574, .int .i64 t575, .int .i64 t576], .bool t577]), (36, .agg #[s_.1, .int .i64 t571, .int .i64 t572, .int .i64 t573, .int .i64 t574, .int .i64 t575, .int .i64 t576]), (37, .bool t577)]) (fun s_ w' => (w'.cell? ⟨gb565, 0, none⟩ = some (.slice Ao38 t556.length co38) ∧ w'.cell? ⟨gb565, 1, none⟩ = some (.int .i64 t559) ∧ w'.cell? ⟨gb565, 2, none⟩ = some (.int .i64 t560) ∧ w'.cell? ⟨gb565, 3, none⟩ = some (.int .i64 t561) ∧ w'.cell? ⟨gb565, 4, none⟩ = some (.int .i64 t562) ∧ w'.cell? ⟨gb565, 5, none⟩ = some (.int .i64 t563) ∧ w'.cell? ⟨gb565, 6, none⟩ = some (.int .i64 t564) ∧ w'.cell? ⟨gb532, 0, none⟩ = some (.int .i64 a1_0) ∧ w'.cell? ⟨gb532, 1, none⟩ = some (.int .i64 a1_1)) ∧ (Kd.R k41 41 w' w.heap.size (fun k_ => some k_ ≠ (.slice Ao25 t545.length co25 : Value).ownBlock ∧ some k_ ≠ (.slice Ao38 t556.length co38 : Value).ownBlock ∧ some k_ ≠ (s_.1 : Value).ownBlock) v535 t534) ∧ (Kd.R k41 41 w' w.heap.size (fun k_ => some k_ ≠ (v535 : Value).ownBlock ∧ some k_ ≠ (.slice Ao38 t556.length co38 : Value).ownBlock ∧ some k_ ≠ (s_.1 : Value).ownBlock) (.slice Ao25 t545.length co25) t545) ∧ (Kd.R k41 41 w' w.heap.size (fun k_ => some k_ ≠ (v535 : Value).ownBlock ∧ some k_ ≠ (.slice Ao25 t545.length co25 : Value).ownBlock ∧ some k_ ≠ (s_.1 : Value).ownBlock) (.slice Ao38 t556.length co38) t556) ∧ (Kd.R k41 41 w' w.heap.size (fun k_ => some k_ ≠ (v535 : Value).ownBlock ∧ some k_ ≠ (.slice Ao25 t545.length co25 : Value).ownBlock ∧ some k_ ≠ (.slice Ao38 t556.length co38 : Value).ownBlock) s_.1 t568) ∧ (w'.heap[gb531]? = some (.cells #[.slice A0_0 l0_0.length c0_0, .int .i64 a0_1, .int .i64 a0_2, .int .i64 a0_3, .int .i64 a0_4, .int .i64 a0_5, .int .i64 a0_6] 26 (0, 0))) ∧ (w'.heap[gb532]? = some (.cells #[.int .i64 a1_0, .int .i64 a1_1] 39 (0, 0))) ∧ (w'.heap[gb555]? = some (.cells #[.slice Ao25 t545.length co25, .int .i64 t548, .int .i64 t549, .int .i64 t550, .int .i64 t551, .int .i64 t552, .int .i64 t553] 31 (0, 0))) ∧ (w'.heap[gb565]? = some (.cells #[.slice Ao38 t556.length co38, .int .i64 t559, .int .i64 t560, .int .i64 t561, .int .i64 t562, .int .i64 t563, .int .i64 t564] 31 (0, 0))) ∧ (w'.heap[s_.2]? = some (.cells #[.slice none 0 0, .int .i64 0, .int .i64 0, .int .i64 0, .int .i64 0, .int .i64 0, .int .i64 0] 31 (0, 0))) ∧ (w.heap.size ≤ s_.2) ∧ (w.heap.size ≤ s_.2) ∧ (gb531 ≠ s_.2) ∧ (s_.2 ≠ gb531) ∧ (gb532 ≠ s_.2) ∧ (s_.2 ≠ gb532) ∧ (gb555 ≠ s_.2) ∧ (s_.2 ≠ gb555) ∧ (gb565 ≠ s_.2) ∧ (s_.2 ≠ gb565) ∧ (Below w.heap.size w w')) ?_ ?_
  rotate_left
  ·
   intro hCont
   refine two_ (i := 2) (j := 7) (Ni := some 34) (Nj := some 9) #[true, true, true, false, false, false, false, false, false, false] #[true, true, false, false, false, false, false, true, false, false] rfl rfl rfl rfl (two_of HT_.out (by kernel_rfl)) (by decide) (by decide) (fun K hK => ?_) (fun K hK => ?_)
   ·
    skip
    refine goes_ Try.func21 (by kernel_rfl) rfl #[.agg #[.int .i64 a1_0, .int .i64 a1_1]] (by rfl) rfl rfl (by (try simp only [List.map_toArray, List.map_cons, List.map_nil]); first | done | rfl | (simp only [List.length_drop, List.length_take]; rfl)) ?_
    with_reducible refine (laws_toEvent.calls a1_0 a1_1 t566 t567 _ A15.out).mono ?_
    rintro e w45 ⟨rfl, hb⟩
    refine ⟨_, rfl, ?_⟩
    replace HO536 := rob HO536 hb
    replace HO547 := rob HO547 hb
    replace HO558 := rob HO558 hb
    replace BK531 := bkb BK531 hb
    replace BK532 := bkb BK532 hb
    replace BK555 := bkb BK555 hb
    replace BK565 := bkb BK565 hb
    replace HB := hbs HB hb
    (try clear hb)
    (try clear hb2)
    (try clear hk)
    (try clear hi)
    refine hK.out _ _ ⟨bc BK565 0, bc BK565 1, bc BK565 2, bc BK565 3, bc BK565 4, bc BK565 5, bc BK565 6, bc BK532 0, bc BK532 1⟩ (fun hHeld => ?_)
    clear hK K
    refine norm_ (a' := ?_) ?_ ?_
    rotate_left
    ·
     show Act.put _ (some 34) _ = _
     simp only [Act.put, List.setIfInBounds_toArray, List.set_cons_zero, List.set_cons_succ, i64_w, i32_w]
     rfl
    refine two_ (i := 3) (j := 7) (Ni := some 35) (Nj := some 9) #[true, true, true, true, false, false, false, false, false, false] #[true, true, true, false, false, false, false, true, false, false] rfl rfl rfl rfl (two_of HT_.out (by kernel_rfl)) (by decide) (by decide) (fun K hK => ?_) (fun K hK => ?_)
    ·
     skip
     refine goes_ Try.func22 (by kernel_rfl) rfl #[.agg #[.slice Ao38 t556.length co38, .int .i64 t559, .int .i64 t560, .int .i64 t561, .int .i64 t562, .int .i64 t563, .int .i64 t564], .agg #[.int .i64 t566, .int .i64 t567]] (by rfl) rfl rfl (by (try simp only [List.map_toArray, List.map_cons, List.map_nil]); first | done | rfl | (simp only [List.length_drop, List.length_take]; rfl)) ?_
     with_reducible refine (impl_Enter.calls k _ _ t556 t559 t560 t561 t562 t563 t564 t566 t567 t568 t571 t572 t573 t574 t575 t576 t577 _ ?side1 ?side2 A16.out).mono ?_
     (case side1 => repeat (first | exact (Kd.R_reads' HO558.out).2.2 | (with_reducible refine Kd.C_alloc ?_ _) | (with_reducible refine Kd.C_drewN ?_ _) | (with_reducible refine Kd.C_drew ?_)))
     (case side2 => exact (Kd.R_reads' HO558.out).2.1)
     rintro e w46 ⟨v569, rfl, ho0, hb⟩
     refine ⟨_, rfl, ?_⟩
     have HO570 := Aside0.mk (Kd.R_lower (Kd.R_new' (Kd.R_new' (Kd.R_new' ho0 (Kd.R_lt (Kd.Rq HO536.out))) (Kd.R_lt (Kd.Rq HO547.out))) (Kd.R_lt (Kd.Rq HO558.out))) (below_size (blq HB.out)))
     replace HO536 := Aside0.mk (Kd.R_elder' (Kd.Rq HO536.out) (Kd.R_base ho0) hb)
     replace HO547 := Aside0.mk (Kd.R_elder' (Kd.Rq HO547.out) (Kd.R_base ho0) hb)
     replace HO558 := Aside0.mk (Kd.R_elder' (Kd.Rq HO558.out) (Kd.R_base ho0) hb)
     replace BK531 := bkb BK531 hb
     replace BK532 := bkb BK532 hb
     replace BK555 := bkb BK555 hb
     replace BK565 := bkb BK565 hb
     replace HB := hbs HB hb
     (try clear hb)
     (try clear hb2)
     (try clear hk)
     (try clear hi)
     (try clear ho0)
     refine hK.out _ _ ⟨bc BK565 0, bc BK565 1, bc BK565 2, bc BK565 3, bc BK565 4, bc BK565 5, bc BK565 6, bc BK532 0, bc BK532 1⟩ (fun hHeld => ?_)
     clear hK K
     refine norm_ (a' := ?_) ?_ ?_
     rotate_left
     ·
      show Act.put _ (some 35) _ = _
      simp only [Act.put, List.setIfInBounds_toArray, List.set_cons_zero, List.set_cons_succ, i64_w, i32_w]
      rfl
     refine pure_ (i := 4) (N := some 31) (v := ?_) (a' := ?_) #[true, true, true, true, true, false, false, false, false, false] rfl rfl (any_of HT_.out (by kernel_rfl)) (fun _ _ _ h => h) (Or.inl ⟨by rfl, ?_⟩) ?_ ?_
     rotate_left
     ·
      intro w'
      go_simp
      with_reducible rfl
     rotate_left
     ·
      simp only [Act.put, List.setIfInBounds_toArray, List.set_cons_zero, List.set_cons_succ, i64_w, i32_w]
      rfl
     refine pure_ (i := 5) (N := some 36) (v := ?_) (a' := ?_) #[true, true, true, true, true, true, false, false, false, false] rfl rfl (any_of HT_.out (by kernel_rfl)) (fun _ _ _ h => h) (Or.inl ⟨by rfl, ?_⟩) ?_ ?_
     rotate_left
     ·
      intro w'
      go_simp
      with_reducible rfl
     rotate_left
     ·
      simp only [Act.put, List.setIfInBounds_toArray, List.set_cons_zero, List.set_cons_succ, i64_w, i32_w]
      rfl
     refine pure_ (i := 6) (N := some 37) (v := ?_) (a' := ?_) #[true, true, true, true, true, true, true, false, false, false] rfl rfl (any_of HT_.out (by kernel_rfl)) (fun _ _ _ h => h) (Or.inl ⟨by rfl, ?_⟩) ?_ ?_
     rotate_left
     ·
      intro w'
      go_simp
      with_reducible rfl
     rotate_left
     ·
      simp only [Act.put, List.setIfInBounds_toArray, List.set_cons_zero, List.set_cons_succ, i64_w, i32_w]
      rfl
     refine one_ (i := 7) (N := some 9) #[true, true, true, true, true, true, true, true, false, false] rfl rfl (one_of HT_.out (by kernel_rfl)) (by decide) (fun K hK => ?_)
     refine box_step ?hg (N := 9) ?hd (cs := #[.slice none 0 0, .int .i64 0, .int .i64 0, .int .i64 0, .int .i64 0, .int .i64 0, .int .i64 0]) (t := 31) ?hr ?_; (case hd => rfl); (case hg => rfl); (case hr => first | (go_simp; done) | (go_simp; rfl))
     intro gb578 hg w47 hbox hb
     have BK578 := Aside0.mk (hbox)
     have GW578 := sQ hg HB
     have GE578 := sQ hg HB
     have NB531_578 := qL hg BK531
     have NB578_531 := qG hg BK531
     have NB532_578 := qL hg BK532
     have NB578_532 := qG hg BK532
     have NB555_578 := qL hg BK555
     have NB578_555 := qG hg BK555
     have NB565_578 := qL hg BK565
     have NB578_565 := qG hg BK565
     replace HO536 := rob HO536 hb
     replace HO547 := rob HO547 hb
     replace HO558 := rob HO558 hb
     replace HO570 := rob HO570 hb
     replace BK531 := bkb BK531 hb
     replace BK532 := bkb BK532 hb
     replace BK555 := bkb BK555 hb
     replace BK565 := bkb BK565 hb
     replace HB := hbs HB hb
     clear hb hbox hg
     refine hK.out _ _ ⟨bc BK565 0, bc BK565 1, bc BK565 2, bc BK565 3, bc BK565 4, bc BK565 5, bc BK565 6, bc BK532 0, bc BK532 1⟩ (fun hHeld => ?_)
     clear hK K
     refine norm_ (a' := ?_) ?_ ?_
     rotate_left
     ·
      show Act.put _ (some 9) _ = _
      simp only [Act.put, List.setIfInBounds_toArray, List.set_cons_zero, List.set_cons_succ, i64_w, i32_w]
      rfl
     exact norm_ (by simp only [putAll, Act.put, List.setIfInBounds_toArray, List.set_cons_zero, List.set_cons_succ]) (hCont (v569, gb578) _ ⟨hHeld, (Kd.Rq (Kd.R_mono HO536.out (fun _ hk => ⟨hk.1.1, ⟨hk.1.2, hk.2⟩⟩))), (Kd.Rq (Kd.R_mono HO547.out (fun _ hk => ⟨hk.1.1, ⟨hk.1.2, hk.2⟩⟩))), (Kd.Rq (Kd.R_mono HO558.out (fun _ hk => ⟨hk.1.1, ⟨hk.1.2, hk.2⟩⟩))), (Kd.Rq (Kd.R_mono HO570.out (fun _ hk => ⟨hk.1.1.2, ⟨hk.1.2, hk.2⟩⟩))), (bkq BK531.out), (bkq BK532.out), (bkq BK555.out), (bkq BK565.out), (bkq BK578.out), GW578.out, GE578.out, NB531_578.out, NB578_531.out, NB532_578.out, NB578_532.out, NB555_578.out, NB578_555.out, NB565_578.out, NB578_565.out, (blq HB.out)⟩)
    ·
     skip
     refine box_step ?hg (N := 9) ?hd (cs := #[.slice none 0 0, .int .i64 0, .int .i64 0, .int .i64 0, .int .i64 0, .int .i64 0, .int .i64 0]) (t := 31) ?hr ?_; (case hd => rfl); (case hg => rfl); (case hr => first | (go_simp; done) | (go_simp; rfl))
     intro gb578 hg w46 hbox hb
     have BK578 := Aside0.mk (hbox)
     have GW578 := sQ hg HB
     have GE578 := sQ hg HB
     have NB531_578 := qL hg BK531
     have NB578_531 := qG hg BK531
     have NB532_578 := qL hg BK532
     have NB578_532 := qG hg BK532
     have NB555_578 := qL hg BK555
     have NB578_555 := qG hg BK555
     have NB565_578 := qL hg BK565
     have NB578_565 := qG hg BK565
     replace HO536 := rob HO536 hb
     replace HO547 := rob HO547 hb
     replace HO558 := rob HO558 hb
     replace BK531 := bkb BK531 hb
     replace BK532 := bkb BK532 hb
     replace BK555 := bkb BK555 hb
     replace BK565 := bkb BK565 hb
     replace HB := hbs HB hb
     clear hb hbox hg
     refine hK.out _ _ ⟨bc BK565 0, bc BK565 1, bc BK565 2, bc BK565 3, bc BK565 4, bc BK565 5, bc BK565 6, bc BK532 0, bc BK532 1⟩ (fun hHeld => ?_)
     clear hK K
     refine norm_ (a' := ?_) ?_ ?_
     rotate_left
     ·
      show Act.put _ (some 9) _ = _
      simp only [Act.put, List.setIfInBounds_toArray, List.set_cons_zero, List.set_cons_succ, i64_w, i32_w]
      rfl
     refine one_ (i := 3) (N := some 35) #[true, true, true, true, false, false, false, true, false, false] rfl rfl (one_of HT_.out (by kernel_rfl)) (by decide) (fun K hK => ?_)
     refine goes_ Try.func22 (by kernel_rfl) rfl #[.agg #[.slice Ao38 t556.length co38, .int .i64 t559, .int .i64 t560, .int .i64 t561, .int .i64 t562, .int .i64 t563, .int .i64 t564], .agg #[.int .i64 t566, .int .i64 t567]] (by rfl) rfl rfl (by (try simp only [List.map_toArray, List.map_cons, List.map_nil]); first | done | rfl | (simp only [List.length_drop, List.length_take]; rfl)) ?_
     with_reducible refine (impl_Enter.calls k _ _ t556 t559 t560 t561 t562 t563 t564 t566 t567 t568 t571 t572 t573 t574 t575 t576 t577 _ ?side1 ?side2 A16.out).mono ?_
     (case side1 => repeat (first | exact (Kd.R_reads' HO558.out).2.2 | (with_reducible refine Kd.C_alloc ?_ _) | (with_reducible refine Kd.C_drewN ?_ _) | (with_reducible refine Kd.C_drew ?_)))
     (case side2 => exact (Kd.R_reads' HO558.out).2.1)
     rintro e w47 ⟨v569, rfl, ho0, hb⟩
     refine ⟨_, rfl, ?_⟩
     have HO570 := Aside0.mk (Kd.R_lower (Kd.R_new' (Kd.R_new' (Kd.R_new' ho0 (Kd.R_lt (Kd.Rq HO536.out))) (Kd.R_lt (Kd.Rq HO547.out))) (Kd.R_lt (Kd.Rq HO558.out))) (below_size (blq HB.out)))
     replace HO536 := Aside0.mk (Kd.R_elder' (Kd.Rq HO536.out) (Kd.R_base ho0) hb)
     replace HO547 := Aside0.mk (Kd.R_elder' (Kd.Rq HO547.out) (Kd.R_base ho0) hb)
     replace HO558 := Aside0.mk (Kd.R_elder' (Kd.Rq HO558.out) (Kd.R_base ho0) hb)
     replace BK531 := bkb BK531 hb
     replace BK532 := bkb BK532 hb
     replace BK555 := bkb BK555 hb
     replace BK565 := bkb BK565 hb
     replace BK578 := bkb BK578 hb
     replace HB := hbs HB hb
     (try clear hb)
     (try clear hb2)
     (try clear hk)
     (try clear hi)
     (try clear ho0)
     refine hK.out _ _ ⟨bc BK565 0, bc BK565 1, bc BK565 2, bc BK565 3, bc BK565 4, bc BK565 5, bc BK565 6, bc BK532 0, bc BK532 1⟩ (fun hHeld => ?_)
     clear hK K
     refine norm_ (a' := ?_) ?_ ?_
     rotate_left
     ·
      show Act.put _ (some 35) _ = _
      simp only [Act.put, List.setIfInBounds_toArray, List.set_cons_zero, List.set_cons_succ, i64_w, i32_w]
      rfl
     refine pure_ (i := 4) (N := some 31) (v := ?_) (a' := ?_) #[true, true, true, true, true, false, false, true, false, false] rfl rfl (any_of HT_.out (by kernel_rfl)) (fun _ _ _ h => h) (Or.inl ⟨by rfl, ?_⟩) ?_ ?_
     rotate_left
     ·
      intro w'
      go_simp
      with_reducible rfl
     rotate_left
     ·
      simp only [Act.put, List.setIfInBounds_toArray, List.set_cons_zero, List.set_cons_succ, i64_w, i32_w]
      rfl
     refine pure_ (i := 5) (N := some 36) (v := ?_) (a' := ?_) #[true, true, true, true, true, true, false, true, false, false] rfl rfl (any_of HT_.out (by kernel_rfl)) (fun _ _ _ h => h) (Or.inl ⟨by rfl, ?_⟩) ?_ ?_
     rotate_left
     ·
      intro w'
      go_simp
      with_reducible rfl
     rotate_left
     ·
      simp only [Act.put, List.setIfInBounds_toArray, List.set_cons_zero, List.set_cons_succ, i64_w, i32_w]
      rfl
     refine pure_ (i := 6) (N := some 37) (v := ?_) (a' := ?_) #[true, true, true, true, true, true, true, true, false, false] rfl rfl (any_of HT_.out (by kernel_rfl)) (fun _ _ _ h => h) (Or.inl ⟨by rfl, ?_⟩) ?_ ?_
     rotate_left
     ·
      intro w'
      go_simp
      with_reducible rfl
     rotate_left
     ·
      simp only [Act.put, List.setIfInBounds_toArray, List.set_cons_zero, List.set_cons_succ, i64_w, i32_w]
      rfl
     exact norm_ (by simp only [putAll, Act.put, List.setIfInBounds_toArray, List.set_cons_zero, List.set_cons_succ]) (hCont (v569, gb578) _ ⟨hHeld, (Kd.Rq (Kd.R_mono HO536.out (fun _ hk => ⟨hk.1.1, ⟨hk.1.2, hk.2⟩⟩))), (Kd.Rq (Kd.R_mono HO547.out (fun _ hk => ⟨hk.1.1, ⟨hk.1.2, hk.2⟩⟩))), (Kd.Rq (Kd.R_mono HO558.out (fun _ hk => ⟨hk.1.1, ⟨hk.1.2, hk.2⟩⟩))), (Kd.Rq (Kd.R_mono HO570.out (fun _ hk => ⟨hk.1.1.2, ⟨hk.1.2, hk.2⟩⟩))), (bkq BK531.out), (bkq BK532.out), (bkq BK555.out), (bkq BK565.out), (bkq BK578.out), GW578.out, GE578.out, NB531_578.out, NB578_531.out, NB532_578.out, NB578_532.out, NB555_578.out, NB578_555.out, NB565_578.out, NB578_565.out, (blq HB.out)⟩)
   ·
    skip
    refine box_step ?hg (N := 9) ?hd (cs := #[.slice none 0 0, .int .i64 0, .int .i64 0, .int .i64 0, .int .i64 0, .int .i64 0, .int .i64 0]) (t := 31) ?hr ?_; (case hd => rfl); (case hg => rfl); (case hr => first | (go_simp; done) | (go_simp; rfl))
    intro gb578 hg w45 hbox hb
    have BK578 := Aside0.mk (hbox)
    have GW578 := sQ hg HB
    have GE578 := sQ hg HB
    have NB531_578 := qL hg BK531
    have NB578_531 := qG hg BK531
    have NB532_578 := qL hg BK532
    have NB578_532 := qG hg BK532
    have NB555_578 := qL hg BK555
    have NB578_555 := qG hg BK555
    have NB565_578 := qL hg BK565
    have NB578_565 := qG hg BK565
    replace HO536 := rob HO536 hb
    replace HO547 := rob HO547 hb
    replace HO558 := rob HO558 hb
    replace BK531 := bkb BK531 hb
    replace BK532 := bkb BK532 hb
    replace BK555 := bkb BK555 hb
    replace BK565 := bkb BK565 hb
    replace HB := hbs HB hb
    clear hb hbox hg
    refine hK.out _ _ ⟨bc BK565 0, bc BK565 1, bc BK565 2, bc BK565 3, bc BK565 4, bc BK565 5, bc BK565 6, bc BK532 0, bc BK532 1⟩ (fun hHeld => ?_)
    clear hK K
    refine norm_ (a' := ?_) ?_ ?_
    rotate_left
    ·
     show Act.put _ (some 9) _ = _
     simp only [Act.put, List.setIfInBounds_toArray, List.set_cons_zero, List.set_cons_succ, i64_w, i32_w]
     rfl
    refine one_ (i := 2) (N := some 34) #[true, true, true, false, false, false, false, true, false, false] rfl rfl (one_of HT_.out (by kernel_rfl)) (by decide) (fun K hK => ?_)
    refine goes_ Try.func21 (by kernel_rfl) rfl #[.agg #[.int .i64 a1_0, .int .i64 a1_1]] (by rfl) rfl rfl (by (try simp only [List.map_toArray, List.map_cons, List.map_nil]); first | done | rfl | (simp only [List.length_drop, List.length_take]; rfl)) ?_
    with_reducible refine (laws_toEvent.calls a1_0 a1_1 t566 t567 _ A15.out).mono ?_
    rintro e w46 ⟨rfl, hb⟩
    refine ⟨_, rfl, ?_⟩
    replace HO536 := rob HO536 hb
    replace HO547 := rob HO547 hb
    replace HO558 := rob HO558 hb
    replace BK531 := bkb BK531 hb
    replace BK532 := bkb BK532 hb
    replace BK555 := bkb BK555 hb
    replace BK565 := bkb BK565 hb
    replace BK578 := bkb BK578 hb
    replace HB := hbs HB hb
    (try clear hb)
    (try clear hb2)
    (try clear hk)
    (try clear hi)
    refine hK.out _ _ ⟨bc BK565 0, bc BK565 1, bc BK565 2, bc BK565 3, bc BK565 4, bc BK565 5, bc BK565 6, bc BK532 0, bc BK532 1⟩ (fun hHeld => ?_)
    clear hK K
    refine norm_ (a' := ?_) ?_ ?_
    rotate_left
    ·
     show Act.put _ (some 34) _ = _
     simp only [Act.put, List.setIfInBounds_toArray, List.set_cons_zero, List.set_cons_succ, i64_w, i32_w]
     rfl
    refine one_ (i := 3) (N := some 35) #[true, true, true, true, false, false, false, true, false, false] rfl rfl (one_of HT_.out (by kernel_rfl)) (by decide) (fun K hK => ?_)
    refine goes_ Try.func22 (by kernel_rfl) rfl #[.agg #[.slice Ao38 t556.length co38, .int .i64 t559, .int .i64 t560, .int .i64 t561, .int .i64 t562, .int .i64 t563, .int .i64 t564], .agg #[.int .i64 t566, .int .i64 t567]] (by rfl) rfl rfl (by (try simp only [List.map_toArray, List.map_cons, List.map_nil]); first | done | rfl | (simp only [List.length_drop, List.length_take]; rfl)) ?_
    with_reducible refine (impl_Enter.calls k _ _ t556 t559 t560 t561 t562 t563 t564 t566 t567 t568 t571 t572 t573 t574 t575 t576 t577 _ ?side1 ?side2 A16.out).mono ?_
    (case side1 => repeat (first | exact (Kd.R_reads' HO558.out).2.2 | (with_reducible refine Kd.C_alloc ?_ _) | (with_reducible refine Kd.C_drewN ?_ _) | (with_reducible refine Kd.C_drew ?_)))
    (case side2 => exact (Kd.R_reads' HO558.out).2.1)
    rintro e w47 ⟨v569, rfl, ho0, hb⟩
    refine ⟨_, rfl, ?_⟩
    have HO570 := Aside0.mk (Kd.R_lower (Kd.R_new' (Kd.R_new' (Kd.R_new' ho0 (Kd.R_lt (Kd.Rq HO536.out))) (Kd.R_lt (Kd.Rq HO547.out))) (Kd.R_lt (Kd.Rq HO558.out))) (below_size (blq HB.out)))
    replace HO536 := Aside0.mk (Kd.R_elder' (Kd.Rq HO536.out) (Kd.R_base ho0) hb)
    replace HO547 := Aside0.mk (Kd.R_elder' (Kd.Rq HO547.out) (Kd.R_base ho0) hb)
    replace HO558 := Aside0.mk (Kd.R_elder' (Kd.Rq HO558.out) (Kd.R_base ho0) hb)
    replace BK531 := bkb BK531 hb
    replace BK532 := bkb BK532 hb
    replace BK555 := bkb BK555 hb
    replace BK565 := bkb BK565 hb
    replace BK578 := bkb BK578 hb
    replace HB := hbs HB hb
    (try clear hb)
    (try clear hb2)
    (try clear hk)
    (try clear hi)
    (try clear ho0)
    refine hK.out _ _ ⟨bc BK565 0, bc BK565 1, bc BK565 2, bc BK565 3, bc BK565 4, bc BK565 5, bc BK565 6, bc BK532 0, bc BK532 1⟩ (fun hHeld => ?_)
    clear hK K
    refine norm_ (a' := ?_) ?_ ?_
    rotate_left
    ·
     show Act.put _ (some 35) _ = _
     simp only [Act.put, List.setIfInBounds_toArray, List.set_cons_zero, List.set_cons_succ, i64_w, i32_w]
     rfl
    refine pure_ (i := 4) (N := some 31) (v := ?_) (a' := ?_) #[true, true, true, true, true, false, false, true, false, false] rfl rfl (any_of HT_.out (by kernel_rfl)) (fun _ _ _ h => h) (Or.inl ⟨by rfl, ?_⟩) ?_ ?_
    rotate_left
    ·
     intro w'
     go_simp
     with_reducible rfl
    rotate_left
    ·
     simp only [Act.put, List.setIfInBounds_toArray, List.set_cons_zero, List.set_cons_succ, i64_w, i32_w]
     rfl
    refine pure_ (i := 5) (N := some 36) (v := ?_) (a' := ?_) #[true, true, true, true, true, true, false, true, false, false] rfl rfl (any_of HT_.out (by kernel_rfl)) (fun _ _ _ h => h) (Or.inl ⟨by rfl, ?_⟩) ?_ ?_
    rotate_left
    ·
     intro w'
     go_simp
     with_reducible rfl
    rotate_left
    ·
     simp only [Act.put, List.setIfInBounds_toArray, List.set_cons_zero, List.set_cons_succ, i64_w, i32_w]
     rfl
    refine pure_ (i := 6) (N := some 37) (v := ?_) (a' := ?_) #[true, true, true, true, true, true, true, true, false, false] rfl rfl (any_of HT_.out (by kernel_rfl)) (fun _ _ _ h => h) (Or.inl ⟨by rfl, ?_⟩) ?_ ?_
    rotate_left
    ·
     intro w'
     go_simp
     with_reducible rfl
    rotate_left
    ·
     simp only [Act.put, List.setIfInBounds_toArray, List.set_cons_zero, List.set_cons_succ, i64_w, i32_w]
     rfl
    exact norm_ (by simp only [putAll, Act.put, List.setIfInBounds_toArray, List.set_cons_zero, List.set_cons_succ]) (hCont (v569, gb578) _ ⟨hHeld, (Kd.Rq (Kd.R_mono HO536.out (fun _ hk => ⟨hk.1.1, ⟨hk.1.2, hk.2⟩⟩))), (Kd.Rq (Kd.R_mono HO547.out (fun _ hk => ⟨hk.1.1, ⟨hk.1.2, hk.2⟩⟩))), (Kd.Rq (Kd.R_mono HO558.out (fun _ hk => ⟨hk.1.1, ⟨hk.1.2, hk.2⟩⟩))), (Kd.Rq (Kd.R_mono HO570.out (fun _ hk => ⟨hk.1.1.2, ⟨hk.1.2, hk.2⟩⟩))), (bkq BK531.out), (bkq BK532.out), (bkq BK555.out), (bkq BK565.out), (bkq BK578.out), GW578.out, GE578.out, NB531_578.out, NB578_531.out, NB532_578.out, NB578_532.out, NB555_578.out, NB578_555.out, NB565_578.out, NB578_565.out, (blq HB.out)⟩)
  rintro ⟨v569, gb578⟩ w48 ⟨hS_, h0_, h1_, h2_, h3_, h4_, h5_, h6_, h7_, h8_, h9_, h10_, h11_, h12_, h13_, h14_, h15_, h16_, h17_, h18_, h19_⟩
  have n0_ : Aside0 (Kd.R k41 41 w48 w.heap.size (fun k_ => some k_ ≠ (.slice Ao25 t545.length co25 : Value).ownBlock ∧ some k_ ≠ (.slice Ao38 t556.length co38 : Value).ownBlock ∧ some k_ ≠ (v569 : Value).ownBlock) v535 t534) := ⟨h0_⟩
  have n1_ : Aside0 (Kd.R k41 41 w48 w.heap.size (fun k_ => some k_ ≠ (v535 : Value).ownBlock ∧ some k_ ≠ (.slice Ao38 t556.length co38 : Value).ownBlock ∧ some k_ ≠ (v569 : Value).ownBlock) (.slice Ao25 t545.length co25) t545) := ⟨h1_⟩
  have n2_ : Aside0 (Kd.R k41 41 w48 w.heap.size (fun k_ => some k_ ≠ (v535 : Value).ownBlock ∧ some k_ ≠ (.slice Ao25 t545.length co25 : Value).ownBlock ∧ some k_ ≠ (v569 : Value).ownBlock) (.slice Ao38 t556.length co38) t556) := ⟨h2_⟩
  have n3_ : Aside0 (Kd.R k41 41 w48 w.heap.size (fun k_ => some k_ ≠ (v535 : Value).ownBlock ∧ some k_ ≠ (.slice Ao25 t545.length co25 : Value).ownBlock ∧ some k_ ≠ (.slice Ao38 t556.length co38 : Value).ownBlock) v569 t568) := ⟨h3_⟩
  have n4_ : Aside0 (w48.heap[gb531]? = some (.cells #[.slice A0_0 l0_0.length c0_0, .int .i64 a0_1, .int .i64 a0_2, .int .i64 a0_3, .int .i64 a0_4, .int .i64 a0_5, .int .i64 a0_6] 26 (0, 0))) := ⟨h4_⟩
  have n5_ : Aside0 (w48.heap[gb532]? = some (.cells #[.int .i64 a1_0, .int .i64 a1_1] 39 (0, 0))) := ⟨h5_⟩
  have n6_ : Aside0 (w48.heap[gb555]? = some (.cells #[.slice Ao25 t545.length co25, .int .i64 t548, .int .i64 t549, .int .i64 t550, .int .i64 t551, .int .i64 t552, .int .i64 t553] 31 (0, 0))) := ⟨h6_⟩
  have n7_ : Aside0 (w48.heap[gb565]? = some (.cells #[.slice Ao38 t556.length co38, .int .i64 t559, .int .i64 t560, .int .i64 t561, .int .i64 t562, .int .i64 t563, .int .i64 t564] 31 (0, 0))) := ⟨h7_⟩
  have n8_ : Aside0 (w48.heap[gb578]? = some (.cells #[.slice none 0 0, .int .i64 0, .int .i64 0, .int .i64 0, .int .i64 0, .int .i64 0, .int .i64 0] 31 (0, 0))) := ⟨h8_⟩
  have n9_ : Aside0 (w.heap.size ≤ gb578) := ⟨h9_⟩
  have n10_ : Aside0 (w.heap.size ≤ gb578) := ⟨h10_⟩
  have n11_ : Aside0 (gb531 ≠ gb578) := ⟨h11_⟩
  have n12_ : Aside0 (gb578 ≠ gb531) := ⟨h12_⟩
  have n13_ : Aside0 (gb532 ≠ gb578) := ⟨h13_⟩
  have n14_ : Aside0 (gb578 ≠ gb532) := ⟨h14_⟩
  have n15_ : Aside0 (gb555 ≠ gb578) := ⟨h15_⟩
  have n16_ : Aside0 (gb578 ≠ gb555) := ⟨h16_⟩
  have n17_ : Aside0 (gb565 ≠ gb578) := ⟨h17_⟩
  have n18_ : Aside0 (gb578 ≠ gb565) := ⟨h18_⟩
  have n19_ : Aside0 (Below w.heap.size w w48) := ⟨h19_⟩
  clear HO536
  clear HO547
  clear HO558
  clear BK531
  clear BK532
  clear BK555
  clear BK565
  clear HB
  clear h0_ h1_ h2_ h3_ h4_ h5_ h6_ h7_ h8_ h9_ h10_ h11_ h12_ h13_ h14_ h15_ h16_ h17_ h18_ h19_
  have HO536 := n0_
  have HO547 := n1_
  have HO558 := n2_
  have HO570 := n3_
  have BK531 := n4_
  have BK532 := n5_
  have BK555 := n6_
  have BK565 := n7_
  have BK578 := n8_
  have GW578 := n9_
  have GE578 := n10_
  have NB531_578 := n11_
  have NB578_531 := n12_
  have NB532_578 := n13_
  have NB578_532 := n14_
  have NB555_578 := n15_
  have NB578_555 := n16_
  have NB565_578 := n17_
  have NB578_565 := n18_
  have HB := n19_
  clear n0_ n1_ n2_ n3_ n4_ n5_ n6_ n7_ n8_ n9_ n10_ n11_ n12_ n13_ n14_ n15_ n16_ n17_ n18_ n19_
  have hHeld : w48.cell? ⟨gb565, 0, none⟩ = some (.slice Ao38 t556.length co38) ∧ w48.cell? ⟨gb565, 1, none⟩ = some (.int .i64 t559) ∧ w48.cell? ⟨gb565, 2, none⟩ = some (.int .i64 t560) ∧ w48.cell? ⟨gb565, 3, none⟩ = some (.int .i64 t561) ∧ w48.cell? ⟨gb565, 4, none⟩ = some (.int .i64 t562) ∧ w48.cell? ⟨gb565, 5, none⟩ = some (.int .i64 t563) ∧ w48.cell? ⟨gb565, 6, none⟩ = some (.int .i64 t564) ∧ w48.cell? ⟨gb532, 0, none⟩ = some (.int .i64 a1_0) ∧ w48.cell? ⟨gb532, 1, none⟩ = some (.int .i64 a1_1) := hS_
  obtain ⟨Ao49, co49, eo49⟩ := Kd.R_slice HO570.out
  (first | subst eo49 | (injection eo49 with f1_ f2_ f3_; have f4_ := f1_.symm; have f5_ := f3_.symm; clear f1_ f2_ f3_; subst f4_; subst f5_))
  refine norm_ (a' := ?_) ?_ ?_
  rotate_left
  ·
   simp only [putAll, Act.put, List.setIfInBounds_toArray, List.set_cons_zero, List.set_cons_succ]
   rfl
  refine one_ (i := 8) (N := none) #[true, true, true, true, true, true, true, true, true, false] rfl rfl (one_of HT_.out (by kernel_rfl)) (by decide) (fun K hK => ?_)
  have hs50 : w48.cell? ⟨gb578, 0, none⟩ = some (.slice none 0 0) := bc BK578 0
  have hfs50 := blk_frozen BK578.out 0
  have hns50_0 := NB531_578.out
  have hns50_1 := NB532_578.out
  have hns50_2 := NB555_578.out
  have hns50_3 := NB565_578.out
  have hms50_0 := NB578_531.out
  have hms50_1 := NB578_532.out
  have hms50_2 := NB578_555.out
  have hms50_3 := NB578_565.out
  have hs51 : w48.cell? ⟨gb578, 1, none⟩ = some (.int .i64 0) := bc BK578 1
  have hfs51 := blk_frozen BK578.out 1
  have hns51_0 := NB531_578.out
  have hns51_1 := NB532_578.out
  have hns51_2 := NB555_578.out
  have hns51_3 := NB565_578.out
  have hms51_0 := NB578_531.out
  have hms51_1 := NB578_532.out
  have hms51_2 := NB578_555.out
  have hms51_3 := NB578_565.out
  have hs52 : w48.cell? ⟨gb578, 2, none⟩ = some (.int .i64 0) := bc BK578 2
  have hfs52 := blk_frozen BK578.out 2
  have hns52_0 := NB531_578.out
  have hns52_1 := NB532_578.out
  have hns52_2 := NB555_578.out
  have hns52_3 := NB565_578.out
  have hms52_0 := NB578_531.out
  have hms52_1 := NB578_532.out
  have hms52_2 := NB578_555.out
  have hms52_3 := NB578_565.out
  have hs53 : w48.cell? ⟨gb578, 3, none⟩ = some (.int .i64 0) := bc BK578 3
  have hfs53 := blk_frozen BK578.out 3
  have hns53_0 := NB531_578.out
  have hns53_1 := NB532_578.out
  have hns53_2 := NB555_578.out
  have hns53_3 := NB565_578.out
  have hms53_0 := NB578_531.out
  have hms53_1 := NB578_532.out
  have hms53_2 := NB578_555.out
  have hms53_3 := NB578_565.out
  have hs54 : w48.cell? ⟨gb578, 4, none⟩ = some (.int .i64 0) := bc BK578 4
  have hfs54 := blk_frozen BK578.out 4
  have hns54_0 := NB531_578.out
  have hns54_1 := NB532_578.out
  have hns54_2 := NB555_578.out
  have hns54_3 := NB565_578.out
  have hms54_0 := NB578_531.out
  have hms54_1 := NB578_532.out
  have hms54_2 := NB578_555.out
  have hms54_3 := NB578_565.out
  have hs55 : w48.cell? ⟨gb578, 5, none⟩ = some (.int .i64 0) := bc BK578 5
  have hfs55 := blk_frozen BK578.out 5
  have hns55_0 := NB531_578.out
  have hns55_1 := NB532_578.out
  have hns55_2 := NB555_578.out
  have hns55_3 := NB565_578.out
  have hms55_0 := NB578_531.out
  have hms55_1 := NB578_532.out
  have hms55_2 := NB578_555.out
  have hms55_3 := NB578_565.out
  have hs56 : w48.cell? ⟨gb578, 6, none⟩ = some (.int .i64 0) := bc BK578 6
  have hfs56 := blk_frozen BK578.out 6
  have hns56_0 := NB531_578.out
  have hns56_1 := NB532_578.out
  have hns56_2 := NB555_578.out
  have hns56_3 := NB565_578.out
  have hms56_0 := NB578_531.out
  have hms56_1 := NB578_532.out
  have hms56_2 := NB578_555.out
  have hms56_3 := NB578_565.out
  refine skip_ (w1 := ?_) (by rfl) rfl ?_ ?_
  rotate_left
  ·
   go_simp
   rfl
  refine hK.out _ _ ⟨((cf NB565_578).trans (((cf NB565_578).trans (((cf NB565_578).trans (((cf NB565_578).trans (((cf NB565_578).trans (((cf NB565_578).trans (((cf NB565_578).trans (hHeld.1)))))))))))))), ((cf NB565_578).trans (((cf NB565_578).trans (((cf NB565_578).trans (((cf NB565_578).trans (((cf NB565_578).trans (((cf NB565_578).trans (((cf NB565_578).trans (hHeld.2.1)))))))))))))), ((cf NB565_578).trans (((cf NB565_578).trans (((cf NB565_578).trans (((cf NB565_578).trans (((cf NB565_578).trans (((cf NB565_578).trans (((cf NB565_578).trans (hHeld.2.2.1)))))))))))))), ((cf NB565_578).trans (((cf NB565_578).trans (((cf NB565_578).trans (((cf NB565_578).trans (((cf NB565_578).trans (((cf NB565_578).trans (((cf NB565_578).trans (hHeld.2.2.2.1)))))))))))))), ((cf NB565_578).trans (((cf NB565_578).trans (((cf NB565_578).trans (((cf NB565_578).trans (((cf NB565_578).trans (((cf NB565_578).trans (((cf NB565_578).trans (hHeld.2.2.2.2.1)))))))))))))), ((cf NB565_578).trans (((cf NB565_578).trans (((cf NB565_578).trans (((cf NB565_578).trans (((cf NB565_578).trans (((cf NB565_578).trans (((cf NB565_578).trans (hHeld.2.2.2.2.2.1)))))))))))))), ((cf NB565_578).trans (((cf NB565_578).trans (((cf NB565_578).trans (((cf NB565_578).trans (((cf NB565_578).trans (((cf NB565_578).trans (((cf NB565_578).trans (hHeld.2.2.2.2.2.2.1)))))))))))))), ((cf NB532_578).trans (((cf NB532_578).trans (((cf NB532_578).trans (((cf NB532_578).trans (((cf NB532_578).trans (((cf NB532_578).trans (((cf NB532_578).trans (hHeld.2.2.2.2.2.2.2.1)))))))))))))), ((cf NB532_578).trans (((cf NB532_578).trans (((cf NB532_578).trans (((cf NB532_578).trans (((cf NB532_578).trans (((cf NB532_578).trans (((cf NB532_578).trans (hHeld.2.2.2.2.2.2.2.2))))))))))))))⟩ (fun hHeld => ?_)
  clear hK K
  refine pure_ (i := 9) (N := some 10) (v := ?_) (a' := ?_) #[true, true, true, true, true, true, true, true, true, true] rfl rfl (any_of HT_.out (by kernel_rfl)) (fun _ _ _ h => h) (Or.inl ⟨by rfl, ?_⟩) ?_ ?_
  rotate_left
  ·
   intro w'
   go_simp
   with_reducible rfl
  rotate_left
  ·
   simp only [Act.put, List.setIfInBounds_toArray, List.set_cons_zero, List.set_cons_succ, i64_w, i32_w]
   rfl
  refine done_ (done_of HT_.out (by kernel_rfl)) ?_
  go_upto_region 8 with (fail)
  go_cut [46] (fun v46 wc => ∃ (kq : Nat) (x46_16 : Bool), v46 = .bool x46_16 ∧ Aside0 (laws_FnExactEnter.j0 kq t554 t577 x46_16 l0_0 a0_1 a0_2 a0_3 a0_4 a0_5 a0_6 a1_0 a1_1 t545 t548 t549 t550 t551 t552 t553 t556 t559 t560 t561 t562 t563 t564 t568 t571 t572 t573 t574 t575 t576 = some r) ∧ Aside0 (kq ≤ k) ∧ Aside0 (Kd.R k41 41 wc w.heap.size (fun k_ => some k_ ≠ ((.slice Ao38 t556.length co38) : Value).ownBlock ∧ some k_ ≠ ((.slice Ao49 t568.length co49) : Value).ownBlock) (.slice Ao25 t545.length co25) t545) ∧ Aside0 (Kd.R k41 41 wc w.heap.size (fun k_ => some k_ ≠ ((.slice Ao25 t545.length co25) : Value).ownBlock ∧ some k_ ≠ ((.slice Ao49 t568.length co49) : Value).ownBlock) (.slice Ao38 t556.length co38) t556) ∧ Aside0 (Kd.R k41 41 wc w.heap.size (fun k_ => some k_ ≠ ((.slice Ao25 t545.length co25) : Value).ownBlock ∧ some k_ ≠ ((.slice Ao38 t556.length co38) : Value).ownBlock) (.slice Ao49 t568.length co49) t568) ∧ Aside0 (wc.heap[gb531]? = some (.cells #[(.slice A0_0 l0_0.length c0_0), .int .i64 a0_1, .int .i64 a0_2, .int .i64 a0_3, .int .i64 a0_4, .int .i64 a0_5, .int .i64 a0_6] 26 (0, 0))) ∧ Aside0 (wc.heap[gb532]? = some (.cells #[.int .i64 a1_0, .int .i64 a1_1] 39 (0, 0))) ∧ Aside0 (wc.heap[gb555]? = some (.cells #[(.slice Ao25 t545.length co25), .int .i64 t548, .int .i64 t549, .int .i64 t550, .int .i64 t551, .int .i64 t552, .int .i64 t553] 31 (0, 0))) ∧ Aside0 (wc.heap[gb565]? = some (.cells #[(.slice Ao38 t556.length co38), .int .i64 t559, .int .i64 t560, .int .i64 t561, .int .i64 t562, .int .i64 t563, .int .i64 t564] 31 (0, 0))) ∧ Aside0 (wc.heap[gb578]? = some (.cells #[(.slice Ao49 t568.length co49), .int .i64 t571, .int .i64 t572, .int .i64 t573, .int .i64 t574, .int .i64 t575, .int .i64 t576] 31 (0, 0))) ∧ Aside0 (Below w.heap.size w wc))
  case first =>
   have H := HC17.out
   clear HC17
   replace H := Option.bind_eq_some_iff.mp H
   obtain ⟨t579, A570, H⟩ := H
   replace H : (if t579 = true then (laws_FnExactEnter.j0 k t554 t577 (t577 != t554) l0_0 a0_1 a0_2 a0_3 a0_4 a0_5 a0_6 a1_0 a1_1 t545 t548 t549 t550 t551 t552 t553 t556 t559 t560 t561 t562 t563 t564 t568 t571 t572 t573 t574 t575 t576) else (laws_FnExactEnter.j0 k t554 t577 true l0_0 a0_1 a0_2 a0_3 a0_4 a0_5 a0_6 a1_0 a1_1 t545 t548 t549 t550 t551 t552 t553 t556 t559 t560 t561 t562 t563 t564 t568 t571 t572 t573 t574 t575 t576)) = some r := H
   have A57 := Aside0.mk A570
   clear A570
   by_cases c58 : t579 = true
   ·
    subst c58
    have H1 : (laws_FnExactEnter.j0 k t554 t577 (t577 != t554) l0_0 a0_1 a0_2 a0_3 a0_4 a0_5 a0_6 a1_0 a1_1 t545 t548 t549 t550 t551 t552 t553 t556 t559 t560 t561 t562 t563 t564 t568 t571 t572 t573 t574 t575 t576) = some r := by rw [if_pos rfl] at H; exact H
    clear H
    have H := H1
    clear H1
    have H' := Aside0.mk H
    clear H
    obtain ⟨_, _, _, _, _, _, _, _⟩ := ne8 NB578_531 NB531_578 NB578_532 NB532_578 NB578_555 NB555_578 NB578_565 NB565_578
    have hcz63_0 : w48.cell? ⟨gb578, 0, none⟩ = some (.slice none 0 0) := bc BK578 0
    have hcz63_1 : w48.cell? ⟨gb578, 1, none⟩ = some (.int .i64 0) := bc BK578 1
    have hcz63_2 : w48.cell? ⟨gb578, 2, none⟩ = some (.int .i64 0) := bc BK578 2
    have hcz63_3 : w48.cell? ⟨gb578, 3, none⟩ = some (.int .i64 0) := bc BK578 3
    have hcz63_4 : w48.cell? ⟨gb578, 4, none⟩ = some (.int .i64 0) := bc BK578 4
    have hcz63_5 : w48.cell? ⟨gb578, 5, none⟩ = some (.int .i64 0) := bc BK578 5
    have hcz63_6 : w48.cell? ⟨gb578, 6, none⟩ = some (.int .i64 0) := bc BK578 6
    have hfz63_0 := blk_frozen BK578.out 0
    have hfz63_1 := blk_frozen BK578.out 1
    have hfz63_2 := blk_frozen BK578.out 2
    have hfz63_3 := blk_frozen BK578.out 3
    have hfz63_4 := blk_frozen BK578.out 4
    have hfz63_5 := blk_frozen BK578.out 5
    have hfz63_6 := blk_frozen BK578.out 6
    obtain ⟨_, _, _, _, _, _⟩ := ne6 NB555_531 NB531_555 NB555_532 NB532_555 NB555_565 NB565_555
    have hcz67_0 : w48.cell? ⟨gb555, 0, none⟩ = some (.slice Ao25 t545.length co25) := bc BK555 0
    have hcz67_1 : w48.cell? ⟨gb555, 1, none⟩ = some (.int .i64 t548) := bc BK555 1
    have hcz67_2 : w48.cell? ⟨gb555, 2, none⟩ = some (.int .i64 t549) := bc BK555 2
    have hcz67_3 : w48.cell? ⟨gb555, 3, none⟩ = some (.int .i64 t550) := bc BK555 3
    have hcz67_4 : w48.cell? ⟨gb555, 4, none⟩ = some (.int .i64 t551) := bc BK555 4
    have hcz67_5 : w48.cell? ⟨gb555, 5, none⟩ = some (.int .i64 t552) := bc BK555 5
    have hcz67_6 : w48.cell? ⟨gb555, 6, none⟩ = some (.int .i64 t553) := bc BK555 6
    have hfz67_0 := blk_frozen BK555.out 0
    have hfz67_1 := blk_frozen BK555.out 1
    have hfz67_2 := blk_frozen BK555.out 2
    have hfz67_3 := blk_frozen BK555.out 3
    have hfz67_4 := blk_frozen BK555.out 4
    have hfz67_5 := blk_frozen BK555.out 5
    have hfz67_6 := blk_frozen BK555.out 6
    go_wp2_with (first | ((with_reducible refine gate_callee (f := 17) rfl ?_); refine gLq (some 40) Try.func17 #[.agg #[.slice Ao49 t568.length co49, .int .i64 t571, .int .i64 t572, .int .i64 t573, .int .i64 t574, .int .i64 t575, .int .i64 t576], .agg #[.slice Ao25 t545.length co25, .int .i64 t548, .int .i64 t549, .int .i64 t550, .int .i64 t551, .int .i64 t552, .int .i64 t553]] ?_; (with_reducible refine (laws_eqBook.calls k _ _ t568 t571 t572 t573 t574 t575 t576 _ _ t545 t548 t549 t550 t551 t552 t553 true _ ?side1 ?side2 ?side3 ?side4 A57.out).mono ?_); (case side1 => refine (Kd.R_reads' (e := 41) (base := w.heap.size) (ok := fun k_ => (some k_ ≠ (v535 : Value).ownBlock ∧ (some k_ ≠ (.slice Ao25 t545.length co25 : Value).ownBlock ∧ some k_ ≠ (.slice Ao38 t556.length co38 : Value).ownBlock))) (n := t568.length) (c := co49) ?_).2.2; exact (Kd.Rq (Kd.R_mono (Kd.R_far (p := ⟨gb578, 6, none⟩) (Kd.R_far (p := ⟨gb578, 5, none⟩) (Kd.R_far (p := ⟨gb578, 4, none⟩) (Kd.R_far (p := ⟨gb578, 3, none⟩) (Kd.R_far (p := ⟨gb578, 2, none⟩) (Kd.R_far (p := ⟨gb578, 1, none⟩) (Kd.R_far (p := ⟨gb578, 0, none⟩) (Kd.R_types HO570.out BK578.out (by decide)) (fun _ hk => hk.2) (.slice Ao49 t568.length co49)) (fun _ hk => hk.2) (.int .i64 t571)) (fun _ hk => hk.2) (.int .i64 t572)) (fun _ hk => hk.2) (.int .i64 t573)) (fun _ hk => hk.2) (.int .i64 t574)) (fun _ hk => hk.2) (.int .i64 t575)) (fun _ hk => hk.2) (.int .i64 t576)) (fun _ h_ => h_.1)))); (case side2 => exact (Kd.R_reads' HO570.out).2.1); (case side3 => refine (Kd.R_reads' (e := 41) (base := w.heap.size) (ok := fun k_ => (some k_ ≠ (v535 : Value).ownBlock ∧ (some k_ ≠ (.slice Ao38 t556.length co38 : Value).ownBlock ∧ some k_ ≠ (.slice Ao49 t568.length co49 : Value).ownBlock))) (n := t545.length) (c := co25) ?_).2.2; exact (Kd.Rq (Kd.R_mono (Kd.R_far (p := ⟨gb578, 6, none⟩) (Kd.R_far (p := ⟨gb578, 5, none⟩) (Kd.R_far (p := ⟨gb578, 4, none⟩) (Kd.R_far (p := ⟨gb578, 3, none⟩) (Kd.R_far (p := ⟨gb578, 2, none⟩) (Kd.R_far (p := ⟨gb578, 1, none⟩) (Kd.R_far (p := ⟨gb578, 0, none⟩) (Kd.R_types HO547.out BK578.out (by decide)) (fun _ hk => hk.2) (.slice Ao49 t568.length co49)) (fun _ hk => hk.2) (.int .i64 t571)) (fun _ hk => hk.2) (.int .i64 t572)) (fun _ hk => hk.2) (.int .i64 t573)) (fun _ hk => hk.2) (.int .i64 t574)) (fun _ hk => hk.2) (.int .i64 t575)) (fun _ hk => hk.2) (.int .i64 t576)) (fun _ h_ => h_.1)))); (case side4 => exact (Kd.R_reads' HO547.out).2.1); rintro e w68 ⟨rfl, hb⟩; refine ⟨_, rfl, ?_⟩; replace HO536 := Aside0.mk (Kd.R_below (Kd.Rq (Kd.R_mono (Kd.R_far (p := ⟨gb578, 6, none⟩) (Kd.R_far (p := ⟨gb578, 5, none⟩) (Kd.R_far (p := ⟨gb578, 4, none⟩) (Kd.R_far (p := ⟨gb578, 3, none⟩) (Kd.R_far (p := ⟨gb578, 2, none⟩) (Kd.R_far (p := ⟨gb578, 1, none⟩) (Kd.R_far (p := ⟨gb578, 0, none⟩) (Kd.R_types HO536.out BK578.out (by decide)) (fun _ hk => hk.2) (.slice Ao49 t568.length co49)) (fun _ hk => hk.2) (.int .i64 t571)) (fun _ hk => hk.2) (.int .i64 t572)) (fun _ hk => hk.2) (.int .i64 t573)) (fun _ hk => hk.2) (.int .i64 t574)) (fun _ hk => hk.2) (.int .i64 t575)) (fun _ hk => hk.2) (.int .i64 t576)) (fun _ h_ => h_.1))) hb); replace HO547 := Aside0.mk (Kd.R_below (Kd.Rq (Kd.R_mono (Kd.R_far (p := ⟨gb578, 6, none⟩) (Kd.R_far (p := ⟨gb578, 5, none⟩) (Kd.R_far (p := ⟨gb578, 4, none⟩) (Kd.R_far (p := ⟨gb578, 3, none⟩) (Kd.R_far (p := ⟨gb578, 2, none⟩) (Kd.R_far (p := ⟨gb578, 1, none⟩) (Kd.R_far (p := ⟨gb578, 0, none⟩) (Kd.R_types HO547.out BK578.out (by decide)) (fun _ hk => hk.2) (.slice Ao49 t568.length co49)) (fun _ hk => hk.2) (.int .i64 t571)) (fun _ hk => hk.2) (.int .i64 t572)) (fun _ hk => hk.2) (.int .i64 t573)) (fun _ hk => hk.2) (.int .i64 t574)) (fun _ hk => hk.2) (.int .i64 t575)) (fun _ hk => hk.2) (.int .i64 t576)) (fun _ h_ => h_.1))) hb); replace HO558 := Aside0.mk (Kd.R_below (Kd.Rq (Kd.R_mono (Kd.R_far (p := ⟨gb578, 6, none⟩) (Kd.R_far (p := ⟨gb578, 5, none⟩) (Kd.R_far (p := ⟨gb578, 4, none⟩) (Kd.R_far (p := ⟨gb578, 3, none⟩) (Kd.R_far (p := ⟨gb578, 2, none⟩) (Kd.R_far (p := ⟨gb578, 1, none⟩) (Kd.R_far (p := ⟨gb578, 0, none⟩) (Kd.R_types HO558.out BK578.out (by decide)) (fun _ hk => hk.2) (.slice Ao49 t568.length co49)) (fun _ hk => hk.2) (.int .i64 t571)) (fun _ hk => hk.2) (.int .i64 t572)) (fun _ hk => hk.2) (.int .i64 t573)) (fun _ hk => hk.2) (.int .i64 t574)) (fun _ hk => hk.2) (.int .i64 t575)) (fun _ hk => hk.2) (.int .i64 t576)) (fun _ h_ => h_.1))) hb); replace HO570 := Aside0.mk (Kd.R_below (Kd.Rq (Kd.R_mono (Kd.R_far (p := ⟨gb578, 6, none⟩) (Kd.R_far (p := ⟨gb578, 5, none⟩) (Kd.R_far (p := ⟨gb578, 4, none⟩) (Kd.R_far (p := ⟨gb578, 3, none⟩) (Kd.R_far (p := ⟨gb578, 2, none⟩) (Kd.R_far (p := ⟨gb578, 1, none⟩) (Kd.R_far (p := ⟨gb578, 0, none⟩) (Kd.R_types HO570.out BK578.out (by decide)) (fun _ hk => hk.2) (.slice Ao49 t568.length co49)) (fun _ hk => hk.2) (.int .i64 t571)) (fun _ hk => hk.2) (.int .i64 t572)) (fun _ hk => hk.2) (.int .i64 t573)) (fun _ hk => hk.2) (.int .i64 t574)) (fun _ hk => hk.2) (.int .i64 t575)) (fun _ hk => hk.2) (.int .i64 t576)) (fun _ h_ => h_.1))) hb); replace BK531 := Aside0.mk (blk_below (g := gb531) (o := .cells #[.slice A0_0 l0_0.length c0_0, .int .i64 a0_1, .int .i64 a0_2, .int .i64 a0_3, .int .i64 a0_4, .int .i64 a0_5, .int .i64 a0_6] 26 (0, 0)) (qk BK531.out) hb); replace BK532 := Aside0.mk (blk_below (g := gb532) (o := .cells #[.int .i64 a1_0, .int .i64 a1_1] 39 (0, 0)) (qk BK532.out) hb); replace BK555 := Aside0.mk (blk_below (g := gb555) (o := .cells #[.slice Ao25 t545.length co25, .int .i64 t548, .int .i64 t549, .int .i64 t550, .int .i64 t551, .int .i64 t552, .int .i64 t553] 31 (0, 0)) (qk BK555.out) hb); replace BK565 := Aside0.mk (blk_below (g := gb565) (o := .cells #[.slice Ao38 t556.length co38, .int .i64 t559, .int .i64 t560, .int .i64 t561, .int .i64 t562, .int .i64 t563, .int .i64 t564] 31 (0, 0)) (qk BK565.out) hb); replace BK578 := Aside0.mk (blk_below (g := gb578) (o := .cells #[.slice Ao49 t568.length co49, .int .i64 t571, .int .i64 t572, .int .i64 t573, .int .i64 t574, .int .i64 t575, .int .i64 t576] 31 (0, 0)) (by (with_reducible repeat (first | refine blk_drewN ?_ _ | refine blk_drew ?_ | refine blk_alloc ?_ _)); refine blk_put (cs := #[.slice Ao49 t568.length co49, .int .i64 t571, .int .i64 t572, .int .i64 t573, .int .i64 t574, .int .i64 t575, .int .i64 0]) ?_ 6 _ rfl; (with_reducible repeat (first | refine blk_drewN ?_ _ | refine blk_drew ?_ | refine blk_alloc ?_ _)); refine blk_put (cs := #[.slice Ao49 t568.length co49, .int .i64 t571, .int .i64 t572, .int .i64 t573, .int .i64 t574, .int .i64 0, .int .i64 0]) ?_ 5 _ rfl; (with_reducible repeat (first | refine blk_drewN ?_ _ | refine blk_drew ?_ | refine blk_alloc ?_ _)); refine blk_put (cs := #[.slice Ao49 t568.length co49, .int .i64 t571, .int .i64 t572, .int .i64 t573, .int .i64 0, .int .i64 0, .int .i64 0]) ?_ 4 _ rfl; (with_reducible repeat (first | refine blk_drewN ?_ _ | refine blk_drew ?_ | refine blk_alloc ?_ _)); refine blk_put (cs := #[.slice Ao49 t568.length co49, .int .i64 t571, .int .i64 t572, .int .i64 0, .int .i64 0, .int .i64 0, .int .i64 0]) ?_ 3 _ rfl; (with_reducible repeat (first | refine blk_drewN ?_ _ | refine blk_drew ?_ | refine blk_alloc ?_ _)); refine blk_put (cs := #[.slice Ao49 t568.length co49, .int .i64 t571, .int .i64 0, .int .i64 0, .int .i64 0, .int .i64 0, .int .i64 0]) ?_ 2 _ rfl; (with_reducible repeat (first | refine blk_drewN ?_ _ | refine blk_drew ?_ | refine blk_alloc ?_ _)); refine blk_put (cs := #[.slice Ao49 t568.length co49, .int .i64 0, .int .i64 0, .int .i64 0, .int .i64 0, .int .i64 0, .int .i64 0]) ?_ 1 _ rfl; (with_reducible repeat (first | refine blk_drewN ?_ _ | refine blk_drew ?_ | refine blk_alloc ?_ _)); refine blk_put (cs := #[.slice none 0 0, .int .i64 0, .int .i64 0, .int .i64 0, .int .i64 0, .int .i64 0, .int .i64 0]) ?_ 0 _ rfl; (with_reducible repeat (first | refine blk_drewN ?_ _ | refine blk_drew ?_ | refine blk_alloc ?_ _)); exact BK578.out) hb); replace HB := hbs HB hb; (try clear hb); (try clear hb2); (try clear hk); (try clear hi)))
    go_meet
    case rel => exact ⟨_, ((t577 != t554)), (by first | rfl | (simp; done) | (simp [*]; done)), H', ⟨by first | omega | exact Nat.le_refl _⟩, ⟨Kd.Rq (Kd.R_mono HO547.out (fun _ hk => ⟨hk.2.1, hk.2.2⟩))⟩, ⟨Kd.Rq (Kd.R_mono HO558.out (fun _ hk => ⟨hk.2.1, hk.2.2⟩))⟩, ⟨Kd.Rq (Kd.R_mono HO570.out (fun _ hk => ⟨hk.2.1, hk.2.2⟩))⟩, ⟨bkq BK531.out⟩, ⟨bkq BK532.out⟩, ⟨bkq BK555.out⟩, ⟨bkq BK565.out⟩, ⟨bkq BK578.out⟩, ⟨blq HB.out⟩⟩
   ·
    replace c58 := Bool.eq_false_iff.mpr c58
    subst c58
    have H1 : (laws_FnExactEnter.j0 k t554 t577 true l0_0 a0_1 a0_2 a0_3 a0_4 a0_5 a0_6 a1_0 a1_1 t545 t548 t549 t550 t551 t552 t553 t556 t559 t560 t561 t562 t563 t564 t568 t571 t572 t573 t574 t575 t576) = some r := by rw [if_neg (show ¬ (false = true) by decide)] at H; exact H
    clear H
    have H := H1
    clear H1
    have H' := Aside0.mk H
    clear H
    obtain ⟨_, _, _, _, _, _, _, _⟩ := ne8 NB578_531 NB531_578 NB578_532 NB532_578 NB578_555 NB555_578 NB578_565 NB565_578
    have hcz73_0 : w48.cell? ⟨gb578, 0, none⟩ = some (.slice none 0 0) := bc BK578 0
    have hcz73_1 : w48.cell? ⟨gb578, 1, none⟩ = some (.int .i64 0) := bc BK578 1
    have hcz73_2 : w48.cell? ⟨gb578, 2, none⟩ = some (.int .i64 0) := bc BK578 2
    have hcz73_3 : w48.cell? ⟨gb578, 3, none⟩ = some (.int .i64 0) := bc BK578 3
    have hcz73_4 : w48.cell? ⟨gb578, 4, none⟩ = some (.int .i64 0) := bc BK578 4
    have hcz73_5 : w48.cell? ⟨gb578, 5, none⟩ = some (.int .i64 0) := bc BK578 5
    have hcz73_6 : w48.cell? ⟨gb578, 6, none⟩ = some (.int .i64 0) := bc BK578 6
    have hfz73_0 := blk_frozen BK578.out 0
    have hfz73_1 := blk_frozen BK578.out 1
    have hfz73_2 := blk_frozen BK578.out 2
    have hfz73_3 := blk_frozen BK578.out 3
    have hfz73_4 := blk_frozen BK578.out 4
    have hfz73_5 := blk_frozen BK578.out 5
    have hfz73_6 := blk_frozen BK578.out 6
    obtain ⟨_, _, _, _, _, _⟩ := ne6 NB555_531 NB531_555 NB555_532 NB532_555 NB555_565 NB565_555
    have hcz77_0 : w48.cell? ⟨gb555, 0, none⟩ = some (.slice Ao25 t545.length co25) := bc BK555 0
    have hcz77_1 : w48.cell? ⟨gb555, 1, none⟩ = some (.int .i64 t548) := bc BK555 1
    have hcz77_2 : w48.cell? ⟨gb555, 2, none⟩ = some (.int .i64 t549) := bc BK555 2
    have hcz77_3 : w48.cell? ⟨gb555, 3, none⟩ = some (.int .i64 t550) := bc BK555 3
    have hcz77_4 : w48.cell? ⟨gb555, 4, none⟩ = some (.int .i64 t551) := bc BK555 4
    have hcz77_5 : w48.cell? ⟨gb555, 5, none⟩ = some (.int .i64 t552) := bc BK555 5
    have hcz77_6 : w48.cell? ⟨gb555, 6, none⟩ = some (.int .i64 t553) := bc BK555 6
    have hfz77_0 := blk_frozen BK555.out 0
    have hfz77_1 := blk_frozen BK555.out 1
    have hfz77_2 := blk_frozen BK555.out 2
    have hfz77_3 := blk_frozen BK555.out 3
    have hfz77_4 := blk_frozen BK555.out 4
    have hfz77_5 := blk_frozen BK555.out 5
    have hfz77_6 := blk_frozen BK555.out 6
    go_wp2_with (first | ((with_reducible refine gate_callee (f := 17) rfl ?_); refine gLq (some 40) Try.func17 #[.agg #[.slice Ao49 t568.length co49, .int .i64 t571, .int .i64 t572, .int .i64 t573, .int .i64 t574, .int .i64 t575, .int .i64 t576], .agg #[.slice Ao25 t545.length co25, .int .i64 t548, .int .i64 t549, .int .i64 t550, .int .i64 t551, .int .i64 t552, .int .i64 t553]] ?_; (with_reducible refine (laws_eqBook.calls k _ _ t568 t571 t572 t573 t574 t575 t576 _ _ t545 t548 t549 t550 t551 t552 t553 false _ ?side1 ?side2 ?side3 ?side4 A57.out).mono ?_); (case side1 => refine (Kd.R_reads' (e := 41) (base := w.heap.size) (ok := fun k_ => (some k_ ≠ (v535 : Value).ownBlock ∧ (some k_ ≠ (.slice Ao25 t545.length co25 : Value).ownBlock ∧ some k_ ≠ (.slice Ao38 t556.length co38 : Value).ownBlock))) (n := t568.length) (c := co49) ?_).2.2; exact (Kd.Rq (Kd.R_mono (Kd.R_far (p := ⟨gb578, 6, none⟩) (Kd.R_far (p := ⟨gb578, 5, none⟩) (Kd.R_far (p := ⟨gb578, 4, none⟩) (Kd.R_far (p := ⟨gb578, 3, none⟩) (Kd.R_far (p := ⟨gb578, 2, none⟩) (Kd.R_far (p := ⟨gb578, 1, none⟩) (Kd.R_far (p := ⟨gb578, 0, none⟩) (Kd.R_types HO570.out BK578.out (by decide)) (fun _ hk => hk.2) (.slice Ao49 t568.length co49)) (fun _ hk => hk.2) (.int .i64 t571)) (fun _ hk => hk.2) (.int .i64 t572)) (fun _ hk => hk.2) (.int .i64 t573)) (fun _ hk => hk.2) (.int .i64 t574)) (fun _ hk => hk.2) (.int .i64 t575)) (fun _ hk => hk.2) (.int .i64 t576)) (fun _ h_ => h_.1)))); (case side2 => exact (Kd.R_reads' HO570.out).2.1); (case side3 => refine (Kd.R_reads' (e := 41) (base := w.heap.size) (ok := fun k_ => (some k_ ≠ (v535 : Value).ownBlock ∧ (some k_ ≠ (.slice Ao38 t556.length co38 : Value).ownBlock ∧ some k_ ≠ (.slice Ao49 t568.length co49 : Value).ownBlock))) (n := t545.length) (c := co25) ?_).2.2; exact (Kd.Rq (Kd.R_mono (Kd.R_far (p := ⟨gb578, 6, none⟩) (Kd.R_far (p := ⟨gb578, 5, none⟩) (Kd.R_far (p := ⟨gb578, 4, none⟩) (Kd.R_far (p := ⟨gb578, 3, none⟩) (Kd.R_far (p := ⟨gb578, 2, none⟩) (Kd.R_far (p := ⟨gb578, 1, none⟩) (Kd.R_far (p := ⟨gb578, 0, none⟩) (Kd.R_types HO547.out BK578.out (by decide)) (fun _ hk => hk.2) (.slice Ao49 t568.length co49)) (fun _ hk => hk.2) (.int .i64 t571)) (fun _ hk => hk.2) (.int .i64 t572)) (fun _ hk => hk.2) (.int .i64 t573)) (fun _ hk => hk.2) (.int .i64 t574)) (fun _ hk => hk.2) (.int .i64 t575)) (fun _ hk => hk.2) (.int .i64 t576)) (fun _ h_ => h_.1)))); (case side4 => exact (Kd.R_reads' HO547.out).2.1); rintro e w78 ⟨rfl, hb⟩; refine ⟨_, rfl, ?_⟩; replace HO536 := Aside0.mk (Kd.R_below (Kd.Rq (Kd.R_mono (Kd.R_far (p := ⟨gb578, 6, none⟩) (Kd.R_far (p := ⟨gb578, 5, none⟩) (Kd.R_far (p := ⟨gb578, 4, none⟩) (Kd.R_far (p := ⟨gb578, 3, none⟩) (Kd.R_far (p := ⟨gb578, 2, none⟩) (Kd.R_far (p := ⟨gb578, 1, none⟩) (Kd.R_far (p := ⟨gb578, 0, none⟩) (Kd.R_types HO536.out BK578.out (by decide)) (fun _ hk => hk.2) (.slice Ao49 t568.length co49)) (fun _ hk => hk.2) (.int .i64 t571)) (fun _ hk => hk.2) (.int .i64 t572)) (fun _ hk => hk.2) (.int .i64 t573)) (fun _ hk => hk.2) (.int .i64 t574)) (fun _ hk => hk.2) (.int .i64 t575)) (fun _ hk => hk.2) (.int .i64 t576)) (fun _ h_ => h_.1))) hb); replace HO547 := Aside0.mk (Kd.R_below (Kd.Rq (Kd.R_mono (Kd.R_far (p := ⟨gb578, 6, none⟩) (Kd.R_far (p := ⟨gb578, 5, none⟩) (Kd.R_far (p := ⟨gb578, 4, none⟩) (Kd.R_far (p := ⟨gb578, 3, none⟩) (Kd.R_far (p := ⟨gb578, 2, none⟩) (Kd.R_far (p := ⟨gb578, 1, none⟩) (Kd.R_far (p := ⟨gb578, 0, none⟩) (Kd.R_types HO547.out BK578.out (by decide)) (fun _ hk => hk.2) (.slice Ao49 t568.length co49)) (fun _ hk => hk.2) (.int .i64 t571)) (fun _ hk => hk.2) (.int .i64 t572)) (fun _ hk => hk.2) (.int .i64 t573)) (fun _ hk => hk.2) (.int .i64 t574)) (fun _ hk => hk.2) (.int .i64 t575)) (fun _ hk => hk.2) (.int .i64 t576)) (fun _ h_ => h_.1))) hb); replace HO558 := Aside0.mk (Kd.R_below (Kd.Rq (Kd.R_mono (Kd.R_far (p := ⟨gb578, 6, none⟩) (Kd.R_far (p := ⟨gb578, 5, none⟩) (Kd.R_far (p := ⟨gb578, 4, none⟩) (Kd.R_far (p := ⟨gb578, 3, none⟩) (Kd.R_far (p := ⟨gb578, 2, none⟩) (Kd.R_far (p := ⟨gb578, 1, none⟩) (Kd.R_far (p := ⟨gb578, 0, none⟩) (Kd.R_types HO558.out BK578.out (by decide)) (fun _ hk => hk.2) (.slice Ao49 t568.length co49)) (fun _ hk => hk.2) (.int .i64 t571)) (fun _ hk => hk.2) (.int .i64 t572)) (fun _ hk => hk.2) (.int .i64 t573)) (fun _ hk => hk.2) (.int .i64 t574)) (fun _ hk => hk.2) (.int .i64 t575)) (fun _ hk => hk.2) (.int .i64 t576)) (fun _ h_ => h_.1))) hb); replace HO570 := Aside0.mk (Kd.R_below (Kd.Rq (Kd.R_mono (Kd.R_far (p := ⟨gb578, 6, none⟩) (Kd.R_far (p := ⟨gb578, 5, none⟩) (Kd.R_far (p := ⟨gb578, 4, none⟩) (Kd.R_far (p := ⟨gb578, 3, none⟩) (Kd.R_far (p := ⟨gb578, 2, none⟩) (Kd.R_far (p := ⟨gb578, 1, none⟩) (Kd.R_far (p := ⟨gb578, 0, none⟩) (Kd.R_types HO570.out BK578.out (by decide)) (fun _ hk => hk.2) (.slice Ao49 t568.length co49)) (fun _ hk => hk.2) (.int .i64 t571)) (fun _ hk => hk.2) (.int .i64 t572)) (fun _ hk => hk.2) (.int .i64 t573)) (fun _ hk => hk.2) (.int .i64 t574)) (fun _ hk => hk.2) (.int .i64 t575)) (fun _ hk => hk.2) (.int .i64 t576)) (fun _ h_ => h_.1))) hb); replace BK531 := Aside0.mk (blk_below (g := gb531) (o := .cells #[.slice A0_0 l0_0.length c0_0, .int .i64 a0_1, .int .i64 a0_2, .int .i64 a0_3, .int .i64 a0_4, .int .i64 a0_5, .int .i64 a0_6] 26 (0, 0)) (qk BK531.out) hb); replace BK532 := Aside0.mk (blk_below (g := gb532) (o := .cells #[.int .i64 a1_0, .int .i64 a1_1] 39 (0, 0)) (qk BK532.out) hb); replace BK555 := Aside0.mk (blk_below (g := gb555) (o := .cells #[.slice Ao25 t545.length co25, .int .i64 t548, .int .i64 t549, .int .i64 t550, .int .i64 t551, .int .i64 t552, .int .i64 t553] 31 (0, 0)) (qk BK555.out) hb); replace BK565 := Aside0.mk (blk_below (g := gb565) (o := .cells #[.slice Ao38 t556.length co38, .int .i64 t559, .int .i64 t560, .int .i64 t561, .int .i64 t562, .int .i64 t563, .int .i64 t564] 31 (0, 0)) (qk BK565.out) hb); replace BK578 := Aside0.mk (blk_below (g := gb578) (o := .cells #[.slice Ao49 t568.length co49, .int .i64 t571, .int .i64 t572, .int .i64 t573, .int .i64 t574, .int .i64 t575, .int .i64 t576] 31 (0, 0)) (by (with_reducible repeat (first | refine blk_drewN ?_ _ | refine blk_drew ?_ | refine blk_alloc ?_ _)); refine blk_put (cs := #[.slice Ao49 t568.length co49, .int .i64 t571, .int .i64 t572, .int .i64 t573, .int .i64 t574, .int .i64 t575, .int .i64 0]) ?_ 6 _ rfl; (with_reducible repeat (first | refine blk_drewN ?_ _ | refine blk_drew ?_ | refine blk_alloc ?_ _)); refine blk_put (cs := #[.slice Ao49 t568.length co49, .int .i64 t571, .int .i64 t572, .int .i64 t573, .int .i64 t574, .int .i64 0, .int .i64 0]) ?_ 5 _ rfl; (with_reducible repeat (first | refine blk_drewN ?_ _ | refine blk_drew ?_ | refine blk_alloc ?_ _)); refine blk_put (cs := #[.slice Ao49 t568.length co49, .int .i64 t571, .int .i64 t572, .int .i64 t573, .int .i64 0, .int .i64 0, .int .i64 0]) ?_ 4 _ rfl; (with_reducible repeat (first | refine blk_drewN ?_ _ | refine blk_drew ?_ | refine blk_alloc ?_ _)); refine blk_put (cs := #[.slice Ao49 t568.length co49, .int .i64 t571, .int .i64 t572, .int .i64 0, .int .i64 0, .int .i64 0, .int .i64 0]) ?_ 3 _ rfl; (with_reducible repeat (first | refine blk_drewN ?_ _ | refine blk_drew ?_ | refine blk_alloc ?_ _)); refine blk_put (cs := #[.slice Ao49 t568.length co49, .int .i64 t571, .int .i64 0, .int .i64 0, .int .i64 0, .int .i64 0, .int .i64 0]) ?_ 2 _ rfl; (with_reducible repeat (first | refine blk_drewN ?_ _ | refine blk_drew ?_ | refine blk_alloc ?_ _)); refine blk_put (cs := #[.slice Ao49 t568.length co49, .int .i64 0, .int .i64 0, .int .i64 0, .int .i64 0, .int .i64 0, .int .i64 0]) ?_ 1 _ rfl; (with_reducible repeat (first | refine blk_drewN ?_ _ | refine blk_drew ?_ | refine blk_alloc ?_ _)); refine blk_put (cs := #[.slice none 0 0, .int .i64 0, .int .i64 0, .int .i64 0, .int .i64 0, .int .i64 0, .int .i64 0]) ?_ 0 _ rfl; (with_reducible repeat (first | refine blk_drewN ?_ _ | refine blk_drew ?_ | refine blk_alloc ?_ _)); exact BK578.out) hb); replace HB := hbs HB hb; (try clear hb); (try clear hb2); (try clear hk); (try clear hi)))
    go_meet
    case rel => exact ⟨_, (true), (by first | rfl | (simp; done) | (simp [*]; done)), H', ⟨by first | omega | exact Nat.le_refl _⟩, ⟨Kd.Rq (Kd.R_mono HO547.out (fun _ hk => ⟨hk.2.1, hk.2.2⟩))⟩, ⟨Kd.Rq (Kd.R_mono HO558.out (fun _ hk => ⟨hk.2.1, hk.2.2⟩))⟩, ⟨Kd.Rq (Kd.R_mono HO570.out (fun _ hk => ⟨hk.2.1, hk.2.2⟩))⟩, ⟨bkq BK531.out⟩, ⟨bkq BK532.out⟩, ⟨bkq BK555.out⟩, ⟨bkq BK565.out⟩, ⟨bkq BK578.out⟩, ⟨blq HB.out⟩⟩
  case rest =>
   clear HC17
   try clear c1
   try clear c2
   try clear p2
   try clear c5
   try clear c6
   try clear c7
   try clear c17
   try clear c21
   try clear c22
   try clear c58
   try clear c59
   try clear c60
   try clear c61
   try clear c62
   try clear c64
   try clear c65
   try clear c66
   try clear c69
   try clear c70
   try clear c71
   try clear c72
   try clear c74
   try clear c75
   try clear c76
   try clear hcz63_0 hcz63_1 hcz63_2 hcz63_3 hcz63_4 hcz63_5 hcz63_6 hfz63_0 hfz63_1 hfz63_2 hfz63_3 hfz63_4 hfz63_5 hfz63_6
   try clear hcz67_0 hcz67_1 hcz67_2 hcz67_3 hcz67_4 hcz67_5 hcz67_6 hfz67_0 hfz67_1 hfz67_2 hfz67_3 hfz67_4 hfz67_5 hfz67_6
   try clear hcz73_0 hcz73_1 hcz73_2 hcz73_3 hcz73_4 hcz73_5 hcz73_6 hfz73_0 hfz73_1 hfz73_2 hfz73_3 hfz73_4 hfz73_5 hfz73_6
   try clear hcz77_0 hcz77_1 hcz77_2 hcz77_3 hcz77_4 hcz77_5 hcz77_6 hfz77_0 hfz77_1 hfz77_2 hfz77_3 hfz77_4 hfz77_5 hfz77_6
   obtain ⟨kq, x46_16, rfl, HA, HJ16, HO_556000, HO_566000, HO_579000, BK531, BK532, BK555, BK565, BK578, HB⟩ := hcut
   cases kq with
   | zero => exact absurd HA.out (by simp [laws_FnExactEnter.j0])
   | succ kj16 =>
    have H := HA.out
    clear HA
    simp only [laws_FnExactEnter.j0] at H
    by_cases c79 : x46_16 = true
    ·
     subst c79
     have H1 : (some false) = some r := by rw [if_pos rfl] at H; exact H
     clear H
     have H := H1
     clear H1
     obtain rfl := Option.some.inj H
     go_wp2
     go_ret
     exact ⟨by first | rfl | (simp [errW_none, errW_some] <;> rfl) | (simp [*, errW_none, errW_some] <;> rfl), blq HB.out⟩
    ·
     replace c79 := Bool.eq_false_iff.mpr c79
     subst c79
     have H1 : ((laws_toBook.f kj16 l0_0 a0_1 a0_2 a0_3 a0_4 a0_5 a0_6).bind fun bt580 => ((laws_eqBook.f kj16 t556 t559 t560 t561 t562 t563 t564 bt580.1 bt580.2.1 bt580.2.2.1 bt580.2.2.2.1 bt580.2.2.2.2.1 bt580.2.2.2.2.2.1 bt580.2.2.2.2.2.2).bind fun t589 => (if t589 = true then ((laws_markBook.f kj16 t556 t559 t560 t561 t562 t563 t564 1).bind fun bt590 => (if bt590.1 < 0 then (laws_FnExactEnter.j1 kj16 t554 true l0_0 a0_1 a0_2 a0_3 a0_4 a0_5 a0_6 a1_0 a1_1 t545 t548 t549 t550 t551 t552 t553 t568 t571 t572 t573 t574 t575 t576) else ((laws_eqBook.f kj16 t568 t571 t572 t573 t574 t575 t576 t545 t548 t549 t550 t551 t552 t553).bind fun t592 => (if t592 = true then (laws_FnExactEnter.j1 kj16 t554 (t577 != t554) l0_0 a0_1 a0_2 a0_3 a0_4 a0_5 a0_6 a1_0 a1_1 t545 t548 t549 t550 t551 t552 t553 t568 t571 t572 t573 t574 t575 t576) else (laws_FnExactEnter.j1 kj16 t554 true l0_0 a0_1 a0_2 a0_3 a0_4 a0_5 a0_6 a1_0 a1_1 t545 t548 t549 t550 t551 t552 t553 t568 t571 t572 t573 t574 t575 t576))))) else (some false)))) = some r := by rw [if_neg (show ¬ (false = true) by decide)] at H; exact H
     clear H
     have H := H1
     clear H1
     replace H := Option.bind_eq_some_iff.mp H
     obtain ⟨⟨t580, t583, t584, t585, t586, t587, t588⟩, A800, H⟩ := H
     replace H : ((laws_eqBook.f kj16 t556 t559 t560 t561 t562 t563 t564 t580 t583 t584 t585 t586 t587 t588).bind fun t589 => (if t589 = true then ((laws_markBook.f kj16 t556 t559 t560 t561 t562 t563 t564 1).bind fun bt590 => (if bt590.1 < 0 then (laws_FnExactEnter.j1 kj16 t554 true l0_0 a0_1 a0_2 a0_3 a0_4 a0_5 a0_6 a1_0 a1_1 t545 t548 t549 t550 t551 t552 t553 t568 t571 t572 t573 t574 t575 t576) else ((laws_eqBook.f kj16 t568 t571 t572 t573 t574 t575 t576 t545 t548 t549 t550 t551 t552 t553).bind fun t592 => (if t592 = true then (laws_FnExactEnter.j1 kj16 t554 (t577 != t554) l0_0 a0_1 a0_2 a0_3 a0_4 a0_5 a0_6 a1_0 a1_1 t545 t548 t549 t550 t551 t552 t553 t568 t571 t572 t573 t574 t575 t576) else (laws_FnExactEnter.j1 kj16 t554 true l0_0 a0_1 a0_2 a0_3 a0_4 a0_5 a0_6 a1_0 a1_1 t545 t548 t549 t550 t551 t552 t553 t568 t571 t572 t573 t574 t575 t576))))) else (some false))) = some r := H
     have A80 := Aside0.mk A800
     clear A800
     replace H := Option.bind_eq_some_iff.mp H
     obtain ⟨t589, A810, H⟩ := H
     replace H : (if t589 = true then ((laws_markBook.f kj16 t556 t559 t560 t561 t562 t563 t564 1).bind fun bt590 => (if bt590.1 < 0 then (laws_FnExactEnter.j1 kj16 t554 true l0_0 a0_1 a0_2 a0_3 a0_4 a0_5 a0_6 a1_0 a1_1 t545 t548 t549 t550 t551 t552 t553 t568 t571 t572 t573 t574 t575 t576) else ((laws_eqBook.f kj16 t568 t571 t572 t573 t574 t575 t576 t545 t548 t549 t550 t551 t552 t553).bind fun t592 => (if t592 = true then (laws_FnExactEnter.j1 kj16 t554 (t577 != t554) l0_0 a0_1 a0_2 a0_3 a0_4 a0_5 a0_6 a1_0 a1_1 t545 t548 t549 t550 t551 t552 t553 t568 t571 t572 t573 t574 t575 t576) else (laws_FnExactEnter.j1 kj16 t554 true l0_0 a0_1 a0_2 a0_3 a0_4 a0_5 a0_6 a1_0 a1_1 t545 t548 t549 t550 t551 t552 t553 t568 t571 t572 t573 t574 t575 t576))))) else (some false)) = some r := H
     have A81 := Aside0.mk A810
     clear A810
     have HF82 := Aside0.mk H
     clear H
     try go_wp2
     replace HO_556000 := Aside0.mk (Kd.R_drew HO_556000.out)
     replace HO_566000 := Aside0.mk (Kd.R_drew HO_566000.out)
     replace HO_579000 := Aside0.mk (Kd.R_drew HO_579000.out)
     replace BK531 := Aside0.mk (blk_drew BK531.out)
     replace BK532 := Aside0.mk (blk_drew BK532.out)
     replace BK555 := Aside0.mk (blk_drew BK555.out)
     replace BK565 := Aside0.mk (blk_drew BK565.out)
     replace BK578 := Aside0.mk (blk_drew BK578.out)
     replace HB := Aside0.mk (below_drew1 HB.out)
     refine start_ (n := 5) (S := fun w' => w'.cell? ⟨gb565, 0, none⟩ = some (.slice Ao38 t556.length co38) ∧ w'.cell? ⟨gb565, 1, none⟩ = some (.int .i64 t559) ∧ w'.cell? ⟨gb565, 2, none⟩ = some (.int .i64 t560) ∧ w'.cell? ⟨gb565, 3, none⟩ = some (.int .i64 t561) ∧ w'.cell? ⟨gb565, 4, none⟩ = some (.int .i64 t562) ∧ w'.cell? ⟨gb565, 5, none⟩ = some (.int .i64 t563) ∧ w'.cell? ⟨gb565, 6, none⟩ = some (.int .i64 t564) ∧ w'.cell? ⟨gb531, 0, none⟩ = some (.slice A0_0 l0_0.length c0_0) ∧ w'.cell? ⟨gb531, 1, none⟩ = some (.int .i64 a0_1) ∧ w'.cell? ⟨gb531, 2, none⟩ = some (.int .i64 a0_2) ∧ w'.cell? ⟨gb531, 3, none⟩ = some (.int .i64 a0_3) ∧ w'.cell? ⟨gb531, 4, none⟩ = some (.int .i64 a0_4) ∧ w'.cell? ⟨gb531, 5, none⟩ = some (.int .i64 a0_5) ∧ w'.cell? ⟨gb531, 6, none⟩ = some (.int .i64 a0_6)) (ds := []) #[false, false, false, false, false] (by kernel_rfl) rfl rfl ⟨bc BK565 0, bc BK565 1, bc BK565 2, bc BK565 3, bc BK565 4, bc BK565 5, bc BK565 6, bc BK531 0, bc BK531 1, bc BK531 2, bc BK531 3, bc BK531 4, bc BK531 5, bc BK531 6⟩ (fun hHeld => ?_)
     generalize wc.drew = w83 at HO_556000 HO_566000 HO_579000 BK531 BK532 BK555 BK565 BK578 HB hHeld ⊢
     refine take_ (i := 0) (N := some 47) (v := ?_) (a' := ?_) #[true, false, false, false, false] rfl rfl (by kernel_rfl) (fun _ _ _ h => h) (Or.inl ⟨by rfl, ?_⟩) hHeld ?_ ?_
     rotate_left
     ·
      rintro w' ⟨s0, s1, s2, s3, s4, s5, s6, s7, s8, s9, s10, s11, s12, s13⟩
      go_simp
      with_reducible rfl
     rotate_left
     ·
      simp only [Act.put, List.setIfInBounds_toArray, List.set_cons_zero, List.set_cons_succ, i64_w, i32_w]
      rfl
     refine take_ (i := 1) (N := some 48) (v := ?_) (a' := ?_) #[true, true, false, false, false] rfl rfl (by kernel_rfl) (fun _ _ _ h => h) (Or.inl ⟨by rfl, ?_⟩) hHeld ?_ ?_
     rotate_left
     ·
      rintro w' ⟨s0, s1, s2, s3, s4, s5, s6, s7, s8, s9, s10, s11, s12, s13⟩
      go_simp
      with_reducible rfl
     rotate_left
     ·
      simp only [Act.put, List.setIfInBounds_toArray, List.set_cons_zero, List.set_cons_succ, i64_w, i32_w]
      rfl
     refine one_ (i := 2) (N := some 49) #[true, true, true, false, false] rfl rfl (by kernel_rfl) (by decide) (fun K hK => ?_)
     refine goes_ Try.func15 (by kernel_rfl) rfl #[.agg #[.slice A0_0 l0_0.length c0_0, .int .i64 a0_1, .int .i64 a0_2, .int .i64 a0_3, .int .i64 a0_4, .int .i64 a0_5, .int .i64 a0_6]] (by rfl) rfl rfl (by (try simp only [List.map_toArray, List.map_cons, List.map_nil]); first | done | rfl | (simp only [List.length_drop, List.length_take]; rfl)) ?_
     with_reducible refine (laws_toBook.calls kj16 _ _ l0_0 a0_1 a0_2 a0_3 a0_4 a0_5 a0_6 t580 t583 t584 t585 t586 t587 t588 _ ?side1 ?side2 A80.out).mono ?_
     (case side1 => exact Kd.Cq (Kd.C_below HR0_0.out HB.out))
     (case side2 => exact HC0_0.out)
     rintro e w84 ⟨v581, rfl, ho0, hb⟩
     refine ⟨_, rfl, ?_⟩
     have HO582 := Aside0.mk (Kd.R_lower (Kd.R_new' (Kd.R_new' (Kd.R_new' ho0 (Kd.R_lt (Kd.Rq HO_556000.out))) (Kd.R_lt (Kd.Rq HO_566000.out))) (Kd.R_lt (Kd.Rq HO_579000.out))) (below_size (blq HB.out)))
     replace HO_556000 := Aside0.mk (Kd.R_elder' (Kd.Rq HO_556000.out) (Kd.R_base ho0) hb)
     replace HO_566000 := Aside0.mk (Kd.R_elder' (Kd.Rq HO_566000.out) (Kd.R_base ho0) hb)
     replace HO_579000 := Aside0.mk (Kd.R_elder' (Kd.Rq HO_579000.out) (Kd.R_base ho0) hb)
     replace BK531 := bkb BK531 hb
     replace BK532 := bkb BK532 hb
     replace BK555 := bkb BK555 hb
     replace BK565 := bkb BK565 hb
     replace BK578 := bkb BK578 hb
     replace HB := hbs HB hb
     (try clear hb)
     (try clear hb2)
     (try clear hk)
     (try clear hi)
     (try clear ho0)
     obtain ⟨Ao85, co85, eo85⟩ := Kd.R_slice HO582.out
     (first | subst eo85 | (injection eo85 with f1_ f2_ f3_; have f4_ := f1_.symm; have f5_ := f3_.symm; clear f1_ f2_ f3_; subst f4_; subst f5_))
     refine hK.out _ _ ⟨bc BK565 0, bc BK565 1, bc BK565 2, bc BK565 3, bc BK565 4, bc BK565 5, bc BK565 6, bc BK531 0, bc BK531 1, bc BK531 2, bc BK531 3, bc BK531 4, bc BK531 5, bc BK531 6⟩ (fun hHeld => ?_)
     clear hK K
     refine norm_ (a' := ?_) ?_ ?_
     rotate_left
     ·
      show Act.put _ (some 49) _ = _
      simp only [Act.put, List.setIfInBounds_toArray, List.set_cons_zero, List.set_cons_succ, i64_w, i32_w]
      rfl
     refine one_ (i := 3) (N := some 50) #[true, true, true, true, false] rfl rfl (by kernel_rfl) (by decide) (fun K hK => ?_)
     refine goes_ Try.func17 (by kernel_rfl) rfl #[.agg #[.slice Ao38 t556.length co38, .int .i64 t559, .int .i64 t560, .int .i64 t561, .int .i64 t562, .int .i64 t563, .int .i64 t564], .agg #[.slice Ao85 t580.length co85, .int .i64 t583, .int .i64 t584, .int .i64 t585, .int .i64 t586, .int .i64 t587, .int .i64 t588]] (by rfl) rfl rfl (by (try simp only [List.map_toArray, List.map_cons, List.map_nil]); first | done | rfl | (simp only [List.length_drop, List.length_take]; rfl)) ?_
     with_reducible refine (laws_eqBook.calls kj16 _ _ t556 t559 t560 t561 t562 t563 t564 _ _ t580 t583 t584 t585 t586 t587 t588 t589 _ ?side1 ?side2 ?side3 ?side4 A81.out).mono ?_
     (case side1 => repeat (first | exact (Kd.R_reads' HO_566000.out).2.2 | (with_reducible refine Kd.C_alloc ?_ _) | (with_reducible refine Kd.C_drewN ?_ _) | (with_reducible refine Kd.C_drew ?_)))
     (case side2 => exact (Kd.R_reads' HO_566000.out).2.1)
     (case side3 => repeat (first | exact (Kd.R_reads' HO582.out).2.2 | (with_reducible refine Kd.C_alloc ?_ _) | (with_reducible refine Kd.C_drewN ?_ _) | (with_reducible refine Kd.C_drew ?_)))
     (case side4 => exact (Kd.R_reads' HO582.out).2.1)
     rintro e w86 ⟨rfl, hb⟩
     refine ⟨_, rfl, ?_⟩
     replace HO_556000 := rob HO_556000 hb
     replace HO_566000 := rob HO_566000 hb
     replace HO_579000 := rob HO_579000 hb
     replace HO582 := rob HO582 hb
     replace BK531 := bkb BK531 hb
     replace BK532 := bkb BK532 hb
     replace BK555 := bkb BK555 hb
     replace BK565 := bkb BK565 hb
     replace BK578 := bkb BK578 hb
     replace HB := hbs HB hb
     (try clear hb)
     (try clear hb2)
     (try clear hk)
     (try clear hi)
     refine hK.out _ _ ⟨bc BK565 0, bc BK565 1, bc BK565 2, bc BK565 3, bc BK565 4, bc BK565 5, bc BK565 6, bc BK531 0, bc BK531 1, bc BK531 2, bc BK531 3, bc BK531 4, bc BK531 5, bc BK531 6⟩ (fun hHeld => ?_)
     clear hK K
     refine norm_ (a' := ?_) ?_ ?_
     rotate_left
     ·
      show Act.put _ (some 50) _ = _
      simp only [Act.put, List.setIfInBounds_toArray, List.set_cons_zero, List.set_cons_succ, i64_w, i32_w]
      rfl
     refine pure_ (i := 4) (N := some 51) (v := ?_) (a' := ?_) #[true, true, true, true, true] rfl rfl (by kernel_rfl) (fun _ _ _ h => h) (Or.inl ⟨by rfl, ?_⟩) ?_ ?_
     rotate_left
     ·
      intro w'
      go_simp
      with_reducible rfl
     rotate_left
     ·
      simp only [Act.put, List.setIfInBounds_toArray, List.set_cons_zero, List.set_cons_succ, i64_w, i32_w]
      rfl
     refine done_ (by kernel_rfl) ?_
     go_upto_if 51 with (fail)
     have H := HF82.out
     clear HF82
     by_cases c87 : t589 = true
     ·
      subst c87
      have H1 : ((laws_markBook.f kj16 t556 t559 t560 t561 t562 t563 t564 1).bind fun bt590 => (if bt590.1 < 0 then (laws_FnExactEnter.j1 kj16 t554 true l0_0 a0_1 a0_2 a0_3 a0_4 a0_5 a0_6 a1_0 a1_1 t545 t548 t549 t550 t551 t552 t553 t568 t571 t572 t573 t574 t575 t576) else ((laws_eqBook.f kj16 t568 t571 t572 t573 t574 t575 t576 t545 t548 t549 t550 t551 t552 t553).bind fun t592 => (if t592 = true then (laws_FnExactEnter.j1 kj16 t554 (t577 != t554) l0_0 a0_1 a0_2 a0_3 a0_4 a0_5 a0_6 a1_0 a1_1 t545 t548 t549 t550 t551 t552 t553 t568 t571 t572 t573 t574 t575 t576) else (laws_FnExactEnter.j1 kj16 t554 true l0_0 a0_1 a0_2 a0_3 a0_4 a0_5 a0_6 a1_0 a1_1 t545 t548 t549 t550 t551 t552 t553 t568 t571 t572 t573 t574 t575 t576))))) = some r := by rw [if_pos rfl] at H; exact H
      clear H
      have H := H1
      clear H1
      replace H := Option.bind_eq_some_iff.mp H
      obtain ⟨⟨t590, t591⟩, A880, H⟩ := H
      replace H : (if t590 < 0 then (laws_FnExactEnter.j1 kj16 t554 true l0_0 a0_1 a0_2 a0_3 a0_4 a0_5 a0_6 a1_0 a1_1 t545 t548 t549 t550 t551 t552 t553 t568 t571 t572 t573 t574 t575 t576) else ((laws_eqBook.f kj16 t568 t571 t572 t573 t574 t575 t576 t545 t548 t549 t550 t551 t552 t553).bind fun t592 => (if t592 = true then (laws_FnExactEnter.j1 kj16 t554 (t577 != t554) l0_0 a0_1 a0_2 a0_3 a0_4 a0_5 a0_6 a1_0 a1_1 t545 t548 t549 t550 t551 t552 t553 t568 t571 t572 t573 t574 t575 t576) else (laws_FnExactEnter.j1 kj16 t554 true l0_0 a0_1 a0_2 a0_3 a0_4 a0_5 a0_6 a1_0 a1_1 t545 t548 t549 t550 t551 t552 t553 t568 t571 t572 t573 t574 t575 t576)))) = some r := H
      have A88 := Aside0.mk A880
      clear A880
      have HC89 := Aside0.mk H
      clear H
      obtain ⟨_, _, _, _, _, _, _, _⟩ := ne8 NB565_531 NB531_565 NB565_532 NB532_565 NB565_555 NB555_565 NB565_578 NB578_565
      obtain ⟨hcz94_0, hcz94_1, hcz94_2, hcz94_3, hcz94_4, hcz94_5, hcz94_6, hfz94_0, hfz94_1, hfz94_2, hfz94_3, hfz94_4, hfz94_5, hfz94_6⟩ := bq7 BK565.out
      go_upto_region 14 with (first | ((with_reducible refine gate_callee (f := 18) rfl ?_); refine gLq (some 54) Try.func18 #[.agg #[.slice Ao38 t556.length co38, .int .i64 t559, .int .i64 t560, .int .i64 t561, .int .i64 t562, .int .i64 t563, .int .i64 t564], .int .i64 1] ?_; (with_reducible refine (laws_markBook.calls kj16 (fun k_ => some k_ = (.slice Ao38 t556.length co38 : Value).ownBlock) (.slice Ao38 t556.length co38) t556 t559 t560 t561 t562 t563 t564 1 t590 t591 w _ ?side1 ?side2 A88.out).mono ?_); (case side1 => exact blq HB.out); (case side2 => exact Kd.R_tight rfl HO_566000.out); rintro e w95 ⟨rfl, hy0, hb, hkp⟩; refine ⟨_, rfl, ?_⟩; replace HO_556000 := Aside0.mk (Kd.R_mono (ok' := fun k_ => some k_ ≠ (.slice Ao38 t556.length co38 : Value).ownBlock ∧ some k_ ≠ (.slice Ao49 t568.length co49 : Value).ownBlock ∧ some k_ ≠ (.slice Ao85 t580.length co85 : Value).ownBlock) (Kd.R_keptB (HO_556000.out) hkp (fun k_ hk_ hs_ => (hk_.1.1) hs_)) (fun k_ hk_ => ⟨hk_.1.1.1, hk_.1.1.2, hk_.1.2⟩)); replace HO_579000 := Aside0.mk (Kd.R_mono (ok' := fun k_ => some k_ ≠ (.slice Ao25 t545.length co25 : Value).ownBlock ∧ some k_ ≠ (.slice Ao38 t556.length co38 : Value).ownBlock ∧ some k_ ≠ (.slice Ao85 t580.length co85 : Value).ownBlock) (Kd.R_keptB (HO_579000.out) hkp (fun k_ hk_ hs_ => (hk_.1.2) hs_)) (fun k_ hk_ => ⟨hk_.1.1.1, hk_.1.1.2, hk_.1.2⟩)); replace BK531 := Aside0.mk (blk_kept (bkq BK531.out) hkp (fun hs_ => (fun e_ => (Kd.R_ne HO_566000.out BK531.out (by decide)) e_) hs_)); replace BK532 := Aside0.mk (blk_kept (bkq BK532.out) hkp (fun hs_ => (fun e_ => (Kd.R_ne HO_566000.out BK532.out (by decide)) e_) hs_)); replace BK555 := Aside0.mk (blk_kept (bkq BK555.out) hkp (fun hs_ => (fun e_ => (Kd.R_ne HO_566000.out BK555.out (by decide)) e_) hs_)); replace BK565 := Aside0.mk (blk_kept (bkq BK565.out) hkp (fun hs_ => (fun e_ => (Kd.R_ne HO_566000.out BK565.out (by decide)) e_) hs_)); replace BK578 := Aside0.mk (blk_kept (bkq BK578.out) hkp (fun hs_ => (fun e_ => (Kd.R_ne HO_566000.out BK578.out (by decide)) e_) hs_)); replace HO_566000 := Aside0.mk (Kd.R_reok rfl hy0 (fun k_ e_ => HO_566000.out.1 k_ e_)); replace HO582 := Aside0.mk (Kd.R_mono (ok' := fun k_ => some k_ ≠ (.slice Ao25 t545.length co25 : Value).ownBlock ∧ some k_ ≠ (.slice Ao38 t556.length co38 : Value).ownBlock ∧ some k_ ≠ (.slice Ao49 t568.length co49 : Value).ownBlock) (Kd.R_keptB (HO582.out) hkp (fun k_ hk_ hs_ => (hk_.1.2) hs_)) (fun k_ hk_ => ⟨hk_.1.1.1.2, hk_.1.1.2, hk_.1.2⟩)); replace HB := Aside0.mk (hb); (try clear hb); (try clear hkp); (try clear hy0)))
      (try simp only [Act.put, List.setIfInBounds_toArray, List.set_cons_zero, List.set_cons_succ])
      go_cut [67] (fun v67 wc => ∃ (kq : Nat) (x67_88 : Bool), v67 = .bool x67_88 ∧ Aside0 (laws_FnExactEnter.j1 kq t554 x67_88 l0_0 a0_1 a0_2 a0_3 a0_4 a0_5 a0_6 a1_0 a1_1 t545 t548 t549 t550 t551 t552 t553 t568 t571 t572 t573 t574 t575 t576 = some r) ∧ Aside0 (kq ≤ kj16) ∧ Aside0 (Kd.R k41 41 wc w.heap.size (fun k_ => some k_ ≠ ((.slice Ao38 t556.length co38) : Value).ownBlock ∧ some k_ ≠ ((.slice Ao49 t568.length co49) : Value).ownBlock) (.slice Ao25 t545.length co25) t545) ∧ Aside0 (Kd.R k41 41 wc w.heap.size (fun k_ => some k_ ≠ ((.slice Ao25 t545.length co25) : Value).ownBlock ∧ some k_ ≠ ((.slice Ao49 t568.length co49) : Value).ownBlock) (.slice Ao38 t556.length co38) t591) ∧ Aside0 (Kd.R k41 41 wc w.heap.size (fun k_ => some k_ ≠ ((.slice Ao25 t545.length co25) : Value).ownBlock ∧ some k_ ≠ ((.slice Ao38 t556.length co38) : Value).ownBlock) (.slice Ao49 t568.length co49) t568) ∧ Aside0 (wc.heap[gb531]? = some (.cells #[(.slice A0_0 l0_0.length c0_0), .int .i64 a0_1, .int .i64 a0_2, .int .i64 a0_3, .int .i64 a0_4, .int .i64 a0_5, .int .i64 a0_6] 26 (0, 0))) ∧ Aside0 (wc.heap[gb532]? = some (.cells #[.int .i64 a1_0, .int .i64 a1_1] 39 (0, 0))) ∧ Aside0 (wc.heap[gb555]? = some (.cells #[(.slice Ao25 t545.length co25), .int .i64 t548, .int .i64 t549, .int .i64 t550, .int .i64 t551, .int .i64 t552, .int .i64 t553] 31 (0, 0))) ∧ Aside0 (wc.heap[gb565]? = some (.cells #[(.slice Ao38 t556.length co38), .int .i64 t559, .int .i64 t560, .int .i64 t561, .int .i64 t562, .int .i64 t563, .int .i64 t564] 31 (0, 0))) ∧ Aside0 (wc.heap[gb578]? = some (.cells #[(.slice Ao49 t568.length co49), .int .i64 t571, .int .i64 t572, .int .i64 t573, .int .i64 t574, .int .i64 t575, .int .i64 t576] 31 (0, 0))) ∧ Aside0 (Below w.heap.size w wc))
      case first =>
       have H := HC89.out
       clear HC89
       by_cases c96 : t590 < 0
       ·
        rw [if_pos c96] at H
        have c96b0 : decide (t590 < 0) = true := decide_eq_true c96
        clear c96
        (first | rw [c96b0] | (simp only [i64_w, i32_w]; rw [c96b0]) | skip)
        have H' := Aside0.mk H
        clear H
        go_wp2
        go_meet
        case rel => exact ⟨_, (true), (by first | rfl | (simp; done) | (simp [*]; done)), H', ⟨by have := HJ16.out; first | omega | exact Nat.le_refl _⟩, ⟨Kd.Rq (Kd.R_mono HO_556000.out (fun _ hk => ⟨hk.1, hk.2.1⟩))⟩, ⟨Kd.Rq (Kd.R_mono HO_566000.out (fun _ hk => ⟨hk.1.1, hk.1.2⟩))⟩, ⟨Kd.Rq (Kd.R_mono HO_579000.out (fun _ hk => ⟨hk.1, hk.2.1⟩))⟩, ⟨bkq BK531.out⟩, ⟨bkq BK532.out⟩, ⟨bkq BK555.out⟩, ⟨bkq BK565.out⟩, ⟨bkq BK578.out⟩, ⟨blq HB.out⟩⟩
       ·
        rw [if_neg c96] at H
        have c96b0 : decide (t590 < 0) = false := decide_eq_false c96
        clear c96
        (first | rw [c96b0] | (simp only [i64_w, i32_w]; rw [c96b0]) | skip)
        replace H := Option.bind_eq_some_iff.mp H
        obtain ⟨t592, A970, H⟩ := H
        replace H : (if t592 = true then (laws_FnExactEnter.j1 kj16 t554 (t577 != t554) l0_0 a0_1 a0_2 a0_3 a0_4 a0_5 a0_6 a1_0 a1_1 t545 t548 t549 t550 t551 t552 t553 t568 t571 t572 t573 t574 t575 t576) else (laws_FnExactEnter.j1 kj16 t554 true l0_0 a0_1 a0_2 a0_3 a0_4 a0_5 a0_6 a1_0 a1_1 t545 t548 t549 t550 t551 t552 t553 t568 t571 t572 t573 t574 t575 t576)) = some r := H
        have A97 := Aside0.mk A970
        clear A970
        by_cases c98 : t592 = true
        ·
         subst c98
         have H1 : (laws_FnExactEnter.j1 kj16 t554 (t577 != t554) l0_0 a0_1 a0_2 a0_3 a0_4 a0_5 a0_6 a1_0 a1_1 t545 t548 t549 t550 t551 t552 t553 t568 t571 t572 t573 t574 t575 t576) = some r := by rw [if_pos rfl] at H; exact H
         clear H
         have H := H1
         clear H1
         have H' := Aside0.mk H
         clear H
         obtain ⟨_, _, _, _, _, _, _, _⟩ := ne8 NB578_531 NB531_578 NB578_532 NB532_578 NB578_555 NB555_578 NB578_565 NB565_578
         have hcz103_0 : w95.cell? ⟨gb578, 0, none⟩ = some (.slice Ao49 t568.length co49) := bc BK578 0
         have hcz103_1 : w95.cell? ⟨gb578, 1, none⟩ = some (.int .i64 t571) := bc BK578 1
         have hcz103_2 : w95.cell? ⟨gb578, 2, none⟩ = some (.int .i64 t572) := bc BK578 2
         have hcz103_3 : w95.cell? ⟨gb578, 3, none⟩ = some (.int .i64 t573) := bc BK578 3
         have hcz103_4 : w95.cell? ⟨gb578, 4, none⟩ = some (.int .i64 t574) := bc BK578 4
         have hcz103_5 : w95.cell? ⟨gb578, 5, none⟩ = some (.int .i64 t575) := bc BK578 5
         have hcz103_6 : w95.cell? ⟨gb578, 6, none⟩ = some (.int .i64 t576) := bc BK578 6
         have hfz103_0 := blk_frozen BK578.out 0
         have hfz103_1 := blk_frozen BK578.out 1
         have hfz103_2 := blk_frozen BK578.out 2
         have hfz103_3 := blk_frozen BK578.out 3
         have hfz103_4 := blk_frozen BK578.out 4
         have hfz103_5 := blk_frozen BK578.out 5
         have hfz103_6 := blk_frozen BK578.out 6
         obtain ⟨_, _, _, _, _, _⟩ := ne6 NB555_531 NB531_555 NB555_532 NB532_555 NB555_565 NB565_555
         have hcz107_0 : w95.cell? ⟨gb555, 0, none⟩ = some (.slice Ao25 t545.length co25) := bc BK555 0
         have hcz107_1 : w95.cell? ⟨gb555, 1, none⟩ = some (.int .i64 t548) := bc BK555 1
         have hcz107_2 : w95.cell? ⟨gb555, 2, none⟩ = some (.int .i64 t549) := bc BK555 2
         have hcz107_3 : w95.cell? ⟨gb555, 3, none⟩ = some (.int .i64 t550) := bc BK555 3
         have hcz107_4 : w95.cell? ⟨gb555, 4, none⟩ = some (.int .i64 t551) := bc BK555 4
         have hcz107_5 : w95.cell? ⟨gb555, 5, none⟩ = some (.int .i64 t552) := bc BK555 5
         have hcz107_6 : w95.cell? ⟨gb555, 6, none⟩ = some (.int .i64 t553) := bc BK555 6
         have hfz107_0 := blk_frozen BK555.out 0
         have hfz107_1 := blk_frozen BK555.out 1
         have hfz107_2 := blk_frozen BK555.out 2
         have hfz107_3 := blk_frozen BK555.out 3
         have hfz107_4 := blk_frozen BK555.out 4
         have hfz107_5 := blk_frozen BK555.out 5
         have hfz107_6 := blk_frozen BK555.out 6
         go_wp2_with (first | (go_at_call 17; (with_reducible refine (laws_eqBook.calls kj16 _ _ t568 t571 t572 t573 t574 t575 t576 _ _ t545 t548 t549 t550 t551 t552 t553 true _ ?side1 ?side2 ?side3 ?side4 A97.out).mono ?_); (case side1 => repeat (first | exact (Kd.R_reads' HO_579000.out).2.2 | (with_reducible refine Kd.C_alloc ?_ _) | (with_reducible refine Kd.C_drewN ?_ _) | (with_reducible refine Kd.C_drew ?_))); (case side2 => exact (Kd.R_reads' HO_579000.out).2.1); (case side3 => repeat (first | exact (Kd.R_reads' HO_556000.out).2.2 | (with_reducible refine Kd.C_alloc ?_ _) | (with_reducible refine Kd.C_drewN ?_ _) | (with_reducible refine Kd.C_drew ?_))); (case side4 => exact (Kd.R_reads' HO_556000.out).2.1); rintro e w108 ⟨rfl, hb⟩; replace HO_556000 := rob HO_556000 hb; replace HO_566000 := rob HO_566000 hb; replace HO_579000 := rob HO_579000 hb; replace HO582 := rob HO582 hb; replace BK531 := bkb BK531 hb; replace BK532 := bkb BK532 hb; replace BK555 := bkb BK555 hb; replace BK565 := bkb BK565 hb; replace BK578 := bkb BK578 hb; replace HB := hbs HB hb; (try clear hb); (try clear hb2); (try clear hk); (try clear hi)))
         go_meet
         case rel => exact ⟨_, ((t577 != t554)), (by first | rfl | (simp; done) | (simp [*]; done)), H', ⟨by have := HJ16.out; first | omega | exact Nat.le_refl _⟩, ⟨Kd.Rq (Kd.R_mono HO_556000.out (fun _ hk => ⟨hk.1, hk.2.1⟩))⟩, ⟨Kd.Rq (Kd.R_mono HO_566000.out (fun _ hk => ⟨hk.1.1, hk.1.2⟩))⟩, ⟨Kd.Rq (Kd.R_mono HO_579000.out (fun _ hk => ⟨hk.1, hk.2.1⟩))⟩, ⟨bkq BK531.out⟩, ⟨bkq BK532.out⟩, ⟨bkq BK555.out⟩, ⟨bkq BK565.out⟩, ⟨bkq BK578.out⟩, ⟨blq HB.out⟩⟩
        ·
         replace c98 := Bool.eq_false_iff.mpr c98
         subst c98
         have H1 : (laws_FnExactEnter.j1 kj16 t554 true l0_0 a0_1 a0_2 a0_3 a0_4 a0_5 a0_6 a1_0 a1_1 t545 t548 t549 t550 t551 t552 t553 t568 t571 t572 t573 t574 t575 t576) = some r := by rw [if_neg (show ¬ (false = true) by decide)] at H; exact H
         clear H
         have H := H1
         clear H1
         have H' := Aside0.mk H
         clear H
         obtain ⟨_, _, _, _, _, _, _, _⟩ := ne8 NB578_531 NB531_578 NB578_532 NB532_578 NB578_555 NB555_578 NB578_565 NB565_578
         have hcz113_0 : w95.cell? ⟨gb578, 0, none⟩ = some (.slice Ao49 t568.length co49) := bc BK578 0
         have hcz113_1 : w95.cell? ⟨gb578, 1, none⟩ = some (.int .i64 t571) := bc BK578 1
         have hcz113_2 : w95.cell? ⟨gb578, 2, none⟩ = some (.int .i64 t572) := bc BK578 2
         have hcz113_3 : w95.cell? ⟨gb578, 3, none⟩ = some (.int .i64 t573) := bc BK578 3
         have hcz113_4 : w95.cell? ⟨gb578, 4, none⟩ = some (.int .i64 t574) := bc BK578 4
         have hcz113_5 : w95.cell? ⟨gb578, 5, none⟩ = some (.int .i64 t575) := bc BK578 5
         have hcz113_6 : w95.cell? ⟨gb578, 6, none⟩ = some (.int .i64 t576) := bc BK578 6
         have hfz113_0 := blk_frozen BK578.out 0
         have hfz113_1 := blk_frozen BK578.out 1
         have hfz113_2 := blk_frozen BK578.out 2
         have hfz113_3 := blk_frozen BK578.out 3
         have hfz113_4 := blk_frozen BK578.out 4
         have hfz113_5 := blk_frozen BK578.out 5
         have hfz113_6 := blk_frozen BK578.out 6
         obtain ⟨_, _, _, _, _, _⟩ := ne6 NB555_531 NB531_555 NB555_532 NB532_555 NB555_565 NB565_555
         have hcz117_0 : w95.cell? ⟨gb555, 0, none⟩ = some (.slice Ao25 t545.length co25) := bc BK555 0
         have hcz117_1 : w95.cell? ⟨gb555, 1, none⟩ = some (.int .i64 t548) := bc BK555 1
         have hcz117_2 : w95.cell? ⟨gb555, 2, none⟩ = some (.int .i64 t549) := bc BK555 2
         have hcz117_3 : w95.cell? ⟨gb555, 3, none⟩ = some (.int .i64 t550) := bc BK555 3
         have hcz117_4 : w95.cell? ⟨gb555, 4, none⟩ = some (.int .i64 t551) := bc BK555 4
         have hcz117_5 : w95.cell? ⟨gb555, 5, none⟩ = some (.int .i64 t552) := bc BK555 5
         have hcz117_6 : w95.cell? ⟨gb555, 6, none⟩ = some (.int .i64 t553) := bc BK555 6
         have hfz117_0 := blk_frozen BK555.out 0
         have hfz117_1 := blk_frozen BK555.out 1
         have hfz117_2 := blk_frozen BK555.out 2
         have hfz117_3 := blk_frozen BK555.out 3
         have hfz117_4 := blk_frozen BK555.out 4
         have hfz117_5 := blk_frozen BK555.out 5
         have hfz117_6 := blk_frozen BK555.out 6
         go_wp2_with (first | (go_at_call 17; (with_reducible refine (laws_eqBook.calls kj16 _ _ t568 t571 t572 t573 t574 t575 t576 _ _ t545 t548 t549 t550 t551 t552 t553 false _ ?side1 ?side2 ?side3 ?side4 A97.out).mono ?_); (case side1 => repeat (first | exact (Kd.R_reads' HO_579000.out).2.2 | (with_reducible refine Kd.C_alloc ?_ _) | (with_reducible refine Kd.C_drewN ?_ _) | (with_reducible refine Kd.C_drew ?_))); (case side2 => exact (Kd.R_reads' HO_579000.out).2.1); (case side3 => repeat (first | exact (Kd.R_reads' HO_556000.out).2.2 | (with_reducible refine Kd.C_alloc ?_ _) | (with_reducible refine Kd.C_drewN ?_ _) | (with_reducible refine Kd.C_drew ?_))); (case side4 => exact (Kd.R_reads' HO_556000.out).2.1); rintro e w118 ⟨rfl, hb⟩; replace HO_556000 := rob HO_556000 hb; replace HO_566000 := rob HO_566000 hb; replace HO_579000 := rob HO_579000 hb; replace HO582 := rob HO582 hb; replace BK531 := bkb BK531 hb; replace BK532 := bkb BK532 hb; replace BK555 := bkb BK555 hb; replace BK565 := bkb BK565 hb; replace BK578 := bkb BK578 hb; replace HB := hbs HB hb; (try clear hb); (try clear hb2); (try clear hk); (try clear hi)))
         go_meet
         case rel => exact ⟨_, (true), (by first | rfl | (simp; done) | (simp [*]; done)), H', ⟨by have := HJ16.out; first | omega | exact Nat.le_refl _⟩, ⟨Kd.Rq (Kd.R_mono HO_556000.out (fun _ hk => ⟨hk.1, hk.2.1⟩))⟩, ⟨Kd.Rq (Kd.R_mono HO_566000.out (fun _ hk => ⟨hk.1.1, hk.1.2⟩))⟩, ⟨Kd.Rq (Kd.R_mono HO_579000.out (fun _ hk => ⟨hk.1, hk.2.1⟩))⟩, ⟨bkq BK531.out⟩, ⟨bkq BK532.out⟩, ⟨bkq BK555.out⟩, ⟨bkq BK565.out⟩, ⟨bkq BK578.out⟩, ⟨blq HB.out⟩⟩
      case rest =>
       clear HC89
       try clear c1
       try clear c2
       try clear p2
       try clear c5
       try clear c6
       try clear c7
       try clear c8
       try clear c9
       try clear c10
       try clear c11
       try clear c15
       try clear c17
       try clear c18
       try clear c21
       try clear c22
       try clear c58
       try clear c59
       try clear c60
       try clear c61
       try clear c62
       try clear c64
       try clear c65
       try clear c66
       try clear c69
       try clear c70
       try clear c71
       try clear c72
       try clear c74
       try clear c75
       try clear c76
       try clear c79
       try clear c87
       try clear c90
       try clear c91
       try clear c92
       try clear c93
       try clear c96
       try clear c96b0
       try clear c98
       try clear c99
       try clear c100
       try clear c101
       try clear c102
       try clear c104
       try clear c105
       try clear c106
       try clear c109
       try clear c110
       try clear c111
       try clear c112
       try clear c114
       try clear c115
       try clear c116
       try clear hcz103_0 hcz103_1 hcz103_2 hcz103_3 hcz103_4 hcz103_5 hcz103_6 hfz103_0 hfz103_1 hfz103_2 hfz103_3 hfz103_4 hfz103_5 hfz103_6
       try clear hcz107_0 hcz107_1 hcz107_2 hcz107_3 hcz107_4 hcz107_5 hcz107_6 hfz107_0 hfz107_1 hfz107_2 hfz107_3 hfz107_4 hfz107_5 hfz107_6
       try clear hcz113_0 hcz113_1 hcz113_2 hcz113_3 hcz113_4 hcz113_5 hcz113_6 hfz113_0 hfz113_1 hfz113_2 hfz113_3 hfz113_4 hfz113_5 hfz113_6
       try clear hcz117_0 hcz117_1 hcz117_2 hcz117_3 hcz117_4 hcz117_5 hcz117_6 hfz117_0 hfz117_1 hfz117_2 hfz117_3 hfz117_4 hfz117_5 hfz117_6
       try clear hcz63_0 hcz63_1 hcz63_2 hcz63_3 hcz63_4 hcz63_5 hcz63_6 hfz63_0 hfz63_1 hfz63_2 hfz63_3 hfz63_4 hfz63_5 hfz63_6
       try clear hcz67_0 hcz67_1 hcz67_2 hcz67_3 hcz67_4 hcz67_5 hcz67_6 hfz67_0 hfz67_1 hfz67_2 hfz67_3 hfz67_4 hfz67_5 hfz67_6
       try clear hcz73_0 hcz73_1 hcz73_2 hcz73_3 hcz73_4 hcz73_5 hcz73_6 hfz73_0 hfz73_1 hfz73_2 hfz73_3 hfz73_4 hfz73_5 hfz73_6
       try clear hcz77_0 hcz77_1 hcz77_2 hcz77_3 hcz77_4 hcz77_5 hcz77_6 hfz77_0 hfz77_1 hfz77_2 hfz77_3 hfz77_4 hfz77_5 hfz77_6
       try clear hcz94_0 hcz94_1 hcz94_2 hcz94_3 hcz94_4 hcz94_5 hcz94_6 hfz94_0 hfz94_1 hfz94_2 hfz94_3 hfz94_4 hfz94_5 hfz94_6
       try clear p2
       obtain ⟨kq, x67_88, rfl, HA, HJ88, HO_556000, HO_566000, HO_579000, BK531, BK532, BK555, BK565, BK578, HB⟩ := hcut
       have hl566000_88 := (Kd.R_reads' HO_566000.out).1
       rw [hl566000_88] at HO_566000
       (try simp only [hl566000_88])
       (try simp only [hl566000_88] at BK531)
       (try simp only [hl566000_88] at BK532)
       (try simp only [hl566000_88] at BK555)
       (try simp only [hl566000_88] at BK565)
       (try simp only [hl566000_88] at BK578)
       (try simp only [hl566000_88] at HO_556000)
       (try simp only [hl566000_88] at HO_579000)
       cases kq with
       | zero => exact absurd HA.out (by simp [laws_FnExactEnter.j1])
       | succ kj88 =>
        have H := HA.out
        clear HA
        simp only [laws_FnExactEnter.j1] at H
        by_cases c119 : x67_88 = true
        ·
         subst c119
         have H1 : (some false) = some r := by rw [if_pos rfl] at H; exact H
         clear H
         have H := H1
         clear H1
         obtain rfl := Option.some.inj H
         go_wp2
         go_ret
         exact ⟨by first | rfl | (simp [errW_none, errW_some] <;> rfl) | (simp [*, errW_none, errW_some] <;> rfl), blq HB.out⟩
        ·
         replace c119 := Bool.eq_false_iff.mpr c119
         subst c119
         have H1 : ((laws_markBook.f kj88 t568 t571 t572 t573 t574 t575 t576 1).bind fun bt593 => ((laws_heldBook.f kj88 bt593.2 t571 t572 t573 t574 t575 t576 1).bind fun t595 => (if t595 < 0 then (some false) else (if t595 = bt593.1 then ((laws_toBook.f kj88 l0_0 a0_1 a0_2 a0_3 a0_4 a0_5 a0_6).bind fun bt596 => ((laws_toEvent.f a1_0 a1_1).bind fun bt605 => ((impl_Enter.f kj88 bt596.1 bt596.2.1 bt596.2.2.1 bt596.2.2.2.1 bt596.2.2.2.2.1 bt596.2.2.2.2.2.1 bt596.2.2.2.2.2.2 bt605.1 bt605.2).bind fun bt607 => ((laws_eqBook.f kj88 bt607.1 bt607.2.1 bt607.2.2.1 bt607.2.2.2.1 bt607.2.2.2.2.1 bt607.2.2.2.2.2.1 bt607.2.2.2.2.2.2.1 t545 t548 t549 t550 t551 t552 t553).bind fun t618 => (if t618 = true then (laws_FnExactEnter.j2 kj88 bt593.1 (bt607.2.2.2.2.2.2.2 != t554) bt593.2 t571 t572 t573 t574 t575 t576) else (laws_FnExactEnter.j2 kj88 bt593.1 true bt593.2 t571 t572 t573 t574 t575 t576)))))) else (some false))))) = some r := by rw [if_neg (show ¬ (false = true) by decide)] at H; exact H
         clear H
         have H := H1
         clear H1
         replace H := Option.bind_eq_some_iff.mp H
         obtain ⟨⟨t593, t594⟩, A1200, H⟩ := H
         replace H : ((laws_heldBook.f kj88 t594 t571 t572 t573 t574 t575 t576 1).bind fun t595 => (if t595 < 0 then (some false) else (if t595 = t593 then ((laws_toBook.f kj88 l0_0 a0_1 a0_2 a0_3 a0_4 a0_5 a0_6).bind fun bt596 => ((laws_toEvent.f a1_0 a1_1).bind fun bt605 => ((impl_Enter.f kj88 bt596.1 bt596.2.1 bt596.2.2.1 bt596.2.2.2.1 bt596.2.2.2.2.1 bt596.2.2.2.2.2.1 bt596.2.2.2.2.2.2 bt605.1 bt605.2).bind fun bt607 => ((laws_eqBook.f kj88 bt607.1 bt607.2.1 bt607.2.2.1 bt607.2.2.2.1 bt607.2.2.2.2.1 bt607.2.2.2.2.2.1 bt607.2.2.2.2.2.2.1 t545 t548 t549 t550 t551 t552 t553).bind fun t618 => (if t618 = true then (laws_FnExactEnter.j2 kj88 t593 (bt607.2.2.2.2.2.2.2 != t554) t594 t571 t572 t573 t574 t575 t576) else (laws_FnExactEnter.j2 kj88 t593 true t594 t571 t572 t573 t574 t575 t576)))))) else (some false)))) = some r := H
         have A120 := Aside0.mk A1200
         clear A1200
         replace H := Option.bind_eq_some_iff.mp H
         obtain ⟨t595, A1210, H⟩ := H
         replace H : (if t595 < 0 then (some false) else (if t595 = t593 then ((laws_toBook.f kj88 l0_0 a0_1 a0_2 a0_3 a0_4 a0_5 a0_6).bind fun bt596 => ((laws_toEvent.f a1_0 a1_1).bind fun bt605 => ((impl_Enter.f kj88 bt596.1 bt596.2.1 bt596.2.2.1 bt596.2.2.2.1 bt596.2.2.2.2.1 bt596.2.2.2.2.2.1 bt596.2.2.2.2.2.2 bt605.1 bt605.2).bind fun bt607 => ((laws_eqBook.f kj88 bt607.1 bt607.2.1 bt607.2.2.1 bt607.2.2.2.1 bt607.2.2.2.2.1 bt607.2.2.2.2.2.1 bt607.2.2.2.2.2.2.1 t545 t548 t549 t550 t551 t552 t553).bind fun t618 => (if t618 = true then (laws_FnExactEnter.j2 kj88 t593 (bt607.2.2.2.2.2.2.2 != t554) t594 t571 t572 t573 t574 t575 t576) else (laws_FnExactEnter.j2 kj88 t593 true t594 t571 t572 t573 t574 t575 t576)))))) else (some false))) = some r := H
         have A121 := Aside0.mk A1210
         clear A1210
         have HF122 := Aside0.mk H
         clear H
         obtain ⟨_, _, _, _, _, _, _, _⟩ := ne8 NB578_531 NB531_578 NB578_532 NB532_578 NB578_555 NB555_578 NB578_565 NB565_578
         have hcz127_0 : wc.cell? ⟨gb578, 0, none⟩ = some (.slice Ao49 t568.length co49) := bc BK578 0
         have hcz127_1 : wc.cell? ⟨gb578, 1, none⟩ = some (.int .i64 t571) := bc BK578 1
         have hcz127_2 : wc.cell? ⟨gb578, 2, none⟩ = some (.int .i64 t572) := bc BK578 2
         have hcz127_3 : wc.cell? ⟨gb578, 3, none⟩ = some (.int .i64 t573) := bc BK578 3
         have hcz127_4 : wc.cell? ⟨gb578, 4, none⟩ = some (.int .i64 t574) := bc BK578 4
         have hcz127_5 : wc.cell? ⟨gb578, 5, none⟩ = some (.int .i64 t575) := bc BK578 5
         have hcz127_6 : wc.cell? ⟨gb578, 6, none⟩ = some (.int .i64 t576) := bc BK578 6
         have hfz127_0 := blk_frozen BK578.out 0
         have hfz127_1 := blk_frozen BK578.out 1
         have hfz127_2 := blk_frozen BK578.out 2
         have hfz127_3 := blk_frozen BK578.out 3
         have hfz127_4 := blk_frozen BK578.out 4
         have hfz127_5 := blk_frozen BK578.out 5
         have hfz127_6 := blk_frozen BK578.out 6
         go_upto_if 75 with (first | ((with_reducible refine gate_callee (f := 18) rfl ?_); refine gLq (some 70) Try.func18 #[.agg #[.slice Ao49 t568.length co49, .int .i64 t571, .int .i64 t572, .int .i64 t573, .int .i64 t574, .int .i64 t575, .int .i64 t576], .int .i64 1] ?_; (with_reducible refine (laws_markBook.calls kj88 (fun k_ => some k_ = (.slice Ao49 t568.length co49 : Value).ownBlock) (.slice Ao49 t568.length co49) t568 t571 t572 t573 t574 t575 t576 1 t593 t594 w _ ?side1 ?side2 A120.out).mono ?_); (case side1 => exact blq HB.out); (case side2 => exact Kd.R_tight rfl HO_579000.out); rintro e w128 ⟨rfl, hy0, hb, hkp⟩; refine ⟨_, rfl, ?_⟩; replace HO_556000 := Aside0.mk (Kd.R_mono (ok' := fun k_ => some k_ ≠ (.slice Ao38 t591.length co38 : Value).ownBlock ∧ some k_ ≠ (.slice Ao49 t568.length co49 : Value).ownBlock) (Kd.R_keptB (HO_556000.out) hkp (fun k_ hk_ hs_ => (hk_.2) hs_)) (fun k_ hk_ => ⟨hk_.1.1, hk_.1.2⟩)); replace HO_566000 := Aside0.mk (Kd.R_mono (ok' := fun k_ => some k_ ≠ (.slice Ao25 t545.length co25 : Value).ownBlock ∧ some k_ ≠ (.slice Ao49 t568.length co49 : Value).ownBlock) (Kd.R_keptB (HO_566000.out) hkp (fun k_ hk_ hs_ => (hk_.2) hs_)) (fun k_ hk_ => ⟨hk_.1.1, hk_.1.2⟩)); replace BK531 := Aside0.mk (blk_kept (bkq BK531.out) hkp (fun hs_ => (fun e_ => (Kd.R_ne HO_579000.out BK531.out (by decide)) e_) hs_)); replace BK532 := Aside0.mk (blk_kept (bkq BK532.out) hkp (fun hs_ => (fun e_ => (Kd.R_ne HO_579000.out BK532.out (by decide)) e_) hs_)); replace BK555 := Aside0.mk (blk_kept (bkq BK555.out) hkp (fun hs_ => (fun e_ => (Kd.R_ne HO_579000.out BK555.out (by decide)) e_) hs_)); replace BK565 := Aside0.mk (blk_kept (bkq BK565.out) hkp (fun hs_ => (fun e_ => (Kd.R_ne HO_579000.out BK565.out (by decide)) e_) hs_)); replace BK578 := Aside0.mk (blk_kept (bkq BK578.out) hkp (fun hs_ => (fun e_ => (Kd.R_ne HO_579000.out BK578.out (by decide)) e_) hs_)); replace HO_579000 := Aside0.mk (Kd.R_reok rfl hy0 (fun k_ e_ => HO_579000.out.1 k_ e_)); replace HB := Aside0.mk (hb); (try clear hb); (try clear hkp); (try clear hy0); have hcz129_0 : w128.cell? ⟨gb578, 0, none⟩ = some (.slice Ao49 t568.length co49) := bc BK578 0; have hcz129_1 : w128.cell? ⟨gb578, 1, none⟩ = some (.int .i64 t571) := bc BK578 1; have hcz129_2 : w128.cell? ⟨gb578, 2, none⟩ = some (.int .i64 t572) := bc BK578 2; have hcz129_3 : w128.cell? ⟨gb578, 3, none⟩ = some (.int .i64 t573) := bc BK578 3; have hcz129_4 : w128.cell? ⟨gb578, 4, none⟩ = some (.int .i64 t574) := bc BK578 4; have hcz129_5 : w128.cell? ⟨gb578, 5, none⟩ = some (.int .i64 t575) := bc BK578 5; have hcz129_6 : w128.cell? ⟨gb578, 6, none⟩ = some (.int .i64 t576) := bc BK578 6; have hfz129_0 := blk_frozen BK578.out 0; have hfz129_1 := blk_frozen BK578.out 1; have hfz129_2 := blk_frozen BK578.out 2; have hfz129_3 := blk_frozen BK578.out 3; have hfz129_4 := blk_frozen BK578.out 4; have hfz129_5 := blk_frozen BK578.out 5; have hfz129_6 := blk_frozen BK578.out 6) | ((with_reducible refine gate_callee (f := 19) rfl ?_); refine goesL_ (some 73) rfl rfl Try.func19 (by kernel_rfl) rfl #[.agg #[.slice Ao49 t594.length co49, .int .i64 t571, .int .i64 t572, .int .i64 t573, .int .i64 t574, .int .i64 t575, .int .i64 t576], .int .i64 1] rfl (by (try simp only [List.map_toArray, List.map_cons, List.map_nil]); first | done | (rw [show t594.length = t568.length from (Kd.R_reads' HO_579000.out).1.symm] <;> rfl) | rfl | (simp only [List.length_drop, List.length_take]; rfl)) ?_; (with_reducible refine (laws_heldBook.calls kj88 _ _ t594 t571 t572 t573 t574 t575 t576 1 t595 _ ?side1 ?side2 A121.out).mono ?_); (case side1 => repeat (first | exact (Kd.R_reads' HO_579000.out).2.2 | (with_reducible refine Kd.C_alloc ?_ _) | (with_reducible refine Kd.C_drewN ?_ _) | (with_reducible refine Kd.C_drew ?_))); (case side2 => rw [show t594.length = t568.length from (Kd.R_reads' HO_579000.out).1.symm]; exact (Kd.R_reads' HO_579000.out).2.1); rintro e w130 ⟨rfl, hb⟩; refine ⟨_, rfl, ?_⟩; replace HO_556000 := rob HO_556000 hb; replace HO_566000 := rob HO_566000 hb; replace HO_579000 := rob HO_579000 hb; replace BK531 := bkb BK531 hb; replace BK532 := bkb BK532 hb; replace BK555 := bkb BK555 hb; replace BK565 := bkb BK565 hb; replace BK578 := bkb BK578 hb; replace HB := hbs HB hb; (try clear hb); (try clear hb2); (try clear hk); (try clear hi)))
         have H := HF122.out
         clear HF122
         by_cases c131 : t595 < 0
         ·
          rw [if_pos c131] at H
          have c131b0 : decide (t595 < 0) = true := decide_eq_true c131
          clear c131
          (first | rw [c131b0] | (simp only [i64_w, i32_w]; rw [c131b0]) | skip)
          obtain rfl := Option.some.inj H
          go_wp2
          go_ret
          exact ⟨by first | rfl | (simp [errW_none, errW_some] <;> rfl) | (simp [*, errW_none, errW_some] <;> rfl), blq HB.out⟩
         ·
          rw [if_neg c131] at H
          have c131b0 : decide (t595 < 0) = false := decide_eq_false c131
          clear c131
          (first | rw [c131b0] | (simp only [i64_w, i32_w]; rw [c131b0]) | skip)
          by_cases c132 : t595 = t593
          ·
           rw [if_pos c132] at H
           have c132b0 : (t595 == t593) = true := beq_iff_eq.mpr c132
           have c132b1 : (t595 != t593) = false := bne_eq_false_iff_eq.mpr c132
           clear c132
           replace H := Option.bind_eq_some_iff.mp H
           obtain ⟨⟨t596, t599, t600, t601, t602, t603, t604⟩, A1330, H⟩ := H
           replace H : ((laws_toEvent.f a1_0 a1_1).bind fun bt605 => ((impl_Enter.f kj88 t596 t599 t600 t601 t602 t603 t604 bt605.1 bt605.2).bind fun bt607 => ((laws_eqBook.f kj88 bt607.1 bt607.2.1 bt607.2.2.1 bt607.2.2.2.1 bt607.2.2.2.2.1 bt607.2.2.2.2.2.1 bt607.2.2.2.2.2.2.1 t545 t548 t549 t550 t551 t552 t553).bind fun t618 => (if t618 = true then (laws_FnExactEnter.j2 kj88 t593 (bt607.2.2.2.2.2.2.2 != t554) t594 t571 t572 t573 t574 t575 t576) else (laws_FnExactEnter.j2 kj88 t593 true t594 t571 t572 t573 t574 t575 t576))))) = some r := H
           have A133 := Aside0.mk A1330
           clear A1330
           replace H := Option.bind_eq_some_iff.mp H
           obtain ⟨⟨t605, t606⟩, A1340, H⟩ := H
           replace H : ((impl_Enter.f kj88 t596 t599 t600 t601 t602 t603 t604 t605 t606).bind fun bt607 => ((laws_eqBook.f kj88 bt607.1 bt607.2.1 bt607.2.2.1 bt607.2.2.2.1 bt607.2.2.2.2.1 bt607.2.2.2.2.2.1 bt607.2.2.2.2.2.2.1 t545 t548 t549 t550 t551 t552 t553).bind fun t618 => (if t618 = true then (laws_FnExactEnter.j2 kj88 t593 (bt607.2.2.2.2.2.2.2 != t554) t594 t571 t572 t573 t574 t575 t576) else (laws_FnExactEnter.j2 kj88 t593 true t594 t571 t572 t573 t574 t575 t576)))) = some r := H
           have A134 := Aside0.mk A1340
           clear A1340
           replace H := Option.bind_eq_some_iff.mp H
           obtain ⟨⟨t607, t610, t611, t612, t613, t614, t615, t616⟩, A1350, H⟩ := H
           replace H : ((laws_eqBook.f kj88 t607 t610 t611 t612 t613 t614 t615 t545 t548 t549 t550 t551 t552 t553).bind fun t618 => (if t618 = true then (laws_FnExactEnter.j2 kj88 t593 (t616 != t554) t594 t571 t572 t573 t574 t575 t576) else (laws_FnExactEnter.j2 kj88 t593 true t594 t571 t572 t573 t574 t575 t576))) = some r := H
           have A135 := Aside0.mk A1350
           clear A1350
           have HC136 := Aside0.mk H
           clear H
           try go_wp2
           replace HO_556000 := Aside0.mk (Kd.R_drew HO_556000.out)
           replace HO_566000 := Aside0.mk (Kd.R_drew HO_566000.out)
           replace HO_579000 := Aside0.mk (Kd.R_drew HO_579000.out)
           replace BK531 := Aside0.mk (blk_drew BK531.out)
           replace BK532 := Aside0.mk (blk_drew BK532.out)
           replace BK555 := Aside0.mk (blk_drew BK555.out)
           replace BK565 := Aside0.mk (blk_drew BK565.out)
           replace BK578 := Aside0.mk (blk_drew BK578.out)
           replace HB := Aside0.mk (below_drew1 HB.out)
           refine start_ (n := 11) (S := fun w' => w'.cell? ⟨gb531, 0, none⟩ = some (.slice A0_0 l0_0.length c0_0) ∧ w'.cell? ⟨gb531, 1, none⟩ = some (.int .i64 a0_1) ∧ w'.cell? ⟨gb531, 2, none⟩ = some (.int .i64 a0_2) ∧ w'.cell? ⟨gb531, 3, none⟩ = some (.int .i64 a0_3) ∧ w'.cell? ⟨gb531, 4, none⟩ = some (.int .i64 a0_4) ∧ w'.cell? ⟨gb531, 5, none⟩ = some (.int .i64 a0_5) ∧ w'.cell? ⟨gb531, 6, none⟩ = some (.int .i64 a0_6) ∧ w'.cell? ⟨gb532, 0, none⟩ = some (.int .i64 a1_0) ∧ w'.cell? ⟨gb532, 1, none⟩ = some (.int .i64 a1_1)) (ds := []) #[false, false, false, false, false, false, false, false, false, false, false] (by kernel_rfl) rfl rfl ⟨bc BK531 0, bc BK531 1, bc BK531 2, bc BK531 3, bc BK531 4, bc BK531 5, bc BK531 6, bc BK532 0, bc BK532 1⟩ (fun hHeld => ?_); refine with_tabW laws_FnExactEnter.tab24 laws_FnExactEnter.bits24 (fun HT_ HW_ => ?_)
           generalize w130.drew = w137 at HO_556000 HO_566000 HO_579000 BK531 BK532 BK555 BK565 BK578 HB hHeld ⊢
           refine take_ (i := 0) (N := some 80) (v := ?_) (a' := ?_) #[true, false, false, false, false, false, false, false, false, false, false] rfl rfl (take_ofW HT_.out HW_.out (by kernel_rfl)) (fun _ _ _ h => h) (Or.inl ⟨by rfl, ?_⟩) hHeld ?_ ?_
           rotate_left
           ·
            rintro w' ⟨s0, s1, s2, s3, s4, s5, s6, s7, s8⟩
            go_simp
            with_reducible rfl
           rotate_left
           ·
            simp only [Act.put, List.setIfInBounds_toArray, List.set_cons_zero, List.set_cons_succ, i64_w, i32_w]
            rfl
           refine take_ (i := 2) (N := some 82) (v := ?_) (a' := ?_) #[true, false, true, false, false, false, false, false, false, false, false] rfl rfl (take_ofW HT_.out HW_.out (by kernel_rfl)) (fun _ _ _ h => h) (Or.inl ⟨by rfl, ?_⟩) hHeld ?_ ?_
           rotate_left
           ·
            rintro w' ⟨s0, s1, s2, s3, s4, s5, s6, s7, s8⟩
            go_simp
            with_reducible rfl
           rotate_left
           ·
            simp only [Act.put, List.setIfInBounds_toArray, List.set_cons_zero, List.set_cons_succ, i64_w, i32_w]
            rfl
           refine join_ (σ := Value × Value × Nat) 2 #[true, true, true, true, true, true, true, true, true, false, false] (fun s_ => [(81, .agg #[s_.1, .int .i64 t599, .int .i64 t600, .int .i64 t601, .int .i64 t602, .int .i64 t603, .int .i64 t604]), (83, .agg #[.int .i64 t605, .int .i64 t606]), (84, .tuple #[.agg #[s_.2.1, .int .i64 t610, .int .i64 t611, .int .i64 t612, .int .i64 t613, .int .i64 t614, .int .i64 t615], .bool t616]), (14, .pointer (some ⟨s_.2.2, 0, none⟩)), (79, .tuple #[.agg #[s_.2.1, .int .i64 t610, .int .i64 t611, .int .i64 t612, .int .i64 t613, .int .i64 t614, .int .i64 t615], .bool t616]), (85, .agg #[s_.2.1, .int .i64 t610, .int .i64 t611, .int .i64 t612, .int .i64 t613, .int .i64 t614, .int .i64 t615]), (86, .bool t616)]) (fun s_ w' => (w'.cell? ⟨gb531, 0, none⟩ = some (.slice A0_0 l0_0.length c0_0) ∧ w'.cell? ⟨gb531, 1, none⟩ = some (.int .i64 a0_1) ∧ w'.cell? ⟨gb531, 2, none⟩ = some (.int .i64 a0_2) ∧ w'.cell? ⟨gb531, 3, none⟩ = some (.int .i64 a0_3) ∧ w'.cell? ⟨gb531, 4, none⟩ = some (.int .i64 a0_4) ∧ w'.cell? ⟨gb531, 5, none⟩ = some (.int .i64 a0_5) ∧ w'.cell? ⟨gb531, 6, none⟩ = some (.int .i64 a0_6) ∧ w'.cell? ⟨gb532, 0, none⟩ = some (.int .i64 a1_0) ∧ w'.cell? ⟨gb532, 1, none⟩ = some (.int .i64 a1_1)) ∧ (Kd.R k41 41 w' w.heap.size (fun k_ => some k_ ≠ (s_.2.1 : Value).ownBlock ∧ some k_ ≠ (.slice Ao25 t545.length co25 : Value).ownBlock ∧ some k_ ≠ (.slice Ao38 t591.length co38 : Value).ownBlock ∧ some k_ ≠ (.slice Ao49 t568.length co49 : Value).ownBlock) s_.1 t596) ∧ (Kd.R k41 41 w' w.heap.size (fun k_ => some k_ ≠ (s_.1 : Value).ownBlock ∧ some k_ ≠ (.slice Ao25 t545.length co25 : Value).ownBlock ∧ some k_ ≠ (.slice Ao38 t591.length co38 : Value).ownBlock ∧ some k_ ≠ (.slice Ao49 t568.length co49 : Value).ownBlock) s_.2.1 t607) ∧ (Kd.R k41 41 w' w.heap.size (fun k_ => some k_ ≠ (s_.1 : Value).ownBlock ∧ some k_ ≠ (s_.2.1 : Value).ownBlock ∧ some k_ ≠ (.slice Ao38 t591.length co38 : Value).ownBlock ∧ some k_ ≠ (.slice Ao49 t568.length co49 : Value).ownBlock) (.slice Ao25 t545.length co25) t545) ∧ (Kd.R k41 41 w' w.heap.size (fun k_ => some k_ ≠ (s_.1 : Value).ownBlock ∧ some k_ ≠ (s_.2.1 : Value).ownBlock ∧ some k_ ≠ (.slice Ao25 t545.length co25 : Value).ownBlock ∧ some k_ ≠ (.slice Ao49 t568.length co49 : Value).ownBlock) (.slice Ao38 t591.length co38) t591) ∧ (Kd.R k41 41 w' w.heap.size (fun k_ => some k_ ≠ (s_.1 : Value).ownBlock ∧ some k_ ≠ (s_.2.1 : Value).ownBlock ∧ some k_ ≠ (.slice Ao25 t545.length co25 : Value).ownBlock ∧ some k_ ≠ (.slice Ao38 t591.length co38 : Value).ownBlock) (.slice Ao49 t568.length co49) t594) ∧ (w'.heap[gb531]? = some (.cells #[.slice A0_0 l0_0.length c0_0, .int .i64 a0_1, .int .i64 a0_2, .int .i64 a0_3, .int .i64 a0_4, .int .i64 a0_5, .int .i64 a0_6] 26 (0, 0))) ∧ (w'.heap[gb532]? = some (.cells #[.int .i64 a1_0, .int .i64 a1_1] 39 (0, 0))) ∧ (w'.heap[gb555]? = some (.cells #[.slice Ao25 t545.length co25, .int .i64 t548, .int .i64 t549, .int .i64 t550, .int .i64 t551, .int .i64 t552, .int .i64 t553] 31 (0, 0))) ∧ (w'.heap[gb565]? = some (.cells #[.slice Ao38 t591.length co38, .int .i64 t559, .int .i64 t560, .int .i64 t561, .int .i64 t562, .int .i64 t563, .int .i64 t564] 31 (0, 0))) ∧ (w'.heap[gb578]? = some (.cells #[.slice Ao49 t568.length co49, .int .i64 t571, .int .i64 t572, .int .i64 t573, .int .i64 t574, .int .i64 t575, .int .i64 t576] 31 (0, 0))) ∧ (w'.heap[s_.2.2]? = some (.cells #[.slice none 0 0, .int .i64 0, .int .i64 0, .int .i64 0, .int .i64 0, .int .i64 0, .int .i64 0] 31 (0, 0))) ∧ (w.heap.size ≤ s_.2.2) ∧ (w.heap.size ≤ s_.2.2) ∧ (gb531 ≠ s_.2.2) ∧ (s_.2.2 ≠ gb531) ∧ (gb532 ≠ s_.2.2) ∧ (s_.2.2 ≠ gb532) ∧ (gb555 ≠ s_.2.2) ∧ (s_.2.2 ≠ gb555) ∧ (gb565 ≠ s_.2.2) ∧ (s_.2.2 ≠ gb565) ∧ (gb578 ≠ s_.2.2) ∧ (s_.2.2 ≠ gb578) ∧ (Below w.heap.size w w')) ?_ ?_
           rotate_left
           ·
            intro hCont
            refine two_ (i := 1) (j := 8) (Ni := some 81) (Nj := some 14) #[true, true, true, false, false, false, false, false, false, false, false] #[true, false, true, false, false, false, false, false, true, false, false] rfl rfl rfl rfl (two_of HT_.out (by kernel_rfl)) (by decide) (by decide) (fun K hK => ?_) (fun K hK => ?_)
            ·
             skip
             refine goes_ Try.func15 (by kernel_rfl) rfl #[.agg #[.slice A0_0 l0_0.length c0_0, .int .i64 a0_1, .int .i64 a0_2, .int .i64 a0_3, .int .i64 a0_4, .int .i64 a0_5, .int .i64 a0_6]] (by rfl) rfl rfl (by (try simp only [List.map_toArray, List.map_cons, List.map_nil]); first | done | rfl | (simp only [List.length_drop, List.length_take]; rfl)) ?_
             with_reducible refine (laws_toBook.calls kj88 _ _ l0_0 a0_1 a0_2 a0_3 a0_4 a0_5 a0_6 t596 t599 t600 t601 t602 t603 t604 _ ?side1 ?side2 A133.out).mono ?_
             (case side1 => exact Kd.Cq (Kd.C_below HR0_0.out HB.out))
             (case side2 => exact HC0_0.out)
             rintro e w138 ⟨v597, rfl, ho0, hb⟩
             refine ⟨_, rfl, ?_⟩
             have HO598 := Aside0.mk (Kd.R_lower (Kd.R_new' (Kd.R_new' (Kd.R_new' ho0 (Kd.R_lt (Kd.Rq HO_556000.out))) (Kd.R_lt (Kd.Rq HO_566000.out))) (Kd.R_lt (Kd.Rq HO_579000.out))) (below_size (blq HB.out)))
             replace HO_556000 := Aside0.mk (Kd.R_elder' (Kd.Rq HO_556000.out) (Kd.R_base ho0) hb)
             replace HO_566000 := Aside0.mk (Kd.R_elder' (Kd.Rq HO_566000.out) (Kd.R_base ho0) hb)
             replace HO_579000 := Aside0.mk (Kd.R_elder' (Kd.Rq HO_579000.out) (Kd.R_base ho0) hb)
             replace BK531 := bkb BK531 hb
             replace BK532 := bkb BK532 hb
             replace BK555 := bkb BK555 hb
             replace BK565 := bkb BK565 hb
             replace BK578 := bkb BK578 hb
             replace HB := hbs HB hb
             (try clear hb)
             (try clear hb2)
             (try clear hk)
             (try clear hi)
             (try clear ho0)
             refine hK.out _ _ ⟨bc BK531 0, bc BK531 1, bc BK531 2, bc BK531 3, bc BK531 4, bc BK531 5, bc BK531 6, bc BK532 0, bc BK532 1⟩ (fun hHeld => ?_)
             clear hK K
             refine norm_ (a' := ?_) ?_ ?_
             rotate_left
             ·
              show Act.put _ (some 81) _ = _
              simp only [Act.put, List.setIfInBounds_toArray, List.set_cons_zero, List.set_cons_succ, i64_w, i32_w]
              rfl
             refine two_ (i := 3) (j := 8) (Ni := some 83) (Nj := some 14) #[true, true, true, true, false, false, false, false, false, false, false] #[true, true, true, false, false, false, false, false, true, false, false] rfl rfl rfl rfl (two_of HT_.out (by kernel_rfl)) (by decide) (by decide) (fun K hK => ?_) (fun K hK => ?_)
             ·
              skip
              refine goes_ Try.func21 (by kernel_rfl) rfl #[.agg #[.int .i64 a1_0, .int .i64 a1_1]] (by rfl) rfl rfl (by (try simp only [List.map_toArray, List.map_cons, List.map_nil]); first | done | rfl | (simp only [List.length_drop, List.length_take]; rfl)) ?_
              with_reducible refine (laws_toEvent.calls a1_0 a1_1 t605 t606 _ A134.out).mono ?_
              rintro e w139 ⟨rfl, hb⟩
              refine ⟨_, rfl, ?_⟩
              replace HO_556000 := rob HO_556000 hb
              replace HO_566000 := rob HO_566000 hb
              replace HO_579000 := rob HO_579000 hb
              replace HO598 := rob HO598 hb
              replace BK531 := bkb BK531 hb
              replace BK532 := bkb BK532 hb
              replace BK555 := bkb BK555 hb
              replace BK565 := bkb BK565 hb
              replace BK578 := bkb BK578 hb
              replace HB := hbs HB hb
              (try clear hb)
              (try clear hb2)
              (try clear hk)
              (try clear hi)
              obtain ⟨Ao140, co140, eo140⟩ := Kd.R_slice HO598.out
              (first | subst eo140 | (injection eo140 with f1_ f2_ f3_; have f4_ := f1_.symm; have f5_ := f3_.symm; clear f1_ f2_ f3_; subst f4_; subst f5_))
              refine hK.out _ _ ⟨bc BK531 0, bc BK531 1, bc BK531 2, bc BK531 3, bc BK531 4, bc BK531 5, bc BK531 6, bc BK532 0, bc BK532 1⟩ (fun hHeld => ?_)
              clear hK K
              refine norm_ (a' := ?_) ?_ ?_
              rotate_left
              ·
               show Act.put _ (some 83) _ = _
               simp only [Act.put, List.setIfInBounds_toArray, List.set_cons_zero, List.set_cons_succ, i64_w, i32_w]
               rfl
              refine two_ (i := 4) (j := 8) (Ni := some 84) (Nj := some 14) #[true, true, true, true, true, false, false, false, false, false, false] #[true, true, true, true, false, false, false, false, true, false, false] rfl rfl rfl rfl (two_of HT_.out (by kernel_rfl)) (by decide) (by decide) (fun K hK => ?_) (fun K hK => ?_)
              ·
               skip
               refine goes_ Try.func22 (by kernel_rfl) rfl #[.agg #[.slice Ao140 t596.length co140, .int .i64 t599, .int .i64 t600, .int .i64 t601, .int .i64 t602, .int .i64 t603, .int .i64 t604], .agg #[.int .i64 t605, .int .i64 t606]] (by rfl) rfl rfl (by (try simp only [List.map_toArray, List.map_cons, List.map_nil]); first | done | rfl | (simp only [List.length_drop, List.length_take]; rfl)) ?_
               with_reducible refine (impl_Enter.calls kj88 _ _ t596 t599 t600 t601 t602 t603 t604 t605 t606 t607 t610 t611 t612 t613 t614 t615 t616 _ ?side1 ?side2 A135.out).mono ?_
               (case side1 => repeat (first | exact (Kd.R_reads' HO598.out).2.2 | (with_reducible refine Kd.C_alloc ?_ _) | (with_reducible refine Kd.C_drewN ?_ _) | (with_reducible refine Kd.C_drew ?_)))
               (case side2 => exact (Kd.R_reads' HO598.out).2.1)
               rintro e w141 ⟨v608, rfl, ho0, hb⟩
               refine ⟨_, rfl, ?_⟩
               have HO609 := Aside0.mk (Kd.R_lower (Kd.R_new' (Kd.R_new' (Kd.R_new' (Kd.R_new' ho0 (Kd.R_lt (Kd.Rq HO_556000.out))) (Kd.R_lt (Kd.Rq HO_566000.out))) (Kd.R_lt (Kd.Rq HO_579000.out))) (Kd.R_lt (Kd.Rq HO598.out))) (below_size (blq HB.out)))
               replace HO_556000 := Aside0.mk (Kd.R_elder' (Kd.Rq HO_556000.out) (Kd.R_base ho0) hb)
               replace HO_566000 := Aside0.mk (Kd.R_elder' (Kd.Rq HO_566000.out) (Kd.R_base ho0) hb)
               replace HO_579000 := Aside0.mk (Kd.R_elder' (Kd.Rq HO_579000.out) (Kd.R_base ho0) hb)
               replace HO598 := Aside0.mk (Kd.R_elder' (Kd.Rq HO598.out) (Kd.R_base ho0) hb)
               replace BK531 := bkb BK531 hb
               replace BK532 := bkb BK532 hb
               replace BK555 := bkb BK555 hb
               replace BK565 := bkb BK565 hb
               replace BK578 := bkb BK578 hb
               replace HB := hbs HB hb
               (try clear hb)
               (try clear hb2)
               (try clear hk)
               (try clear hi)
               (try clear ho0)
               refine hK.out _ _ ⟨bc BK531 0, bc BK531 1, bc BK531 2, bc BK531 3, bc BK531 4, bc BK531 5, bc BK531 6, bc BK532 0, bc BK532 1⟩ (fun hHeld => ?_)
               clear hK K
               refine norm_ (a' := ?_) ?_ ?_
               rotate_left
               ·
                show Act.put _ (some 84) _ = _
                simp only [Act.put, List.setIfInBounds_toArray, List.set_cons_zero, List.set_cons_succ, i64_w, i32_w]
                rfl
               refine pure_ (i := 5) (N := some 79) (v := ?_) (a' := ?_) #[true, true, true, true, true, true, false, false, false, false, false] rfl rfl (any_of HT_.out (by kernel_rfl)) (fun _ _ _ h => h) (Or.inl ⟨by rfl, ?_⟩) ?_ ?_
               rotate_left
               ·
                intro w'
                go_simp
                with_reducible rfl
               rotate_left
               ·
                simp only [Act.put, List.setIfInBounds_toArray, List.set_cons_zero, List.set_cons_succ, i64_w, i32_w]
                rfl
               refine pure_ (i := 6) (N := some 85) (v := ?_) (a' := ?_) #[true, true, true, true, true, true, true, false, false, false, false] rfl rfl (any_of HT_.out (by kernel_rfl)) (fun _ _ _ h => h) (Or.inl ⟨by rfl, ?_⟩) ?_ ?_
               rotate_left
               ·
                intro w'
                go_simp
                with_reducible rfl
               rotate_left
               ·
                simp only [Act.put, List.setIfInBounds_toArray, List.set_cons_zero, List.set_cons_succ, i64_w, i32_w]
                rfl
               refine pure_ (i := 7) (N := some 86) (v := ?_) (a' := ?_) #[true, true, true, true, true, true, true, true, false, false, false] rfl rfl (any_of HT_.out (by kernel_rfl)) (fun _ _ _ h => h) (Or.inl ⟨by rfl, ?_⟩) ?_ ?_
               rotate_left
               ·
                intro w'
                go_simp
                with_reducible rfl
               rotate_left
               ·
                simp only [Act.put, List.setIfInBounds_toArray, List.set_cons_zero, List.set_cons_succ, i64_w, i32_w]
                rfl
               refine one_ (i := 8) (N := some 14) #[true, true, true, true, true, true, true, true, true, false, false] rfl rfl (one_of HT_.out (by kernel_rfl)) (by decide) (fun K hK => ?_)
               refine box_step ?hg (N := 14) ?hd (cs := #[.slice none 0 0, .int .i64 0, .int .i64 0, .int .i64 0, .int .i64 0, .int .i64 0, .int .i64 0]) (t := 31) ?hr ?_; (case hd => rfl); (case hg => rfl); (case hr => first | (go_simp; done) | (go_simp; rfl))
               intro gb617 hg w142 hbox hb
               have BK617 := Aside0.mk (hbox)
               have GW617 := sQ hg HB
               have GE617 := sQ hg HB
               have NB531_617 := qL hg BK531
               have NB617_531 := qG hg BK531
               have NB532_617 := qL hg BK532
               have NB617_532 := qG hg BK532
               have NB555_617 := qL hg BK555
               have NB617_555 := qG hg BK555
               have NB565_617 := qL hg BK565
               have NB617_565 := qG hg BK565
               have NB578_617 := qL hg BK578
               have NB617_578 := qG hg BK578
               replace HO_556000 := rob HO_556000 hb
               replace HO_566000 := rob HO_566000 hb
               replace HO_579000 := rob HO_579000 hb
               replace HO598 := rob HO598 hb
               replace HO609 := rob HO609 hb
               replace BK531 := bkb BK531 hb
               replace BK532 := bkb BK532 hb
               replace BK555 := bkb BK555 hb
               replace BK565 := bkb BK565 hb
               replace BK578 := bkb BK578 hb
               replace HB := hbs HB hb
               clear hb hbox hg
               refine hK.out _ _ ⟨bc BK531 0, bc BK531 1, bc BK531 2, bc BK531 3, bc BK531 4, bc BK531 5, bc BK531 6, bc BK532 0, bc BK532 1⟩ (fun hHeld => ?_)
               clear hK K
               refine norm_ (a' := ?_) ?_ ?_
               rotate_left
               ·
                show Act.put _ (some 14) _ = _
                simp only [Act.put, List.setIfInBounds_toArray, List.set_cons_zero, List.set_cons_succ, i64_w, i32_w]
                rfl
               exact norm_ (by simp only [putAll, Act.put, List.setIfInBounds_toArray, List.set_cons_zero, List.set_cons_succ]) (hCont (.slice Ao140 t596.length co140, v608, gb617) _ ⟨hHeld, (Kd.Rq (Kd.R_mono HO598.out (fun _ hk => ⟨hk.2, ⟨hk.1.1.1.2, ⟨hk.1.1.2, hk.1.2⟩⟩⟩))), (Kd.Rq (Kd.R_mono HO609.out (fun _ hk => ⟨hk.2, ⟨hk.1.1.1.2, ⟨hk.1.1.2, hk.1.2⟩⟩⟩))), (Kd.Rq (Kd.R_mono HO_556000.out (fun _ hk => ⟨hk.1.2, ⟨hk.2, ⟨hk.1.1.1, hk.1.1.2⟩⟩⟩))), (Kd.Rq (Kd.R_mono HO_566000.out (fun _ hk => ⟨hk.1.2, ⟨hk.2, ⟨hk.1.1.1, hk.1.1.2⟩⟩⟩))), (Kd.Rq (Kd.R_mono HO_579000.out (fun _ hk => ⟨hk.1.2, ⟨hk.2, ⟨hk.1.1.1, hk.1.1.2⟩⟩⟩))), (bkq BK531.out), (bkq BK532.out), (bkq BK555.out), (bkq BK565.out), (bkq BK578.out), (bkq BK617.out), GW617.out, GE617.out, NB531_617.out, NB617_531.out, NB532_617.out, NB617_532.out, NB555_617.out, NB617_555.out, NB565_617.out, NB617_565.out, NB578_617.out, NB617_578.out, (blq HB.out)⟩)
              ·
               skip
               refine box_step ?hg (N := 14) ?hd (cs := #[.slice none 0 0, .int .i64 0, .int .i64 0, .int .i64 0, .int .i64 0, .int .i64 0, .int .i64 0]) (t := 31) ?hr ?_; (case hd => rfl); (case hg => rfl); (case hr => first | (go_simp; done) | (go_simp; rfl))
               intro gb617 hg w140 hbox hb
               have BK617 := Aside0.mk (hbox)
               have GW617 := sQ hg HB
               have GE617 := sQ hg HB
               have NB531_617 := qL hg BK531
               have NB617_531 := qG hg BK531
               have NB532_617 := qL hg BK532
               have NB617_532 := qG hg BK532
               have NB555_617 := qL hg BK555
               have NB617_555 := qG hg BK555
               have NB565_617 := qL hg BK565
               have NB617_565 := qG hg BK565
               have NB578_617 := qL hg BK578
               have NB617_578 := qG hg BK578
               replace HO_556000 := rob HO_556000 hb
               replace HO_566000 := rob HO_566000 hb
               replace HO_579000 := rob HO_579000 hb
               replace HO598 := rob HO598 hb
               replace BK531 := bkb BK531 hb
               replace BK532 := bkb BK532 hb
               replace BK555 := bkb BK555 hb
               replace BK565 := bkb BK565 hb
               replace BK578 := bkb BK578 hb
               replace HB := hbs HB hb
               clear hb hbox hg
               obtain ⟨Ao141, co141, eo141⟩ := Kd.R_slice HO598.out
               (first | subst eo141 | (injection eo141 with f1_ f2_ f3_; have f4_ := f1_.symm; have f5_ := f3_.symm; clear f1_ f2_ f3_; subst f4_; subst f5_))
               refine hK.out _ _ ⟨bc BK531 0, bc BK531 1, bc BK531 2, bc BK531 3, bc BK531 4, bc BK531 5, bc BK531 6, bc BK532 0, bc BK532 1⟩ (fun hHeld => ?_)
               clear hK K
               refine norm_ (a' := ?_) ?_ ?_
               rotate_left
               ·
                show Act.put _ (some 14) _ = _
                simp only [Act.put, List.setIfInBounds_toArray, List.set_cons_zero, List.set_cons_succ, i64_w, i32_w]
                rfl
               refine one_ (i := 4) (N := some 84) #[true, true, true, true, true, false, false, false, true, false, false] rfl rfl (one_of HT_.out (by kernel_rfl)) (by decide) (fun K hK => ?_)
               refine goes_ Try.func22 (by kernel_rfl) rfl #[.agg #[.slice Ao141 t596.length co141, .int .i64 t599, .int .i64 t600, .int .i64 t601, .int .i64 t602, .int .i64 t603, .int .i64 t604], .agg #[.int .i64 t605, .int .i64 t606]] (by rfl) rfl rfl (by (try simp only [List.map_toArray, List.map_cons, List.map_nil]); first | done | rfl | (simp only [List.length_drop, List.length_take]; rfl)) ?_
               with_reducible refine (impl_Enter.calls kj88 _ _ t596 t599 t600 t601 t602 t603 t604 t605 t606 t607 t610 t611 t612 t613 t614 t615 t616 _ ?side1 ?side2 A135.out).mono ?_
               (case side1 => repeat (first | exact (Kd.R_reads' HO598.out).2.2 | (with_reducible refine Kd.C_alloc ?_ _) | (with_reducible refine Kd.C_drewN ?_ _) | (with_reducible refine Kd.C_drew ?_)))
               (case side2 => exact (Kd.R_reads' HO598.out).2.1)
               rintro e w142 ⟨v608, rfl, ho0, hb⟩
               refine ⟨_, rfl, ?_⟩
               have HO609 := Aside0.mk (Kd.R_lower (Kd.R_new' (Kd.R_new' (Kd.R_new' (Kd.R_new' ho0 (Kd.R_lt (Kd.Rq HO_556000.out))) (Kd.R_lt (Kd.Rq HO_566000.out))) (Kd.R_lt (Kd.Rq HO_579000.out))) (Kd.R_lt (Kd.Rq HO598.out))) (below_size (blq HB.out)))
               replace HO_556000 := Aside0.mk (Kd.R_elder' (Kd.Rq HO_556000.out) (Kd.R_base ho0) hb)
               replace HO_566000 := Aside0.mk (Kd.R_elder' (Kd.Rq HO_566000.out) (Kd.R_base ho0) hb)
               replace HO_579000 := Aside0.mk (Kd.R_elder' (Kd.Rq HO_579000.out) (Kd.R_base ho0) hb)
               replace HO598 := Aside0.mk (Kd.R_elder' (Kd.Rq HO598.out) (Kd.R_base ho0) hb)
               replace BK531 := bkb BK531 hb
               replace BK532 := bkb BK532 hb
               replace BK555 := bkb BK555 hb
               replace BK565 := bkb BK565 hb
               replace BK578 := bkb BK578 hb
               replace BK617 := bkb BK617 hb
               replace HB := hbs HB hb
               (try clear hb)
               (try clear hb2)
               (try clear hk)
               (try clear hi)
               (try clear ho0)
               refine hK.out _ _ ⟨bc BK531 0, bc BK531 1, bc BK531 2, bc BK531 3, bc BK531 4, bc BK531 5, bc BK531 6, bc BK532 0, bc BK532 1⟩ (fun hHeld => ?_)
               clear hK K
               refine norm_ (a' := ?_) ?_ ?_
               rotate_left
               ·
                show Act.put _ (some 84) _ = _
                simp only [Act.put, List.setIfInBounds_toArray, List.set_cons_zero, List.set_cons_succ, i64_w, i32_w]
                rfl
               refine pure_ (i := 5) (N := some 79) (v := ?_) (a' := ?_) #[true, true, true, true, true, true, false, false, true, false, false] rfl rfl (any_of HT_.out (by kernel_rfl)) (fun _ _ _ h => h) (Or.inl ⟨by rfl, ?_⟩) ?_ ?_
               rotate_left
               ·
                intro w'
                go_simp
                with_reducible rfl
               rotate_left
               ·
                simp only [Act.put, List.setIfInBounds_toArray, List.set_cons_zero, List.set_cons_succ, i64_w, i32_w]
                rfl
               refine pure_ (i := 6) (N := some 85) (v := ?_) (a' := ?_) #[true, true, true, true, true, true, true, false, true, false, false] rfl rfl (any_of HT_.out (by kernel_rfl)) (fun _ _ _ h => h) (Or.inl ⟨by rfl, ?_⟩) ?_ ?_
               rotate_left
               ·
                intro w'
                go_simp
                with_reducible rfl
               rotate_left
               ·
                simp only [Act.put, List.setIfInBounds_toArray, List.set_cons_zero, List.set_cons_succ, i64_w, i32_w]
                rfl
               refine pure_ (i := 7) (N := some 86) (v := ?_) (a' := ?_) #[true, true, true, true, true, true, true, true, true, false, false] rfl rfl (any_of HT_.out (by kernel_rfl)) (fun _ _ _ h => h) (Or.inl ⟨by rfl, ?_⟩) ?_ ?_
               rotate_left
               ·
                intro w'
                go_simp
                with_reducible rfl
               rotate_left
               ·
                simp only [Act.put, List.setIfInBounds_toArray, List.set_cons_zero, List.set_cons_succ, i64_w, i32_w]
                rfl
               exact norm_ (by simp only [putAll, Act.put, List.setIfInBounds_toArray, List.set_cons_zero, List.set_cons_succ]) (hCont (.slice Ao141 t596.length co141, v608, gb617) _ ⟨hHeld, (Kd.Rq (Kd.R_mono HO598.out (fun _ hk => ⟨hk.2, ⟨hk.1.1.1.2, ⟨hk.1.1.2, hk.1.2⟩⟩⟩))), (Kd.Rq (Kd.R_mono HO609.out (fun _ hk => ⟨hk.2, ⟨hk.1.1.1.2, ⟨hk.1.1.2, hk.1.2⟩⟩⟩))), (Kd.Rq (Kd.R_mono HO_556000.out (fun _ hk => ⟨hk.1.2, ⟨hk.2, ⟨hk.1.1.1, hk.1.1.2⟩⟩⟩))), (Kd.Rq (Kd.R_mono HO_566000.out (fun _ hk => ⟨hk.1.2, ⟨hk.2, ⟨hk.1.1.1, hk.1.1.2⟩⟩⟩))), (Kd.Rq (Kd.R_mono HO_579000.out (fun _ hk => ⟨hk.1.2, ⟨hk.2, ⟨hk.1.1.1, hk.1.1.2⟩⟩⟩))), (bkq BK531.out), (bkq BK532.out), (bkq BK555.out), (bkq BK565.out), (bkq BK578.out), (bkq BK617.out), GW617.out, GE617.out, NB531_617.out, NB617_531.out, NB532_617.out, NB617_532.out, NB555_617.out, NB617_555.out, NB565_617.out, NB617_565.out, NB578_617.out, NB617_578.out, (blq HB.out)⟩)
             ·
              skip
              refine box_step ?hg (N := 14) ?hd (cs := #[.slice none 0 0, .int .i64 0, .int .i64 0, .int .i64 0, .int .i64 0, .int .i64 0, .int .i64 0]) (t := 31) ?hr ?_; (case hd => rfl); (case hg => rfl); (case hr => first | (go_simp; done) | (go_simp; rfl))
              intro gb617 hg w139 hbox hb
              have BK617 := Aside0.mk (hbox)
              have GW617 := sQ hg HB
              have GE617 := sQ hg HB
              have NB531_617 := qL hg BK531
              have NB617_531 := qG hg BK531
              have NB532_617 := qL hg BK532
              have NB617_532 := qG hg BK532
              have NB555_617 := qL hg BK555
              have NB617_555 := qG hg BK555
              have NB565_617 := qL hg BK565
              have NB617_565 := qG hg BK565
              have NB578_617 := qL hg BK578
              have NB617_578 := qG hg BK578
              replace HO_556000 := rob HO_556000 hb
              replace HO_566000 := rob HO_566000 hb
              replace HO_579000 := rob HO_579000 hb
              replace HO598 := rob HO598 hb
              replace BK531 := bkb BK531 hb
              replace BK532 := bkb BK532 hb
              replace BK555 := bkb BK555 hb
              replace BK565 := bkb BK565 hb
              replace BK578 := bkb BK578 hb
              replace HB := hbs HB hb
              clear hb hbox hg
              refine hK.out _ _ ⟨bc BK531 0, bc BK531 1, bc BK531 2, bc BK531 3, bc BK531 4, bc BK531 5, bc BK531 6, bc BK532 0, bc BK532 1⟩ (fun hHeld => ?_)
              clear hK K
              refine norm_ (a' := ?_) ?_ ?_
              rotate_left
              ·
               show Act.put _ (some 14) _ = _
               simp only [Act.put, List.setIfInBounds_toArray, List.set_cons_zero, List.set_cons_succ, i64_w, i32_w]
               rfl
              refine one_ (i := 3) (N := some 83) #[true, true, true, true, false, false, false, false, true, false, false] rfl rfl (one_of HT_.out (by kernel_rfl)) (by decide) (fun K hK => ?_)
              refine goes_ Try.func21 (by kernel_rfl) rfl #[.agg #[.int .i64 a1_0, .int .i64 a1_1]] (by rfl) rfl rfl (by (try simp only [List.map_toArray, List.map_cons, List.map_nil]); first | done | rfl | (simp only [List.length_drop, List.length_take]; rfl)) ?_
              with_reducible refine (laws_toEvent.calls a1_0 a1_1 t605 t606 _ A134.out).mono ?_
              rintro e w140 ⟨rfl, hb⟩
              refine ⟨_, rfl, ?_⟩
              replace HO_556000 := rob HO_556000 hb
              replace HO_566000 := rob HO_566000 hb
              replace HO_579000 := rob HO_579000 hb
              replace HO598 := rob HO598 hb
              replace BK531 := bkb BK531 hb
              replace BK532 := bkb BK532 hb
              replace BK555 := bkb BK555 hb
              replace BK565 := bkb BK565 hb
              replace BK578 := bkb BK578 hb
              replace BK617 := bkb BK617 hb
              replace HB := hbs HB hb
              (try clear hb)
              (try clear hb2)
              (try clear hk)
              (try clear hi)
              obtain ⟨Ao141, co141, eo141⟩ := Kd.R_slice HO598.out
              (first | subst eo141 | (injection eo141 with f1_ f2_ f3_; have f4_ := f1_.symm; have f5_ := f3_.symm; clear f1_ f2_ f3_; subst f4_; subst f5_))
              refine hK.out _ _ ⟨bc BK531 0, bc BK531 1, bc BK531 2, bc BK531 3, bc BK531 4, bc BK531 5, bc BK531 6, bc BK532 0, bc BK532 1⟩ (fun hHeld => ?_)
              clear hK K
              refine norm_ (a' := ?_) ?_ ?_
              rotate_left
              ·
               show Act.put _ (some 83) _ = _
               simp only [Act.put, List.setIfInBounds_toArray, List.set_cons_zero, List.set_cons_succ, i64_w, i32_w]
               rfl
              refine one_ (i := 4) (N := some 84) #[true, true, true, true, true, false, false, false, true, false, false] rfl rfl (one_of HT_.out (by kernel_rfl)) (by decide) (fun K hK => ?_)
              refine goes_ Try.func22 (by kernel_rfl) rfl #[.agg #[.slice Ao141 t596.length co141, .int .i64 t599, .int .i64 t600, .int .i64 t601, .int .i64 t602, .int .i64 t603, .int .i64 t604], .agg #[.int .i64 t605, .int .i64 t606]] (by rfl) rfl rfl (by (try simp only [List.map_toArray, List.map_cons, List.map_nil]); first | done | rfl | (simp only [List.length_drop, List.length_take]; rfl)) ?_
              with_reducible refine (impl_Enter.calls kj88 _ _ t596 t599 t600 t601 t602 t603 t604 t605 t606 t607 t610 t611 t612 t613 t614 t615 t616 _ ?side1 ?side2 A135.out).mono ?_
              (case side1 => repeat (first | exact (Kd.R_reads' HO598.out).2.2 | (with_reducible refine Kd.C_alloc ?_ _) | (with_reducible refine Kd.C_drewN ?_ _) | (with_reducible refine Kd.C_drew ?_)))
              (case side2 => exact (Kd.R_reads' HO598.out).2.1)
              rintro e w142 ⟨v608, rfl, ho0, hb⟩
              refine ⟨_, rfl, ?_⟩
              have HO609 := Aside0.mk (Kd.R_lower (Kd.R_new' (Kd.R_new' (Kd.R_new' (Kd.R_new' ho0 (Kd.R_lt (Kd.Rq HO_556000.out))) (Kd.R_lt (Kd.Rq HO_566000.out))) (Kd.R_lt (Kd.Rq HO_579000.out))) (Kd.R_lt (Kd.Rq HO598.out))) (below_size (blq HB.out)))
              replace HO_556000 := Aside0.mk (Kd.R_elder' (Kd.Rq HO_556000.out) (Kd.R_base ho0) hb)
              replace HO_566000 := Aside0.mk (Kd.R_elder' (Kd.Rq HO_566000.out) (Kd.R_base ho0) hb)
              replace HO_579000 := Aside0.mk (Kd.R_elder' (Kd.Rq HO_579000.out) (Kd.R_base ho0) hb)
              replace HO598 := Aside0.mk (Kd.R_elder' (Kd.Rq HO598.out) (Kd.R_base ho0) hb)
              replace BK531 := bkb BK531 hb
              replace BK532 := bkb BK532 hb
              replace BK555 := bkb BK555 hb
              replace BK565 := bkb BK565 hb
              replace BK578 := bkb BK578 hb
              replace BK617 := bkb BK617 hb
              replace HB := hbs HB hb
              (try clear hb)
              (try clear hb2)
              (try clear hk)
              (try clear hi)
              (try clear ho0)
              refine hK.out _ _ ⟨bc BK531 0, bc BK531 1, bc BK531 2, bc BK531 3, bc BK531 4, bc BK531 5, bc BK531 6, bc BK532 0, bc BK532 1⟩ (fun hHeld => ?_)
              clear hK K
              refine norm_ (a' := ?_) ?_ ?_
              rotate_left
              ·
               show Act.put _ (some 84) _ = _
               simp only [Act.put, List.setIfInBounds_toArray, List.set_cons_zero, List.set_cons_succ, i64_w, i32_w]
               rfl
              refine pure_ (i := 5) (N := some 79) (v := ?_) (a' := ?_) #[true, true, true, true, true, true, false, false, true, false, false] rfl rfl (any_of HT_.out (by kernel_rfl)) (fun _ _ _ h => h) (Or.inl ⟨by rfl, ?_⟩) ?_ ?_
              rotate_left
              ·
               intro w'
               go_simp
               with_reducible rfl
              rotate_left
              ·
               simp only [Act.put, List.setIfInBounds_toArray, List.set_cons_zero, List.set_cons_succ, i64_w, i32_w]
               rfl
              refine pure_ (i := 6) (N := some 85) (v := ?_) (a' := ?_) #[true, true, true, true, true, true, true, false, true, false, false] rfl rfl (any_of HT_.out (by kernel_rfl)) (fun _ _ _ h => h) (Or.inl ⟨by rfl, ?_⟩) ?_ ?_
              rotate_left
              ·
               intro w'
               go_simp
               with_reducible rfl
              rotate_left
              ·
               simp only [Act.put, List.setIfInBounds_toArray, List.set_cons_zero, List.set_cons_succ, i64_w, i32_w]
               rfl
              refine pure_ (i := 7) (N := some 86) (v := ?_) (a' := ?_) #[true, true, true, true, true, true, true, true, true, false, false] rfl rfl (any_of HT_.out (by kernel_rfl)) (fun _ _ _ h => h) (Or.inl ⟨by rfl, ?_⟩) ?_ ?_
              rotate_left
              ·
               intro w'
               go_simp
               with_reducible rfl
              rotate_left
              ·
               simp only [Act.put, List.setIfInBounds_toArray, List.set_cons_zero, List.set_cons_succ, i64_w, i32_w]
               rfl
              exact norm_ (by simp only [putAll, Act.put, List.setIfInBounds_toArray, List.set_cons_zero, List.set_cons_succ]) (hCont (.slice Ao141 t596.length co141, v608, gb617) _ ⟨hHeld, (Kd.Rq (Kd.R_mono HO598.out (fun _ hk => ⟨hk.2, ⟨hk.1.1.1.2, ⟨hk.1.1.2, hk.1.2⟩⟩⟩))), (Kd.Rq (Kd.R_mono HO609.out (fun _ hk => ⟨hk.2, ⟨hk.1.1.1.2, ⟨hk.1.1.2, hk.1.2⟩⟩⟩))), (Kd.Rq (Kd.R_mono HO_556000.out (fun _ hk => ⟨hk.1.2, ⟨hk.2, ⟨hk.1.1.1, hk.1.1.2⟩⟩⟩))), (Kd.Rq (Kd.R_mono HO_566000.out (fun _ hk => ⟨hk.1.2, ⟨hk.2, ⟨hk.1.1.1, hk.1.1.2⟩⟩⟩))), (Kd.Rq (Kd.R_mono HO_579000.out (fun _ hk => ⟨hk.1.2, ⟨hk.2, ⟨hk.1.1.1, hk.1.1.2⟩⟩⟩))), (bkq BK531.out), (bkq BK532.out), (bkq BK555.out), (bkq BK565.out), (bkq BK578.out), (bkq BK617.out), GW617.out, GE617.out, NB531_617.out, NB617_531.out, NB532_617.out, NB617_532.out, NB555_617.out, NB617_555.out, NB565_617.out, NB617_565.out, NB578_617.out, NB617_578.out, (blq HB.out)⟩)
            ·
             skip
             refine box_step ?hg (N := 14) ?hd (cs := #[.slice none 0 0, .int .i64 0, .int .i64 0, .int .i64 0, .int .i64 0, .int .i64 0, .int .i64 0]) (t := 31) ?hr ?_; (case hd => rfl); (case hg => rfl); (case hr => first | (go_simp; done) | (go_simp; rfl))
             intro gb617 hg w138 hbox hb
             have BK617 := Aside0.mk (hbox)
             have GW617 := sQ hg HB
             have GE617 := sQ hg HB
             have NB531_617 := qL hg BK531
             have NB617_531 := qG hg BK531
             have NB532_617 := qL hg BK532
             have NB617_532 := qG hg BK532
             have NB555_617 := qL hg BK555
             have NB617_555 := qG hg BK555
             have NB565_617 := qL hg BK565
             have NB617_565 := qG hg BK565
             have NB578_617 := qL hg BK578
             have NB617_578 := qG hg BK578
             replace HO_556000 := rob HO_556000 hb
             replace HO_566000 := rob HO_566000 hb
             replace HO_579000 := rob HO_579000 hb
             replace BK531 := bkb BK531 hb
             replace BK532 := bkb BK532 hb
             replace BK555 := bkb BK555 hb
             replace BK565 := bkb BK565 hb
             replace BK578 := bkb BK578 hb
             replace HB := hbs HB hb
             clear hb hbox hg
             refine hK.out _ _ ⟨bc BK531 0, bc BK531 1, bc BK531 2, bc BK531 3, bc BK531 4, bc BK531 5, bc BK531 6, bc BK532 0, bc BK532 1⟩ (fun hHeld => ?_)
             clear hK K
             refine norm_ (a' := ?_) ?_ ?_
             rotate_left
             ·
              show Act.put _ (some 14) _ = _
              simp only [Act.put, List.setIfInBounds_toArray, List.set_cons_zero, List.set_cons_succ, i64_w, i32_w]
              rfl
             refine one_ (i := 1) (N := some 81) #[true, true, true, false, false, false, false, false, true, false, false] rfl rfl (one_of HT_.out (by kernel_rfl)) (by decide) (fun K hK => ?_)
             refine goes_ Try.func15 (by kernel_rfl) rfl #[.agg #[.slice A0_0 l0_0.length c0_0, .int .i64 a0_1, .int .i64 a0_2, .int .i64 a0_3, .int .i64 a0_4, .int .i64 a0_5, .int .i64 a0_6]] (by rfl) rfl rfl (by (try simp only [List.map_toArray, List.map_cons, List.map_nil]); first | done | rfl | (simp only [List.length_drop, List.length_take]; rfl)) ?_
             with_reducible refine (laws_toBook.calls kj88 _ _ l0_0 a0_1 a0_2 a0_3 a0_4 a0_5 a0_6 t596 t599 t600 t601 t602 t603 t604 _ ?side1 ?side2 A133.out).mono ?_
             (case side1 => exact Kd.Cq (Kd.C_below HR0_0.out HB.out))
             (case side2 => exact HC0_0.out)
             rintro e w139 ⟨v597, rfl, ho0, hb⟩
             refine ⟨_, rfl, ?_⟩
             have HO598 := Aside0.mk (Kd.R_lower (Kd.R_new' (Kd.R_new' (Kd.R_new' ho0 (Kd.R_lt (Kd.Rq HO_556000.out))) (Kd.R_lt (Kd.Rq HO_566000.out))) (Kd.R_lt (Kd.Rq HO_579000.out))) (below_size (blq HB.out)))
             replace HO_556000 := Aside0.mk (Kd.R_elder' (Kd.Rq HO_556000.out) (Kd.R_base ho0) hb)
             replace HO_566000 := Aside0.mk (Kd.R_elder' (Kd.Rq HO_566000.out) (Kd.R_base ho0) hb)
             replace HO_579000 := Aside0.mk (Kd.R_elder' (Kd.Rq HO_579000.out) (Kd.R_base ho0) hb)
             replace BK531 := bkb BK531 hb
             replace BK532 := bkb BK532 hb
             replace BK555 := bkb BK555 hb
             replace BK565 := bkb BK565 hb
             replace BK578 := bkb BK578 hb
             replace BK617 := bkb BK617 hb
             replace HB := hbs HB hb
             (try clear hb)
             (try clear hb2)
             (try clear hk)
             (try clear hi)
             (try clear ho0)
             refine hK.out _ _ ⟨bc BK531 0, bc BK531 1, bc BK531 2, bc BK531 3, bc BK531 4, bc BK531 5, bc BK531 6, bc BK532 0, bc BK532 1⟩ (fun hHeld => ?_)
             clear hK K
             refine norm_ (a' := ?_) ?_ ?_
             rotate_left
             ·
              show Act.put _ (some 81) _ = _
              simp only [Act.put, List.setIfInBounds_toArray, List.set_cons_zero, List.set_cons_succ, i64_w, i32_w]
              rfl
             refine one_ (i := 3) (N := some 83) #[true, true, true, true, false, false, false, false, true, false, false] rfl rfl (one_of HT_.out (by kernel_rfl)) (by decide) (fun K hK => ?_)
             refine goes_ Try.func21 (by kernel_rfl) rfl #[.agg #[.int .i64 a1_0, .int .i64 a1_1]] (by rfl) rfl rfl (by (try simp only [List.map_toArray, List.map_cons, List.map_nil]); first | done | rfl | (simp only [List.length_drop, List.length_take]; rfl)) ?_
             with_reducible refine (laws_toEvent.calls a1_0 a1_1 t605 t606 _ A134.out).mono ?_
             rintro e w140 ⟨rfl, hb⟩
             refine ⟨_, rfl, ?_⟩
             replace HO_556000 := rob HO_556000 hb
             replace HO_566000 := rob HO_566000 hb
             replace HO_579000 := rob HO_579000 hb
             replace HO598 := rob HO598 hb
             replace BK531 := bkb BK531 hb
             replace BK532 := bkb BK532 hb
             replace BK555 := bkb BK555 hb
             replace BK565 := bkb BK565 hb
             replace BK578 := bkb BK578 hb
             replace BK617 := bkb BK617 hb
             replace HB := hbs HB hb
             (try clear hb)
             (try clear hb2)
             (try clear hk)
             (try clear hi)
             obtain ⟨Ao141, co141, eo141⟩ := Kd.R_slice HO598.out
             (first | subst eo141 | (injection eo141 with f1_ f2_ f3_; have f4_ := f1_.symm; have f5_ := f3_.symm; clear f1_ f2_ f3_; subst f4_; subst f5_))
             refine hK.out _ _ ⟨bc BK531 0, bc BK531 1, bc BK531 2, bc BK531 3, bc BK531 4, bc BK531 5, bc BK531 6, bc BK532 0, bc BK532 1⟩ (fun hHeld => ?_)
             clear hK K
             refine norm_ (a' := ?_) ?_ ?_
             rotate_left
             ·
              show Act.put _ (some 83) _ = _
              simp only [Act.put, List.setIfInBounds_toArray, List.set_cons_zero, List.set_cons_succ, i64_w, i32_w]
              rfl
             refine one_ (i := 4) (N := some 84) #[true, true, true, true, true, false, false, false, true, false, false] rfl rfl (one_of HT_.out (by kernel_rfl)) (by decide) (fun K hK => ?_)
             refine goes_ Try.func22 (by kernel_rfl) rfl #[.agg #[.slice Ao141 t596.length co141, .int .i64 t599, .int .i64 t600, .int .i64 t601, .int .i64 t602, .int .i64 t603, .int .i64 t604], .agg #[.int .i64 t605, .int .i64 t606]] (by rfl) rfl rfl (by (try simp only [List.map_toArray, List.map_cons, List.map_nil]); first | done | rfl | (simp only [List.length_drop, List.length_take]; rfl)) ?_
             with_reducible refine (impl_Enter.calls kj88 _ _ t596 t599 t600 t601 t602 t603 t604 t605 t606 t607 t610 t611 t612 t613 t614 t615 t616 _ ?side1 ?side2 A135.out).mono ?_
             (case side1 => repeat (first | exact (Kd.R_reads' HO598.out).2.2 | (with_reducible refine Kd.C_alloc ?_ _) | (with_reducible refine Kd.C_drewN ?_ _) | (with_reducible refine Kd.C_drew ?_)))
             (case side2 => exact (Kd.R_reads' HO598.out).2.1)
             rintro e w142 ⟨v608, rfl, ho0, hb⟩
             refine ⟨_, rfl, ?_⟩
             have HO609 := Aside0.mk (Kd.R_lower (Kd.R_new' (Kd.R_new' (Kd.R_new' (Kd.R_new' ho0 (Kd.R_lt (Kd.Rq HO_556000.out))) (Kd.R_lt (Kd.Rq HO_566000.out))) (Kd.R_lt (Kd.Rq HO_579000.out))) (Kd.R_lt (Kd.Rq HO598.out))) (below_size (blq HB.out)))
             replace HO_556000 := Aside0.mk (Kd.R_elder' (Kd.Rq HO_556000.out) (Kd.R_base ho0) hb)
             replace HO_566000 := Aside0.mk (Kd.R_elder' (Kd.Rq HO_566000.out) (Kd.R_base ho0) hb)
             replace HO_579000 := Aside0.mk (Kd.R_elder' (Kd.Rq HO_579000.out) (Kd.R_base ho0) hb)
             replace HO598 := Aside0.mk (Kd.R_elder' (Kd.Rq HO598.out) (Kd.R_base ho0) hb)
             replace BK531 := bkb BK531 hb
             replace BK532 := bkb BK532 hb
             replace BK555 := bkb BK555 hb
             replace BK565 := bkb BK565 hb
             replace BK578 := bkb BK578 hb
             replace BK617 := bkb BK617 hb
             replace HB := hbs HB hb
             (try clear hb)
             (try clear hb2)
             (try clear hk)
             (try clear hi)
             (try clear ho0)
             refine hK.out _ _ ⟨bc BK531 0, bc BK531 1, bc BK531 2, bc BK531 3, bc BK531 4, bc BK531 5, bc BK531 6, bc BK532 0, bc BK532 1⟩ (fun hHeld => ?_)
             clear hK K
             refine norm_ (a' := ?_) ?_ ?_
             rotate_left
             ·
              show Act.put _ (some 84) _ = _
              simp only [Act.put, List.setIfInBounds_toArray, List.set_cons_zero, List.set_cons_succ, i64_w, i32_w]
              rfl
             refine pure_ (i := 5) (N := some 79) (v := ?_) (a' := ?_) #[true, true, true, true, true, true, false, false, true, false, false] rfl rfl (any_of HT_.out (by kernel_rfl)) (fun _ _ _ h => h) (Or.inl ⟨by rfl, ?_⟩) ?_ ?_
             rotate_left
             ·
              intro w'
              go_simp
              with_reducible rfl
             rotate_left
             ·
              simp only [Act.put, List.setIfInBounds_toArray, List.set_cons_zero, List.set_cons_succ, i64_w, i32_w]
              rfl
             refine pure_ (i := 6) (N := some 85) (v := ?_) (a' := ?_) #[true, true, true, true, true, true, true, false, true, false, false] rfl rfl (any_of HT_.out (by kernel_rfl)) (fun _ _ _ h => h) (Or.inl ⟨by rfl, ?_⟩) ?_ ?_
             rotate_left
             ·
              intro w'
              go_simp
              with_reducible rfl
             rotate_left
             ·
              simp only [Act.put, List.setIfInBounds_toArray, List.set_cons_zero, List.set_cons_succ, i64_w, i32_w]
              rfl
             refine pure_ (i := 7) (N := some 86) (v := ?_) (a' := ?_) #[true, true, true, true, true, true, true, true, true, false, false] rfl rfl (any_of HT_.out (by kernel_rfl)) (fun _ _ _ h => h) (Or.inl ⟨by rfl, ?_⟩) ?_ ?_
             rotate_left
             ·
              intro w'
              go_simp
              with_reducible rfl
             rotate_left
             ·
              simp only [Act.put, List.setIfInBounds_toArray, List.set_cons_zero, List.set_cons_succ, i64_w, i32_w]
              rfl
             exact norm_ (by simp only [putAll, Act.put, List.setIfInBounds_toArray, List.set_cons_zero, List.set_cons_succ]) (hCont (.slice Ao141 t596.length co141, v608, gb617) _ ⟨hHeld, (Kd.Rq (Kd.R_mono HO598.out (fun _ hk => ⟨hk.2, ⟨hk.1.1.1.2, ⟨hk.1.1.2, hk.1.2⟩⟩⟩))), (Kd.Rq (Kd.R_mono HO609.out (fun _ hk => ⟨hk.2, ⟨hk.1.1.1.2, ⟨hk.1.1.2, hk.1.2⟩⟩⟩))), (Kd.Rq (Kd.R_mono HO_556000.out (fun _ hk => ⟨hk.1.2, ⟨hk.2, ⟨hk.1.1.1, hk.1.1.2⟩⟩⟩))), (Kd.Rq (Kd.R_mono HO_566000.out (fun _ hk => ⟨hk.1.2, ⟨hk.2, ⟨hk.1.1.1, hk.1.1.2⟩⟩⟩))), (Kd.Rq (Kd.R_mono HO_579000.out (fun _ hk => ⟨hk.1.2, ⟨hk.2, ⟨hk.1.1.1, hk.1.1.2⟩⟩⟩))), (bkq BK531.out), (bkq BK532.out), (bkq BK555.out), (bkq BK565.out), (bkq BK578.out), (bkq BK617.out), GW617.out, GE617.out, NB531_617.out, NB617_531.out, NB532_617.out, NB617_532.out, NB555_617.out, NB617_555.out, NB565_617.out, NB617_565.out, NB578_617.out, NB617_578.out, (blq HB.out)⟩)
           rintro ⟨v597, v608, gb617⟩ w143 ⟨hS_, h0_, h1_, h2_, h3_, h4_, h5_, h6_, h7_, h8_, h9_, h10_, h11_, h12_, h13_, h14_, h15_, h16_, h17_, h18_, h19_, h20_, h21_, h22_, h23_⟩
           have n0_ : Aside0 (Kd.R k41 41 w143 w.heap.size (fun k_ => some k_ ≠ (v608 : Value).ownBlock ∧ some k_ ≠ (.slice Ao25 t545.length co25 : Value).ownBlock ∧ some k_ ≠ (.slice Ao38 t591.length co38 : Value).ownBlock ∧ some k_ ≠ (.slice Ao49 t568.length co49 : Value).ownBlock) v597 t596) := ⟨h0_⟩
           have n1_ : Aside0 (Kd.R k41 41 w143 w.heap.size (fun k_ => some k_ ≠ (v597 : Value).ownBlock ∧ some k_ ≠ (.slice Ao25 t545.length co25 : Value).ownBlock ∧ some k_ ≠ (.slice Ao38 t591.length co38 : Value).ownBlock ∧ some k_ ≠ (.slice Ao49 t568.length co49 : Value).ownBlock) v608 t607) := ⟨h1_⟩
           have n2_ : Aside0 (Kd.R k41 41 w143 w.heap.size (fun k_ => some k_ ≠ (v597 : Value).ownBlock ∧ some k_ ≠ (v608 : Value).ownBlock ∧ some k_ ≠ (.slice Ao38 t591.length co38 : Value).ownBlock ∧ some k_ ≠ (.slice Ao49 t568.length co49 : Value).ownBlock) (.slice Ao25 t545.length co25) t545) := ⟨h2_⟩
           have n3_ : Aside0 (Kd.R k41 41 w143 w.heap.size (fun k_ => some k_ ≠ (v597 : Value).ownBlock ∧ some k_ ≠ (v608 : Value).ownBlock ∧ some k_ ≠ (.slice Ao25 t545.length co25 : Value).ownBlock ∧ some k_ ≠ (.slice Ao49 t568.length co49 : Value).ownBlock) (.slice Ao38 t591.length co38) t591) := ⟨h3_⟩
           have n4_ : Aside0 (Kd.R k41 41 w143 w.heap.size (fun k_ => some k_ ≠ (v597 : Value).ownBlock ∧ some k_ ≠ (v608 : Value).ownBlock ∧ some k_ ≠ (.slice Ao25 t545.length co25 : Value).ownBlock ∧ some k_ ≠ (.slice Ao38 t591.length co38 : Value).ownBlock) (.slice Ao49 t568.length co49) t594) := ⟨h4_⟩
           have n5_ : Aside0 (w143.heap[gb531]? = some (.cells #[.slice A0_0 l0_0.length c0_0, .int .i64 a0_1, .int .i64 a0_2, .int .i64 a0_3, .int .i64 a0_4, .int .i64 a0_5, .int .i64 a0_6] 26 (0, 0))) := ⟨h5_⟩
           have n6_ : Aside0 (w143.heap[gb532]? = some (.cells #[.int .i64 a1_0, .int .i64 a1_1] 39 (0, 0))) := ⟨h6_⟩
           have n7_ : Aside0 (w143.heap[gb555]? = some (.cells #[.slice Ao25 t545.length co25, .int .i64 t548, .int .i64 t549, .int .i64 t550, .int .i64 t551, .int .i64 t552, .int .i64 t553] 31 (0, 0))) := ⟨h7_⟩
           have n8_ : Aside0 (w143.heap[gb565]? = some (.cells #[.slice Ao38 t591.length co38, .int .i64 t559, .int .i64 t560, .int .i64 t561, .int .i64 t562, .int .i64 t563, .int .i64 t564] 31 (0, 0))) := ⟨h8_⟩
           have n9_ : Aside0 (w143.heap[gb578]? = some (.cells #[.slice Ao49 t568.length co49, .int .i64 t571, .int .i64 t572, .int .i64 t573, .int .i64 t574, .int .i64 t575, .int .i64 t576] 31 (0, 0))) := ⟨h9_⟩
           have n10_ : Aside0 (w143.heap[gb617]? = some (.cells #[.slice none 0 0, .int .i64 0, .int .i64 0, .int .i64 0, .int .i64 0, .int .i64 0, .int .i64 0] 31 (0, 0))) := ⟨h10_⟩
           have n11_ : Aside0 (w.heap.size ≤ gb617) := ⟨h11_⟩
           have n12_ : Aside0 (w.heap.size ≤ gb617) := ⟨h12_⟩
           have n13_ : Aside0 (gb531 ≠ gb617) := ⟨h13_⟩
           have n14_ : Aside0 (gb617 ≠ gb531) := ⟨h14_⟩
           have n15_ : Aside0 (gb532 ≠ gb617) := ⟨h15_⟩
           have n16_ : Aside0 (gb617 ≠ gb532) := ⟨h16_⟩
           have n17_ : Aside0 (gb555 ≠ gb617) := ⟨h17_⟩
           have n18_ : Aside0 (gb617 ≠ gb555) := ⟨h18_⟩
           have n19_ : Aside0 (gb565 ≠ gb617) := ⟨h19_⟩
           have n20_ : Aside0 (gb617 ≠ gb565) := ⟨h20_⟩
           have n21_ : Aside0 (gb578 ≠ gb617) := ⟨h21_⟩
           have n22_ : Aside0 (gb617 ≠ gb578) := ⟨h22_⟩
           have n23_ : Aside0 (Below w.heap.size w w143) := ⟨h23_⟩
           clear HO_556000
           clear HO_566000
           clear HO_579000
           clear BK531
           clear BK532
           clear BK555
           clear BK565
           clear BK578
           clear HB
           clear h0_ h1_ h2_ h3_ h4_ h5_ h6_ h7_ h8_ h9_ h10_ h11_ h12_ h13_ h14_ h15_ h16_ h17_ h18_ h19_ h20_ h21_ h22_ h23_
           have HO598 := n0_
           have HO609 := n1_
           have HO_556000 := n2_
           have HO_566000 := n3_
           have HO_579000 := n4_
           have BK531 := n5_
           have BK532 := n6_
           have BK555 := n7_
           have BK565 := n8_
           have BK578 := n9_
           have BK617 := n10_
           have GW617 := n11_
           have GE617 := n12_
           have NB531_617 := n13_
           have NB617_531 := n14_
           have NB532_617 := n15_
           have NB617_532 := n16_
           have NB555_617 := n17_
           have NB617_555 := n18_
           have NB565_617 := n19_
           have NB617_565 := n20_
           have NB578_617 := n21_
           have NB617_578 := n22_
           have HB := n23_
           clear n0_ n1_ n2_ n3_ n4_ n5_ n6_ n7_ n8_ n9_ n10_ n11_ n12_ n13_ n14_ n15_ n16_ n17_ n18_ n19_ n20_ n21_ n22_ n23_
           have hHeld : w143.cell? ⟨gb531, 0, none⟩ = some (.slice A0_0 l0_0.length c0_0) ∧ w143.cell? ⟨gb531, 1, none⟩ = some (.int .i64 a0_1) ∧ w143.cell? ⟨gb531, 2, none⟩ = some (.int .i64 a0_2) ∧ w143.cell? ⟨gb531, 3, none⟩ = some (.int .i64 a0_3) ∧ w143.cell? ⟨gb531, 4, none⟩ = some (.int .i64 a0_4) ∧ w143.cell? ⟨gb531, 5, none⟩ = some (.int .i64 a0_5) ∧ w143.cell? ⟨gb531, 6, none⟩ = some (.int .i64 a0_6) ∧ w143.cell? ⟨gb532, 0, none⟩ = some (.int .i64 a1_0) ∧ w143.cell? ⟨gb532, 1, none⟩ = some (.int .i64 a1_1) := hS_
           obtain ⟨Ao144, co144, eo144⟩ := Kd.R_slice HO609.out
           (first | subst eo144 | (injection eo144 with f1_ f2_ f3_; have f4_ := f1_.symm; have f5_ := f3_.symm; clear f1_ f2_ f3_; subst f4_; subst f5_))
           refine norm_ (a' := ?_) ?_ ?_
           rotate_left
           ·
            simp only [putAll, Act.put, List.setIfInBounds_toArray, List.set_cons_zero, List.set_cons_succ]
            rfl
           refine one_ (i := 9) (N := none) #[true, true, true, true, true, true, true, true, true, true, false] rfl rfl (one_of HT_.out (by kernel_rfl)) (by decide) (fun K hK => ?_)
           have hs145 : w143.cell? ⟨gb617, 0, none⟩ = some (.slice none 0 0) := bc BK617 0
           have hfs145 := blk_frozen BK617.out 0
           have hns145_0 := NB531_617.out
           have hns145_1 := NB532_617.out
           have hns145_2 := NB555_617.out
           have hns145_3 := NB565_617.out
           have hns145_4 := NB578_617.out
           have hms145_0 := NB617_531.out
           have hms145_1 := NB617_532.out
           have hms145_2 := NB617_555.out
           have hms145_3 := NB617_565.out
           have hms145_4 := NB617_578.out
           have hs146 : w143.cell? ⟨gb617, 1, none⟩ = some (.int .i64 0) := bc BK617 1
           have hfs146 := blk_frozen BK617.out 1
           have hns146_0 := NB531_617.out
           have hns146_1 := NB532_617.out
           have hns146_2 := NB555_617.out
           have hns146_3 := NB565_617.out
           have hns146_4 := NB578_617.out
           have hms146_0 := NB617_531.out
           have hms146_1 := NB617_532.out
           have hms146_2 := NB617_555.out
           have hms146_3 := NB617_565.out
           have hms146_4 := NB617_578.out
           have hs147 : w143.cell? ⟨gb617, 2, none⟩ = some (.int .i64 0) := bc BK617 2
           have hfs147 := blk_frozen BK617.out 2
           have hns147_0 := NB531_617.out
           have hns147_1 := NB532_617.out
           have hns147_2 := NB555_617.out
           have hns147_3 := NB565_617.out
           have hns147_4 := NB578_617.out
           have hms147_0 := NB617_531.out
           have hms147_1 := NB617_532.out
           have hms147_2 := NB617_555.out
           have hms147_3 := NB617_565.out
           have hms147_4 := NB617_578.out
           have hs148 : w143.cell? ⟨gb617, 3, none⟩ = some (.int .i64 0) := bc BK617 3
           have hfs148 := blk_frozen BK617.out 3
           have hns148_0 := NB531_617.out
           have hns148_1 := NB532_617.out
           have hns148_2 := NB555_617.out
           have hns148_3 := NB565_617.out
           have hns148_4 := NB578_617.out
           have hms148_0 := NB617_531.out
           have hms148_1 := NB617_532.out
           have hms148_2 := NB617_555.out
           have hms148_3 := NB617_565.out
           have hms148_4 := NB617_578.out
           have hs149 : w143.cell? ⟨gb617, 4, none⟩ = some (.int .i64 0) := bc BK617 4
           have hfs149 := blk_frozen BK617.out 4
           have hns149_0 := NB531_617.out
           have hns149_1 := NB532_617.out
           have hns149_2 := NB555_617.out
           have hns149_3 := NB565_617.out
           have hns149_4 := NB578_617.out
           have hms149_0 := NB617_531.out
           have hms149_1 := NB617_532.out
           have hms149_2 := NB617_555.out
           have hms149_3 := NB617_565.out
           have hms149_4 := NB617_578.out
           have hs150 : w143.cell? ⟨gb617, 5, none⟩ = some (.int .i64 0) := bc BK617 5
           have hfs150 := blk_frozen BK617.out 5
           have hns150_0 := NB531_617.out
           have hns150_1 := NB532_617.out
           have hns150_2 := NB555_617.out
           have hns150_3 := NB565_617.out
           have hns150_4 := NB578_617.out
           have hms150_0 := NB617_531.out
           have hms150_1 := NB617_532.out
           have hms150_2 := NB617_555.out
           have hms150_3 := NB617_565.out
           have hms150_4 := NB617_578.out
           have hs151 : w143.cell? ⟨gb617, 6, none⟩ = some (.int .i64 0) := bc BK617 6
           have hfs151 := blk_frozen BK617.out 6
           have hns151_0 := NB531_617.out
           have hns151_1 := NB532_617.out
           have hns151_2 := NB555_617.out
           have hns151_3 := NB565_617.out
           have hns151_4 := NB578_617.out
           have hms151_0 := NB617_531.out
           have hms151_1 := NB617_532.out
           have hms151_2 := NB617_555.out
           have hms151_3 := NB617_565.out
           have hms151_4 := NB617_578.out
           refine skip_ (w1 := ?_) (by rfl) rfl ?_ ?_
           rotate_left
           ·
            go_simp
            rfl
           refine hK.out _ _ ⟨((cf NB531_617).trans (((cf NB531_617).trans (((cf NB531_617).trans (((cf NB531_617).trans (((cf NB531_617).trans (((cf NB531_617).trans (((cf NB531_617).trans (hHeld.1)))))))))))))), ((cf NB531_617).trans (((cf NB531_617).trans (((cf NB531_617).trans (((cf NB531_617).trans (((cf NB531_617).trans (((cf NB531_617).trans (((cf NB531_617).trans (hHeld.2.1)))))))))))))), ((cf NB531_617).trans (((cf NB531_617).trans (((cf NB531_617).trans (((cf NB531_617).trans (((cf NB531_617).trans (((cf NB531_617).trans (((cf NB531_617).trans (hHeld.2.2.1)))))))))))))), ((cf NB531_617).trans (((cf NB531_617).trans (((cf NB531_617).trans (((cf NB531_617).trans (((cf NB531_617).trans (((cf NB531_617).trans (((cf NB531_617).trans (hHeld.2.2.2.1)))))))))))))), ((cf NB531_617).trans (((cf NB531_617).trans (((cf NB531_617).trans (((cf NB531_617).trans (((cf NB531_617).trans (((cf NB531_617).trans (((cf NB531_617).trans (hHeld.2.2.2.2.1)))))))))))))), ((cf NB531_617).trans (((cf NB531_617).trans (((cf NB531_617).trans (((cf NB531_617).trans (((cf NB531_617).trans (((cf NB531_617).trans (((cf NB531_617).trans (hHeld.2.2.2.2.2.1)))))))))))))), ((cf NB531_617).trans (((cf NB531_617).trans (((cf NB531_617).trans (((cf NB531_617).trans (((cf NB531_617).trans (((cf NB531_617).trans (((cf NB531_617).trans (hHeld.2.2.2.2.2.2.1)))))))))))))), ((cf NB532_617).trans (((cf NB532_617).trans (((cf NB532_617).trans (((cf NB532_617).trans (((cf NB532_617).trans (((cf NB532_617).trans (((cf NB532_617).trans (hHeld.2.2.2.2.2.2.2.1)))))))))))))), ((cf NB532_617).trans (((cf NB532_617).trans (((cf NB532_617).trans (((cf NB532_617).trans (((cf NB532_617).trans (((cf NB532_617).trans (((cf NB532_617).trans (hHeld.2.2.2.2.2.2.2.2))))))))))))))⟩ (fun hHeld => ?_)
           clear hK K
           refine pure_ (i := 10) (N := some 15) (v := ?_) (a' := ?_) #[true, true, true, true, true, true, true, true, true, true, true] rfl rfl (any_of HT_.out (by kernel_rfl)) (fun _ _ _ h => h) (Or.inl ⟨by rfl, ?_⟩) ?_ ?_
           rotate_left
           ·
            intro w'
            go_simp
            with_reducible rfl
           rotate_left
           ·
            simp only [Act.put, List.setIfInBounds_toArray, List.set_cons_zero, List.set_cons_succ, i64_w, i32_w]
            rfl
           refine done_ (done_of HT_.out (by kernel_rfl)) ?_
           go_upto_region 25 with (fail)
           go_cut [95] (fun v95 wc => ∃ (kq : Nat) (x95_135 : Bool), v95 = .bool x95_135 ∧ Aside0 (laws_FnExactEnter.j2 kq t593 x95_135 t594 t571 t572 t573 t574 t575 t576 = some r) ∧ Aside0 (kq ≤ kj88) ∧ Aside0 (Kd.R k41 41 wc w.heap.size (fun k_ => some k_ ≠ ((.slice Ao38 t591.length co38) : Value).ownBlock ∧ some k_ ≠ ((.slice Ao49 t568.length co49) : Value).ownBlock ∧ some k_ ≠ ((.slice Ao144 t607.length co144) : Value).ownBlock) (.slice Ao25 t545.length co25) t545) ∧ Aside0 (Kd.R k41 41 wc w.heap.size (fun k_ => some k_ ≠ ((.slice Ao25 t545.length co25) : Value).ownBlock ∧ some k_ ≠ ((.slice Ao49 t568.length co49) : Value).ownBlock ∧ some k_ ≠ ((.slice Ao144 t607.length co144) : Value).ownBlock) (.slice Ao38 t591.length co38) t591) ∧ Aside0 (Kd.R k41 41 wc w.heap.size (fun k_ => some k_ ≠ ((.slice Ao25 t545.length co25) : Value).ownBlock ∧ some k_ ≠ ((.slice Ao38 t591.length co38) : Value).ownBlock ∧ some k_ ≠ ((.slice Ao144 t607.length co144) : Value).ownBlock) (.slice Ao49 t568.length co49) t594) ∧ Aside0 (Kd.R k41 41 wc w.heap.size (fun k_ => some k_ ≠ ((.slice Ao25 t545.length co25) : Value).ownBlock ∧ some k_ ≠ ((.slice Ao38 t591.length co38) : Value).ownBlock ∧ some k_ ≠ ((.slice Ao49 t568.length co49) : Value).ownBlock) (.slice Ao144 t607.length co144) t607) ∧ Aside0 (wc.heap[gb531]? = some (.cells #[(.slice A0_0 l0_0.length c0_0), .int .i64 a0_1, .int .i64 a0_2, .int .i64 a0_3, .int .i64 a0_4, .int .i64 a0_5, .int .i64 a0_6] 26 (0, 0))) ∧ Aside0 (wc.heap[gb532]? = some (.cells #[.int .i64 a1_0, .int .i64 a1_1] 39 (0, 0))) ∧ Aside0 (wc.heap[gb555]? = some (.cells #[(.slice Ao25 t545.length co25), .int .i64 t548, .int .i64 t549, .int .i64 t550, .int .i64 t551, .int .i64 t552, .int .i64 t553] 31 (0, 0))) ∧ Aside0 (wc.heap[gb565]? = some (.cells #[(.slice Ao38 t591.length co38), .int .i64 t559, .int .i64 t560, .int .i64 t561, .int .i64 t562, .int .i64 t563, .int .i64 t564] 31 (0, 0))) ∧ Aside0 (wc.heap[gb578]? = some (.cells #[(.slice Ao49 t568.length co49), .int .i64 t571, .int .i64 t572, .int .i64 t573, .int .i64 t574, .int .i64 t575, .int .i64 t576] 31 (0, 0))) ∧ Aside0 (wc.heap[gb617]? = some (.cells #[(.slice Ao144 t607.length co144), .int .i64 t610, .int .i64 t611, .int .i64 t612, .int .i64 t613, .int .i64 t614, .int .i64 t615] 31 (0, 0))) ∧ Aside0 (Below w.heap.size w wc))
           case first =>
            have H := HC136.out
            clear HC136
            replace H := Option.bind_eq_some_iff.mp H
            obtain ⟨t618, A1520, H⟩ := H
            replace H : (if t618 = true then (laws_FnExactEnter.j2 kj88 t593 (t616 != t554) t594 t571 t572 t573 t574 t575 t576) else (laws_FnExactEnter.j2 kj88 t593 true t594 t571 t572 t573 t574 t575 t576)) = some r := H
            have A152 := Aside0.mk A1520
            clear A1520
            by_cases c153 : t618 = true
            ·
             subst c153
             have H1 : (laws_FnExactEnter.j2 kj88 t593 (t616 != t554) t594 t571 t572 t573 t574 t575 t576) = some r := by rw [if_pos rfl] at H; exact H
             clear H
             have H := H1
             clear H1
             have H' := Aside0.mk H
             clear H
             obtain ⟨_, _, _, _, _, _, _, _, _, _⟩ := ne10 NB617_531 NB531_617 NB617_532 NB532_617 NB617_555 NB555_617 NB617_565 NB565_617 NB617_578 NB578_617
             have hcz159_0 : w143.cell? ⟨gb617, 0, none⟩ = some (.slice none 0 0) := bc BK617 0
             have hcz159_1 : w143.cell? ⟨gb617, 1, none⟩ = some (.int .i64 0) := bc BK617 1
             have hcz159_2 : w143.cell? ⟨gb617, 2, none⟩ = some (.int .i64 0) := bc BK617 2
             have hcz159_3 : w143.cell? ⟨gb617, 3, none⟩ = some (.int .i64 0) := bc BK617 3
             have hcz159_4 : w143.cell? ⟨gb617, 4, none⟩ = some (.int .i64 0) := bc BK617 4
             have hcz159_5 : w143.cell? ⟨gb617, 5, none⟩ = some (.int .i64 0) := bc BK617 5
             have hcz159_6 : w143.cell? ⟨gb617, 6, none⟩ = some (.int .i64 0) := bc BK617 6
             have hfz159_0 := blk_frozen BK617.out 0
             have hfz159_1 := blk_frozen BK617.out 1
             have hfz159_2 := blk_frozen BK617.out 2
             have hfz159_3 := blk_frozen BK617.out 3
             have hfz159_4 := blk_frozen BK617.out 4
             have hfz159_5 := blk_frozen BK617.out 5
             have hfz159_6 := blk_frozen BK617.out 6
             obtain ⟨_, _, _, _, _, _, _, _⟩ := ne8 NB555_531 NB531_555 NB555_532 NB532_555 NB555_565 NB565_555 NB555_578 NB578_555
             have hcz164_0 : w143.cell? ⟨gb555, 0, none⟩ = some (.slice Ao25 t545.length co25) := bc BK555 0
             have hcz164_1 : w143.cell? ⟨gb555, 1, none⟩ = some (.int .i64 t548) := bc BK555 1
             have hcz164_2 : w143.cell? ⟨gb555, 2, none⟩ = some (.int .i64 t549) := bc BK555 2
             have hcz164_3 : w143.cell? ⟨gb555, 3, none⟩ = some (.int .i64 t550) := bc BK555 3
             have hcz164_4 : w143.cell? ⟨gb555, 4, none⟩ = some (.int .i64 t551) := bc BK555 4
             have hcz164_5 : w143.cell? ⟨gb555, 5, none⟩ = some (.int .i64 t552) := bc BK555 5
             have hcz164_6 : w143.cell? ⟨gb555, 6, none⟩ = some (.int .i64 t553) := bc BK555 6
             have hfz164_0 := blk_frozen BK555.out 0
             have hfz164_1 := blk_frozen BK555.out 1
             have hfz164_2 := blk_frozen BK555.out 2
             have hfz164_3 := blk_frozen BK555.out 3
             have hfz164_4 := blk_frozen BK555.out 4
             have hfz164_5 := blk_frozen BK555.out 5
             have hfz164_6 := blk_frozen BK555.out 6
             go_wp2_with (first | ((with_reducible refine gate_callee (f := 17) rfl ?_); refine gLq (some 89) Try.func17 #[.agg #[.slice Ao144 t607.length co144, .int .i64 t610, .int .i64 t611, .int .i64 t612, .int .i64 t613, .int .i64 t614, .int .i64 t615], .agg #[.slice Ao25 t545.length co25, .int .i64 t548, .int .i64 t549, .int .i64 t550, .int .i64 t551, .int .i64 t552, .int .i64 t553]] ?_; (with_reducible refine (laws_eqBook.calls kj88 _ _ t607 t610 t611 t612 t613 t614 t615 _ _ t545 t548 t549 t550 t551 t552 t553 true _ ?side1 ?side2 ?side3 ?side4 A152.out).mono ?_); (case side1 => refine (Kd.R_reads' (e := 41) (base := w.heap.size) (ok := fun k_ => (some k_ ≠ (v597 : Value).ownBlock ∧ (some k_ ≠ (.slice Ao25 t545.length co25 : Value).ownBlock ∧ (some k_ ≠ (.slice Ao38 t591.length co38 : Value).ownBlock ∧ some k_ ≠ (.slice Ao49 t568.length co49 : Value).ownBlock)))) (n := t607.length) (c := co144) ?_).2.2; exact (Kd.Rq (Kd.R_mono (Kd.R_far (p := ⟨gb617, 6, none⟩) (Kd.R_far (p := ⟨gb617, 5, none⟩) (Kd.R_far (p := ⟨gb617, 4, none⟩) (Kd.R_far (p := ⟨gb617, 3, none⟩) (Kd.R_far (p := ⟨gb617, 2, none⟩) (Kd.R_far (p := ⟨gb617, 1, none⟩) (Kd.R_far (p := ⟨gb617, 0, none⟩) (Kd.R_types HO609.out BK617.out (by decide)) (fun _ hk => hk.2) (.slice Ao144 t607.length co144)) (fun _ hk => hk.2) (.int .i64 t610)) (fun _ hk => hk.2) (.int .i64 t611)) (fun _ hk => hk.2) (.int .i64 t612)) (fun _ hk => hk.2) (.int .i64 t613)) (fun _ hk => hk.2) (.int .i64 t614)) (fun _ hk => hk.2) (.int .i64 t615)) (fun _ h_ => h_.1)))); (case side2 => exact (Kd.R_reads' HO609.out).2.1); (case side3 => refine (Kd.R_reads' (e := 41) (base := w.heap.size) (ok := fun k_ => (some k_ ≠ (v597 : Value).ownBlock ∧ (some k_ ≠ (.slice Ao144 t607.length co144 : Value).ownBlock ∧ (some k_ ≠ (.slice Ao38 t591.length co38 : Value).ownBlock ∧ some k_ ≠ (.slice Ao49 t568.length co49 : Value).ownBlock)))) (n := t545.length) (c := co25) ?_).2.2; exact (Kd.Rq (Kd.R_mono (Kd.R_far (p := ⟨gb617, 6, none⟩) (Kd.R_far (p := ⟨gb617, 5, none⟩) (Kd.R_far (p := ⟨gb617, 4, none⟩) (Kd.R_far (p := ⟨gb617, 3, none⟩) (Kd.R_far (p := ⟨gb617, 2, none⟩) (Kd.R_far (p := ⟨gb617, 1, none⟩) (Kd.R_far (p := ⟨gb617, 0, none⟩) (Kd.R_types HO_556000.out BK617.out (by decide)) (fun _ hk => hk.2) (.slice Ao144 t607.length co144)) (fun _ hk => hk.2) (.int .i64 t610)) (fun _ hk => hk.2) (.int .i64 t611)) (fun _ hk => hk.2) (.int .i64 t612)) (fun _ hk => hk.2) (.int .i64 t613)) (fun _ hk => hk.2) (.int .i64 t614)) (fun _ hk => hk.2) (.int .i64 t615)) (fun _ h_ => h_.1)))); (case side4 => exact (Kd.R_reads' HO_556000.out).2.1); rintro e w165 ⟨rfl, hb⟩; refine ⟨_, rfl, ?_⟩; replace HO_556000 := Aside0.mk (Kd.R_below (Kd.Rq (Kd.R_mono (Kd.R_far (p := ⟨gb617, 6, none⟩) (Kd.R_far (p := ⟨gb617, 5, none⟩) (Kd.R_far (p := ⟨gb617, 4, none⟩) (Kd.R_far (p := ⟨gb617, 3, none⟩) (Kd.R_far (p := ⟨gb617, 2, none⟩) (Kd.R_far (p := ⟨gb617, 1, none⟩) (Kd.R_far (p := ⟨gb617, 0, none⟩) (Kd.R_types HO_556000.out BK617.out (by decide)) (fun _ hk => hk.2) (.slice Ao144 t607.length co144)) (fun _ hk => hk.2) (.int .i64 t610)) (fun _ hk => hk.2) (.int .i64 t611)) (fun _ hk => hk.2) (.int .i64 t612)) (fun _ hk => hk.2) (.int .i64 t613)) (fun _ hk => hk.2) (.int .i64 t614)) (fun _ hk => hk.2) (.int .i64 t615)) (fun _ h_ => h_.1))) hb); replace HO_566000 := Aside0.mk (Kd.R_below (Kd.Rq (Kd.R_mono (Kd.R_far (p := ⟨gb617, 6, none⟩) (Kd.R_far (p := ⟨gb617, 5, none⟩) (Kd.R_far (p := ⟨gb617, 4, none⟩) (Kd.R_far (p := ⟨gb617, 3, none⟩) (Kd.R_far (p := ⟨gb617, 2, none⟩) (Kd.R_far (p := ⟨gb617, 1, none⟩) (Kd.R_far (p := ⟨gb617, 0, none⟩) (Kd.R_types HO_566000.out BK617.out (by decide)) (fun _ hk => hk.2) (.slice Ao144 t607.length co144)) (fun _ hk => hk.2) (.int .i64 t610)) (fun _ hk => hk.2) (.int .i64 t611)) (fun _ hk => hk.2) (.int .i64 t612)) (fun _ hk => hk.2) (.int .i64 t613)) (fun _ hk => hk.2) (.int .i64 t614)) (fun _ hk => hk.2) (.int .i64 t615)) (fun _ h_ => h_.1))) hb); replace HO_579000 := Aside0.mk (Kd.R_below (Kd.Rq (Kd.R_mono (Kd.R_far (p := ⟨gb617, 6, none⟩) (Kd.R_far (p := ⟨gb617, 5, none⟩) (Kd.R_far (p := ⟨gb617, 4, none⟩) (Kd.R_far (p := ⟨gb617, 3, none⟩) (Kd.R_far (p := ⟨gb617, 2, none⟩) (Kd.R_far (p := ⟨gb617, 1, none⟩) (Kd.R_far (p := ⟨gb617, 0, none⟩) (Kd.R_types HO_579000.out BK617.out (by decide)) (fun _ hk => hk.2) (.slice Ao144 t607.length co144)) (fun _ hk => hk.2) (.int .i64 t610)) (fun _ hk => hk.2) (.int .i64 t611)) (fun _ hk => hk.2) (.int .i64 t612)) (fun _ hk => hk.2) (.int .i64 t613)) (fun _ hk => hk.2) (.int .i64 t614)) (fun _ hk => hk.2) (.int .i64 t615)) (fun _ h_ => h_.1))) hb); replace HO598 := Aside0.mk (Kd.R_below (Kd.Rq (Kd.R_mono (Kd.R_far (p := ⟨gb617, 6, none⟩) (Kd.R_far (p := ⟨gb617, 5, none⟩) (Kd.R_far (p := ⟨gb617, 4, none⟩) (Kd.R_far (p := ⟨gb617, 3, none⟩) (Kd.R_far (p := ⟨gb617, 2, none⟩) (Kd.R_far (p := ⟨gb617, 1, none⟩) (Kd.R_far (p := ⟨gb617, 0, none⟩) (Kd.R_types HO598.out BK617.out (by decide)) (fun _ hk => hk.2) (.slice Ao144 t607.length co144)) (fun _ hk => hk.2) (.int .i64 t610)) (fun _ hk => hk.2) (.int .i64 t611)) (fun _ hk => hk.2) (.int .i64 t612)) (fun _ hk => hk.2) (.int .i64 t613)) (fun _ hk => hk.2) (.int .i64 t614)) (fun _ hk => hk.2) (.int .i64 t615)) (fun _ h_ => h_.1))) hb); replace HO609 := Aside0.mk (Kd.R_below (Kd.Rq (Kd.R_mono (Kd.R_far (p := ⟨gb617, 6, none⟩) (Kd.R_far (p := ⟨gb617, 5, none⟩) (Kd.R_far (p := ⟨gb617, 4, none⟩) (Kd.R_far (p := ⟨gb617, 3, none⟩) (Kd.R_far (p := ⟨gb617, 2, none⟩) (Kd.R_far (p := ⟨gb617, 1, none⟩) (Kd.R_far (p := ⟨gb617, 0, none⟩) (Kd.R_types HO609.out BK617.out (by decide)) (fun _ hk => hk.2) (.slice Ao144 t607.length co144)) (fun _ hk => hk.2) (.int .i64 t610)) (fun _ hk => hk.2) (.int .i64 t611)) (fun _ hk => hk.2) (.int .i64 t612)) (fun _ hk => hk.2) (.int .i64 t613)) (fun _ hk => hk.2) (.int .i64 t614)) (fun _ hk => hk.2) (.int .i64 t615)) (fun _ h_ => h_.1))) hb); replace BK531 := Aside0.mk (blk_below (g := gb531) (o := .cells #[.slice A0_0 l0_0.length c0_0, .int .i64 a0_1, .int .i64 a0_2, .int .i64 a0_3, .int .i64 a0_4, .int .i64 a0_5, .int .i64 a0_6] 26 (0, 0)) (qk BK531.out) hb); replace BK532 := Aside0.mk (blk_below (g := gb532) (o := .cells #[.int .i64 a1_0, .int .i64 a1_1] 39 (0, 0)) (qk BK532.out) hb); replace BK555 := Aside0.mk (blk_below (g := gb555) (o := .cells #[.slice Ao25 t545.length co25, .int .i64 t548, .int .i64 t549, .int .i64 t550, .int .i64 t551, .int .i64 t552, .int .i64 t553] 31 (0, 0)) (qk BK555.out) hb); replace BK565 := Aside0.mk (blk_below (g := gb565) (o := .cells #[.slice Ao38 t591.length co38, .int .i64 t559, .int .i64 t560, .int .i64 t561, .int .i64 t562, .int .i64 t563, .int .i64 t564] 31 (0, 0)) (qk BK565.out) hb); replace BK578 := Aside0.mk (blk_below (g := gb578) (o := .cells #[.slice Ao49 t568.length co49, .int .i64 t571, .int .i64 t572, .int .i64 t573, .int .i64 t574, .int .i64 t575, .int .i64 t576] 31 (0, 0)) (qk BK578.out) hb); replace BK617 := Aside0.mk (blk_below (g := gb617) (o := .cells #[.slice Ao144 t607.length co144, .int .i64 t610, .int .i64 t611, .int .i64 t612, .int .i64 t613, .int .i64 t614, .int .i64 t615] 31 (0, 0)) (by (with_reducible repeat (first | refine blk_drewN ?_ _ | refine blk_drew ?_ | refine blk_alloc ?_ _)); refine blk_put (cs := #[.slice Ao144 t607.length co144, .int .i64 t610, .int .i64 t611, .int .i64 t612, .int .i64 t613, .int .i64 t614, .int .i64 0]) ?_ 6 _ rfl; (with_reducible repeat (first | refine blk_drewN ?_ _ | refine blk_drew ?_ | refine blk_alloc ?_ _)); refine blk_put (cs := #[.slice Ao144 t607.length co144, .int .i64 t610, .int .i64 t611, .int .i64 t612, .int .i64 t613, .int .i64 0, .int .i64 0]) ?_ 5 _ rfl; (with_reducible repeat (first | refine blk_drewN ?_ _ | refine blk_drew ?_ | refine blk_alloc ?_ _)); refine blk_put (cs := #[.slice Ao144 t607.length co144, .int .i64 t610, .int .i64 t611, .int .i64 t612, .int .i64 0, .int .i64 0, .int .i64 0]) ?_ 4 _ rfl; (with_reducible repeat (first | refine blk_drewN ?_ _ | refine blk_drew ?_ | refine blk_alloc ?_ _)); refine blk_put (cs := #[.slice Ao144 t607.length co144, .int .i64 t610, .int .i64 t611, .int .i64 0, .int .i64 0, .int .i64 0, .int .i64 0]) ?_ 3 _ rfl; (with_reducible repeat (first | refine blk_drewN ?_ _ | refine blk_drew ?_ | refine blk_alloc ?_ _)); refine blk_put (cs := #[.slice Ao144 t607.length co144, .int .i64 t610, .int .i64 0, .int .i64 0, .int .i64 0, .int .i64 0, .int .i64 0]) ?_ 2 _ rfl; (with_reducible repeat (first | refine blk_drewN ?_ _ | refine blk_drew ?_ | refine blk_alloc ?_ _)); refine blk_put (cs := #[.slice Ao144 t607.length co144, .int .i64 0, .int .i64 0, .int .i64 0, .int .i64 0, .int .i64 0, .int .i64 0]) ?_ 1 _ rfl; (with_reducible repeat (first | refine blk_drewN ?_ _ | refine blk_drew ?_ | refine blk_alloc ?_ _)); refine blk_put (cs := #[.slice none 0 0, .int .i64 0, .int .i64 0, .int .i64 0, .int .i64 0, .int .i64 0, .int .i64 0]) ?_ 0 _ rfl; (with_reducible repeat (first | refine blk_drewN ?_ _ | refine blk_drew ?_ | refine blk_alloc ?_ _)); exact BK617.out) hb); replace HB := hbs HB hb; (try clear hb); (try clear hb2); (try clear hk); (try clear hi)))
             go_meet
             case rel => exact ⟨_, ((t616 != t554)), (by first | rfl | (simp; done) | (simp [*]; done)), H', ⟨by have := HJ16.out; have := HJ88.out; first | omega | exact Nat.le_refl _⟩, ⟨by (try simp only [hl566000_88]); (with_reducible repeat (first | apply Kd.R_alloc | apply Kd.R_drewN | apply Kd.R_drew)); exact Kd.R_mono HO_556000.out (fun _ hk => ⟨hk.2.2.1, ⟨hk.2.2.2, hk.2.1⟩⟩)⟩, ⟨by (try simp only [hl566000_88]); (with_reducible repeat (first | apply Kd.R_alloc | apply Kd.R_drewN | apply Kd.R_drew)); exact Kd.R_mono HO_566000.out (fun _ hk => ⟨hk.2.2.1, ⟨hk.2.2.2, hk.2.1⟩⟩)⟩, ⟨by (try simp only [hl566000_88]); (with_reducible repeat (first | apply Kd.R_alloc | apply Kd.R_drewN | apply Kd.R_drew)); exact Kd.R_mono HO_579000.out (fun _ hk => ⟨hk.2.2.1, ⟨hk.2.2.2, hk.2.1⟩⟩)⟩, ⟨by (try simp only [hl566000_88]); (with_reducible repeat (first | apply Kd.R_alloc | apply Kd.R_drewN | apply Kd.R_drew)); exact Kd.R_mono HO609.out (fun _ hk => ⟨hk.2.1, ⟨hk.2.2.1, hk.2.2.2⟩⟩)⟩, ⟨by (try simp only [hl566000_88]); (with_reducible repeat (first | refine blk_drewN ?_ _ | refine blk_drew ?_ | refine blk_alloc ?_ _)); exact BK531.out⟩, ⟨by (try simp only [hl566000_88]); (with_reducible repeat (first | refine blk_drewN ?_ _ | refine blk_drew ?_ | refine blk_alloc ?_ _)); exact BK532.out⟩, ⟨by (try simp only [hl566000_88]); (with_reducible repeat (first | refine blk_drewN ?_ _ | refine blk_drew ?_ | refine blk_alloc ?_ _)); exact BK555.out⟩, ⟨by (try simp only [hl566000_88]); (with_reducible repeat (first | refine blk_drewN ?_ _ | refine blk_drew ?_ | refine blk_alloc ?_ _)); exact BK565.out⟩, ⟨by (try simp only [hl566000_88]); (with_reducible repeat (first | refine blk_drewN ?_ _ | refine blk_drew ?_ | refine blk_alloc ?_ _)); exact BK578.out⟩, ⟨by (try simp only [hl566000_88]); (with_reducible repeat (first | refine blk_drewN ?_ _ | refine blk_drew ?_ | refine blk_alloc ?_ _)); exact BK617.out⟩, ⟨blq HB.out⟩⟩
            ·
             replace c153 := Bool.eq_false_iff.mpr c153
             subst c153
             have H1 : (laws_FnExactEnter.j2 kj88 t593 true t594 t571 t572 t573 t574 t575 t576) = some r := by rw [if_neg (show ¬ (false = true) by decide)] at H; exact H
             clear H
             have H := H1
             clear H1
             have H' := Aside0.mk H
             clear H
             obtain ⟨_, _, _, _, _, _, _, _, _, _⟩ := ne10 NB617_531 NB531_617 NB617_532 NB532_617 NB617_555 NB555_617 NB617_565 NB565_617 NB617_578 NB578_617
             have hcz171_0 : w143.cell? ⟨gb617, 0, none⟩ = some (.slice none 0 0) := bc BK617 0
             have hcz171_1 : w143.cell? ⟨gb617, 1, none⟩ = some (.int .i64 0) := bc BK617 1
             have hcz171_2 : w143.cell? ⟨gb617, 2, none⟩ = some (.int .i64 0) := bc BK617 2
             have hcz171_3 : w143.cell? ⟨gb617, 3, none⟩ = some (.int .i64 0) := bc BK617 3
             have hcz171_4 : w143.cell? ⟨gb617, 4, none⟩ = some (.int .i64 0) := bc BK617 4
             have hcz171_5 : w143.cell? ⟨gb617, 5, none⟩ = some (.int .i64 0) := bc BK617 5
             have hcz171_6 : w143.cell? ⟨gb617, 6, none⟩ = some (.int .i64 0) := bc BK617 6
             have hfz171_0 := blk_frozen BK617.out 0
             have hfz171_1 := blk_frozen BK617.out 1
             have hfz171_2 := blk_frozen BK617.out 2
             have hfz171_3 := blk_frozen BK617.out 3
             have hfz171_4 := blk_frozen BK617.out 4
             have hfz171_5 := blk_frozen BK617.out 5
             have hfz171_6 := blk_frozen BK617.out 6
             obtain ⟨_, _, _, _, _, _, _, _⟩ := ne8 NB555_531 NB531_555 NB555_532 NB532_555 NB555_565 NB565_555 NB555_578 NB578_555
             have hcz176_0 : w143.cell? ⟨gb555, 0, none⟩ = some (.slice Ao25 t545.length co25) := bc BK555 0
             have hcz176_1 : w143.cell? ⟨gb555, 1, none⟩ = some (.int .i64 t548) := bc BK555 1
             have hcz176_2 : w143.cell? ⟨gb555, 2, none⟩ = some (.int .i64 t549) := bc BK555 2
             have hcz176_3 : w143.cell? ⟨gb555, 3, none⟩ = some (.int .i64 t550) := bc BK555 3
             have hcz176_4 : w143.cell? ⟨gb555, 4, none⟩ = some (.int .i64 t551) := bc BK555 4
             have hcz176_5 : w143.cell? ⟨gb555, 5, none⟩ = some (.int .i64 t552) := bc BK555 5
             have hcz176_6 : w143.cell? ⟨gb555, 6, none⟩ = some (.int .i64 t553) := bc BK555 6
             have hfz176_0 := blk_frozen BK555.out 0
             have hfz176_1 := blk_frozen BK555.out 1
             have hfz176_2 := blk_frozen BK555.out 2
             have hfz176_3 := blk_frozen BK555.out 3
             have hfz176_4 := blk_frozen BK555.out 4
             have hfz176_5 := blk_frozen BK555.out 5
             have hfz176_6 := blk_frozen BK555.out 6
             go_wp2_with (first | ((with_reducible refine gate_callee (f := 17) rfl ?_); refine gLq (some 89) Try.func17 #[.agg #[.slice Ao144 t607.length co144, .int .i64 t610, .int .i64 t611, .int .i64 t612, .int .i64 t613, .int .i64 t614, .int .i64 t615], .agg #[.slice Ao25 t545.length co25, .int .i64 t548, .int .i64 t549, .int .i64 t550, .int .i64 t551, .int .i64 t552, .int .i64 t553]] ?_; (with_reducible refine (laws_eqBook.calls kj88 _ _ t607 t610 t611 t612 t613 t614 t615 _ _ t545 t548 t549 t550 t551 t552 t553 false _ ?side1 ?side2 ?side3 ?side4 A152.out).mono ?_); (case side1 => refine (Kd.R_reads' (e := 41) (base := w.heap.size) (ok := fun k_ => (some k_ ≠ (v597 : Value).ownBlock ∧ (some k_ ≠ (.slice Ao25 t545.length co25 : Value).ownBlock ∧ (some k_ ≠ (.slice Ao38 t591.length co38 : Value).ownBlock ∧ some k_ ≠ (.slice Ao49 t568.length co49 : Value).ownBlock)))) (n := t607.length) (c := co144) ?_).2.2; exact (Kd.Rq (Kd.R_mono (Kd.R_far (p := ⟨gb617, 6, none⟩) (Kd.R_far (p := ⟨gb617, 5, none⟩) (Kd.R_far (p := ⟨gb617, 4, none⟩) (Kd.R_far (p := ⟨gb617, 3, none⟩) (Kd.R_far (p := ⟨gb617, 2, none⟩) (Kd.R_far (p := ⟨gb617, 1, none⟩) (Kd.R_far (p := ⟨gb617, 0, none⟩) (Kd.R_types HO609.out BK617.out (by decide)) (fun _ hk => hk.2) (.slice Ao144 t607.length co144)) (fun _ hk => hk.2) (.int .i64 t610)) (fun _ hk => hk.2) (.int .i64 t611)) (fun _ hk => hk.2) (.int .i64 t612)) (fun _ hk => hk.2) (.int .i64 t613)) (fun _ hk => hk.2) (.int .i64 t614)) (fun _ hk => hk.2) (.int .i64 t615)) (fun _ h_ => h_.1)))); (case side2 => exact (Kd.R_reads' HO609.out).2.1); (case side3 => refine (Kd.R_reads' (e := 41) (base := w.heap.size) (ok := fun k_ => (some k_ ≠ (v597 : Value).ownBlock ∧ (some k_ ≠ (.slice Ao144 t607.length co144 : Value).ownBlock ∧ (some k_ ≠ (.slice Ao38 t591.length co38 : Value).ownBlock ∧ some k_ ≠ (.slice Ao49 t568.length co49 : Value).ownBlock)))) (n := t545.length) (c := co25) ?_).2.2; exact (Kd.Rq (Kd.R_mono (Kd.R_far (p := ⟨gb617, 6, none⟩) (Kd.R_far (p := ⟨gb617, 5, none⟩) (Kd.R_far (p := ⟨gb617, 4, none⟩) (Kd.R_far (p := ⟨gb617, 3, none⟩) (Kd.R_far (p := ⟨gb617, 2, none⟩) (Kd.R_far (p := ⟨gb617, 1, none⟩) (Kd.R_far (p := ⟨gb617, 0, none⟩) (Kd.R_types HO_556000.out BK617.out (by decide)) (fun _ hk => hk.2) (.slice Ao144 t607.length co144)) (fun _ hk => hk.2) (.int .i64 t610)) (fun _ hk => hk.2) (.int .i64 t611)) (fun _ hk => hk.2) (.int .i64 t612)) (fun _ hk => hk.2) (.int .i64 t613)) (fun _ hk => hk.2) (.int .i64 t614)) (fun _ hk => hk.2) (.int .i64 t615)) (fun _ h_ => h_.1)))); (case side4 => exact (Kd.R_reads' HO_556000.out).2.1); rintro e w177 ⟨rfl, hb⟩; refine ⟨_, rfl, ?_⟩; replace HO_556000 := Aside0.mk (Kd.R_below (Kd.Rq (Kd.R_mono (Kd.R_far (p := ⟨gb617, 6, none⟩) (Kd.R_far (p := ⟨gb617, 5, none⟩) (Kd.R_far (p := ⟨gb617, 4, none⟩) (Kd.R_far (p := ⟨gb617, 3, none⟩) (Kd.R_far (p := ⟨gb617, 2, none⟩) (Kd.R_far (p := ⟨gb617, 1, none⟩) (Kd.R_far (p := ⟨gb617, 0, none⟩) (Kd.R_types HO_556000.out BK617.out (by decide)) (fun _ hk => hk.2) (.slice Ao144 t607.length co144)) (fun _ hk => hk.2) (.int .i64 t610)) (fun _ hk => hk.2) (.int .i64 t611)) (fun _ hk => hk.2) (.int .i64 t612)) (fun _ hk => hk.2) (.int .i64 t613)) (fun _ hk => hk.2) (.int .i64 t614)) (fun _ hk => hk.2) (.int .i64 t615)) (fun _ h_ => h_.1))) hb); replace HO_566000 := Aside0.mk (Kd.R_below (Kd.Rq (Kd.R_mono (Kd.R_far (p := ⟨gb617, 6, none⟩) (Kd.R_far (p := ⟨gb617, 5, none⟩) (Kd.R_far (p := ⟨gb617, 4, none⟩) (Kd.R_far (p := ⟨gb617, 3, none⟩) (Kd.R_far (p := ⟨gb617, 2, none⟩) (Kd.R_far (p := ⟨gb617, 1, none⟩) (Kd.R_far (p := ⟨gb617, 0, none⟩) (Kd.R_types HO_566000.out BK617.out (by decide)) (fun _ hk => hk.2) (.slice Ao144 t607.length co144)) (fun _ hk => hk.2) (.int .i64 t610)) (fun _ hk => hk.2) (.int .i64 t611)) (fun _ hk => hk.2) (.int .i64 t612)) (fun _ hk => hk.2) (.int .i64 t613)) (fun _ hk => hk.2) (.int .i64 t614)) (fun _ hk => hk.2) (.int .i64 t615)) (fun _ h_ => h_.1))) hb); replace HO_579000 := Aside0.mk (Kd.R_below (Kd.Rq (Kd.R_mono (Kd.R_far (p := ⟨gb617, 6, none⟩) (Kd.R_far (p := ⟨gb617, 5, none⟩) (Kd.R_far (p := ⟨gb617, 4, none⟩) (Kd.R_far (p := ⟨gb617, 3, none⟩) (Kd.R_far (p := ⟨gb617, 2, none⟩) (Kd.R_far (p := ⟨gb617, 1, none⟩) (Kd.R_far (p := ⟨gb617, 0, none⟩) (Kd.R_types HO_579000.out BK617.out (by decide)) (fun _ hk => hk.2) (.slice Ao144 t607.length co144)) (fun _ hk => hk.2) (.int .i64 t610)) (fun _ hk => hk.2) (.int .i64 t611)) (fun _ hk => hk.2) (.int .i64 t612)) (fun _ hk => hk.2) (.int .i64 t613)) (fun _ hk => hk.2) (.int .i64 t614)) (fun _ hk => hk.2) (.int .i64 t615)) (fun _ h_ => h_.1))) hb); replace HO598 := Aside0.mk (Kd.R_below (Kd.Rq (Kd.R_mono (Kd.R_far (p := ⟨gb617, 6, none⟩) (Kd.R_far (p := ⟨gb617, 5, none⟩) (Kd.R_far (p := ⟨gb617, 4, none⟩) (Kd.R_far (p := ⟨gb617, 3, none⟩) (Kd.R_far (p := ⟨gb617, 2, none⟩) (Kd.R_far (p := ⟨gb617, 1, none⟩) (Kd.R_far (p := ⟨gb617, 0, none⟩) (Kd.R_types HO598.out BK617.out (by decide)) (fun _ hk => hk.2) (.slice Ao144 t607.length co144)) (fun _ hk => hk.2) (.int .i64 t610)) (fun _ hk => hk.2) (.int .i64 t611)) (fun _ hk => hk.2) (.int .i64 t612)) (fun _ hk => hk.2) (.int .i64 t613)) (fun _ hk => hk.2) (.int .i64 t614)) (fun _ hk => hk.2) (.int .i64 t615)) (fun _ h_ => h_.1))) hb); replace HO609 := Aside0.mk (Kd.R_below (Kd.Rq (Kd.R_mono (Kd.R_far (p := ⟨gb617, 6, none⟩) (Kd.R_far (p := ⟨gb617, 5, none⟩) (Kd.R_far (p := ⟨gb617, 4, none⟩) (Kd.R_far (p := ⟨gb617, 3, none⟩) (Kd.R_far (p := ⟨gb617, 2, none⟩) (Kd.R_far (p := ⟨gb617, 1, none⟩) (Kd.R_far (p := ⟨gb617, 0, none⟩) (Kd.R_types HO609.out BK617.out (by decide)) (fun _ hk => hk.2) (.slice Ao144 t607.length co144)) (fun _ hk => hk.2) (.int .i64 t610)) (fun _ hk => hk.2) (.int .i64 t611)) (fun _ hk => hk.2) (.int .i64 t612)) (fun _ hk => hk.2) (.int .i64 t613)) (fun _ hk => hk.2) (.int .i64 t614)) (fun _ hk => hk.2) (.int .i64 t615)) (fun _ h_ => h_.1))) hb); replace BK531 := Aside0.mk (blk_below (g := gb531) (o := .cells #[.slice A0_0 l0_0.length c0_0, .int .i64 a0_1, .int .i64 a0_2, .int .i64 a0_3, .int .i64 a0_4, .int .i64 a0_5, .int .i64 a0_6] 26 (0, 0)) (qk BK531.out) hb); replace BK532 := Aside0.mk (blk_below (g := gb532) (o := .cells #[.int .i64 a1_0, .int .i64 a1_1] 39 (0, 0)) (qk BK532.out) hb); replace BK555 := Aside0.mk (blk_below (g := gb555) (o := .cells #[.slice Ao25 t545.length co25, .int .i64 t548, .int .i64 t549, .int .i64 t550, .int .i64 t551, .int .i64 t552, .int .i64 t553] 31 (0, 0)) (qk BK555.out) hb); replace BK565 := Aside0.mk (blk_below (g := gb565) (o := .cells #[.slice Ao38 t591.length co38, .int .i64 t559, .int .i64 t560, .int .i64 t561, .int .i64 t562, .int .i64 t563, .int .i64 t564] 31 (0, 0)) (qk BK565.out) hb); replace BK578 := Aside0.mk (blk_below (g := gb578) (o := .cells #[.slice Ao49 t568.length co49, .int .i64 t571, .int .i64 t572, .int .i64 t573, .int .i64 t574, .int .i64 t575, .int .i64 t576] 31 (0, 0)) (qk BK578.out) hb); replace BK617 := Aside0.mk (blk_below (g := gb617) (o := .cells #[.slice Ao144 t607.length co144, .int .i64 t610, .int .i64 t611, .int .i64 t612, .int .i64 t613, .int .i64 t614, .int .i64 t615] 31 (0, 0)) (by (with_reducible repeat (first | refine blk_drewN ?_ _ | refine blk_drew ?_ | refine blk_alloc ?_ _)); refine blk_put (cs := #[.slice Ao144 t607.length co144, .int .i64 t610, .int .i64 t611, .int .i64 t612, .int .i64 t613, .int .i64 t614, .int .i64 0]) ?_ 6 _ rfl; (with_reducible repeat (first | refine blk_drewN ?_ _ | refine blk_drew ?_ | refine blk_alloc ?_ _)); refine blk_put (cs := #[.slice Ao144 t607.length co144, .int .i64 t610, .int .i64 t611, .int .i64 t612, .int .i64 t613, .int .i64 0, .int .i64 0]) ?_ 5 _ rfl; (with_reducible repeat (first | refine blk_drewN ?_ _ | refine blk_drew ?_ | refine blk_alloc ?_ _)); refine blk_put (cs := #[.slice Ao144 t607.length co144, .int .i64 t610, .int .i64 t611, .int .i64 t612, .int .i64 0, .int .i64 0, .int .i64 0]) ?_ 4 _ rfl; (with_reducible repeat (first | refine blk_drewN ?_ _ | refine blk_drew ?_ | refine blk_alloc ?_ _)); refine blk_put (cs := #[.slice Ao144 t607.length co144, .int .i64 t610, .int .i64 t611, .int .i64 0, .int .i64 0, .int .i64 0, .int .i64 0]) ?_ 3 _ rfl; (with_reducible repeat (first | refine blk_drewN ?_ _ | refine blk_drew ?_ | refine blk_alloc ?_ _)); refine blk_put (cs := #[.slice Ao144 t607.length co144, .int .i64 t610, .int .i64 0, .int .i64 0, .int .i64 0, .int .i64 0, .int .i64 0]) ?_ 2 _ rfl; (with_reducible repeat (first | refine blk_drewN ?_ _ | refine blk_drew ?_ | refine blk_alloc ?_ _)); refine blk_put (cs := #[.slice Ao144 t607.length co144, .int .i64 0, .int .i64 0, .int .i64 0, .int .i64 0, .int .i64 0, .int .i64 0]) ?_ 1 _ rfl; (with_reducible repeat (first | refine blk_drewN ?_ _ | refine blk_drew ?_ | refine blk_alloc ?_ _)); refine blk_put (cs := #[.slice none 0 0, .int .i64 0, .int .i64 0, .int .i64 0, .int .i64 0, .int .i64 0, .int .i64 0]) ?_ 0 _ rfl; (with_reducible repeat (first | refine blk_drewN ?_ _ | refine blk_drew ?_ | refine blk_alloc ?_ _)); exact BK617.out) hb); replace HB := hbs HB hb; (try clear hb); (try clear hb2); (try clear hk); (try clear hi)))
             go_meet
             case rel => exact ⟨_, (true), (by first | rfl | (simp; done) | (simp [*]; done)), H', ⟨by have := HJ16.out; have := HJ88.out; first | omega | exact Nat.le_refl _⟩, ⟨by (try simp only [hl566000_88]); (with_reducible repeat (first | apply Kd.R_alloc | apply Kd.R_drewN | apply Kd.R_drew)); exact Kd.R_mono HO_556000.out (fun _ hk => ⟨hk.2.2.1, ⟨hk.2.2.2, hk.2.1⟩⟩)⟩, ⟨by (try simp only [hl566000_88]); (with_reducible repeat (first | apply Kd.R_alloc | apply Kd.R_drewN | apply Kd.R_drew)); exact Kd.R_mono HO_566000.out (fun _ hk => ⟨hk.2.2.1, ⟨hk.2.2.2, hk.2.1⟩⟩)⟩, ⟨by (try simp only [hl566000_88]); (with_reducible repeat (first | apply Kd.R_alloc | apply Kd.R_drewN | apply Kd.R_drew)); exact Kd.R_mono HO_579000.out (fun _ hk => ⟨hk.2.2.1, ⟨hk.2.2.2, hk.2.1⟩⟩)⟩, ⟨by (try simp only [hl566000_88]); (with_reducible repeat (first | apply Kd.R_alloc | apply Kd.R_drewN | apply Kd.R_drew)); exact Kd.R_mono HO609.out (fun _ hk => ⟨hk.2.1, ⟨hk.2.2.1, hk.2.2.2⟩⟩)⟩, ⟨by (try simp only [hl566000_88]); (with_reducible repeat (first | refine blk_drewN ?_ _ | refine blk_drew ?_ | refine blk_alloc ?_ _)); exact BK531.out⟩, ⟨by (try simp only [hl566000_88]); (with_reducible repeat (first | refine blk_drewN ?_ _ | refine blk_drew ?_ | refine blk_alloc ?_ _)); exact BK532.out⟩, ⟨by (try simp only [hl566000_88]); (with_reducible repeat (first | refine blk_drewN ?_ _ | refine blk_drew ?_ | refine blk_alloc ?_ _)); exact BK555.out⟩, ⟨by (try simp only [hl566000_88]); (with_reducible repeat (first | refine blk_drewN ?_ _ | refine blk_drew ?_ | refine blk_alloc ?_ _)); exact BK565.out⟩, ⟨by (try simp only [hl566000_88]); (with_reducible repeat (first | refine blk_drewN ?_ _ | refine blk_drew ?_ | refine blk_alloc ?_ _)); exact BK578.out⟩, ⟨by (try simp only [hl566000_88]); (with_reducible repeat (first | refine blk_drewN ?_ _ | refine blk_drew ?_ | refine blk_alloc ?_ _)); exact BK617.out⟩, ⟨blq HB.out⟩⟩
           case rest =>
            clear HC136
            try clear c1
            try clear c2
            try clear p2
            try clear c15
            try clear c16
            try clear c17
            try clear c21
            try clear c22
            try clear c153
            try clear c154
            try clear c155
            try clear c156
            try clear c157
            try clear c158
            try clear c160
            try clear c161
            try clear c162
            try clear c163
            try clear c166
            try clear c167
            try clear c168
            try clear c169
            try clear c170
            try clear c172
            try clear c173
            try clear c174
            try clear c175
            try clear hcz159_0 hcz159_1 hcz159_2 hcz159_3 hcz159_4 hcz159_5 hcz159_6 hfz159_0 hfz159_1 hfz159_2 hfz159_3 hfz159_4 hfz159_5 hfz159_6
            try clear hcz164_0 hcz164_1 hcz164_2 hcz164_3 hcz164_4 hcz164_5 hcz164_6 hfz164_0 hfz164_1 hfz164_2 hfz164_3 hfz164_4 hfz164_5 hfz164_6
            try clear hcz171_0 hcz171_1 hcz171_2 hcz171_3 hcz171_4 hcz171_5 hcz171_6 hfz171_0 hfz171_1 hfz171_2 hfz171_3 hfz171_4 hfz171_5 hfz171_6
            try clear hcz176_0 hcz176_1 hcz176_2 hcz176_3 hcz176_4 hcz176_5 hcz176_6 hfz176_0 hfz176_1 hfz176_2 hfz176_3 hfz176_4 hfz176_5 hfz176_6
            obtain ⟨kq, x95_135, rfl, HA, HJ135, HO_556000, HO_566000, HO_579000, HO_618000, BK531, BK532, BK555, BK565, BK578, BK617, HB⟩ := hcut
            have hl579000_135 := (Kd.R_reads' HO_579000.out).1
            rw [hl579000_135] at HO_579000
            (try simp only [hl579000_135])
            (try simp only [hl579000_135] at BK531)
            (try simp only [hl579000_135] at BK532)
            (try simp only [hl579000_135] at BK555)
            (try simp only [hl579000_135] at BK565)
            (try simp only [hl579000_135] at BK578)
            (try simp only [hl579000_135] at BK617)
            (try simp only [hl579000_135] at HO_556000)
            (try simp only [hl579000_135] at HO_566000)
            (try simp only [hl579000_135] at HO_618000)
            cases kq with
            | zero => exact absurd HA.out (by simp [laws_FnExactEnter.j2])
            | succ kj135 =>
             have H := HA.out
             clear HA
             simp only [laws_FnExactEnter.j2] at H
             by_cases c178 : x95_135 = true
             ·
              subst c178
              have H1 : (some false) = some r := by rw [if_pos rfl] at H; exact H
              clear H
              have H := H1
              clear H1
              obtain rfl := Option.some.inj H
              go_wp2
              go_ret
              exact ⟨by first | rfl | (simp [errW_none, errW_some] <;> rfl) | (simp [*, errW_none, errW_some] <;> rfl), blq HB.out⟩
             ·
              replace c178 := Bool.eq_false_iff.mpr c178
              subst c178
              have H1 : ((laws_heldBook.f kj135 t594 t571 t572 t573 t574 t575 t576 1).bind fun t619 => (if t619 < 0 then (some false) else (if t619 = t593 then (some true) else (some false)))) = some r := by rw [if_neg (show ¬ (false = true) by decide)] at H; exact H
              clear H
              have H := H1
              clear H1
              replace H := Option.bind_eq_some_iff.mp H
              obtain ⟨t619, A1790, H⟩ := H
              replace H : (if t619 < 0 then (some false) else (if t619 = t593 then (some true) else (some false))) = some r := H
              have A179 := Aside0.mk A1790
              clear A1790
              have HF180 := Aside0.mk H
              clear H
              obtain ⟨_, _, _, _, _, _, _, _, _, _⟩ := ne10 NB578_531 NB531_578 NB578_532 NB532_578 NB578_555 NB555_578 NB578_565 NB565_578 NB578_617 NB617_578
              have hcz186_0 : wc.cell? ⟨gb578, 0, none⟩ = some (.slice Ao49 t594.length co49) := bc BK578 0
              have hcz186_1 : wc.cell? ⟨gb578, 1, none⟩ = some (.int .i64 t571) := bc BK578 1
              have hcz186_2 : wc.cell? ⟨gb578, 2, none⟩ = some (.int .i64 t572) := bc BK578 2
              have hcz186_3 : wc.cell? ⟨gb578, 3, none⟩ = some (.int .i64 t573) := bc BK578 3
              have hcz186_4 : wc.cell? ⟨gb578, 4, none⟩ = some (.int .i64 t574) := bc BK578 4
              have hcz186_5 : wc.cell? ⟨gb578, 5, none⟩ = some (.int .i64 t575) := bc BK578 5
              have hcz186_6 : wc.cell? ⟨gb578, 6, none⟩ = some (.int .i64 t576) := bc BK578 6
              have hfz186_0 := blk_frozen BK578.out 0
              have hfz186_1 := blk_frozen BK578.out 1
              have hfz186_2 := blk_frozen BK578.out 2
              have hfz186_3 := blk_frozen BK578.out 3
              have hfz186_4 := blk_frozen BK578.out 4
              have hfz186_5 := blk_frozen BK578.out 5
              have hfz186_6 := blk_frozen BK578.out 6
              go_upto_if 100 with (first | ((with_reducible refine gate_callee (f := 19) rfl ?_); refine gLq (some 98) Try.func19 #[.agg #[.slice Ao49 t594.length co49, .int .i64 t571, .int .i64 t572, .int .i64 t573, .int .i64 t574, .int .i64 t575, .int .i64 t576], .int .i64 1] ?_; (with_reducible refine (laws_heldBook.calls kj135 _ _ t594 t571 t572 t573 t574 t575 t576 1 t619 _ ?side1 ?side2 A179.out).mono ?_); (case side1 => repeat (first | exact (Kd.R_reads' HO_579000.out).2.2 | (with_reducible refine Kd.C_alloc ?_ _) | (with_reducible refine Kd.C_drewN ?_ _) | (with_reducible refine Kd.C_drew ?_))); (case side2 => exact (Kd.R_reads' HO_579000.out).2.1); rintro e w187 ⟨rfl, hb⟩; refine ⟨_, rfl, ?_⟩; replace HO_556000 := rob HO_556000 hb; replace HO_566000 := rob HO_566000 hb; replace HO_579000 := rob HO_579000 hb; replace HO_618000 := rob HO_618000 hb; replace BK531 := bkb BK531 hb; replace BK532 := bkb BK532 hb; replace BK555 := bkb BK555 hb; replace BK565 := bkb BK565 hb; replace BK578 := bkb BK578 hb; replace BK617 := bkb BK617 hb; replace HB := hbs HB hb; (try clear hb); (try clear hb2); (try clear hk); (try clear hi)))
              have H := HF180.out
              clear HF180
              by_cases c188 : t619 < 0
              ·
               rw [if_pos c188] at H
               have c188b0 : decide (t619 < 0) = true := decide_eq_true c188
               clear c188
               (first | rw [c188b0] | (simp only [i64_w, i32_w]; rw [c188b0]) | skip)
               obtain rfl := Option.some.inj H
               go_wp2
               go_ret
               exact ⟨by first | rfl | (simp [errW_none, errW_some] <;> rfl) | (simp [*, errW_none, errW_some] <;> rfl), blq HB.out⟩
              ·
               rw [if_neg c188] at H
               have c188b0 : decide (t619 < 0) = false := decide_eq_false c188
               clear c188
               (first | rw [c188b0] | (simp only [i64_w, i32_w]; rw [c188b0]) | skip)
               by_cases c189 : t619 = t593
               ·
                rw [if_pos c189] at H
                have c189b0 : (t619 == t593) = true := beq_iff_eq.mpr c189
                have c189b1 : (t619 != t593) = false := bne_eq_false_iff_eq.mpr c189
                clear c189
                obtain rfl := Option.some.inj H
                go_wp2
                go_ret
                exact ⟨by first | rfl | (simp [errW_none, errW_some] <;> rfl) | (simp [*, errW_none, errW_some] <;> rfl), blq HB.out⟩
               ·
                rw [if_neg c189] at H
                have c189b0 : (t619 == t593) = false := beq_eq_false_iff_ne.mpr c189
                have c189b1 : (t619 != t593) = true := bne_iff_ne.mpr c189
                obtain rfl := Option.some.inj H
                go_wp2
                go_ret
                exact ⟨by first | rfl | (simp [errW_none, errW_some] <;> rfl) | (simp [*, errW_none, errW_some] <;> rfl), blq HB.out⟩
          ·
           rw [if_neg c132] at H
           have c132b0 : (t595 == t593) = false := beq_eq_false_iff_ne.mpr c132
           have c132b1 : (t595 != t593) = true := bne_iff_ne.mpr c132
           obtain rfl := Option.some.inj H
           go_wp2
           go_ret
           exact ⟨by first | rfl | (simp [errW_none, errW_some] <;> rfl) | (simp [*, errW_none, errW_some] <;> rfl), blq HB.out⟩
     ·
      replace c87 := Bool.eq_false_iff.mpr c87
      subst c87
      have H1 : (some false) = some r := by rw [if_neg (show ¬ (false = true) by decide)] at H; exact H
      clear H
      have H := H1
      clear H1
      obtain rfl := Option.some.inj H
      go_wp2
      go_ret
      exact ⟨by first | rfl | (simp [errW_none, errW_some] <;> rfl) | (simp [*, errW_none, errW_some] <;> rfl), blq HB.out⟩

end Go.Proofs.Ytonaabffckkdlaa.Q
