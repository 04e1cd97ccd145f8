-- Written for this claim by wip/xprint.py of this repository (by way of the kit's print); Lean checks every line.
import Derived.Test.YtnlioefgpgamdaaQ0
import Derived.Test.YtnlioefgpgamdaaQ2
import Derived.Test.YtnlioefgpgamdaaQ3
import Derived.Test.YtnlioefgpgamdaaQ4
namespace Go.Proofs.Ytnlioefgpgamdaa.Q
open Go.RowKit Go.Proofs.YtnlioefgpgamdaaW.PrintWords Go.Proofs.YtnlioefgpgamdaaW.PrintLast Go.Proofs.YtnlioefgpgamdaaW.PrintMore
attribute [local go_sem] max2_int min2_int max_two min_two max_three min_three max_four min_four   -- for this text's walks alone
set_option linter.unusedVariables false
set_option linter.unusedSimpArgs false

/-! ### laws_FnTills: function 3 -/
mutual
def laws_FnTills.j0 : Nat → List Int → List (S33) → List Int → Int → Bool → Option (Bool)
 | 0, _, _, _, _, _ => none
 | k + 1, x0, x3, x5, x6, x50 => if x50 = true then (some false) else (laws_FnTills.l0 k x0 x3 x5 x6 0 0 0)
def laws_FnTills.l0 : Nat → List Int → List (S33) → List Int → Int → Int → Int → Int → Option (Bool)
 | 0, _, _, _, _, _, _, _ => none
 | k + 1, x0, x3, x5, x6, x7, x8, x9 => if x9 < (x3.length : Int) then ((laws_has.f k x5 x9).bind fun t206 => (if 0 ≤ x9 then ((impl_SlipOk.f ((rd_T33 x3 x9).f0) ((rd_T33 x3 x9).f1) ((rd_T33 x3 x9).f2)).bind fun t208 => (if (t206 != (!t208)) = true then (some false) else (laws_FnTills.l0 k x0 x3 x5 x6 (wrap64 (x7 + ((rd_T33 x3 x9).f0))) (wrap64 ((wrap64 ((wrap64 (x8 + ((rd_T33 x3 x9).f1))) - ((rd_T33 x3 x9).f2))) - ((rd_T33 x3 x9).f0))) (wrap64 (x9 + 1))))) else (none))) else ((laws_at.f x0 0).bind fun t213 => (if x6 = (wrap64 ((wrap64 (500 + x7)) + x8)) then (if (x5.length : Int) > 0 then ((impl_MissingMoney.f k x3 500 (wrap64 (t213 * 4))).bind fun t214 => (if t214 = (wrap64 (x6 - (wrap64 (t213 * 4)))) then ((impl_TillAfter.f k x3 501).bind fun t215 => (if t215 = (wrap64 (x6 + 1)) then ((impl_SlipOk.f 7 10 3).bind fun t216 => (some t216)) else (some false))) else (some false))) else (if x8 = 0 then ((impl_MissingMoney.f k x3 500 (wrap64 (t213 * 4))).bind fun t217 => (if t217 = (wrap64 (x6 - (wrap64 (t213 * 4)))) then ((impl_TillAfter.f k x3 501).bind fun t218 => (if t218 = (wrap64 (x6 + 1)) then ((impl_SlipOk.f 7 10 3).bind fun t219 => (some t219)) else (some false))) else (some false))) else (some false))) else (some false)))
end
def laws_FnTills.f (k : Nat) (l0 : List Int) : Option (Bool) := (laws_big.f l0).bind fun t191 => (if t191 = true then (some true) else ((spec_DrawSlips.f k l0).bind fun t192 => ((impl_LeastStart.f k t192).bind fun t195 => ((impl_WrongSlips.f k t192).bind fun t196 => ((impl_TillAfter.f k t192 500).bind fun t199 => (if t195 < 0 then (laws_FnTills.j0 k l0 t192 t196 t199 true) else ((impl_LowestTill.f k t192 t195).bind fun t200 => (if t200 < 0 then (laws_FnTills.j0 k l0 t192 t196 t199 true) else (if t195 > 0 then ((impl_LowestTill.f k t192 (wrap64 (t195 - 1))).bind fun t201 => (if t201 ≥ 0 then (laws_FnTills.j0 k l0 t192 t196 t199 true) else ((impl_LowestTill.f k t192 500).bind fun t202 => (if t202 > t199 then (laws_FnTills.j0 k l0 t192 t196 t199 true) else ((impl_LowestTill.f k t192 500).bind fun t203 => (laws_FnTills.j0 k l0 t192 t196 t199 (decide (t203 > 500)))))))) else ((impl_LowestTill.f k t192 500).bind fun t204 => (if t204 > t199 then (laws_FnTills.j0 k l0 t192 t196 t199 true) else ((impl_LowestTill.f k t192 500).bind fun t205 => (laws_FnTills.j0 k l0 t192 t196 t199 (decide (t205 > 500)))))))))))))))
theorem laws_FnTills.mono_l : ∀ k, (∀ y0 y1 y2 y3 y4, LeO (laws_FnTills.j0 k y0 y1 y2 y3 y4) (laws_FnTills.j0 (k + 1) y0 y1 y2 y3 y4)) ∧ (∀ y0 y1 y2 y3 y4 y5 y6, LeO (laws_FnTills.l0 k y0 y1 y2 y3 y4 y5 y6) (laws_FnTills.l0 (k + 1) y0 y1 y2 y3 y4 y5 y6))
 | 0 => ⟨fun _ _ _ _ _ r h => by simp [laws_FnTills.j0] at h, fun _ _ _ _ _ _ _ r h => by simp [laws_FnTills.l0] at h⟩
 | k + 1 => by
  obtain ⟨ih0, ih1⟩ := laws_FnTills.mono_l k
  refine ⟨?_, ?_⟩
  ·
   intro y0 y1 y2 y3 y4
   unfold laws_FnTills.j0
   repeat' first
   | (with_reducible exact ih0 _ _ _ _ _)
   | (with_reducible exact ih1 _ _ _ _ _ _ _)
   | (with_reducible exact impl_LeastStart.mono _ _)
   | (with_reducible exact impl_LowestTill.mono _ _ _)
   | (with_reducible exact impl_MissingMoney.mono _ _ _ _)
   | (with_reducible exact impl_TillAfter.mono _ _ _)
   | (with_reducible exact impl_WrongSlips.mono _ _)
   | (with_reducible exact laws_has.mono _ _ _)
   | (with_reducible exact spec_DrawSlips.mono _ _)
   | (with_reducible exact LeO.refl _)
   | (with_reducible exact LeO.none _)
   | (with_reducible refine LeO.ite ?_ ?_)
   | (with_reducible refine LeO.bind ?_ (fun _ => ?_))
   | exact ih0 _ _ _ _ _
   | exact ih1 _ _ _ _ _ _ _
   | exact impl_LeastStart.mono _ _
   | exact impl_LowestTill.mono _ _ _
   | exact impl_MissingMoney.mono _ _ _ _
   | exact impl_TillAfter.mono _ _ _
   | exact impl_WrongSlips.mono _ _
   | exact laws_has.mono _ _ _
   | exact spec_DrawSlips.mono _ _
   | exact LeO.none _
   | refine LeO.ite ?_ ?_
   | refine LeO.bind ?_ (fun _ => ?_)
  ·
   intro y0 y1 y2 y3 y4 y5 y6
   unfold laws_FnTills.l0
   repeat' first
   | (with_reducible exact ih0 _ _ _ _ _)
   | (with_reducible exact ih1 _ _ _ _ _ _ _)
   | (with_reducible exact impl_LeastStart.mono _ _)
   | (with_reducible exact impl_LowestTill.mono _ _ _)
   | (with_reducible exact impl_MissingMoney.mono _ _ _ _)
   | (with_reducible exact impl_TillAfter.mono _ _ _)
   | (with_reducible exact impl_WrongSlips.mono _ _)
   | (with_reducible exact laws_has.mono _ _ _)
   | (with_reducible exact spec_DrawSlips.mono _ _)
   | (with_reducible exact LeO.refl _)
   | (with_reducible exact LeO.none _)
   | (with_reducible refine LeO.ite ?_ ?_)
   | (with_reducible refine LeO.bind ?_ (fun _ => ?_))
   | exact ih0 _ _ _ _ _
   | exact ih1 _ _ _ _ _ _ _
   | exact impl_LeastStart.mono _ _
   | exact impl_LowestTill.mono _ _ _
   | exact impl_MissingMoney.mono _ _ _ _
   | exact impl_TillAfter.mono _ _ _
   | exact impl_WrongSlips.mono _ _
   | exact laws_has.mono _ _ _
   | exact spec_DrawSlips.mono _ _
   | exact LeO.none _
   | refine LeO.ite ?_ ?_
   | refine LeO.bind ?_ (fun _ => ?_)
theorem laws_FnTills.mono : ∀ a0 k, LeO (laws_FnTills.f k a0) (laws_FnTills.f (k + 1) a0) := by
 intro a0 k
 obtain ⟨ih0, ih1⟩ := laws_FnTills.mono_l k
 unfold laws_FnTills.f
 repeat' first
   | (with_reducible exact ih0 _ _ _ _ _)
   | (with_reducible exact ih1 _ _ _ _ _ _ _)
   | (with_reducible exact impl_LeastStart.mono _ _)
   | (with_reducible exact impl_LowestTill.mono _ _ _)
   | (with_reducible exact impl_MissingMoney.mono _ _ _ _)
   | (with_reducible exact impl_TillAfter.mono _ _ _)
   | (with_reducible exact impl_WrongSlips.mono _ _)
   | (with_reducible exact laws_has.mono _ _ _)
   | (with_reducible exact spec_DrawSlips.mono _ _)
   | (with_reducible exact LeO.refl _)
   | (with_reducible exact LeO.none _)
   | (with_reducible refine LeO.ite ?_ ?_)
   | (with_reducible refine LeO.bind ?_ (fun _ => ?_))
   | exact ih0 _ _ _ _ _
   | exact ih1 _ _ _ _ _ _ _
   | exact impl_LeastStart.mono _ _
   | exact impl_LowestTill.mono _ _ _
   | exact impl_MissingMoney.mono _ _ _ _
   | exact impl_TillAfter.mono _ _ _
   | exact impl_WrongSlips.mono _ _
   | exact laws_has.mono _ _ _
   | exact spec_DrawSlips.mono _ _
   | exact LeO.none _
   | refine LeO.ite ?_ ?_
   | refine LeO.bind ?_ (fun _ => ?_)
def laws_FnTills.T14 : Bool × List (List Nat × List Nat) := (true, [([], []), ([], []), ([0, 1], [0, 1]), ([], []), ([], []), ([3, 4], [3, 4]), ([5], [5]), ([6, 2], [6]), ([7], [7]), ([2, 8], [2, 8])])
def laws_FnTills.B14 : List Nat := [0, 0, 3, 0, 0, 24, 56, 127, 255, 511]
theorem laws_FnTills.tab14 : rtab .any (opsOf Try.f3 14) = laws_FnTills.T14 := by kernel_rfl
theorem laws_FnTills.bits14 : waitsOk laws_FnTills.T14.2 laws_FnTills.B14 = true := by kernel_rfl
def laws_FnTills.T17 : Bool × List (List Nat × List Nat) := (true, [([], []), ([], []), ([], []), ([1, 2], [1, 2]), ([3], [3]), ([4], [4]), ([0, 5], [0, 5]), ([], []), ([], []), ([7, 8], [7, 8]), ([9], [9]), ([10], [10]), ([6, 11], [6, 11]), ([], []), ([], []), ([13, 14], [13, 14]), ([15], [15]), ([16], [16]), ([12, 17], [12, 17]), ([18, 0, 1, 2, 3, 4, 5, 6, 7, 8, 9, 10, 11, 12, 13, 14, 15, 16, 17, 18], [0, 18])])
def laws_FnTills.B17 : List Nat := [0, 0, 0, 6, 14, 30, 63, 0, 0, 384, 896, 1920, 4095, 0, 0, 24576, 57344, 122880, 262143, 524287]
theorem laws_FnTills.tab17 : rtab .any (opsOf Try.f3 17) = laws_FnTills.T17 := by kernel_rfl
theorem laws_FnTills.bits17 : waitsOk laws_FnTills.T17.2 laws_FnTills.B17 = true := by kernel_rfl
set_option maxHeartbeats 8000000 in
set_option maxRecDepth 100000 in
theorem laws_FnTills.calls (k : Nat) (A0 : Option Addr) (c0 : Nat) (l0 : List Int) (r : Bool) (w : World) (hr0 : Kd.C (Kd.int .u8) w A0 l0.length l0) (hc0 : l0.length ≤ c0) (h : laws_FnTills.f k l0 = some r) :
  Calls Try.prog 3 #[.slice A0 l0.length c0] w fun e w' => e = .returned (.bool r) ∧ Below w.heap.size w w' := by
 have hu33 := Try.underlying33
 have HR0 := Aside0.mk hr0
 have HC0 := Aside0.mk hc0
 clear hr0 hc0
 have HB := Aside0.mk (Below.refl w.heap.size w)
 have H : ((laws_big.f l0).bind fun t191 => (if t191 = true then (some true) else ((spec_DrawSlips.f k l0).bind fun t192 => ((impl_LeastStart.f k t192).bind fun t195 => ((impl_WrongSlips.f k t192).bind fun t196 => ((impl_TillAfter.f k t192 500).bind fun t199 => (if t195 < 0 then (laws_FnTills.j0 k l0 t192 t196 t199 true) else ((impl_LowestTill.f k t192 t195).bind fun t200 => (if t200 < 0 then (laws_FnTills.j0 k l0 t192 t196 t199 true) else (if t195 > 0 then ((impl_LowestTill.f k t192 (wrap64 (t195 - 1))).bind fun t201 => (if t201 ≥ 0 then (laws_FnTills.j0 k l0 t192 t196 t199 true) else ((impl_LowestTill.f k t192 500).bind fun t202 => (if t202 > t199 then (laws_FnTills.j0 k l0 t192 t196 t199 true) else ((impl_LowestTill.f k t192 500).bind fun t203 => (laws_FnTills.j0 k l0 t192 t196 t199 (decide (t203 > 500)))))))) else ((impl_LowestTill.f k t192 500).bind fun t204 => (if t204 > t199 then (laws_FnTills.j0 k l0 t192 t196 t199 true) else ((impl_LowestTill.f k t192 500).bind fun t205 => (laws_FnTills.j0 k l0 t192 t196 t199 (decide (t205 > 500)))))))))))))))) = some r := h
 clear h
 replace H := Option.bind_eq_some_iff.mp H
 obtain ⟨t191, A20, H⟩ := H
 replace H : (if t191 = true then (some true) else ((spec_DrawSlips.f k l0).bind fun t192 => ((impl_LeastStart.f k t192).bind fun t195 => ((impl_WrongSlips.f k t192).bind fun t196 => ((impl_TillAfter.f k t192 500).bind fun t199 => (if t195 < 0 then (laws_FnTills.j0 k l0 t192 t196 t199 true) else ((impl_LowestTill.f k t192 t195).bind fun t200 => (if t200 < 0 then (laws_FnTills.j0 k l0 t192 t196 t199 true) else (if t195 > 0 then ((impl_LowestTill.f k t192 (wrap64 (t195 - 1))).bind fun t201 => (if t201 ≥ 0 then (laws_FnTills.j0 k l0 t192 t196 t199 true) else ((impl_LowestTill.f k t192 500).bind fun t202 => (if t202 > t199 then (laws_FnTills.j0 k l0 t192 t196 t199 true) else ((impl_LowestTill.f k t192 500).bind fun t203 => (laws_FnTills.j0 k l0 t192 t196 t199 (decide (t203 > 500)))))))) else ((impl_LowestTill.f k t192 500).bind fun t204 => (if t204 > t199 then (laws_FnTills.j0 k l0 t192 t196 t199 true) else ((impl_LowestTill.f k t192 500).bind fun t205 => (laws_FnTills.j0 k l0 t192 t196 t199 (decide (t205 > 500))))))))))))))) = some r := H
 have A2 := Aside0.mk A20
 clear A20
 have HF3 := Aside0.mk H
 clear H
 go_enter Try.func3, Try.ntmps3
 go_upto_if 12 with (first | ((with_reducible refine gate_callee (f := 15) rfl ?_); refine gLq (some 12) Try.func15 #[.slice A0 l0.length c0] ?_; (with_reducible refine (laws_big.calls _ _ l0 t191 _ ?side1 ?side2 A2.out).mono ?_); (case side1 => exact Kd.Cq HR0.out); (case side2 => exact HC0.out); rintro e w' ⟨rfl, ⟨nd, rfl⟩⟩; refine ⟨_, rfl, ?_⟩))
 have H := HF3.out
 clear HF3
 by_cases c4 : t191 = true
 ·
  subst c4
  have H1 : (some true) = some r := by rw [if_pos rfl] at H; exact H
  clear H
  have H := H1
  clear H1
  obtain rfl := Option.some.inj H
  go_wp2
  go_ret
  exact ⟨by first | rfl | (simp [errW_none, errW_some] <;> rfl) | (simp [*, errW_none, errW_some] <;> rfl), blq HB.out⟩
 ·
  replace c4 := Bool.eq_false_iff.mpr c4
  subst c4
  have H1 : ((spec_DrawSlips.f k l0).bind fun t192 => ((impl_LeastStart.f k t192).bind fun t195 => ((impl_WrongSlips.f k t192).bind fun t196 => ((impl_TillAfter.f k t192 500).bind fun t199 => (if t195 < 0 then (laws_FnTills.j0 k l0 t192 t196 t199 true) else ((impl_LowestTill.f k t192 t195).bind fun t200 => (if t200 < 0 then (laws_FnTills.j0 k l0 t192 t196 t199 true) else (if t195 > 0 then ((impl_LowestTill.f k t192 (wrap64 (t195 - 1))).bind fun t201 => (if t201 ≥ 0 then (laws_FnTills.j0 k l0 t192 t196 t199 true) else ((impl_LowestTill.f k t192 500).bind fun t202 => (if t202 > t199 then (laws_FnTills.j0 k l0 t192 t196 t199 true) else ((impl_LowestTill.f k t192 500).bind fun t203 => (laws_FnTills.j0 k l0 t192 t196 t199 (decide (t203 > 500)))))))) else ((impl_LowestTill.f k t192 500).bind fun t204 => (if t204 > t199 then (laws_FnTills.j0 k l0 t192 t196 t199 true) else ((impl_LowestTill.f k t192 500).bind fun t205 => (laws_FnTills.j0 k l0 t192 t196 t199 (decide (t205 > 500)))))))))))))) = some r := by rw [if_neg (show ¬ (false = true) by decide)] at H; exact H
  clear H
  have H := H1
  clear H1
  replace H := Option.bind_eq_some_iff.mp H
  obtain ⟨t192, A50, H⟩ := H
  replace H : ((impl_LeastStart.f k t192).bind fun t195 => ((impl_WrongSlips.f k t192).bind fun t196 => ((impl_TillAfter.f k t192 500).bind fun t199 => (if t195 < 0 then (laws_FnTills.j0 k l0 t192 t196 t199 true) else ((impl_LowestTill.f k t192 t195).bind fun t200 => (if t200 < 0 then (laws_FnTills.j0 k l0 t192 t196 t199 true) else (if t195 > 0 then ((impl_LowestTill.f k t192 (wrap64 (t195 - 1))).bind fun t201 => (if t201 ≥ 0 then (laws_FnTills.j0 k l0 t192 t196 t199 true) else ((impl_LowestTill.f k t192 500).bind fun t202 => (if t202 > t199 then (laws_FnTills.j0 k l0 t192 t196 t199 true) else ((impl_LowestTill.f k t192 500).bind fun t203 => (laws_FnTills.j0 k l0 t192 t196 t199 (decide (t203 > 500)))))))) else ((impl_LowestTill.f k t192 500).bind fun t204 => (if t204 > t199 then (laws_FnTills.j0 k l0 t192 t196 t199 true) else ((impl_LowestTill.f k t192 500).bind fun t205 => (laws_FnTills.j0 k l0 t192 t196 t199 (decide (t205 > 500))))))))))))) = some r := H
  have A5 := Aside0.mk A50
  clear A50
  replace H := Option.bind_eq_some_iff.mp H
  obtain ⟨t195, A60, H⟩ := H
  replace H : ((impl_WrongSlips.f k t192).bind fun t196 => ((impl_TillAfter.f k t192 500).bind fun t199 => (if t195 < 0 then (laws_FnTills.j0 k l0 t192 t196 t199 true) else ((impl_LowestTill.f k t192 t195).bind fun t200 => (if t200 < 0 then (laws_FnTills.j0 k l0 t192 t196 t199 true) else (if t195 > 0 then ((impl_LowestTill.f k t192 (wrap64 (t195 - 1))).bind fun t201 => (if t201 ≥ 0 then (laws_FnTills.j0 k l0 t192 t196 t199 true) else ((impl_LowestTill.f k t192 500).bind fun t202 => (if t202 > t199 then (laws_FnTills.j0 k l0 t192 t196 t199 true) else ((impl_LowestTill.f k t192 500).bind fun t203 => (laws_FnTills.j0 k l0 t192 t196 t199 (decide (t203 > 500)))))))) else ((impl_LowestTill.f k t192 500).bind fun t204 => (if t204 > t199 then (laws_FnTills.j0 k l0 t192 t196 t199 true) else ((impl_LowestTill.f k t192 500).bind fun t205 => (laws_FnTills.j0 k l0 t192 t196 t199 (decide (t205 > 500)))))))))))) = some r := H
  have A6 := Aside0.mk A60
  clear A60
  replace H := Option.bind_eq_some_iff.mp H
  obtain ⟨t196, A70, H⟩ := H
  replace H : ((impl_TillAfter.f k t192 500).bind fun t199 => (if t195 < 0 then (laws_FnTills.j0 k l0 t192 t196 t199 true) else ((impl_LowestTill.f k t192 t195).bind fun t200 => (if t200 < 0 then (laws_FnTills.j0 k l0 t192 t196 t199 true) else (if t195 > 0 then ((impl_LowestTill.f k t192 (wrap64 (t195 - 1))).bind fun t201 => (if t201 ≥ 0 then (laws_FnTills.j0 k l0 t192 t196 t199 true) else ((impl_LowestTill.f k t192 500).bind fun t202 => (if t202 > t199 then (laws_FnTills.j0 k l0 t192 t196 t199 true) else ((impl_LowestTill.f k t192 500).bind fun t203 => (laws_FnTills.j0 k l0 t192 t196 t199 (decide (t203 > 500)))))))) else ((impl_LowestTill.f k t192 500).bind fun t204 => (if t204 > t199 then (laws_FnTills.j0 k l0 t192 t196 t199 true) else ((impl_LowestTill.f k t192 500).bind fun t205 => (laws_FnTills.j0 k l0 t192 t196 t199 (decide (t205 > 500))))))))))) = some r := H
  have A7 := Aside0.mk A70
  clear A70
  replace H := Option.bind_eq_some_iff.mp H
  obtain ⟨t199, A80, H⟩ := H
  replace H : (if t195 < 0 then (laws_FnTills.j0 k l0 t192 t196 t199 true) else ((impl_LowestTill.f k t192 t195).bind fun t200 => (if t200 < 0 then (laws_FnTills.j0 k l0 t192 t196 t199 true) else (if t195 > 0 then ((impl_LowestTill.f k t192 (wrap64 (t195 - 1))).bind fun t201 => (if t201 ≥ 0 then (laws_FnTills.j0 k l0 t192 t196 t199 true) else ((impl_LowestTill.f k t192 500).bind fun t202 => (if t202 > t199 then (laws_FnTills.j0 k l0 t192 t196 t199 true) else ((impl_LowestTill.f k t192 500).bind fun t203 => (laws_FnTills.j0 k l0 t192 t196 t199 (decide (t203 > 500)))))))) else ((impl_LowestTill.f k t192 500).bind fun t204 => (if t204 > t199 then (laws_FnTills.j0 k l0 t192 t196 t199 true) else ((impl_LowestTill.f k t192 500).bind fun t205 => (laws_FnTills.j0 k l0 t192 t196 t199 (decide (t205 > 500)))))))))) = some r := H
  have A8 := Aside0.mk A80
  clear A80
  have HC9 := Aside0.mk H
  clear H
  go_upto_region 7 with (first | ((with_reducible refine gate_callee (f := 16) rfl ?_); refine gLq (some 14) Try.func16 #[.slice A0 l0.length c0] ?_; (with_reducible refine (spec_DrawSlips.calls k _ _ l0 t192 _ ?side1 ?side2 A5.out).mono ?_); (case side1 => exact Kd.Cq (Kd.C_below HR0.out HB.out)); (case side2 => exact HC0.out); rintro e w10 ⟨v193, rfl, ho0, hb⟩; refine ⟨_, rfl, ?_⟩; have HO194 := Aside0.mk (Kd.R_lower ho0 (below_size (blq HB.out))); replace HB := hbs HB hb; (try clear hb); (try clear hb2); (try clear hk); (try clear hi); (try clear ho0); obtain ⟨Ao11, co11, eo11⟩ := Kd.R_slice HO194.out; subst eo11) | ((with_reducible refine gate_callee (f := 17) rfl ?_); refine gLq (some 16) Try.func17 #[.slice Ao11 t192.length co11] ?_; (with_reducible refine (impl_LeastStart.calls k _ _ t192 t195 _ ?side1 ?side2 A6.out).mono ?_); (case side1 => repeat (first | exact (Kd.R_reads' HO194.out).2.2 | (with_reducible refine Kd.C_alloc ?_ _) | (with_reducible refine Kd.C_drewN ?_ _) | (with_reducible refine Kd.C_drew ?_))); (case side2 => exact (Kd.R_reads' HO194.out).2.1); rintro e w12 ⟨rfl, hb⟩; refine ⟨_, rfl, ?_⟩; replace HO194 := rob HO194 hb; replace HB := hbs HB hb; (try clear hb); (try clear hb2); (try clear hk); (try clear hi)) | ((with_reducible refine gate_callee (f := 18) rfl ?_); refine gLq (some 18) Try.func18 #[.slice Ao11 t192.length co11] ?_; (with_reducible refine (impl_WrongSlips.calls k _ _ t192 t196 _ ?side1 ?side2 A7.out).mono ?_); (case side1 => repeat (first | exact (Kd.R_reads' HO194.out).2.2 | (with_reducible refine Kd.C_alloc ?_ _) | (with_reducible refine Kd.C_drewN ?_ _) | (with_reducible refine Kd.C_drew ?_))); (case side2 => exact (Kd.R_reads' HO194.out).2.1); rintro e w13 ⟨v197, rfl, ho0, hb⟩; refine ⟨_, rfl, ?_⟩; have HO198 := Aside0.mk (Kd.R_lower ho0 (below_size (blq HB.out))); replace HO194 := rob HO194 hb; replace HB := hbs HB hb; (try clear hb); (try clear hb2); (try clear hk); (try clear hi); (try clear ho0)) | ((with_reducible refine gate_callee (f := 19) rfl ?_); refine gLq (some 20) Try.func19 #[.slice Ao11 t192.length co11, .int .i64 500] ?_; (with_reducible refine (impl_TillAfter.calls k _ _ t192 500 t199 _ ?side1 ?side2 A8.out).mono ?_); (case side1 => repeat (first | exact (Kd.R_reads' HO194.out).2.2 | (with_reducible refine Kd.C_alloc ?_ _) | (with_reducible refine Kd.C_drewN ?_ _) | (with_reducible refine Kd.C_drew ?_))); (case side2 => exact (Kd.R_reads' HO194.out).2.1); rintro e w14 ⟨rfl, hb⟩; refine ⟨_, rfl, ?_⟩; replace HO194 := rob HO194 hb; replace HO198 := rob HO198 hb; replace HB := hbs HB hb; (try clear hb); (try clear hb2); (try clear hk); (try clear hi)))
  (try simp only [Act.put, List.setIfInBounds_toArray, List.set_cons_zero, List.set_cons_succ])
  go_cut [50] (fun v50 wc => ∃ (kq : Nat) (x50_8 : Bool), v50 = .bool x50_8 ∧ Aside0 (laws_FnTills.j0 kq l0 t192 t196 t199 x50_8 = some r) ∧ Aside0 (kq ≤ k) ∧ Aside0 (Kd.R k33 33 wc w.heap.size (fun _ => True) (.slice Ao11 t192.length co11) t192) ∧ Aside0 (Kd.R (Kd.int .i64) 3 wc w.heap.size (fun _ => True) v197 t196) ∧ Aside0 (Below w.heap.size w wc))
  case first =>
   have H := HC9.out
   clear HC9
   by_cases c15 : t195 < 0
   ·
    rw [if_pos c15] at H
    have c15b0 : decide (t195 < 0) = true := decide_eq_true c15
    clear c15
    (first | rw [c15b0] | (simp only [i64_w, i32_w]; rw [c15b0]) | skip)
    have H' := Aside0.mk H
    clear H
    go_wp2
    go_meet
    case rel => exact ⟨_, (true), (by first | rfl | (simp; done) | (simp [*]; done)), H', ⟨by first | omega | exact Nat.le_refl _⟩, ⟨Kd.Rq HO194.out⟩, ⟨Kd.Rq HO198.out⟩, ⟨blq HB.out⟩⟩
   ·
    rw [if_neg c15] at H
    have c15b0 : decide (t195 < 0) = false := decide_eq_false c15
    clear c15
    (first | rw [c15b0] | (simp only [i64_w, i32_w]; rw [c15b0]) | skip)
    replace H := Option.bind_eq_some_iff.mp H
    obtain ⟨t200, A160, H⟩ := H
    replace H : (if t200 < 0 then (laws_FnTills.j0 k l0 t192 t196 t199 true) else (if t195 > 0 then ((impl_LowestTill.f k t192 (wrap64 (t195 - 1))).bind fun t201 => (if t201 ≥ 0 then (laws_FnTills.j0 k l0 t192 t196 t199 true) else ((impl_LowestTill.f k t192 500).bind fun t202 => (if t202 > t199 then (laws_FnTills.j0 k l0 t192 t196 t199 true) else ((impl_LowestTill.f k t192 500).bind fun t203 => (laws_FnTills.j0 k l0 t192 t196 t199 (decide (t203 > 500)))))))) else ((impl_LowestTill.f k t192 500).bind fun t204 => (if t204 > t199 then (laws_FnTills.j0 k l0 t192 t196 t199 true) else ((impl_LowestTill.f k t192 500).bind fun t205 => (laws_FnTills.j0 k l0 t192 t196 t199 (decide (t205 > 500)))))))) = some r := H
    have A16 := Aside0.mk A160
    clear A160
    by_cases c17 : t200 < 0
    ·
     rw [if_pos c17] at H
     have c17b0 : decide (t200 < 0) = true := decide_eq_true c17
     clear c17
     have H' := Aside0.mk H
     clear H
     go_wp2_with (first | (go_at_call 20; (with_reducible refine (impl_LowestTill.calls k _ _ t192 t195 t200 _ ?side1 ?side2 A16.out).mono ?_); (case side1 => repeat (first | exact (Kd.R_reads' HO194.out).2.2 | (with_reducible refine Kd.C_alloc ?_ _) | (with_reducible refine Kd.C_drewN ?_ _) | (with_reducible refine Kd.C_drew ?_))); (case side2 => exact (Kd.R_reads' HO194.out).2.1); rintro e w18 ⟨rfl, hb⟩; replace HO194 := rob HO194 hb; replace HO198 := rob HO198 hb; replace HB := hbs HB hb; (try clear hb); (try clear hb2); (try clear hk); (try clear hi)))
     go_meet
     case rel => exact ⟨_, (true), (by first | rfl | (simp; done) | (simp [*]; done)), H', ⟨by first | omega | exact Nat.le_refl _⟩, ⟨Kd.Rq HO194.out⟩, ⟨Kd.Rq HO198.out⟩, ⟨blq HB.out⟩⟩
    ·
     rw [if_neg c17] at H
     have c17b0 : decide (t200 < 0) = false := decide_eq_false c17
     clear c17
     by_cases c19 : t195 > 0
     ·
      rw [if_pos c19] at H
      have c19b0 : decide (0 < t195) = true := decide_eq_true c19
      clear c19
      replace H := Option.bind_eq_some_iff.mp H
      obtain ⟨t201, A200, H⟩ := H
      replace H : (if t201 ≥ 0 then (laws_FnTills.j0 k l0 t192 t196 t199 true) else ((impl_LowestTill.f k t192 500).bind fun t202 => (if t202 > t199 then (laws_FnTills.j0 k l0 t192 t196 t199 true) else ((impl_LowestTill.f k t192 500).bind fun t203 => (laws_FnTills.j0 k l0 t192 t196 t199 (decide (t203 > 500))))))) = some r := H
      have A20 := Aside0.mk A200
      clear A200
      by_cases c21 : t201 ≥ 0
      ·
       rw [if_pos c21] at H
       have c21b0 : decide (0 ≤ t201) = true := decide_eq_true c21
       clear c21
       have H' := Aside0.mk H
       clear H
       go_wp2_with (first | (go_at_call 20; (with_reducible refine (impl_LowestTill.calls k _ _ t192 t195 t200 _ ?side1 ?side2 A16.out).mono ?_); (case side1 => repeat (first | exact (Kd.R_reads' HO194.out).2.2 | (with_reducible refine Kd.C_alloc ?_ _) | (with_reducible refine Kd.C_drewN ?_ _) | (with_reducible refine Kd.C_drew ?_))); (case side2 => exact (Kd.R_reads' HO194.out).2.1); rintro e w22 ⟨rfl, hb⟩; replace HO194 := rob HO194 hb; replace HO198 := rob HO198 hb; replace HB := hbs HB hb; (try clear hb); (try clear hb2); (try clear hk); (try clear hi)) | (go_at_call 20; (with_reducible refine (impl_LowestTill.calls k _ _ t192 (wrap64 (t195 - 1)) t201 _ ?side1 ?side2 A20.out).mono ?_); (case side1 => repeat (first | exact (Kd.R_reads' HO194.out).2.2 | (with_reducible refine Kd.C_alloc ?_ _) | (with_reducible refine Kd.C_drewN ?_ _) | (with_reducible refine Kd.C_drew ?_))); (case side2 => exact (Kd.R_reads' HO194.out).2.1); rintro e w23 ⟨rfl, hb⟩; replace HO194 := rob HO194 hb; replace HO198 := rob HO198 hb; replace HB := hbs HB hb; (try clear hb); (try clear hb2); (try clear hk); (try clear hi)))
       go_meet
       case rel => exact ⟨_, (true), (by first | rfl | (simp; done) | (simp [*]; done)), H', ⟨by first | omega | exact Nat.le_refl _⟩, ⟨Kd.Rq HO194.out⟩, ⟨Kd.Rq HO198.out⟩, ⟨blq HB.out⟩⟩
      ·
       rw [if_neg c21] at H
       have c21b0 : decide (0 ≤ t201) = false := decide_eq_false c21
       clear c21
       replace H := Option.bind_eq_some_iff.mp H
       obtain ⟨t202, A240, H⟩ := H
       replace H : (if t202 > t199 then (laws_FnTills.j0 k l0 t192 t196 t199 true) else ((impl_LowestTill.f k t192 500).bind fun t203 => (laws_FnTills.j0 k l0 t192 t196 t199 (decide (t203 > 500))))) = some r := H
       have A24 := Aside0.mk A240
       clear A240
       by_cases c25 : t202 > t199
       ·
        rw [if_pos c25] at H
        have c25b0 : decide (t199 < t202) = true := decide_eq_true c25
        clear c25
        have H' := Aside0.mk H
        clear H
        go_wp2_with (first | (go_at_call 20; (with_reducible refine (impl_LowestTill.calls k _ _ t192 t195 t200 _ ?side1 ?side2 A16.out).mono ?_); (case side1 => repeat (first | exact (Kd.R_reads' HO194.out).2.2 | (with_reducible refine Kd.C_alloc ?_ _) | (with_reducible refine Kd.C_drewN ?_ _) | (with_reducible refine Kd.C_drew ?_))); (case side2 => exact (Kd.R_reads' HO194.out).2.1); rintro e w26 ⟨rfl, hb⟩; replace HO194 := rob HO194 hb; replace HO198 := rob HO198 hb; replace HB := hbs HB hb; (try clear hb); (try clear hb2); (try clear hk); (try clear hi)) | (go_at_call 20; (with_reducible refine (impl_LowestTill.calls k _ _ t192 (wrap64 (t195 - 1)) t201 _ ?side1 ?side2 A20.out).mono ?_); (case side1 => repeat (first | exact (Kd.R_reads' HO194.out).2.2 | (with_reducible refine Kd.C_alloc ?_ _) | (with_reducible refine Kd.C_drewN ?_ _) | (with_reducible refine Kd.C_drew ?_))); (case side2 => exact (Kd.R_reads' HO194.out).2.1); rintro e w27 ⟨rfl, hb⟩; replace HO194 := rob HO194 hb; replace HO198 := rob HO198 hb; replace HB := hbs HB hb; (try clear hb); (try clear hb2); (try clear hk); (try clear hi)) | (go_at_call 20; (with_reducible refine (impl_LowestTill.calls k _ _ t192 500 t202 _ ?side1 ?side2 A24.out).mono ?_); (case side1 => repeat (first | exact (Kd.R_reads' HO194.out).2.2 | (with_reducible refine Kd.C_alloc ?_ _) | (with_reducible refine Kd.C_drewN ?_ _) | (with_reducible refine Kd.C_drew ?_))); (case side2 => exact (Kd.R_reads' HO194.out).2.1); rintro e w28 ⟨rfl, hb⟩; replace HO194 := rob HO194 hb; replace HO198 := rob HO198 hb; replace HB := hbs HB hb; (try clear hb); (try clear hb2); (try clear hk); (try clear hi)))
        go_meet
        case rel => exact ⟨_, (true), (by first | rfl | (simp; done) | (simp [*]; done)), H', ⟨by first | omega | exact Nat.le_refl _⟩, ⟨Kd.Rq HO194.out⟩, ⟨Kd.Rq HO198.out⟩, ⟨blq HB.out⟩⟩
       ·
        rw [if_neg c25] at H
        have c25b0 : decide (t199 < t202) = false := decide_eq_false c25
        clear c25
        replace H := Option.bind_eq_some_iff.mp H
        obtain ⟨t203, A290, H⟩ := H
        replace H : (laws_FnTills.j0 k l0 t192 t196 t199 (decide (t203 > 500))) = some r := H
        have A29 := Aside0.mk A290
        clear A290
        have H' := Aside0.mk H
        clear H
        have E9_ := Aside0.mk (Option.some.inj (A24.out.symm.trans A29.out))
        go_wp2_with (first | (go_at_call 20; (with_reducible refine (impl_LowestTill.calls k _ _ t192 t195 t200 _ ?side1 ?side2 A16.out).mono ?_); (case side1 => repeat (first | exact (Kd.R_reads' HO194.out).2.2 | (with_reducible refine Kd.C_alloc ?_ _) | (with_reducible refine Kd.C_drewN ?_ _) | (with_reducible refine Kd.C_drew ?_))); (case side2 => exact (Kd.R_reads' HO194.out).2.1); rintro e w30 ⟨rfl, hb⟩; replace HO194 := rob HO194 hb; replace HO198 := rob HO198 hb; replace HB := hbs HB hb; (try clear hb); (try clear hb2); (try clear hk); (try clear hi)) | (go_at_call 20; (with_reducible refine (impl_LowestTill.calls k _ _ t192 (wrap64 (t195 - 1)) t201 _ ?side1 ?side2 A20.out).mono ?_); (case side1 => repeat (first | exact (Kd.R_reads' HO194.out).2.2 | (with_reducible refine Kd.C_alloc ?_ _) | (with_reducible refine Kd.C_drewN ?_ _) | (with_reducible refine Kd.C_drew ?_))); (case side2 => exact (Kd.R_reads' HO194.out).2.1); rintro e w31 ⟨rfl, hb⟩; replace HO194 := rob HO194 hb; replace HO198 := rob HO198 hb; replace HB := hbs HB hb; (try clear hb); (try clear hb2); (try clear hk); (try clear hi)) | (go_at_call 20; (with_reducible refine (impl_LowestTill.calls k _ _ t192 500 t202 _ ?side1 ?side2 A24.out).mono ?_); (case side1 => repeat (first | exact (Kd.R_reads' HO194.out).2.2 | (with_reducible refine Kd.C_alloc ?_ _) | (with_reducible refine Kd.C_drewN ?_ _) | (with_reducible refine Kd.C_drew ?_))); (case side2 => exact (Kd.R_reads' HO194.out).2.1); rintro e w32 ⟨rfl, hb⟩; replace HO194 := rob HO194 hb; replace HO198 := rob HO198 hb; replace HB := hbs HB hb; (try clear hb); (try clear hb2); (try clear hk); (try clear hi)) | (go_at_call 20; (with_reducible refine (impl_LowestTill.calls k _ _ t192 500 t203 _ ?side1 ?side2 A29.out).mono ?_); (case side1 => repeat (first | exact (Kd.R_reads' HO194.out).2.2 | (with_reducible refine Kd.C_alloc ?_ _) | (with_reducible refine Kd.C_drewN ?_ _) | (with_reducible refine Kd.C_drew ?_))); (case side2 => exact (Kd.R_reads' HO194.out).2.1); rintro e w33 ⟨rfl, hb⟩; replace HO194 := rob HO194 hb; replace HO198 := rob HO198 hb; replace HB := hbs HB hb; (try clear hb); (try clear hb2); (try clear hk); (try clear hi)))
        go_meet
        case rel => exact ⟨_, (decide (t203 > 500)), (by first | rfl | (simp; done) | (rw [E9_.out]) | (simp [E9_.out]; done) | (simp [*]; done)), H', ⟨by first | omega | exact Nat.le_refl _⟩, ⟨Kd.Rq HO194.out⟩, ⟨Kd.Rq HO198.out⟩, ⟨blq HB.out⟩⟩
     ·
      rw [if_neg c19] at H
      have c19b0 : decide (0 < t195) = false := decide_eq_false c19
      clear c19
      replace H := Option.bind_eq_some_iff.mp H
      obtain ⟨t204, A340, H⟩ := H
      replace H : (if t204 > t199 then (laws_FnTills.j0 k l0 t192 t196 t199 true) else ((impl_LowestTill.f k t192 500).bind fun t205 => (laws_FnTills.j0 k l0 t192 t196 t199 (decide (t205 > 500))))) = some r := H
      have A34 := Aside0.mk A340
      clear A340
      by_cases c35 : t204 > t199
      ·
       rw [if_pos c35] at H
       have c35b0 : decide (t199 < t204) = true := decide_eq_true c35
       clear c35
       have H' := Aside0.mk H
       clear H
       go_wp2_with (first | (go_at_call 20; (with_reducible refine (impl_LowestTill.calls k _ _ t192 t195 t200 _ ?side1 ?side2 A16.out).mono ?_); (case side1 => repeat (first | exact (Kd.R_reads' HO194.out).2.2 | (with_reducible refine Kd.C_alloc ?_ _) | (with_reducible refine Kd.C_drewN ?_ _) | (with_reducible refine Kd.C_drew ?_))); (case side2 => exact (Kd.R_reads' HO194.out).2.1); rintro e w36 ⟨rfl, hb⟩; replace HO194 := rob HO194 hb; replace HO198 := rob HO198 hb; replace HB := hbs HB hb; (try clear hb); (try clear hb2); (try clear hk); (try clear hi)) | (go_at_call 20; (with_reducible refine (impl_LowestTill.calls k _ _ t192 500 t204 _ ?side1 ?side2 A34.out).mono ?_); (case side1 => repeat (first | exact (Kd.R_reads' HO194.out).2.2 | (with_reducible refine Kd.C_alloc ?_ _) | (with_reducible refine Kd.C_drewN ?_ _) | (with_reducible refine Kd.C_drew ?_))); (case side2 => exact (Kd.R_reads' HO194.out).2.1); rintro e w37 ⟨rfl, hb⟩; replace HO194 := rob HO194 hb; replace HO198 := rob HO198 hb; replace HB := hbs HB hb; (try clear hb); (try clear hb2); (try clear hk); (try clear hi)))
       go_meet
       case rel => exact ⟨_, (true), (by first | rfl | (simp; done) | (simp [*]; done)), H', ⟨by first | omega | exact Nat.le_refl _⟩, ⟨Kd.Rq HO194.out⟩, ⟨Kd.Rq HO198.out⟩, ⟨blq HB.out⟩⟩
      ·
       rw [if_neg c35] at H
       have c35b0 : decide (t199 < t204) = false := decide_eq_false c35
       clear c35
       replace H := Option.bind_eq_some_iff.mp H
       obtain ⟨t205, A380, H⟩ := H
       replace H : (laws_FnTills.j0 k l0 t192 t196 t199 (decide (t205 > 500))) = some r := H
       have A38 := Aside0.mk A380
       clear A380
       have H' := Aside0.mk H
       clear H
       have E9_ := Aside0.mk (Option.some.inj (A34.out.symm.trans A38.out))
       go_wp2_with (first | (go_at_call 20; (with_reducible refine (impl_LowestTill.calls k _ _ t192 t195 t200 _ ?side1 ?side2 A16.out).mono ?_); (case side1 => repeat (first | exact (Kd.R_reads' HO194.out).2.2 | (with_reducible refine Kd.C_alloc ?_ _) | (with_reducible refine Kd.C_drewN ?_ _) | (with_reducible refine Kd.C_drew ?_))); (case side2 => exact (Kd.R_reads' HO194.out).2.1); rintro e w39 ⟨rfl, hb⟩; replace HO194 := rob HO194 hb; replace HO198 := rob HO198 hb; replace HB := hbs HB hb; (try clear hb); (try clear hb2); (try clear hk); (try clear hi)) | (go_at_call 20; (with_reducible refine (impl_LowestTill.calls k _ _ t192 500 t204 _ ?side1 ?side2 A34.out).mono ?_); (case side1 => repeat (first | exact (Kd.R_reads' HO194.out).2.2 | (with_reducible refine Kd.C_alloc ?_ _) | (with_reducible refine Kd.C_drewN ?_ _) | (with_reducible refine Kd.C_drew ?_))); (case side2 => exact (Kd.R_reads' HO194.out).2.1); rintro e w40 ⟨rfl, hb⟩; replace HO194 := rob HO194 hb; replace HO198 := rob HO198 hb; replace HB := hbs HB hb; (try clear hb); (try clear hb2); (try clear hk); (try clear hi)) | (go_at_call 20; (with_reducible refine (impl_LowestTill.calls k _ _ t192 500 t205 _ ?side1 ?side2 A38.out).mono ?_); (case side1 => repeat (first | exact (Kd.R_reads' HO194.out).2.2 | (with_reducible refine Kd.C_alloc ?_ _) | (with_reducible refine Kd.C_drewN ?_ _) | (with_reducible refine Kd.C_drew ?_))); (case side2 => exact (Kd.R_reads' HO194.out).2.1); rintro e w41 ⟨rfl, hb⟩; replace HO194 := rob HO194 hb; replace HO198 := rob HO198 hb; replace HB := hbs HB hb; (try clear hb); (try clear hb2); (try clear hk); (try clear hi)))
       go_meet
       case rel => exact ⟨_, (decide (t205 > 500)), (by first | rfl | (simp; done) | (rw [E9_.out]) | (simp [E9_.out]; done) | (simp [*]; done)), H', ⟨by first | omega | exact Nat.le_refl _⟩, ⟨Kd.Rq HO194.out⟩, ⟨Kd.Rq HO198.out⟩, ⟨blq HB.out⟩⟩
  case rest =>
   clear HC9
   try clear c1
   try clear c2
   try clear p2
   try clear c3
   try clear c4
   try clear p6
   try clear c15
   try clear c15b0
   try clear c16
   try clear c17
   try clear c17b0
   try clear c18
   try clear c19
   try clear c19b0
   try clear c21
   try clear c21b0
   try clear c25
   try clear c25b0
   try clear c35
   try clear c35b0
   obtain ⟨kq, x50_8, rfl, HA, HJ8, HO_3, HO_5, HB⟩ := hcut
   cases kq with
   | zero => exact absurd HA.out (by simp [laws_FnTills.j0])
   | succ kj8 =>
    have H := HA.out
    clear HA
    simp only [laws_FnTills.j0] at H
    by_cases c42 : x50_8 = true
    ·
     subst c42
     have H1 : (some false) = some r := by rw [if_pos rfl] at H; exact H
     clear H
     have H := H1
     clear H1
     obtain rfl := Option.some.inj H
     go_wp2
     go_ret
     exact ⟨by first | rfl | (simp [errW_none, errW_some] <;> rfl) | (simp [*, errW_none, errW_some] <;> rfl), blq HB.out⟩
    ·
     replace c42 := Bool.eq_false_iff.mpr c42
     subst c42
     have H1 : (laws_FnTills.l0 kj8 l0 t192 t196 t199 0 0 0) = some r := by rw [if_neg (show ¬ (false = true) by decide)] at H; exact H
     clear H
     have H := H1
     clear H1
     have H' := Aside0.mk H
     clear H
     go_wp2
     go_loopg [7, 8, 9] kj8 (fun kq v7 v8 v9 w' => ∃ (x7_2 : Int) (x8_2 : Int) (x9_2 : Int), v7 = .int .i64 x7_2 ∧ v8 = .int .i64 x8_2 ∧ v9 = .int .i64 x9_2 ∧ Aside0 (laws_FnTills.l0 kq l0 t192 t196 t199 x7_2 x8_2 x9_2 = some r) ∧ Aside0 (kq ≤ kj8) ∧ Aside0 (Kd.R k33 33 w' w.heap.size (fun _ => True) (.slice Ao11 t192.length co11) t192) ∧ Aside0 (Kd.R (Kd.int .i64) 3 w' w.heap.size (fun _ => True) v197 t196) ∧ Aside0 (Below w.heap.size w w'))
     case atStart => exact ⟨(0), (0), (0), (by first | rfl | (simp; done) | (simp [*]; done)), (by first | rfl | (simp; done) | (simp [*]; done)), (by first | rfl | (simp; done) | (simp [*]; done)), H', ⟨Nat.le_refl _⟩, ⟨Kd.Rq HO_3.out⟩, ⟨Kd.Rq HO_5.out⟩, ⟨blq HB.out⟩⟩
     case round =>
      clear H'
      try clear c1
      try clear c2
      try clear p2
      try clear c3
      try clear c4
      try clear p6
      try clear c15
      try clear c15b0
      try clear c16
      try clear c17
      try clear c17b0
      try clear c18
      try clear c19
      try clear c19b0
      try clear c21
      try clear c21b0
      try clear c25
      try clear c25b0
      try clear c35
      try clear c35b0
      try clear c42
      try clear p2
      try clear p6
      obtain ⟨x7_2, x8_2, x9_2, rfl, rfl, rfl, HA, HK2, HO_3, HO_5, HB⟩ := hrel
      cases gk with
      | zero => exact absurd HA.out (by simp [laws_FnTills.l0])
      | succ k2 =>
       have H := HA.out
       clear HA
       simp only [laws_FnTills.l0] at H
       by_cases c43 : x9_2 < (t192.length : Int)
       ·
        rw [if_pos c43] at H
        have c43b0 : decide (x9_2 < (t192.length : Int)) = true := decide_eq_true c43
        clear c43
        replace H := Option.bind_eq_some_iff.mp H
        obtain ⟨t206, A440, H⟩ := H
        replace H : (if 0 ≤ x9_2 then ((impl_SlipOk.f ((rd_T33 t192 x9_2).f0) ((rd_T33 t192 x9_2).f1) ((rd_T33 t192 x9_2).f2)).bind fun t208 => (if (t206 != (!t208)) = true then (some false) else (laws_FnTills.l0 k2 l0 t192 t196 t199 (wrap64 (x7_2 + ((rd_T33 t192 x9_2).f0))) (wrap64 ((wrap64 ((wrap64 (x8_2 + ((rd_T33 t192 x9_2).f1))) - ((rd_T33 t192 x9_2).f2))) - ((rd_T33 t192 x9_2).f0))) (wrap64 (x9_2 + 1))))) else (none)) = some r := H
        have A44 := Aside0.mk A440
        clear A440
        by_cases c45 : 0 ≤ x9_2
        ·
         rw [if_pos c45] at H
         have c45b0 : decide (0 ≤ x9_2) = true := decide_eq_true c45
         clear c45
         replace H := Option.bind_eq_some_iff.mp H
         obtain ⟨t208, A460, H⟩ := H
         replace H : (if (t206 != (!t208)) = true then (some false) else (laws_FnTills.l0 k2 l0 t192 t196 t199 (wrap64 (x7_2 + ((rd_T33 t192 x9_2).f0))) (wrap64 ((wrap64 ((wrap64 (x8_2 + ((rd_T33 t192 x9_2).f1))) - ((rd_T33 t192 x9_2).f2))) - ((rd_T33 t192 x9_2).f0))) (wrap64 (x9_2 + 1)))) = some r := H
         have A46 := Aside0.mk A460
         clear A460
         have HF47 := Aside0.mk H
         clear H
         try go_wp2
         replace HO_3 := Aside0.mk (Kd.R_drew HO_3.out)
         replace HO_5 := Aside0.mk (Kd.R_drew HO_5.out)
         replace HB := Aside0.mk (below_drew1 HB.out)
         have p207 : 0 ≤ (x9_2 : Int) := of_decide_eq_true (by first | (with_reducible assumption) | assumption)
         have q207 : x9_2 < (t192.length : Int) := of_decide_eq_true (by first | (with_reducible assumption) | assumption)
         obtain ⟨ad207, e207, hx207_0, hx207_1, hx207_2⟩ := at_T33 (Kd.R_reads' HO_3.out).2.2 x9_2 p207 q207
         cases e207
         replace p207 := eq_true p207
         replace q207 := eq_true q207
         obtain ⟨Ao49, co49, eo49⟩ := Kd.R_slice HO_5.out
         (first | subst eo49 | (injection eo49 with f1_ f2_ f3_; have f4_ := f1_.symm; have f5_ := f3_.symm; clear f1_ f2_ f3_; subst f4_; subst f5_))
         refine start_ (n := 10) (S := fun w' => w'.cell? (ad207.add ((x9_2).toNat * 3)) = some (.int .i64 ((rd_T33 t192 x9_2).f0)) ∧ w'.cell? ⟨(ad207.add ((x9_2).toNat * 3)).block, (ad207.add ((x9_2).toNat * 3)).off + 1, none⟩ = some (.int .i64 ((rd_T33 t192 x9_2).f1)) ∧ w'.cell? ⟨(ad207.add ((x9_2).toNat * 3)).block, (ad207.add ((x9_2).toNat * 3)).off + 2, none⟩ = some (.int .i64 ((rd_T33 t192 x9_2).f2))) (ds := []) #[false, false, false, false, false, false, false, false, false, false] (by kernel_rfl) rfl rfl ⟨hx207_0, hx207_1, hx207_2⟩ (fun hHeld => ?_); refine with_tabW laws_FnTills.tab14 laws_FnTills.bits14 (fun HT_ HW_ => ?_)
         generalize wr.drew = w48 at HO_3 HO_5 HB hx207_0 hx207_1 hx207_2 hHeld ⊢
         refine pure_ (i := 0) (N := some 57) (v := ?_) (a' := ?_) #[true, false, false, false, false, false, false, false, false, false] rfl rfl (any_of HT_.out (by kernel_rfl)) (fun _ _ _ h => h) (Or.inl ⟨by rfl, ?_⟩) ?_ ?_
         rotate_left
         ·
          intro w'
          go_simp
          with_reducible rfl
         rotate_left
         ·
          simp only [Act.put, List.setIfInBounds_toArray, List.set_cons_zero, List.set_cons_succ, i64_w, i32_w]
          rfl
         refine pure_ (i := 1) (N := some 58) (v := ?_) (a' := ?_) #[true, true, false, false, false, false, false, false, false, false] rfl rfl (any_of HT_.out (by kernel_rfl)) (fun _ _ _ h => h) (Or.inl ⟨by rfl, ?_⟩) ?_ ?_
         rotate_left
         ·
          intro w'
          go_simp
          with_reducible rfl
         rotate_left
         ·
          simp only [Act.put, List.setIfInBounds_toArray, List.set_cons_zero, List.set_cons_succ, i64_w, i32_w]
          rfl
         refine pure_ (i := 3) (N := some 60) (v := ?_) (a' := ?_) #[true, true, false, true, false, false, false, false, false, false] rfl rfl (any_of HT_.out (by kernel_rfl)) (fun _ _ _ h => h) (Or.inl ⟨by rfl, ?_⟩) ?_ ?_
         rotate_left
         ·
          intro w'
          go_simp
          with_reducible rfl
         rotate_left
         ·
          simp only [Act.put, List.setIfInBounds_toArray, List.set_cons_zero, List.set_cons_succ, i64_w, i32_w]
          rfl
         refine pure_ (i := 4) (N := some 61) (v := ?_) (a' := ?_) #[true, true, false, true, true, false, false, false, false, false] rfl rfl (any_of HT_.out (by kernel_rfl)) (fun _ _ _ h => h) (Or.inl ⟨by rfl, ?_⟩) ?_ ?_
         rotate_left
         ·
          intro w'
          go_simp
          with_reducible rfl
         rotate_left
         ·
          simp only [Act.put, List.setIfInBounds_toArray, List.set_cons_zero, List.set_cons_succ, i64_w, i32_w]
          rfl
         refine pure_ (i := 5) (N := some 62) (v := ?_) (a' := ?_) #[true, true, false, true, true, true, false, false, false, false] rfl rfl (any_of HT_.out (by kernel_rfl)) (fun _ _ _ h => h) (Or.inl ⟨by rfl, ?_⟩) ?_ ?_
         rotate_left
         ·
          intro w'
          go_simp
          with_reducible rfl
         rotate_left
         ·
          simp only [Act.put, List.setIfInBounds_toArray, List.set_cons_zero, List.set_cons_succ, i64_w, i32_w]
          rfl
         refine take_ (i := 6) (N := some 63) (v := ?_) (a' := ?_) #[true, true, false, true, true, true, true, false, false, false] rfl rfl (take_ofW HT_.out HW_.out (by kernel_rfl)) (fun _ _ _ h => h) (Or.inl ⟨by rfl, ?_⟩) hHeld ?_ ?_
         rotate_left
         ·
          rintro w' ⟨s0, s1, s2⟩
          go_simp
          with_reducible rfl
         rotate_left
         ·
          simp only [Act.put, List.setIfInBounds_toArray, List.set_cons_zero, List.set_cons_succ, i64_w, i32_w]
          rfl
         refine one_ (i := 2) (N := some 59) #[true, true, true, true, true, true, true, false, false, false] rfl rfl (one_of HT_.out (by kernel_rfl)) (by decide) (fun K hK => ?_)
         refine goes_ Try.func21 (by kernel_rfl) rfl #[.slice Ao49 t196.length co49, .int .i64 x9_2] (by rfl) rfl rfl (by (try simp only [List.map_toArray, List.map_cons, List.map_nil]); first | done | rfl | (simp only [List.length_drop, List.length_take]; rfl)) ?_
         with_reducible refine (laws_has.calls k2 _ _ t196 x9_2 t206 _ ?side1 ?side2 A44.out).mono ?_
         (case side1 => repeat (first | exact (Kd.R_reads' HO_5.out).2.2 | (with_reducible refine Kd.C_alloc ?_ _) | (with_reducible refine Kd.C_drewN ?_ _) | (with_reducible refine Kd.C_drew ?_)))
         (case side2 => exact (Kd.R_reads' HO_5.out).2.1)
         rintro e w' ⟨rfl, ⟨nd, rfl⟩⟩
         refine ⟨_, rfl, ?_⟩
         refine hK.out _ _ ⟨hHeld.1, hHeld.2.1, hHeld.2.2⟩ (fun hHeld => ?_)
         clear hK K
         refine norm_ (a' := ?_) ?_ ?_
         rotate_left
         ·
          show Act.put _ (some 59) _ = _
          simp only [Act.put, List.setIfInBounds_toArray, List.set_cons_zero, List.set_cons_succ, i64_w, i32_w]
          rfl
         refine one_ (i := 7) (N := some 64) #[true, true, true, true, true, true, true, true, false, false] rfl rfl (one_of HT_.out (by kernel_rfl)) (by decide) (fun K hK => ?_)
         refine goes_ Try.func22 (by kernel_rfl) rfl #[.agg #[.int .i64 ((rd_T33 t192 x9_2).f0), .int .i64 ((rd_T33 t192 x9_2).f1), .int .i64 ((rd_T33 t192 x9_2).f2)]] (by rfl) rfl rfl (by (try simp only [List.map_toArray, List.map_cons, List.map_nil]); first | done | rfl | (simp only [List.length_drop, List.length_take]; rfl)) ?_
         with_reducible refine (impl_SlipOk.calls ((rd_T33 t192 x9_2).f0) ((rd_T33 t192 x9_2).f1) ((rd_T33 t192 x9_2).f2) t208 _ A46.out).mono ?_
         rintro e w50 ⟨rfl, hb⟩
         have HS0_ := (hb.cell (World.block_lt_of_cell? _ _ (hHeld.1))).trans (hHeld.1)
         have HS1_ := (hb.cell (World.block_lt_of_cell? _ _ (hHeld.2.1))).trans (hHeld.2.1)
         have HS2_ := (hb.cell (World.block_lt_of_cell? _ _ (hHeld.2.2))).trans (hHeld.2.2)
         refine ⟨_, rfl, ?_⟩
         replace HO_3 := rob HO_3 hb
         replace HO_5 := rob HO_5 hb
         replace HB := hbs HB hb
         (try clear hb)
         (try clear hb2)
         (try clear hk)
         (try clear hi)
         refine hK.out _ _ ⟨HS0_, HS1_, HS2_⟩ (fun hHeld => ?_)
         clear hK K
         refine norm_ (a' := ?_) ?_ ?_
         rotate_left
         ·
          show Act.put _ (some 64) _ = _
          simp only [Act.put, List.setIfInBounds_toArray, List.set_cons_zero, List.set_cons_succ, i64_w, i32_w]
          rfl
         refine pure_ (i := 8) (N := some 65) (v := ?_) (a' := ?_) #[true, true, true, true, true, true, true, true, true, false] rfl rfl (any_of HT_.out (by kernel_rfl)) (fun _ _ _ h => h) (Or.inl ⟨by rfl, ?_⟩) ?_ ?_
         rotate_left
         ·
          intro w'
          go_simp
          with_reducible rfl
         rotate_left
         ·
          simp only [Act.put, List.setIfInBounds_toArray, List.set_cons_zero, List.set_cons_succ, i64_w, i32_w]
          rfl
         refine pure_ (i := 9) (N := some 66) (v := ?_) (a' := ?_) #[true, true, true, true, true, true, true, true, true, true] rfl rfl (any_of HT_.out (by kernel_rfl)) (fun _ _ _ h => h) (Or.inl ⟨by rfl, ?_⟩) ?_ ?_
         rotate_left
         ·
          intro w'
          go_simp
          with_reducible rfl
         rotate_left
         ·
          simp only [Act.put, List.setIfInBounds_toArray, List.set_cons_zero, List.set_cons_succ, i64_w, i32_w]
          rfl
         refine done_ (done_of HT_.out (by kernel_rfl)) ?_
         go_upto_if 66 with (fail)
         have H := HF47.out
         clear HF47
         by_cases c51 : (t206 != (!t208)) = true
         ·
          rw [if_pos c51] at H
          have c51b0 : (t206 != (!t208)) = true := c51
          have c51b9 : (!(t206 == (!t208))) = true := c51b0
          (try (have c51b1 : decide (t206 = (!t208)) = false := by simpa using c51))
          (try (have c51b2 : (t206 == (!t208)) = false := by simpa using c51))
          (try (have c51b3 : ¬ (t206 = (!t208)) := by simpa using c51))
          clear c51
          (first | rw [c51b0] | rw [c51b9] | (simp only [i64_w, i32_w]; rw [c51b0]) | skip)
          obtain rfl := Option.some.inj H
          go_wp2
          go_ret
          exact ⟨by first | rfl | (simp [errW_none, errW_some] <;> rfl) | (simp [*, errW_none, errW_some] <;> rfl), blq HB.out⟩
         ·
          rw [if_neg c51] at H
          have c51b0 : (t206 != (!t208)) = false := by simpa using c51
          have c51b9 : (!(t206 == (!t208))) = false := c51b0
          (try (have c51b1 : decide (t206 = (!t208)) = true := by simpa using c51))
          (try (have c51b2 : (t206 == (!t208)) = true := by simpa using c51))
          clear c51
          (first | rw [c51b0] | rw [c51b9] | (simp only [i64_w, i32_w]; rw [c51b0]) | skip)
          have H' := Aside0.mk H
          clear H
          have p209 : 0 ≤ (x9_2 : Int) := of_decide_eq_true (by first | (with_reducible assumption) | assumption)
          have q209 : x9_2 < (t192.length : Int) := of_decide_eq_true (by first | (with_reducible assumption) | assumption)
          obtain ⟨ad209, e209, hx209_0, hx209_1, hx209_2⟩ := at_T33 (Kd.R_reads' HO_3.out).2.2 x9_2 p209 q209
          obtain rfl : ad207 = ad209 := (by injection e209)
          replace p209 := eq_true p209
          replace q209 := eq_true q209
          try go_wp2
          replace HO_3 := Aside0.mk (Kd.R_drew HO_3.out)
          replace HO_5 := Aside0.mk (Kd.R_drew HO_5.out)
          replace HB := Aside0.mk (below_drew1 HB.out)
          have p210 : 0 ≤ (x9_2 : Int) := of_decide_eq_true (by first | (with_reducible assumption) | assumption)
          have q210 : x9_2 < (t192.length : Int) := of_decide_eq_true (by first | (with_reducible assumption) | assumption)
          obtain ⟨ad210, e210, hx210_0, hx210_1, hx210_2⟩ := at_T33 (Kd.R_reads' HO_3.out).2.2 x9_2 p210 q210
          obtain rfl : ad207 = ad210 := (by injection e210)
          replace p210 := eq_true p210
          replace q210 := eq_true q210
          have p211 : 0 ≤ (x9_2 : Int) := of_decide_eq_true (by first | (with_reducible assumption) | assumption)
          have q211 : x9_2 < (t192.length : Int) := of_decide_eq_true (by first | (with_reducible assumption) | assumption)
          obtain ⟨ad211, e211, hx211_0, hx211_1, hx211_2⟩ := at_T33 (Kd.R_reads' HO_3.out).2.2 x9_2 p211 q211
          obtain rfl : ad207 = ad211 := (by injection e211)
          replace p211 := eq_true p211
          replace q211 := eq_true q211
          have p212 : 0 ≤ (x9_2 : Int) := of_decide_eq_true (by first | (with_reducible assumption) | assumption)
          have q212 : x9_2 < (t192.length : Int) := of_decide_eq_true (by first | (with_reducible assumption) | assumption)
          obtain ⟨ad212, e212, hx212_0, hx212_1, hx212_2⟩ := at_T33 (Kd.R_reads' HO_3.out).2.2 x9_2 p212 q212
          obtain rfl : ad207 = ad212 := (by injection e212)
          replace p212 := eq_true p212
          replace q212 := eq_true q212
          refine start_ (n := 20) (S := fun w' => w'.cell? (ad207.add ((x9_2).toNat * 3)) = some (.int .i64 ((rd_T33 t192 x9_2).f0)) ∧ w'.cell? ⟨(ad207.add ((x9_2).toNat * 3)).block, (ad207.add ((x9_2).toNat * 3)).off + 1, none⟩ = some (.int .i64 ((rd_T33 t192 x9_2).f1)) ∧ w'.cell? ⟨(ad207.add ((x9_2).toNat * 3)).block, (ad207.add ((x9_2).toNat * 3)).off + 2, none⟩ = some (.int .i64 ((rd_T33 t192 x9_2).f2)) ∧ w'.cell? (ad207.add ((x9_2).toNat * 3)) = some (.int .i64 ((rd_T33 t192 x9_2).f0)) ∧ w'.cell? ⟨(ad207.add ((x9_2).toNat * 3)).block, (ad207.add ((x9_2).toNat * 3)).off + 1, none⟩ = some (.int .i64 ((rd_T33 t192 x9_2).f1)) ∧ w'.cell? ⟨(ad207.add ((x9_2).toNat * 3)).block, (ad207.add ((x9_2).toNat * 3)).off + 2, none⟩ = some (.int .i64 ((rd_T33 t192 x9_2).f2)) ∧ w'.cell? (ad207.add ((x9_2).toNat * 3)) = some (.int .i64 ((rd_T33 t192 x9_2).f0)) ∧ w'.cell? ⟨(ad207.add ((x9_2).toNat * 3)).block, (ad207.add ((x9_2).toNat * 3)).off + 1, none⟩ = some (.int .i64 ((rd_T33 t192 x9_2).f1)) ∧ w'.cell? ⟨(ad207.add ((x9_2).toNat * 3)).block, (ad207.add ((x9_2).toNat * 3)).off + 2, none⟩ = some (.int .i64 ((rd_T33 t192 x9_2).f2))) (ds := []) #[false, false, false, false, false, false, false, false, false, false, false, false, false, false, false, false, false, false, false, false] (by kernel_rfl) rfl rfl ⟨hx210_0, hx210_1, hx210_2, hx211_0, hx211_1, hx211_2, hx212_0, hx212_1, hx212_2⟩ (fun hHeld => ?_); refine with_tabW laws_FnTills.tab17 laws_FnTills.bits17 (fun HT_ HW_ => ?_)
          generalize w50.drew = w52 at HO_3 HO_5 HB hx210_0 hx210_1 hx210_2 hx211_0 hx211_1 hx211_2 hx212_0 hx212_1 hx212_2 hHeld ⊢
          refine pure_ (i := 0) (N := some 74) (v := ?_) (a' := ?_) #[true, false, false, false, false, false, false, false, false, false, false, false, false, false, false, false, false, false, false, false] rfl rfl (any_of HT_.out (by kernel_rfl)) (fun _ _ _ h => h) (Or.inl ⟨by rfl, ?_⟩) ?_ ?_
          rotate_left
          ·
           intro w'
           go_simp
           with_reducible rfl
          rotate_left
          ·
           simp only [Act.put, List.setIfInBounds_toArray, List.set_cons_zero, List.set_cons_succ, i64_w, i32_w]
           rfl
          refine pure_ (i := 1) (N := some 75) (v := ?_) (a' := ?_) #[true, true, false, false, false, false, false, false, false, false, false, false, false, false, false, false, false, false, false, false] rfl rfl (any_of HT_.out (by kernel_rfl)) (fun _ _ _ h => h) (Or.inl ⟨by rfl, ?_⟩) ?_ ?_
          rotate_left
          ·
           intro w'
           go_simp
           with_reducible rfl
          rotate_left
          ·
           simp only [Act.put, List.setIfInBounds_toArray, List.set_cons_zero, List.set_cons_succ, i64_w, i32_w]
           rfl
          refine pure_ (i := 2) (N := some 76) (v := ?_) (a' := ?_) #[true, true, true, false, false, false, false, false, false, false, false, false, false, false, false, false, false, false, false, false] rfl rfl (any_of HT_.out (by kernel_rfl)) (fun _ _ _ h => h) (Or.inl ⟨by rfl, ?_⟩) ?_ ?_
          rotate_left
          ·
           intro w'
           go_simp
           with_reducible rfl
          rotate_left
          ·
           simp only [Act.put, List.setIfInBounds_toArray, List.set_cons_zero, List.set_cons_succ, i64_w, i32_w]
           rfl
          refine pure_ (i := 3) (N := some 77) (v := ?_) (a' := ?_) #[true, true, true, true, false, false, false, false, false, false, false, false, false, false, false, false, false, false, false, false] rfl rfl (any_of HT_.out (by kernel_rfl)) (fun _ _ _ h => h) (Or.inl ⟨by rfl, ?_⟩) ?_ ?_
          rotate_left
          ·
           intro w'
           go_simp
           with_reducible rfl
          rotate_left
          ·
           simp only [Act.put, List.setIfInBounds_toArray, List.set_cons_zero, List.set_cons_succ, i64_w, i32_w]
           rfl
          refine pure_ (i := 4) (N := some 78) (v := ?_) (a' := ?_) #[true, true, true, true, true, false, false, false, false, false, false, false, false, false, false, false, false, false, false, false] rfl rfl (any_of HT_.out (by kernel_rfl)) (fun _ _ _ h => h) (Or.inl ⟨by rfl, ?_⟩) ?_ ?_
          rotate_left
          ·
           intro w'
           go_simp
           with_reducible rfl
          rotate_left
          ·
           simp only [Act.put, List.setIfInBounds_toArray, List.set_cons_zero, List.set_cons_succ, i64_w, i32_w]
           rfl
          refine pure_ (i := 7) (N := some 81) (v := ?_) (a' := ?_) #[true, true, true, true, true, false, false, true, false, false, false, false, false, false, false, false, false, false, false, false] rfl rfl (any_of HT_.out (by kernel_rfl)) (fun _ _ _ h => h) (Or.inl ⟨by rfl, ?_⟩) ?_ ?_
          rotate_left
          ·
           intro w'
           go_simp
           with_reducible rfl
          rotate_left
          ·
           simp only [Act.put, List.setIfInBounds_toArray, List.set_cons_zero, List.set_cons_succ, i64_w, i32_w]
           rfl
          refine pure_ (i := 8) (N := some 82) (v := ?_) (a' := ?_) #[true, true, true, true, true, false, false, true, true, false, false, false, false, false, false, false, false, false, false, false] rfl rfl (any_of HT_.out (by kernel_rfl)) (fun _ _ _ h => h) (Or.inl ⟨by rfl, ?_⟩) ?_ ?_
          rotate_left
          ·
           intro w'
           go_simp
           with_reducible rfl
          rotate_left
          ·
           simp only [Act.put, List.setIfInBounds_toArray, List.set_cons_zero, List.set_cons_succ, i64_w, i32_w]
           rfl
          refine pure_ (i := 9) (N := some 83) (v := ?_) (a' := ?_) #[true, true, true, true, true, false, false, true, true, true, false, false, false, false, false, false, false, false, false, false] rfl rfl (any_of HT_.out (by kernel_rfl)) (fun _ _ _ h => h) (Or.inl ⟨by rfl, ?_⟩) ?_ ?_
          rotate_left
          ·
           intro w'
           go_simp
           with_reducible rfl
          rotate_left
          ·
           simp only [Act.put, List.setIfInBounds_toArray, List.set_cons_zero, List.set_cons_succ, i64_w, i32_w]
           rfl
          refine pure_ (i := 10) (N := some 84) (v := ?_) (a' := ?_) #[true, true, true, true, true, false, false, true, true, true, true, false, false, false, false, false, false, false, false, false] rfl rfl (any_of HT_.out (by kernel_rfl)) (fun _ _ _ h => h) (Or.inl ⟨by rfl, ?_⟩) ?_ ?_
          rotate_left
          ·
           intro w'
           go_simp
           with_reducible rfl
          rotate_left
          ·
           simp only [Act.put, List.setIfInBounds_toArray, List.set_cons_zero, List.set_cons_succ, i64_w, i32_w]
           rfl
          refine pure_ (i := 13) (N := some 87) (v := ?_) (a' := ?_) #[true, true, true, true, true, false, false, true, true, true, true, false, false, true, false, false, false, false, false, false] rfl rfl (any_of HT_.out (by kernel_rfl)) (fun _ _ _ h => h) (Or.inl ⟨by rfl, ?_⟩) ?_ ?_
          rotate_left
          ·
           intro w'
           go_simp
           with_reducible rfl
          rotate_left
          ·
           simp only [Act.put, List.setIfInBounds_toArray, List.set_cons_zero, List.set_cons_succ, i64_w, i32_w]
           rfl
          refine pure_ (i := 14) (N := some 88) (v := ?_) (a' := ?_) #[true, true, true, true, true, false, false, true, true, true, true, false, false, true, true, false, false, false, false, false] rfl rfl (any_of HT_.out (by kernel_rfl)) (fun _ _ _ h => h) (Or.inl ⟨by rfl, ?_⟩) ?_ ?_
          rotate_left
          ·
           intro w'
           go_simp
           with_reducible rfl
          rotate_left
          ·
           simp only [Act.put, List.setIfInBounds_toArray, List.set_cons_zero, List.set_cons_succ, i64_w, i32_w]
           rfl
          refine pure_ (i := 15) (N := some 89) (v := ?_) (a' := ?_) #[true, true, true, true, true, false, false, true, true, true, true, false, false, true, true, true, false, false, false, false] rfl rfl (any_of HT_.out (by kernel_rfl)) (fun _ _ _ h => h) (Or.inl ⟨by rfl, ?_⟩) ?_ ?_
          rotate_left
          ·
           intro w'
           go_simp
           with_reducible rfl
          rotate_left
          ·
           simp only [Act.put, List.setIfInBounds_toArray, List.set_cons_zero, List.set_cons_succ, i64_w, i32_w]
           rfl
          refine pure_ (i := 16) (N := some 90) (v := ?_) (a' := ?_) #[true, true, true, true, true, false, false, true, true, true, true, false, false, true, true, true, true, false, false, false] rfl rfl (any_of HT_.out (by kernel_rfl)) (fun _ _ _ h => h) (Or.inl ⟨by rfl, ?_⟩) ?_ ?_
          rotate_left
          ·
           intro w'
           go_simp
           with_reducible rfl
          rotate_left
          ·
           simp only [Act.put, List.setIfInBounds_toArray, List.set_cons_zero, List.set_cons_succ, i64_w, i32_w]
           rfl
          refine take_ (i := 5) (N := some 79) (v := ?_) (a' := ?_) #[true, true, true, true, true, true, false, true, true, true, true, false, false, true, true, true, true, false, false, false] rfl rfl (take_ofW HT_.out HW_.out (by kernel_rfl)) (fun _ _ _ h => h) (Or.inl ⟨by rfl, ?_⟩) hHeld ?_ ?_
          rotate_left
          ·
           rintro w' ⟨s0, s1, s2, s3, s4, s5, s6, s7, s8⟩
           go_simp
           with_reducible rfl
          rotate_left
          ·
           simp only [Act.put, List.setIfInBounds_toArray, List.set_cons_zero, List.set_cons_succ, i64_w, i32_w]
           rfl
          refine pure_ (i := 6) (N := some 80) (v := ?_) (a' := ?_) #[true, true, true, true, true, true, true, true, true, true, true, false, false, true, true, true, true, false, false, false] rfl rfl (any_of HT_.out (by kernel_rfl)) (fun _ _ _ h => h) (Or.inl ⟨by rfl, ?_⟩) ?_ ?_
          rotate_left
          ·
           intro w'
           go_simp
           with_reducible rfl
          rotate_left
          ·
           simp only [Act.put, List.setIfInBounds_toArray, List.set_cons_zero, List.set_cons_succ, i64_w, i32_w]
           rfl
          refine take_ (i := 11) (N := some 85) (v := ?_) (a' := ?_) #[true, true, true, true, true, true, true, true, true, true, true, true, false, true, true, true, true, false, false, false] rfl rfl (take_ofW HT_.out HW_.out (by kernel_rfl)) (fun _ _ _ h => h) (Or.inl ⟨by rfl, ?_⟩) hHeld ?_ ?_
          rotate_left
          ·
           rintro w' ⟨s0, s1, s2, s3, s4, s5, s6, s7, s8⟩
           go_simp
           with_reducible rfl
          rotate_left
          ·
           simp only [Act.put, List.setIfInBounds_toArray, List.set_cons_zero, List.set_cons_succ, i64_w, i32_w]
           rfl
          refine pure_ (i := 12) (N := some 86) (v := ?_) (a' := ?_) #[true, true, true, true, true, true, true, true, true, true, true, true, true, true, true, true, true, false, false, false] rfl rfl (any_of HT_.out (by kernel_rfl)) (fun _ _ _ h => h) (Or.inl ⟨by rfl, ?_⟩) ?_ ?_
          rotate_left
          ·
           intro w'
           go_simp
           with_reducible rfl
          rotate_left
          ·
           simp only [Act.put, List.setIfInBounds_toArray, List.set_cons_zero, List.set_cons_succ, i64_w, i32_w]
           rfl
          refine take_ (i := 17) (N := some 91) (v := ?_) (a' := ?_) #[true, true, true, true, true, true, true, true, true, true, true, true, true, true, true, true, true, true, false, false] rfl rfl (take_ofW HT_.out HW_.out (by kernel_rfl)) (fun _ _ _ h => h) (Or.inl ⟨by rfl, ?_⟩) hHeld ?_ ?_
          rotate_left
          ·
           rintro w' ⟨s0, s1, s2, s3, s4, s5, s6, s7, s8⟩
           go_simp
           with_reducible rfl
          rotate_left
          ·
           simp only [Act.put, List.setIfInBounds_toArray, List.set_cons_zero, List.set_cons_succ, i64_w, i32_w]
           rfl
          refine pure_ (i := 18) (N := some 92) (v := ?_) (a' := ?_) #[true, true, true, true, true, true, true, true, true, true, true, true, true, true, true, true, true, true, true, false] rfl rfl (any_of HT_.out (by kernel_rfl)) (fun _ _ _ h => h) (Or.inl ⟨by rfl, ?_⟩) ?_ ?_
          rotate_left
          ·
           intro w'
           go_simp
           with_reducible rfl
          rotate_left
          ·
           simp only [Act.put, List.setIfInBounds_toArray, List.set_cons_zero, List.set_cons_succ, i64_w, i32_w]
           rfl
          refine pure_ (i := 19) (N := some 8) (v := ?_) (a' := ?_) #[true, true, true, true, true, true, true, true, true, true, true, true, true, true, true, true, true, true, true, true] rfl rfl (any_of HT_.out (by kernel_rfl)) (fun _ _ _ h => h) (Or.inl ⟨by rfl, ?_⟩) ?_ ?_
          rotate_left
          ·
           intro w'
           go_simp
           with_reducible rfl
          rotate_left
          ·
           simp only [Act.put, List.setIfInBounds_toArray, List.set_cons_zero, List.set_cons_succ, i64_w, i32_w]
           rfl
          refine done_ (done_of HT_.out (by kernel_rfl)) ?_
          try go_wp2
          go_roundg k2
          case measure => have := HJ8.out; have := HK2.out; omega
          case rel => exact ⟨(wrap64 (x7_2 + ((rd_T33 t192 x9_2).f0))), (wrap64 ((wrap64 ((wrap64 (x8_2 + ((rd_T33 t192 x9_2).f1))) - ((rd_T33 t192 x9_2).f2))) - ((rd_T33 t192 x9_2).f0))), (wrap64 (x9_2 + 1)), (by first | rfl | (simp; done) | (simp [*]; done)), (by first | rfl | (simp; done) | (simp [*]; done)), (by first | rfl | (simp; done) | (simp [*]; done)), H', ⟨by have := HJ8.out; have := HK2.out; omega⟩, ⟨Kd.Rq HO_3.out⟩, ⟨Kd.Rq HO_5.out⟩, ⟨blq HB.out⟩⟩
        ·
         rw [if_neg c45] at H
         exact absurd H (by simp)
       ·
        rw [if_neg c43] at H
        have c43b0 : decide (x9_2 < (t192.length : Int)) = false := decide_eq_false c43
        clear c43
        replace H := Option.bind_eq_some_iff.mp H
        obtain ⟨t213, A530, H⟩ := H
        replace H : (if t199 = (wrap64 ((wrap64 (500 + x7_2)) + x8_2)) then (if (t196.length : Int) > 0 then ((impl_MissingMoney.f k2 t192 500 (wrap64 (t213 * 4))).bind fun t214 => (if t214 = (wrap64 (t199 - (wrap64 (t213 * 4)))) then ((impl_TillAfter.f k2 t192 501).bind fun t215 => (if t215 = (wrap64 (t199 + 1)) then ((impl_SlipOk.f 7 10 3).bind fun t216 => (some t216)) else (some false))) else (some false))) else (if x8_2 = 0 then ((impl_MissingMoney.f k2 t192 500 (wrap64 (t213 * 4))).bind fun t217 => (if t217 = (wrap64 (t199 - (wrap64 (t213 * 4)))) then ((impl_TillAfter.f k2 t192 501).bind fun t218 => (if t218 = (wrap64 (t199 + 1)) then ((impl_SlipOk.f 7 10 3).bind fun t219 => (some t219)) else (some false))) else (some false))) else (some false))) else (some false)) = some r := H
        have A53 := Aside0.mk A530
        clear A530
        have HF54 := Aside0.mk H
        clear H
        go_upto_region 19 with (first | ((with_reducible refine gate_callee (f := 23) rfl ?_); refine gLq (some 94) Try.func23 #[.slice A0 l0.length c0, .int .i64 0] ?_; (with_reducible refine (laws_at.calls _ _ l0 0 t213 _ ?side1 ?side2 A53.out).mono ?_); (case side1 => exact Kd.Cq (Kd.C_below HR0.out HB.out)); (case side2 => exact HC0.out); rintro e w' ⟨rfl, ⟨nd, rfl⟩⟩; refine ⟨_, rfl, ?_⟩))
        (try (rw [drewN_self wr]; generalize hq_ : World.drewN wr _ = wr; have n0_ := Aside0.mk (Kd.R_at hq_ HO_3.out); have n1_ := Aside0.mk (Kd.R_at hq_ HO_5.out); have n2_ := Aside0.mk (below_at hq_ HB.out); clear hq_ HO_3 HO_5 HB; have HO_3 := n0_; have HO_5 := n1_; have HB := n2_; clear n0_ n1_ n2_))
        have H := HF54.out
        clear HF54
        by_cases c55 : t199 = (wrap64 ((wrap64 (500 + x7_2)) + x8_2))
        ·
         rw [if_pos c55] at H
         have c55b0 : (t199 == (wrap64 ((wrap64 (500 + x7_2)) + x8_2))) = true := beq_iff_eq.mpr c55
         have c55b1 : (t199 != (wrap64 ((wrap64 (500 + x7_2)) + x8_2))) = false := bne_eq_false_iff_eq.mpr c55
         clear c55
         (first | rw [c55b0] | (simp only [i64_w, i32_w]; rw [c55b0]) | skip)
         by_cases c56 : (t196.length : Int) > 0
         ·
          rw [if_pos c56] at H
          have c56b0 : decide (0 < (t196.length : Int)) = true := decide_eq_true c56
          have c56b1 : decide (0 < t196.length) = true := decide_eq_true (by omega)
          clear c56
          replace H := Option.bind_eq_some_iff.mp H
          obtain ⟨t214, A570, H⟩ := H
          replace H : (if t214 = (wrap64 (t199 - (wrap64 (t213 * 4)))) then ((impl_TillAfter.f k2 t192 501).bind fun t215 => (if t215 = (wrap64 (t199 + 1)) then ((impl_SlipOk.f 7 10 3).bind fun t216 => (some t216)) else (some false))) else (some false)) = some r := H
          have A57 := Aside0.mk A570
          clear A570
          by_cases c58 : t214 = (wrap64 (t199 - (wrap64 (t213 * 4))))
          ·
           rw [if_pos c58] at H
           have c58b0 : (t214 == (wrap64 (t199 - (wrap64 (t213 * 4))))) = true := beq_iff_eq.mpr c58
           have c58b1 : (t214 != (wrap64 (t199 - (wrap64 (t213 * 4))))) = false := bne_eq_false_iff_eq.mpr c58
           clear c58
           replace H := Option.bind_eq_some_iff.mp H
           obtain ⟨t215, A590, H⟩ := H
           replace H : (if t215 = (wrap64 (t199 + 1)) then ((impl_SlipOk.f 7 10 3).bind fun t216 => (some t216)) else (some false)) = some r := H
           have A59 := Aside0.mk A590
           clear A590
           by_cases c60 : t215 = (wrap64 (t199 + 1))
           ·
            rw [if_pos c60] at H
            have c60b0 : (t215 == (wrap64 (t199 + 1))) = true := beq_iff_eq.mpr c60
            have c60b1 : (t215 != (wrap64 (t199 + 1))) = false := bne_eq_false_iff_eq.mpr c60
            clear c60
            replace H := Option.bind_eq_some_iff.mp H
            obtain ⟨t216, A610, H⟩ := H
            replace H : (some t216) = some r := H
            have A61 := Aside0.mk A610
            clear A610
            obtain rfl := Option.some.inj H
            obtain ⟨Ao62, co62, eo62⟩ := Kd.R_slice HO_5.out
            subst eo62
            go_wp2_with (first | (go_at_call 24; (with_reducible refine (impl_MissingMoney.calls k2 _ _ t192 500 (wrap64 (t213 * 4)) t214 _ ?side1 ?side2 A57.out).mono ?_); (case side1 => repeat (first | exact (Kd.R_reads' HO_3.out).2.2 | (with_reducible refine Kd.C_alloc ?_ _) | (with_reducible refine Kd.C_drewN ?_ _) | (with_reducible refine Kd.C_drew ?_))); (case side2 => exact (Kd.R_reads' HO_3.out).2.1); rintro e w63 ⟨rfl, hb⟩; replace HO_3 := rob HO_3 hb; replace HO_5 := rob HO_5 hb; replace HB := hbs HB hb; (try clear hb); (try clear hb2); (try clear hk); (try clear hi)) | (go_at_call 19; (with_reducible refine (impl_TillAfter.calls k2 _ _ t192 501 t215 _ ?side1 ?side2 A59.out).mono ?_); (case side1 => repeat (first | exact (Kd.R_reads' HO_3.out).2.2 | (with_reducible refine Kd.C_alloc ?_ _) | (with_reducible refine Kd.C_drewN ?_ _) | (with_reducible refine Kd.C_drew ?_))); (case side2 => exact (Kd.R_reads' HO_3.out).2.1); rintro e w64 ⟨rfl, hb⟩; replace HO_3 := rob HO_3 hb; replace HO_5 := rob HO_5 hb; replace HB := hbs HB hb; (try clear hb); (try clear hb2); (try clear hk); (try clear hi)) | (go_at_call 22; (with_reducible refine (impl_SlipOk.calls 7 10 3 t216 _ A61.out).mono ?_); rintro e w65 ⟨rfl, hb⟩; replace HO_3 := rob HO_3 hb; replace HO_5 := rob HO_5 hb; replace HB := hbs HB hb; (try clear hb); (try clear hb2); (try clear hk); (try clear hi)))
            go_ret
            exact ⟨by first | rfl | (simp [errW_none, errW_some] <;> rfl) | (simp [*, errW_none, errW_some] <;> rfl), blq HB.out⟩
           ·
            rw [if_neg c60] at H
            have c60b0 : (t215 == (wrap64 (t199 + 1))) = false := beq_eq_false_iff_ne.mpr c60
            have c60b1 : (t215 != (wrap64 (t199 + 1))) = true := bne_iff_ne.mpr c60
            obtain rfl := Option.some.inj H
            obtain ⟨Ao66, co66, eo66⟩ := Kd.R_slice HO_5.out
            subst eo66
            go_wp2_with (first | (go_at_call 24; (with_reducible refine (impl_MissingMoney.calls k2 _ _ t192 500 (wrap64 (t213 * 4)) t214 _ ?side1 ?side2 A57.out).mono ?_); (case side1 => repeat (first | exact (Kd.R_reads' HO_3.out).2.2 | (with_reducible refine Kd.C_alloc ?_ _) | (with_reducible refine Kd.C_drewN ?_ _) | (with_reducible refine Kd.C_drew ?_))); (case side2 => exact (Kd.R_reads' HO_3.out).2.1); rintro e w67 ⟨rfl, hb⟩; replace HO_3 := rob HO_3 hb; replace HO_5 := rob HO_5 hb; replace HB := hbs HB hb; (try clear hb); (try clear hb2); (try clear hk); (try clear hi)) | (go_at_call 19; (with_reducible refine (impl_TillAfter.calls k2 _ _ t192 501 t215 _ ?side1 ?side2 A59.out).mono ?_); (case side1 => repeat (first | exact (Kd.R_reads' HO_3.out).2.2 | (with_reducible refine Kd.C_alloc ?_ _) | (with_reducible refine Kd.C_drewN ?_ _) | (with_reducible refine Kd.C_drew ?_))); (case side2 => exact (Kd.R_reads' HO_3.out).2.1); rintro e w68 ⟨rfl, hb⟩; replace HO_3 := rob HO_3 hb; replace HO_5 := rob HO_5 hb; replace HB := hbs HB hb; (try clear hb); (try clear hb2); (try clear hk); (try clear hi)))
            go_ret
            exact ⟨by first | rfl | (simp [errW_none, errW_some] <;> rfl) | (simp [*, errW_none, errW_some] <;> rfl), blq HB.out⟩
          ·
           rw [if_neg c58] at H
           have c58b0 : (t214 == (wrap64 (t199 - (wrap64 (t213 * 4))))) = false := beq_eq_false_iff_ne.mpr c58
           have c58b1 : (t214 != (wrap64 (t199 - (wrap64 (t213 * 4))))) = true := bne_iff_ne.mpr c58
           obtain rfl := Option.some.inj H
           obtain ⟨Ao69, co69, eo69⟩ := Kd.R_slice HO_5.out
           subst eo69
           go_wp2_with (first | (go_at_call 24; (with_reducible refine (impl_MissingMoney.calls k2 _ _ t192 500 (wrap64 (t213 * 4)) t214 _ ?side1 ?side2 A57.out).mono ?_); (case side1 => repeat (first | exact (Kd.R_reads' HO_3.out).2.2 | (with_reducible refine Kd.C_alloc ?_ _) | (with_reducible refine Kd.C_drewN ?_ _) | (with_reducible refine Kd.C_drew ?_))); (case side2 => exact (Kd.R_reads' HO_3.out).2.1); rintro e w70 ⟨rfl, hb⟩; replace HO_3 := rob HO_3 hb; replace HO_5 := rob HO_5 hb; replace HB := hbs HB hb; (try clear hb); (try clear hb2); (try clear hk); (try clear hi)))
           go_ret
           exact ⟨by first | rfl | (simp [errW_none, errW_some] <;> rfl) | (simp [*, errW_none, errW_some] <;> rfl), blq HB.out⟩
         ·
          rw [if_neg c56] at H
          have c56b0 : decide (0 < (t196.length : Int)) = false := decide_eq_false c56
          have c56b1 : decide (0 < t196.length) = false := decide_eq_false (by omega)
          clear c56
          by_cases c71 : x8_2 = 0
          ·
           rw [if_pos c71] at H
           have c71b0 : (x8_2 == 0) = true := beq_iff_eq.mpr c71
           have c71b1 : (x8_2 != 0) = false := bne_eq_false_iff_eq.mpr c71
           clear c71
           replace H := Option.bind_eq_some_iff.mp H
           obtain ⟨t217, A720, H⟩ := H
           replace H : (if t217 = (wrap64 (t199 - (wrap64 (t213 * 4)))) then ((impl_TillAfter.f k2 t192 501).bind fun t218 => (if t218 = (wrap64 (t199 + 1)) then ((impl_SlipOk.f 7 10 3).bind fun t219 => (some t219)) else (some false))) else (some false)) = some r := H
           have A72 := Aside0.mk A720
           clear A720
           by_cases c73 : t217 = (wrap64 (t199 - (wrap64 (t213 * 4))))
           ·
            rw [if_pos c73] at H
            have c73b0 : (t217 == (wrap64 (t199 - (wrap64 (t213 * 4))))) = true := beq_iff_eq.mpr c73
            have c73b1 : (t217 != (wrap64 (t199 - (wrap64 (t213 * 4))))) = false := bne_eq_false_iff_eq.mpr c73
            clear c73
            replace H := Option.bind_eq_some_iff.mp H
            obtain ⟨t218, A740, H⟩ := H
            replace H : (if t218 = (wrap64 (t199 + 1)) then ((impl_SlipOk.f 7 10 3).bind fun t219 => (some t219)) else (some false)) = some r := H
            have A74 := Aside0.mk A740
            clear A740
            by_cases c75 : t218 = (wrap64 (t199 + 1))
            ·
             rw [if_pos c75] at H
             have c75b0 : (t218 == (wrap64 (t199 + 1))) = true := beq_iff_eq.mpr c75
             have c75b1 : (t218 != (wrap64 (t199 + 1))) = false := bne_eq_false_iff_eq.mpr c75
             clear c75
             replace H := Option.bind_eq_some_iff.mp H
             obtain ⟨t219, A760, H⟩ := H
             replace H : (some t219) = some r := H
             have A76 := Aside0.mk A760
             clear A760
             obtain rfl := Option.some.inj H
             obtain ⟨Ao77, co77, eo77⟩ := Kd.R_slice HO_5.out
             subst eo77
             go_wp2_with (first | (go_at_call 24; (with_reducible refine (impl_MissingMoney.calls k2 _ _ t192 500 (wrap64 (t213 * 4)) t217 _ ?side1 ?side2 A72.out).mono ?_); (case side1 => repeat (first | exact (Kd.R_reads' HO_3.out).2.2 | (with_reducible refine Kd.C_alloc ?_ _) | (with_reducible refine Kd.C_drewN ?_ _) | (with_reducible refine Kd.C_drew ?_))); (case side2 => exact (Kd.R_reads' HO_3.out).2.1); rintro e w78 ⟨rfl, hb⟩; replace HO_3 := rob HO_3 hb; replace HO_5 := rob HO_5 hb; replace HB := hbs HB hb; (try clear hb); (try clear hb2); (try clear hk); (try clear hi)) | (go_at_call 19; (with_reducible refine (impl_TillAfter.calls k2 _ _ t192 501 t218 _ ?side1 ?side2 A74.out).mono ?_); (case side1 => repeat (first | exact (Kd.R_reads' HO_3.out).2.2 | (with_reducible refine Kd.C_alloc ?_ _) | (with_reducible refine Kd.C_drewN ?_ _) | (with_reducible refine Kd.C_drew ?_))); (case side2 => exact (Kd.R_reads' HO_3.out).2.1); rintro e w79 ⟨rfl, hb⟩; replace HO_3 := rob HO_3 hb; replace HO_5 := rob HO_5 hb; replace HB := hbs HB hb; (try clear hb); (try clear hb2); (try clear hk); (try clear hi)) | (go_at_call 22; (with_reducible refine (impl_SlipOk.calls 7 10 3 t219 _ A76.out).mono ?_); rintro e w80 ⟨rfl, hb⟩; replace HO_3 := rob HO_3 hb; replace HO_5 := rob HO_5 hb; replace HB := hbs HB hb; (try clear hb); (try clear hb2); (try clear hk); (try clear hi)))
             go_ret
             exact ⟨by first | rfl | (simp [errW_none, errW_some] <;> rfl) | (simp [*, errW_none, errW_some] <;> rfl), blq HB.out⟩
            ·
             rw [if_neg c75] at H
             have c75b0 : (t218 == (wrap64 (t199 + 1))) = false := beq_eq_false_iff_ne.mpr c75
             have c75b1 : (t218 != (wrap64 (t199 + 1))) = true := bne_iff_ne.mpr c75
             obtain rfl := Option.some.inj H
             obtain ⟨Ao81, co81, eo81⟩ := Kd.R_slice HO_5.out
             subst eo81
             go_wp2_with (first | (go_at_call 24; (with_reducible refine (impl_MissingMoney.calls k2 _ _ t192 500 (wrap64 (t213 * 4)) t217 _ ?side1 ?side2 A72.out).mono ?_); (case side1 => repeat (first | exact (Kd.R_reads' HO_3.out).2.2 | (with_reducible refine Kd.C_alloc ?_ _) | (with_reducible refine Kd.C_drewN ?_ _) | (with_reducible refine Kd.C_drew ?_))); (case side2 => exact (Kd.R_reads' HO_3.out).2.1); rintro e w82 ⟨rfl, hb⟩; replace HO_3 := rob HO_3 hb; replace HO_5 := rob HO_5 hb; replace HB := hbs HB hb; (try clear hb); (try clear hb2); (try clear hk); (try clear hi)) | (go_at_call 19; (with_reducible refine (impl_TillAfter.calls k2 _ _ t192 501 t218 _ ?side1 ?side2 A74.out).mono ?_); (case side1 => repeat (first | exact (Kd.R_reads' HO_3.out).2.2 | (with_reducible refine Kd.C_alloc ?_ _) | (with_reducible refine Kd.C_drewN ?_ _) | (with_reducible refine Kd.C_drew ?_))); (case side2 => exact (Kd.R_reads' HO_3.out).2.1); rintro e w83 ⟨rfl, hb⟩; replace HO_3 := rob HO_3 hb; replace HO_5 := rob HO_5 hb; replace HB := hbs HB hb; (try clear hb); (try clear hb2); (try clear hk); (try clear hi)))
             go_ret
             exact ⟨by first | rfl | (simp [errW_none, errW_some] <;> rfl) | (simp [*, errW_none, errW_some] <;> rfl), blq HB.out⟩
           ·
            rw [if_neg c73] at H
            have c73b0 : (t217 == (wrap64 (t199 - (wrap64 (t213 * 4))))) = false := beq_eq_false_iff_ne.mpr c73
            have c73b1 : (t217 != (wrap64 (t199 - (wrap64 (t213 * 4))))) = true := bne_iff_ne.mpr c73
            obtain rfl := Option.some.inj H
            obtain ⟨Ao84, co84, eo84⟩ := Kd.R_slice HO_5.out
            subst eo84
            go_wp2_with (first | (go_at_call 24; (with_reducible refine (impl_MissingMoney.calls k2 _ _ t192 500 (wrap64 (t213 * 4)) t217 _ ?side1 ?side2 A72.out).mono ?_); (case side1 => repeat (first | exact (Kd.R_reads' HO_3.out).2.2 | (with_reducible refine Kd.C_alloc ?_ _) | (with_reducible refine Kd.C_drewN ?_ _) | (with_reducible refine Kd.C_drew ?_))); (case side2 => exact (Kd.R_reads' HO_3.out).2.1); rintro e w85 ⟨rfl, hb⟩; replace HO_3 := rob HO_3 hb; replace HO_5 := rob HO_5 hb; replace HB := hbs HB hb; (try clear hb); (try clear hb2); (try clear hk); (try clear hi)))
            go_ret
            exact ⟨by first | rfl | (simp [errW_none, errW_some] <;> rfl) | (simp [*, errW_none, errW_some] <;> rfl), blq HB.out⟩
          ·
           rw [if_neg c71] at H
           have c71b0 : (x8_2 == 0) = false := beq_eq_false_iff_ne.mpr c71
           have c71b1 : (x8_2 != 0) = true := bne_iff_ne.mpr c71
           obtain rfl := Option.some.inj H
           obtain ⟨Ao86, co86, eo86⟩ := Kd.R_slice HO_5.out
           subst eo86
           go_wp2
           go_ret
           exact ⟨by first | rfl | (simp [errW_none, errW_some] <;> rfl) | (simp [*, errW_none, errW_some] <;> rfl), blq HB.out⟩
        ·
         rw [if_neg c55] at H
         have c55b0 : (t199 == (wrap64 ((wrap64 (500 + x7_2)) + x8_2))) = false := beq_eq_false_iff_ne.mpr c55
         have c55b1 : (t199 != (wrap64 ((wrap64 (500 + x7_2)) + x8_2))) = true := bne_iff_ne.mpr c55
         (first | rw [c55b0] | (simp only [i64_w, i32_w]; rw [c55b0]) | skip)
         obtain rfl := Option.some.inj H
         go_wp2
         go_ret
         exact ⟨by first | rfl | (simp [errW_none, errW_some] <;> rfl) | (simp [*, errW_none, errW_some] <;> rfl), blq HB.out⟩

/-- THE ONE PURE STATEMENT of laws_FnTills: yours. -/
def laws_FnTills.Pure : Prop := ∀ (l0 : List Int), l0.length ≤ maxLen → l0.length * 1 ≤ 140737488351232 → (∀ x ∈ l0, (Lit.int .u8 x).wf = true) → ∃ k, laws_FnTills.f k l0 = some true
theorem laws_FnTills.walk (P : laws_FnTills.Pure) (a0 : Option Addr) (len0 cap0 : Nat) (z0 : List Int) (w : World) (w0 : (a0 = none ∧ len0 = 0 ∧ cap0 = 0 ∧ z0 = []) ∨ ∃ x, a0 = some x ∧ len0 ≤ cap0 ∧ cap0 ≤ maxLen ∧ z0.length = cap0 ∧ (∀ i, i < z0.length → w.cell? (x.add i) = some (.int .u8 (z0.getD i 0))) ∧ ∀ n ∈ z0, (Lit.int .u8 n).wf = true) (y0 : len0 * 1 ≤ 140737488351232) :
  Calls Try.prog 3 #[.slice a0 len0 cap0] w fun e w' => e = .returned (.bool true) ∧ Below w.heap.size w w' := by
 obtain ⟨l0, rfl, hr0, hm0, hw0, hc0⟩ := ReadsInt.ofRowC w0
 obtain ⟨k, h⟩ := P l0 hm0 y0 hw0
 refine (laws_FnTills.calls k _ _ l0 true w (Kd.C_of_reads (d := (0 : Int)) (h1 := fun _ => rfl) hr0) hc0 h).mono ?_
 rintro e w' ⟨rfl, hd⟩
 exact ⟨rfl, hd⟩

end Go.Proofs.Ytnlioefgpgamdaa.Q
