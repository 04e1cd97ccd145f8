-- Written for this claim by wip/xprint.py of this repository (by way of the kit's print); Lean checks every line.
import Derived.Test.YtnlioefgpgamdaaQ0
import Derived.Test.YtnlioefgpgamdaaQ2
import Derived.Test.YtnlioefgpgamdaaQ18
import Derived.Test.YtnlioefgpgamdaaQ25
import Derived.Test.YtnlioefgpgamdaaQ30
import Derived.Test.YtnlioefgpgamdaaQ32
import Derived.Test.YtnlioefgpgamdaaQ33
namespace Go.Proofs.Ytnlioefgpgamdaa.Q
open Go.RowKit Go.Proofs.YtnlioefgpgamdaaW.PrintWords Go.Proofs.YtnlioefgpgamdaaW.PrintLast Go.Proofs.YtnlioefgpgamdaaW.PrintMore
attribute [local go_sem] max2_int min2_int max_two min_two max_three min_three max_four min_four   -- for this text's walks alone
set_option linter.unusedVariables false
set_option linter.unusedSimpArgs false

/-! ### laws_FnStocks: function 7 -/
mutual
def laws_FnStocks.j0 : Nat → List Int → Int → Bool → List Int → Int → Int → Int → List Int → Option (Bool)
 | 0, _, _, _, _, _, _, _, _ => none
 | k + 1, x0, x5, x81, x623000, x627000, x627001, x627002, x633000 => if x81 = true then (some false) else ((spec_Amounts.f k x627000 x627001 x627002 x5).bind fun t641 => (laws_FnStocks.l0 k x0 x5 t641 0 x623000 x627000 x627001 x627002 x633000))
def laws_FnStocks.l0 : Nat → List Int → Int → List Int → Int → List Int → Int → Int → Int → List Int → Option (Bool)
 | 0, _, _, _, _, _, _, _, _, _ => none
 | k + 1, x0, x5, x10, x11, x623000, x627000, x627001, x627002, x633000 => if x11 < 4 then (if 0 ≤ x11 then (if x11 < (x633000.length : Int) then (if x11 < (x10.length : Int) then (if x11 < (x623000.length : Int) then (if (wrap64 ((rd x633000 x11) + (rd x10 x11))) = (rd x623000 x11) then (laws_FnStocks.l0 k x0 x5 x10 (wrap64 (x11 + 1)) x623000 x627000 x627001 x627002 x633000) else (some false)) else (none)) else (none)) else (none)) else (none)) else ((laws_at.f x0 0).bind fun t647 => ((impl_MustBuy.f k x623000 (([(⟨x627000, x627001, x627002⟩ : S56)] : List (S56))) (([wrap64 (t647 * 8)] : List Int))).bind fun t654 => (if (t654.length : Int) = 4 then (laws_FnStocks.l1 k x5 (wrap64 (t647 * 8)) t654 true 0 x623000 x627000 x627001 x627002 x623000) else (some false))))
def laws_FnStocks.l1 : Nat → Int → Int → List Int → Bool → Int → List Int → Int → Int → Int → List Int → Option (Bool)
 | 0, _, _, _, _, _, _, _, _, _, _ => none
 | k + 1, x5, x12, x13, x15, x16, x623000, x627000, x627001, x627002, x658000 => if x16 < 4 then (if 0 ≤ x16 then (if x16 < (x13.length : Int) then ((impl_FillStock.f k x658000 x16 (rd x13 x16)).bind fun bt659 => (if bt659.2 = true then (if (rd x13 x16) < 0 then (some false) else (if x15 = true then (laws_FnStocks.l1 k x5 x12 x13 ((rd x13 x16) == 0) (wrap64 (x16 + 1)) x623000 x627000 x627001 x627002 bt659.1) else (laws_FnStocks.l1 k x5 x12 x13 false (wrap64 (x16 + 1)) x623000 x627000 x627001 x627002 bt659.1))) else (some false))) else (none)) else (none)) else ((impl_TakeFor.f k x658000 x627000 x627001 x627002 x12).bind fun bt666 => ((impl_TakeFor.f k x623000 x627000 x627001 x627002 x12).bind fun bt671 => (if bt666.2 = true then (if (bt671.2 == x15) = true then (some ((decide (x12 ≤ x5)) == bt671.2)) else (some false)) else (some false))))
end
def laws_FnStocks.f (k : Nat) (l0 : List Int) : Option (Bool) := (laws_big.f l0).bind fun t618 => (if t618 = true then (some true) else ((spec_DrawStock.f k l0).bind fun t619 => ((spec_DrawDough.f k l0).bind fun bt623 => ((impl_MostFlour.f k t619 bt623.1 bt623.2.1 bt623.2.2).bind fun t627 => ((impl_TakeFor.f k t619 bt623.1 bt623.2.1 bt623.2.2 t627).bind fun bt628 => ((impl_TakeFor.f k t619 bt623.1 bt623.2.1 bt623.2.2 (wrap64 (t627 + 1))).bind fun bt633 => (if t627 < 0 then (laws_FnStocks.j0 k l0 t627 true t619 bt623.1 bt623.2.1 bt623.2.2 bt628.1) else (if bt628.2 = true then (if bt633.2 = true then (laws_FnStocks.j0 k l0 t627 true t619 bt623.1 bt623.2.1 bt623.2.2 bt628.1) else ((impl_StoreOk.f bt628.1).bind fun t638 => (if t638 = true then ((impl_FirstMissing.f k t619 bt623.1 bt623.2.1 bt623.2.2 t627).bind fun t639 => (if t639 = (-1) then ((impl_FirstMissing.f k t619 bt623.1 bt623.2.1 bt623.2.2 (wrap64 (t627 + 1))).bind fun t640 => (if t640 < 0 then (laws_FnStocks.j0 k l0 t627 true t619 bt623.1 bt623.2.1 bt623.2.2 bt628.1) else (laws_FnStocks.j0 k l0 t627 ((bt628.1.length : Int) != 4) t619 bt623.1 bt623.2.1 bt623.2.2 bt628.1))) else (laws_FnStocks.j0 k l0 t627 true t619 bt623.1 bt623.2.1 bt623.2.2 bt628.1))) else (laws_FnStocks.j0 k l0 t627 true t619 bt623.1 bt623.2.1 bt623.2.2 bt628.1)))) else (laws_FnStocks.j0 k l0 t627 true t619 bt623.1 bt623.2.1 bt623.2.2 bt628.1)))))))))
theorem laws_FnStocks.mono_l : ∀ k, (∀ y0 y1 y2 y3 y4 y5 y6 y7, LeO (laws_FnStocks.j0 k y0 y1 y2 y3 y4 y5 y6 y7) (laws_FnStocks.j0 (k + 1) y0 y1 y2 y3 y4 y5 y6 y7)) ∧ (∀ y0 y1 y2 y3 y4 y5 y6 y7 y8, LeO (laws_FnStocks.l0 k y0 y1 y2 y3 y4 y5 y6 y7 y8) (laws_FnStocks.l0 (k + 1) y0 y1 y2 y3 y4 y5 y6 y7 y8)) ∧ (∀ y0 y1 y2 y3 y4 y5 y6 y7 y8 y9, LeO (laws_FnStocks.l1 k y0 y1 y2 y3 y4 y5 y6 y7 y8 y9) (laws_FnStocks.l1 (k + 1) y0 y1 y2 y3 y4 y5 y6 y7 y8 y9))
 | 0 => ⟨fun _ _ _ _ _ _ _ _ r h => by simp [laws_FnStocks.j0] at h, fun _ _ _ _ _ _ _ _ _ r h => by simp [laws_FnStocks.l0] at h, fun _ _ _ _ _ _ _ _ _ _ r h => by simp [laws_FnStocks.l1] at h⟩
 | k + 1 => by
  obtain ⟨ih0, ih1, ih2⟩ := laws_FnStocks.mono_l k
  refine ⟨?_, ?_, ?_⟩
  ·
   intro y0 y1 y2 y3 y4 y5 y6 y7
   unfold laws_FnStocks.j0
   repeat' first
   | (with_reducible exact ih0 _ _ _ _ _ _ _ _)
   | (with_reducible exact ih1 _ _ _ _ _ _ _ _ _)
   | (with_reducible exact ih2 _ _ _ _ _ _ _ _ _ _)
   | (with_reducible exact impl_FillStock.mono _ _ _ _)
   | (with_reducible exact impl_FirstMissing.mono _ _ _ _ _ _)
   | (with_reducible exact impl_MostFlour.mono _ _ _ _ _)
   | (with_reducible exact impl_MustBuy.mono _ _ _ _)
   | (with_reducible exact impl_TakeFor.mono _ _ _ _ _ _)
   | (with_reducible exact spec_Amounts.mono _ _ _ _ _)
   | (with_reducible exact spec_DrawDough.mono _ _)
   | (with_reducible exact spec_DrawStock.mono _ _)
   | (with_reducible exact LeO.refl _)
   | (with_reducible exact LeO.none _)
   | (with_reducible refine LeO.ite ?_ ?_)
   | (with_reducible refine LeO.bind ?_ (fun _ => ?_))
   | exact ih0 _ _ _ _ _ _ _ _
   | exact ih1 _ _ _ _ _ _ _ _ _
   | exact ih2 _ _ _ _ _ _ _ _ _ _
   | exact impl_FillStock.mono _ _ _ _
   | exact impl_FirstMissing.mono _ _ _ _ _ _
   | exact impl_MostFlour.mono _ _ _ _ _
   | exact impl_MustBuy.mono _ _ _ _
   | exact impl_TakeFor.mono _ _ _ _ _ _
   | exact spec_Amounts.mono _ _ _ _ _
   | exact spec_DrawDough.mono _ _
   | exact spec_DrawStock.mono _ _
   | exact LeO.none _
   | refine LeO.ite ?_ ?_
   | refine LeO.bind ?_ (fun _ => ?_)
  ·
   intro y0 y1 y2 y3 y4 y5 y6 y7 y8
   unfold laws_FnStocks.l0
   repeat' first
   | (with_reducible exact ih0 _ _ _ _ _ _ _ _)
   | (with_reducible exact ih1 _ _ _ _ _ _ _ _ _)
   | (with_reducible exact ih2 _ _ _ _ _ _ _ _ _ _)
   | (with_reducible exact impl_FillStock.mono _ _ _ _)
   | (with_reducible exact impl_FirstMissing.mono _ _ _ _ _ _)
   | (with_reducible exact impl_MostFlour.mono _ _ _ _ _)
   | (with_reducible exact impl_MustBuy.mono _ _ _ _)
   | (with_reducible exact impl_TakeFor.mono _ _ _ _ _ _)
   | (with_reducible exact spec_Amounts.mono _ _ _ _ _)
   | (with_reducible exact spec_DrawDough.mono _ _)
   | (with_reducible exact spec_DrawStock.mono _ _)
   | (with_reducible exact LeO.refl _)
   | (with_reducible exact LeO.none _)
   | (with_reducible refine LeO.ite ?_ ?_)
   | (with_reducible refine LeO.bind ?_ (fun _ => ?_))
   | exact ih0 _ _ _ _ _ _ _ _
   | exact ih1 _ _ _ _ _ _ _ _ _
   | exact ih2 _ _ _ _ _ _ _ _ _ _
   | exact impl_FillStock.mono _ _ _ _
   | exact impl_FirstMissing.mono _ _ _ _ _ _
   | exact impl_MostFlour.mono _ _ _ _ _
   | exact impl_MustBuy.mono _ _ _ _
   | exact impl_TakeFor.mono _ _ _ _ _ _
   | exact spec_Amounts.mono _ _ _ _ _
   | exact spec_DrawDough.mono _ _
   | exact spec_DrawStock.mono _ _
   | exact LeO.none _
   | refine LeO.ite ?_ ?_
   | refine LeO.bind ?_ (fun _ => ?_)
  ·
   intro y0 y1 y2 y3 y4 y5 y6 y7 y8 y9
   unfold laws_FnStocks.l1
   repeat' first
   | (with_reducible exact ih0 _ _ _ _ _ _ _ _)
   | (with_reducible exact ih1 _ _ _ _ _ _ _ _ _)
   | (with_reducible exact ih2 _ _ _ _ _ _ _ _ _ _)
   | (with_reducible exact impl_FillStock.mono _ _ _ _)
   | (with_reducible exact impl_FirstMissing.mono _ _ _ _ _ _)
   | (with_reducible exact impl_MostFlour.mono _ _ _ _ _)
   | (with_reducible exact impl_MustBuy.mono _ _ _ _)
   | (with_reducible exact impl_TakeFor.mono _ _ _ _ _ _)
   | (with_reducible exact spec_Amounts.mono _ _ _ _ _)
   | (with_reducible exact spec_DrawDough.mono _ _)
   | (with_reducible exact spec_DrawStock.mono _ _)
   | (with_reducible exact LeO.refl _)
   | (with_reducible exact LeO.none _)
   | (with_reducible refine LeO.ite ?_ ?_)
   | (with_reducible refine LeO.bind ?_ (fun _ => ?_))
   | exact ih0 _ _ _ _ _ _ _ _
   | exact ih1 _ _ _ _ _ _ _ _ _
   | exact ih2 _ _ _ _ _ _ _ _ _ _
   | exact impl_FillStock.mono _ _ _ _
   | exact impl_FirstMissing.mono _ _ _ _ _ _
   | exact impl_MostFlour.mono _ _ _ _ _
   | exact impl_MustBuy.mono _ _ _ _
   | exact impl_TakeFor.mono _ _ _ _ _ _
   | exact spec_Amounts.mono _ _ _ _ _
   | exact spec_DrawDough.mono _ _
   | exact spec_DrawStock.mono _ _
   | exact LeO.none _
   | refine LeO.ite ?_ ?_
   | refine LeO.bind ?_ (fun _ => ?_)
theorem laws_FnStocks.mono : ∀ a0 k, LeO (laws_FnStocks.f k a0) (laws_FnStocks.f (k + 1) a0) := by
 intro a0 k
 obtain ⟨ih0, ih1, ih2⟩ := laws_FnStocks.mono_l k
 unfold laws_FnStocks.f
 repeat' first
   | (with_reducible exact ih0 _ _ _ _ _ _ _ _)
   | (with_reducible exact ih1 _ _ _ _ _ _ _ _ _)
   | (with_reducible exact ih2 _ _ _ _ _ _ _ _ _ _)
   | (with_reducible exact impl_FillStock.mono _ _ _ _)
   | (with_reducible exact impl_FirstMissing.mono _ _ _ _ _ _)
   | (with_reducible exact impl_MostFlour.mono _ _ _ _ _)
   | (with_reducible exact impl_MustBuy.mono _ _ _ _)
   | (with_reducible exact impl_TakeFor.mono _ _ _ _ _ _)
   | (with_reducible exact spec_Amounts.mono _ _ _ _ _)
   | (with_reducible exact spec_DrawDough.mono _ _)
   | (with_reducible exact spec_DrawStock.mono _ _)
   | (with_reducible exact LeO.refl _)
   | (with_reducible exact LeO.none _)
   | (with_reducible refine LeO.ite ?_ ?_)
   | (with_reducible refine LeO.bind ?_ (fun _ => ?_))
   | exact ih0 _ _ _ _ _ _ _ _
   | exact ih1 _ _ _ _ _ _ _ _ _
   | exact ih2 _ _ _ _ _ _ _ _ _ _
   | exact impl_FillStock.mono _ _ _ _
   | exact impl_FirstMissing.mono _ _ _ _ _ _
   | exact impl_MostFlour.mono _ _ _ _ _
   | exact impl_MustBuy.mono _ _ _ _
   | exact impl_TakeFor.mono _ _ _ _ _ _
   | exact spec_Amounts.mono _ _ _ _ _
   | exact spec_DrawDough.mono _ _
   | exact spec_DrawStock.mono _ _
   | exact LeO.none _
   | refine LeO.ite ?_ ?_
   | refine LeO.bind ?_ (fun _ => ?_)
def laws_FnStocks.T14 : Bool × List (List Nat × List Nat) := (true, [([], []), ([0], [0]), ([], []), ([1, 2], [1, 2]), ([3], [3]), ([], []), ([], []), ([5, 6], [5, 6]), ([7], [7]), ([4, 8], [4, 8]), ([], []), ([10], [10]), ([], []), ([11, 12], [11, 12]), ([13], [13]), ([9, 14], [9, 14])])
def laws_FnStocks.B14 : List Nat := [0, 1, 0, 7, 15, 0, 0, 96, 224, 511, 0, 1024, 0, 7168, 15360, 32767]
theorem laws_FnStocks.tab14 : rtab .any (opsOf Try.f7 14) = laws_FnStocks.T14 := by kernel_rfl
theorem laws_FnStocks.bits14 : waitsOk laws_FnStocks.T14.2 laws_FnStocks.B14 = true := by kernel_rfl
def laws_FnStocks.T25 : Bool × List (List Nat × List Nat) := (true, [([], []), ([], []), ([], []), ([], []), ([2, 3], [2, 3]), ([4], [4]), ([0, 1, 5], [0, 1, 5]), ([6], [6]), ([7], [7]), ([7], [7]), ([], []), ([10, 8, 6, 0, 1, 2, 3, 4, 5, 6, 7, 8, 10], [8, 10]), ([9, 11, 0, 1, 2, 3, 4, 5, 6, 7, 8, 9, 10, 11], [9])])
def laws_FnStocks.B25 : List Nat := [0, 0, 0, 0, 12, 28, 63, 127, 255, 255, 0, 1535, 4095]
theorem laws_FnStocks.tab25 : rtab .any (opsOf Try.f7 25) = laws_FnStocks.T25 := by kernel_rfl
theorem laws_FnStocks.bits25 : waitsOk laws_FnStocks.T25.2 laws_FnStocks.B25 = true := by kernel_rfl
set_option maxHeartbeats 8000000 in
set_option maxRecDepth 100000 in
theorem laws_FnStocks.calls (k : Nat) (A0 : Option Addr) (c0 : Nat) (l0 : List Int) (r : Bool) (w : World) (hr0 : Kd.C (Kd.int .u8) w A0 l0.length l0) (hc0 : l0.length ≤ c0) (h : laws_FnStocks.f k l0 = some r) :
  Calls Try.prog 7 #[.slice A0 l0.length c0] w fun e w' => e = .returned (.bool r) ∧ Below w.heap.size w w' := by
 have hu54 := Try.underlying54
 have hu56 := Try.underlying56
 have HR0 := Aside0.mk hr0
 have HC0 := Aside0.mk hc0
 clear hr0 hc0
 have HB := Aside0.mk (Below.refl w.heap.size w)
 have H : ((laws_big.f l0).bind fun t618 => (if t618 = true then (some true) else ((spec_DrawStock.f k l0).bind fun t619 => ((spec_DrawDough.f k l0).bind fun bt623 => ((impl_MostFlour.f k t619 bt623.1 bt623.2.1 bt623.2.2).bind fun t627 => ((impl_TakeFor.f k t619 bt623.1 bt623.2.1 bt623.2.2 t627).bind fun bt628 => ((impl_TakeFor.f k t619 bt623.1 bt623.2.1 bt623.2.2 (wrap64 (t627 + 1))).bind fun bt633 => (if t627 < 0 then (laws_FnStocks.j0 k l0 t627 true t619 bt623.1 bt623.2.1 bt623.2.2 bt628.1) else (if bt628.2 = true then (if bt633.2 = true then (laws_FnStocks.j0 k l0 t627 true t619 bt623.1 bt623.2.1 bt623.2.2 bt628.1) else ((impl_StoreOk.f bt628.1).bind fun t638 => (if t638 = true then ((impl_FirstMissing.f k t619 bt623.1 bt623.2.1 bt623.2.2 t627).bind fun t639 => (if t639 = (-1) then ((impl_FirstMissing.f k t619 bt623.1 bt623.2.1 bt623.2.2 (wrap64 (t627 + 1))).bind fun t640 => (if t640 < 0 then (laws_FnStocks.j0 k l0 t627 true t619 bt623.1 bt623.2.1 bt623.2.2 bt628.1) else (laws_FnStocks.j0 k l0 t627 ((bt628.1.length : Int) != 4) t619 bt623.1 bt623.2.1 bt623.2.2 bt628.1))) else (laws_FnStocks.j0 k l0 t627 true t619 bt623.1 bt623.2.1 bt623.2.2 bt628.1))) else (laws_FnStocks.j0 k l0 t627 true t619 bt623.1 bt623.2.1 bt623.2.2 bt628.1)))) else (laws_FnStocks.j0 k l0 t627 true t619 bt623.1 bt623.2.1 bt623.2.2 bt628.1)))))))))) = some r := h
 clear h
 replace H := Option.bind_eq_some_iff.mp H
 obtain ⟨t618, A20, H⟩ := H
 replace H : (if t618 = true then (some true) else ((spec_DrawStock.f k l0).bind fun t619 => ((spec_DrawDough.f k l0).bind fun bt623 => ((impl_MostFlour.f k t619 bt623.1 bt623.2.1 bt623.2.2).bind fun t627 => ((impl_TakeFor.f k t619 bt623.1 bt623.2.1 bt623.2.2 t627).bind fun bt628 => ((impl_TakeFor.f k t619 bt623.1 bt623.2.1 bt623.2.2 (wrap64 (t627 + 1))).bind fun bt633 => (if t627 < 0 then (laws_FnStocks.j0 k l0 t627 true t619 bt623.1 bt623.2.1 bt623.2.2 bt628.1) else (if bt628.2 = true then (if bt633.2 = true then (laws_FnStocks.j0 k l0 t627 true t619 bt623.1 bt623.2.1 bt623.2.2 bt628.1) else ((impl_StoreOk.f bt628.1).bind fun t638 => (if t638 = true then ((impl_FirstMissing.f k t619 bt623.1 bt623.2.1 bt623.2.2 t627).bind fun t639 => (if t639 = (-1) then ((impl_FirstMissing.f k t619 bt623.1 bt623.2.1 bt623.2.2 (wrap64 (t627 + 1))).bind fun t640 => (if t640 < 0 then (laws_FnStocks.j0 k l0 t627 true t619 bt623.1 bt623.2.1 bt623.2.2 bt628.1) else (laws_FnStocks.j0 k l0 t627 ((bt628.1.length : Int) != 4) t619 bt623.1 bt623.2.1 bt623.2.2 bt628.1))) else (laws_FnStocks.j0 k l0 t627 true t619 bt623.1 bt623.2.1 bt623.2.2 bt628.1))) else (laws_FnStocks.j0 k l0 t627 true t619 bt623.1 bt623.2.1 bt623.2.2 bt628.1)))) else (laws_FnStocks.j0 k l0 t627 true t619 bt623.1 bt623.2.1 bt623.2.2 bt628.1))))))))) = some r := H
 have A2 := Aside0.mk A20
 clear A20
 have HF3 := Aside0.mk H
 clear H
 go_enter Try.func7, Try.ntmps7
 go_upto_if 24 with (first | ((with_reducible refine gate_callee (f := 15) rfl ?_); refine gLq (some 24) Try.func15 #[.slice A0 l0.length c0] ?_; (with_reducible refine (laws_big.calls _ _ l0 t618 _ ?side1 ?side2 A2.out).mono ?_); (case side1 => exact Kd.Cq HR0.out); (case side2 => exact HC0.out); rintro e w' ⟨rfl, ⟨nd, rfl⟩⟩; refine ⟨_, rfl, ?_⟩))
 have H := HF3.out
 clear HF3
 by_cases c4 : t618 = true
 ·
  subst c4
  have H1 : (some true) = some r := by rw [if_pos rfl] at H; exact H
  clear H
  have H := H1
  clear H1
  obtain rfl := Option.some.inj H
  go_wp2
  go_ret
  exact ⟨by first | rfl | (simp [errW_none, errW_some] <;> rfl) | (simp [*, errW_none, errW_some] <;> rfl), blq HB.out⟩
 ·
  replace c4 := Bool.eq_false_iff.mpr c4
  subst c4
  have H1 : ((spec_DrawStock.f k l0).bind fun t619 => ((spec_DrawDough.f k l0).bind fun bt623 => ((impl_MostFlour.f k t619 bt623.1 bt623.2.1 bt623.2.2).bind fun t627 => ((impl_TakeFor.f k t619 bt623.1 bt623.2.1 bt623.2.2 t627).bind fun bt628 => ((impl_TakeFor.f k t619 bt623.1 bt623.2.1 bt623.2.2 (wrap64 (t627 + 1))).bind fun bt633 => (if t627 < 0 then (laws_FnStocks.j0 k l0 t627 true t619 bt623.1 bt623.2.1 bt623.2.2 bt628.1) else (if bt628.2 = true then (if bt633.2 = true then (laws_FnStocks.j0 k l0 t627 true t619 bt623.1 bt623.2.1 bt623.2.2 bt628.1) else ((impl_StoreOk.f bt628.1).bind fun t638 => (if t638 = true then ((impl_FirstMissing.f k t619 bt623.1 bt623.2.1 bt623.2.2 t627).bind fun t639 => (if t639 = (-1) then ((impl_FirstMissing.f k t619 bt623.1 bt623.2.1 bt623.2.2 (wrap64 (t627 + 1))).bind fun t640 => (if t640 < 0 then (laws_FnStocks.j0 k l0 t627 true t619 bt623.1 bt623.2.1 bt623.2.2 bt628.1) else (laws_FnStocks.j0 k l0 t627 ((bt628.1.length : Int) != 4) t619 bt623.1 bt623.2.1 bt623.2.2 bt628.1))) else (laws_FnStocks.j0 k l0 t627 true t619 bt623.1 bt623.2.1 bt623.2.2 bt628.1))) else (laws_FnStocks.j0 k l0 t627 true t619 bt623.1 bt623.2.1 bt623.2.2 bt628.1)))) else (laws_FnStocks.j0 k l0 t627 true t619 bt623.1 bt623.2.1 bt623.2.2 bt628.1)))))))) = some r := by rw [if_neg (show ¬ (false = true) by decide)] at H; exact H
  clear H
  have H := H1
  clear H1
  replace H := Option.bind_eq_some_iff.mp H
  obtain ⟨t619, A50, H⟩ := H
  replace H : ((spec_DrawDough.f k l0).bind fun bt623 => ((impl_MostFlour.f k t619 bt623.1 bt623.2.1 bt623.2.2).bind fun t627 => ((impl_TakeFor.f k t619 bt623.1 bt623.2.1 bt623.2.2 t627).bind fun bt628 => ((impl_TakeFor.f k t619 bt623.1 bt623.2.1 bt623.2.2 (wrap64 (t627 + 1))).bind fun bt633 => (if t627 < 0 then (laws_FnStocks.j0 k l0 t627 true t619 bt623.1 bt623.2.1 bt623.2.2 bt628.1) else (if bt628.2 = true then (if bt633.2 = true then (laws_FnStocks.j0 k l0 t627 true t619 bt623.1 bt623.2.1 bt623.2.2 bt628.1) else ((impl_StoreOk.f bt628.1).bind fun t638 => (if t638 = true then ((impl_FirstMissing.f k t619 bt623.1 bt623.2.1 bt623.2.2 t627).bind fun t639 => (if t639 = (-1) then ((impl_FirstMissing.f k t619 bt623.1 bt623.2.1 bt623.2.2 (wrap64 (t627 + 1))).bind fun t640 => (if t640 < 0 then (laws_FnStocks.j0 k l0 t627 true t619 bt623.1 bt623.2.1 bt623.2.2 bt628.1) else (laws_FnStocks.j0 k l0 t627 ((bt628.1.length : Int) != 4) t619 bt623.1 bt623.2.1 bt623.2.2 bt628.1))) else (laws_FnStocks.j0 k l0 t627 true t619 bt623.1 bt623.2.1 bt623.2.2 bt628.1))) else (laws_FnStocks.j0 k l0 t627 true t619 bt623.1 bt623.2.1 bt623.2.2 bt628.1)))) else (laws_FnStocks.j0 k l0 t627 true t619 bt623.1 bt623.2.1 bt623.2.2 bt628.1))))))) = some r := H
  have A5 := Aside0.mk A50
  clear A50
  replace H := Option.bind_eq_some_iff.mp H
  obtain ⟨⟨t623, t624, t625⟩, A60, H⟩ := H
  replace H : ((impl_MostFlour.f k t619 t623 t624 t625).bind fun t627 => ((impl_TakeFor.f k t619 t623 t624 t625 t627).bind fun bt628 => ((impl_TakeFor.f k t619 t623 t624 t625 (wrap64 (t627 + 1))).bind fun bt633 => (if t627 < 0 then (laws_FnStocks.j0 k l0 t627 true t619 t623 t624 t625 bt628.1) else (if bt628.2 = true then (if bt633.2 = true then (laws_FnStocks.j0 k l0 t627 true t619 t623 t624 t625 bt628.1) else ((impl_StoreOk.f bt628.1).bind fun t638 => (if t638 = true then ((impl_FirstMissing.f k t619 t623 t624 t625 t627).bind fun t639 => (if t639 = (-1) then ((impl_FirstMissing.f k t619 t623 t624 t625 (wrap64 (t627 + 1))).bind fun t640 => (if t640 < 0 then (laws_FnStocks.j0 k l0 t627 true t619 t623 t624 t625 bt628.1) else (laws_FnStocks.j0 k l0 t627 ((bt628.1.length : Int) != 4) t619 t623 t624 t625 bt628.1))) else (laws_FnStocks.j0 k l0 t627 true t619 t623 t624 t625 bt628.1))) else (laws_FnStocks.j0 k l0 t627 true t619 t623 t624 t625 bt628.1)))) else (laws_FnStocks.j0 k l0 t627 true t619 t623 t624 t625 bt628.1)))))) = some r := H
  have A6 := Aside0.mk A60
  clear A60
  replace H := Option.bind_eq_some_iff.mp H
  obtain ⟨t627, A70, H⟩ := H
  replace H : ((impl_TakeFor.f k t619 t623 t624 t625 t627).bind fun bt628 => ((impl_TakeFor.f k t619 t623 t624 t625 (wrap64 (t627 + 1))).bind fun bt633 => (if t627 < 0 then (laws_FnStocks.j0 k l0 t627 true t619 t623 t624 t625 bt628.1) else (if bt628.2 = true then (if bt633.2 = true then (laws_FnStocks.j0 k l0 t627 true t619 t623 t624 t625 bt628.1) else ((impl_StoreOk.f bt628.1).bind fun t638 => (if t638 = true then ((impl_FirstMissing.f k t619 t623 t624 t625 t627).bind fun t639 => (if t639 = (-1) then ((impl_FirstMissing.f k t619 t623 t624 t625 (wrap64 (t627 + 1))).bind fun t640 => (if t640 < 0 then (laws_FnStocks.j0 k l0 t627 true t619 t623 t624 t625 bt628.1) else (laws_FnStocks.j0 k l0 t627 ((bt628.1.length : Int) != 4) t619 t623 t624 t625 bt628.1))) else (laws_FnStocks.j0 k l0 t627 true t619 t623 t624 t625 bt628.1))) else (laws_FnStocks.j0 k l0 t627 true t619 t623 t624 t625 bt628.1)))) else (laws_FnStocks.j0 k l0 t627 true t619 t623 t624 t625 bt628.1))))) = some r := H
  have A7 := Aside0.mk A70
  clear A70
  replace H := Option.bind_eq_some_iff.mp H
  obtain ⟨⟨t628, t631⟩, A80, H⟩ := H
  replace H : ((impl_TakeFor.f k t619 t623 t624 t625 (wrap64 (t627 + 1))).bind fun bt633 => (if t627 < 0 then (laws_FnStocks.j0 k l0 t627 true t619 t623 t624 t625 t628) else (if t631 = true then (if bt633.2 = true then (laws_FnStocks.j0 k l0 t627 true t619 t623 t624 t625 t628) else ((impl_StoreOk.f t628).bind fun t638 => (if t638 = true then ((impl_FirstMissing.f k t619 t623 t624 t625 t627).bind fun t639 => (if t639 = (-1) then ((impl_FirstMissing.f k t619 t623 t624 t625 (wrap64 (t627 + 1))).bind fun t640 => (if t640 < 0 then (laws_FnStocks.j0 k l0 t627 true t619 t623 t624 t625 t628) else (laws_FnStocks.j0 k l0 t627 ((t628.length : Int) != 4) t619 t623 t624 t625 t628))) else (laws_FnStocks.j0 k l0 t627 true t619 t623 t624 t625 t628))) else (laws_FnStocks.j0 k l0 t627 true t619 t623 t624 t625 t628)))) else (laws_FnStocks.j0 k l0 t627 true t619 t623 t624 t625 t628)))) = some r := H
  have A8 := Aside0.mk A80
  clear A80
  replace H := Option.bind_eq_some_iff.mp H
  obtain ⟨⟨t633, t636⟩, A90, H⟩ := H
  replace H : (if t627 < 0 then (laws_FnStocks.j0 k l0 t627 true t619 t623 t624 t625 t628) else (if t631 = true then (if t636 = true then (laws_FnStocks.j0 k l0 t627 true t619 t623 t624 t625 t628) else ((impl_StoreOk.f t628).bind fun t638 => (if t638 = true then ((impl_FirstMissing.f k t619 t623 t624 t625 t627).bind fun t639 => (if t639 = (-1) then ((impl_FirstMissing.f k t619 t623 t624 t625 (wrap64 (t627 + 1))).bind fun t640 => (if t640 < 0 then (laws_FnStocks.j0 k l0 t627 true t619 t623 t624 t625 t628) else (laws_FnStocks.j0 k l0 t627 ((t628.length : Int) != 4) t619 t623 t624 t625 t628))) else (laws_FnStocks.j0 k l0 t627 true t619 t623 t624 t625 t628))) else (laws_FnStocks.j0 k l0 t627 true t619 t623 t624 t625 t628)))) else (laws_FnStocks.j0 k l0 t627 true t619 t623 t624 t625 t628))) = some r := H
  have A9 := Aside0.mk A90
  clear A90
  have HC10 := Aside0.mk H
  clear H
  go_upto_region 8 with (first | ((with_reducible refine gate_callee (f := 41) rfl ?_); refine gLq (some 26) Try.func41 #[.slice A0 l0.length c0] ?_; (with_reducible refine (spec_DrawStock.calls k _ _ l0 t619 _ ?side1 ?side2 A5.out).mono ?_); (case side1 => exact Kd.Cq (Kd.C_below HR0.out HB.out)); (case side2 => exact HC0.out); rintro e w11 ⟨v620, rfl, ho0, hb⟩; refine ⟨_, rfl, ?_⟩; have HO621 := Aside0.mk (Kd.R_lower ho0 (below_size (blq HB.out))); replace HB := hbs HB hb; (try clear hb); (try clear hb2); (try clear hk); (try clear hi); (try clear ho0)) | ((with_reducible refine gate_dst (N := 3) rfl ?_); (try (refine gate_guard (by rfl) ?_; dsimp only)); refine box_event ?hg (N := 3) ?hd (cs := #[.slice none 0 0]) (t := 54) ?hr ?_; (case hd => rfl); (case hg => rfl); (case hr => first | (go_simp; done) | (go_simp; rfl)); intro gb622 hg w12 hbox hb; have BK622 := Aside0.mk (hbox); have GW622 := sQ hg HB; have GE622 := sQ hg HB; replace HO621 := rob HO621 hb; replace HB := hbs HB hb; clear hb hbox hg; obtain ⟨Ao13, co13, eo13⟩ := Kd.R_slice HO621.out; subst eo13; have hcz14_0 : w12.cell? ⟨gb622, 0, none⟩ = some (.slice none 0 0) := (blk_cell BK622.out 0).trans rfl; have hfz14_0 := blk_frozen BK622.out 0) | ((with_reducible refine gate_callee (f := 42) rfl ?_); refine gLq (some 28) Try.func42 #[.slice A0 l0.length c0] ?_; (with_reducible refine (spec_DrawDough.calls k _ _ l0 t623 t624 t625 _ ?side1 ?side2 A6.out).mono ?_); (case side1 => exact Kd.C_below HR0.out (blq HB.out)); (case side2 => exact HC0.out); rintro e w15 ⟨rfl, hb⟩; refine ⟨_, rfl, ?_⟩; replace HO621 := Aside0.mk (Kd.R_below (Kd.Rq (Kd.R_mono (Kd.R_far (p := ⟨gb622, 0, none⟩) (Kd.R_types HO621.out BK622.out (by decide)) (fun _ hk => hk.2) (.slice Ao13 t619.length co13)) (fun _ h_ => h_.1))) hb); replace BK622 := Aside0.mk (blk_below (g := gb622) (o := .cells #[.slice Ao13 t619.length co13] 54 (0, 0)) (by (with_reducible repeat (first | refine blk_drewN ?_ _ | refine blk_drew ?_ | refine blk_alloc ?_ _)); refine blk_put (cs := #[.slice none 0 0]) ?_ 0 _ rfl; (with_reducible repeat (first | refine blk_drewN ?_ _ | refine blk_drew ?_ | refine blk_alloc ?_ _)); exact BK622.out) hb); replace HB := hbs HB hb; (try clear hb); (try clear hb2); (try clear hk); (try clear hi)) | ((with_reducible refine gate_dst (N := 4) rfl ?_); (try (refine gate_guard (by rfl) ?_; dsimp only)); refine box_event ?hg (N := 4) ?hd (cs := #[.int .i64 0, .int .i64 0, .int .i64 0]) (t := 56) ?hr ?_; (case hd => rfl); (case hg => rfl); (case hr => first | (go_simp; done) | (go_simp; rfl)); intro gb626 hg w16 hbox hb; have BK626 := Aside0.mk (hbox); have GW626 := sQ hg HB; have GE626 := sQ hg HB; have NB622_626 := qL hg BK622; have NB626_622 := qG hg BK622; replace HO621 := rob HO621 hb; replace BK622 := bkb BK622 hb; replace HB := hbs HB hb; clear hb hbox hg; have hnb17 := NB626_622.out; have hnc17 := NB622_626.out; obtain ⟨hcz18_0, hcz18_1, hcz18_2, hfz18_0, hfz18_1, hfz18_2⟩ := bq3 BK626.out; have hcz19_0 : w16.cell? ⟨gb622, 0, none⟩ = some (.slice Ao13 t619.length co13) := (blk_cell BK622.out 0).trans rfl; have hfz19_0 := blk_frozen BK622.out 0) | ((with_reducible refine gate_callee (f := 34) rfl ?_); refine gLq (some 31) Try.func34 #[.agg #[.slice Ao13 t619.length co13], .agg #[.int .i64 t623, .int .i64 t624, .int .i64 t625]] ?_; (with_reducible refine (impl_MostFlour.calls k _ _ t619 t623 t624 t625 t627 _ ?side1 ?side2 A7.out).mono ?_); (case side1 => refine (Kd.R_reads' (e := 3) (base := w.heap.size) (ok := fun k_ => True) (n := t619.length) (c := co13) ?_).2.2; exact (Kd.Rq (Kd.R_mono (Kd.R_far (p := ⟨gb626, 2, none⟩) (Kd.R_far (p := ⟨gb626, 1, none⟩) (Kd.R_far (p := ⟨gb626, 0, none⟩) (Kd.R_types HO621.out BK626.out (by decide)) (fun _ hk => hk.2) (.int .i64 t623)) (fun _ hk => hk.2) (.int .i64 t624)) (fun _ hk => hk.2) (.int .i64 t625)) (fun _ h_ => h_.1)))); (case side2 => exact (Kd.R_reads' HO621.out).2.1); rintro e w20 ⟨rfl, hb⟩; refine ⟨_, rfl, ?_⟩; replace HO621 := Aside0.mk (Kd.R_below (Kd.Rq (Kd.R_mono (Kd.R_far (p := ⟨gb626, 2, none⟩) (Kd.R_far (p := ⟨gb626, 1, none⟩) (Kd.R_far (p := ⟨gb626, 0, none⟩) (Kd.R_types HO621.out BK626.out (by decide)) (fun _ hk => hk.2) (.int .i64 t623)) (fun _ hk => hk.2) (.int .i64 t624)) (fun _ hk => hk.2) (.int .i64 t625)) (fun _ h_ => h_.1))) hb); replace BK622 := Aside0.mk (blk_below (g := gb622) (o := .cells #[.slice Ao13 t619.length co13] 54 (0, 0)) (by (with_reducible repeat (first | refine blk_drewN ?_ _ | refine blk_drew ?_ | refine blk_alloc ?_ _)); refine blk_far ?_ NB622_626.out _; (with_reducible repeat (first | refine blk_drewN ?_ _ | refine blk_drew ?_ | refine blk_alloc ?_ _)); refine blk_far ?_ NB622_626.out _; (with_reducible repeat (first | refine blk_drewN ?_ _ | refine blk_drew ?_ | refine blk_alloc ?_ _)); refine blk_far ?_ NB622_626.out _; (with_reducible repeat (first | refine blk_drewN ?_ _ | refine blk_drew ?_ | refine blk_alloc ?_ _)); exact BK622.out) hb); replace BK626 := Aside0.mk (blk_below (g := gb626) (o := .cells #[.int .i64 t623, .int .i64 t624, .int .i64 t625] 56 (0, 0)) (by (with_reducible repeat (first | refine blk_drewN ?_ _ | refine blk_drew ?_ | refine blk_alloc ?_ _)); refine blk_put (cs := #[.int .i64 t623, .int .i64 t624, .int .i64 0]) ?_ 2 _ rfl; (with_reducible repeat (first | refine blk_drewN ?_ _ | refine blk_drew ?_ | refine blk_alloc ?_ _)); refine blk_put (cs := #[.int .i64 t623, .int .i64 0, .int .i64 0]) ?_ 1 _ rfl; (with_reducible repeat (first | refine blk_drewN ?_ _ | refine blk_drew ?_ | refine blk_alloc ?_ _)); refine blk_put (cs := #[.int .i64 0, .int .i64 0, .int .i64 0]) ?_ 0 _ rfl; (with_reducible repeat (first | refine blk_drewN ?_ _ | refine blk_drew ?_ | refine blk_alloc ?_ _)); exact BK626.out) hb); replace HB := hbs HB hb; (try clear hb); (try clear hb2); (try clear hk); (try clear hi); have hcz21_0 : w20.cell? ⟨gb622, 0, none⟩ = some (.slice Ao13 t619.length co13) := (blk_cell BK622.out 0).trans rfl; have hfz21_0 := blk_frozen BK622.out 0; obtain ⟨hcz22_0, hcz22_1, hcz22_2, hfz22_0, hfz22_1, hfz22_2⟩ := bq3 BK626.out) | ((with_reducible refine gate_callee (f := 43) rfl ?_); refine gLq (some 36) Try.func43 #[.agg #[.slice Ao13 t619.length co13], .agg #[.int .i64 t623, .int .i64 t624, .int .i64 t625], .int .i64 t627] ?_; (with_reducible refine (impl_TakeFor.calls k _ _ t619 t623 t624 t625 t627 t628 t631 _ ?side1 ?side2 A8.out).mono ?_); (case side1 => repeat (first | exact (Kd.R_reads' HO621.out).2.2 | (with_reducible refine Kd.C_alloc ?_ _) | (with_reducible refine Kd.C_drewN ?_ _) | (with_reducible refine Kd.C_drew ?_))); (case side2 => exact (Kd.R_reads' HO621.out).2.1); rintro e w23 ⟨v629, rfl, ho0, hb⟩; refine ⟨_, rfl, ?_⟩; have HO630 := Aside0.mk (Kd.R_lower (Kd.R_new' ho0 (Kd.R_lt (Kd.Rq HO621.out))) (below_size (blq HB.out))); replace HO621 := Aside0.mk (Kd.R_elder' (Kd.Rq HO621.out) (Kd.R_base ho0) hb); replace BK622 := bkb BK622 hb; replace BK626 := bkb BK626 hb; replace HB := hbs HB hb; (try clear hb); (try clear hb2); (try clear hk); (try clear hi); (try clear ho0)) | ((with_reducible refine gate_dst (N := 6) rfl ?_); (try (refine gate_guard (by rfl) ?_; dsimp only)); refine box_event ?hg (N := 6) ?hd (cs := #[.slice none 0 0]) (t := 54) ?hr ?_; (case hd => rfl); (case hg => rfl); (case hr => first | (go_simp; done) | (go_simp; rfl)); intro gb632 hg w24 hbox hb; have BK632 := Aside0.mk (hbox); have GW632 := sQ hg HB; have GE632 := sQ hg HB; have NB622_632 := qL hg BK622; have NB632_622 := qG hg BK622; have NB626_632 := qL hg BK626; have NB632_626 := qG hg BK626; replace HO621 := rob HO621 hb; replace HO630 := rob HO630 hb; replace BK622 := bkb BK622 hb; replace BK626 := bkb BK626 hb; replace HB := hbs HB hb; clear hb hbox hg; obtain ⟨Ao25, co25, eo25⟩ := Kd.R_slice HO630.out; subst eo25; have hnb26 := NB632_622.out; have hnc26 := NB622_632.out; have hnb27 := NB632_626.out; have hnc27 := NB626_632.out; have hcz28_0 : w24.cell? ⟨gb632, 0, none⟩ = some (.slice none 0 0) := (blk_cell BK632.out 0).trans rfl; have hfz28_0 := blk_frozen BK632.out 0; have hcz29_0 : w24.cell? ⟨gb622, 0, none⟩ = some (.slice Ao13 t619.length co13) := (blk_cell BK622.out 0).trans rfl; have hfz29_0 := blk_frozen BK622.out 0; obtain ⟨hcz30_0, hcz30_1, hcz30_2, hfz30_0, hfz30_1, hfz30_2⟩ := bq3 BK626.out) | ((with_reducible refine gate_callee (f := 43) rfl ?_); refine gLq (some 44) Try.func43 #[.agg #[.slice Ao13 t619.length co13], .agg #[.int .i64 t623, .int .i64 t624, .int .i64 t625], .int .i64 (wrap64 (t627 + 1))] ?_; (with_reducible refine (impl_TakeFor.calls k _ _ t619 t623 t624 t625 (wrap64 (t627 + 1)) t633 t636 _ ?side1 ?side2 A9.out).mono ?_); (case side1 => refine (Kd.R_reads' (e := 3) (base := w.heap.size) (ok := fun k_ => (True ∧ some k_ ≠ (.slice Ao25 t628.length co25 : Value).ownBlock)) (n := t619.length) (c := co13) ?_).2.2; exact (Kd.Rq (Kd.R_mono (Kd.R_far (p := ⟨gb632, 0, none⟩) (Kd.R_types HO621.out BK632.out (by decide)) (fun _ hk => hk.2) (.slice Ao25 t628.length co25)) (fun _ h_ => h_.1)))); (case side2 => exact (Kd.R_reads' HO621.out).2.1); rintro e w31 ⟨v634, rfl, ho0, hb⟩; refine ⟨_, rfl, ?_⟩; have HO635 := Aside0.mk (Kd.R_lower (Kd.R_new' (Kd.R_new' ho0 (Kd.R_lt (Kd.Rq (Kd.R_mono (Kd.R_far (p := ⟨gb632, 0, none⟩) (Kd.R_types HO621.out BK632.out (by decide)) (fun _ hk => hk.2) (.slice Ao25 t628.length co25)) (fun _ h_ => h_.1))))) (Kd.R_lt (Kd.Rq (Kd.R_mono (Kd.R_far (p := ⟨gb632, 0, none⟩) (Kd.R_types HO630.out BK632.out (by decide)) (fun _ hk => hk.2) (.slice Ao25 t628.length co25)) (fun _ h_ => h_.1))))) (below_size (blq HB.out))); replace HO621 := Aside0.mk (Kd.R_elder' (Kd.Rq (Kd.R_mono (Kd.R_far (p := ⟨gb632, 0, none⟩) (Kd.R_types HO621.out BK632.out (by decide)) (fun _ hk => hk.2) (.slice Ao25 t628.length co25)) (fun _ h_ => h_.1))) (Kd.R_base ho0) hb); replace HO630 := Aside0.mk (Kd.R_elder' (Kd.Rq (Kd.R_mono (Kd.R_far (p := ⟨gb632, 0, none⟩) (Kd.R_types HO630.out BK632.out (by decide)) (fun _ hk => hk.2) (.slice Ao25 t628.length co25)) (fun _ h_ => h_.1))) (Kd.R_base ho0) hb); replace BK622 := Aside0.mk (blk_below (g := gb622) (o := .cells #[.slice Ao13 t619.length co13] 54 (0, 0)) (by (with_reducible repeat (first | refine blk_drewN ?_ _ | refine blk_drew ?_ | refine blk_alloc ?_ _)); refine blk_far ?_ NB622_632.out _; (with_reducible repeat (first | refine blk_drewN ?_ _ | refine blk_drew ?_ | refine blk_alloc ?_ _)); exact BK622.out) hb); replace BK626 := Aside0.mk (blk_below (g := gb626) (o := .cells #[.int .i64 t623, .int .i64 t624, .int .i64 t625] 56 (0, 0)) (by (with_reducible repeat (first | refine blk_drewN ?_ _ | refine blk_drew ?_ | refine blk_alloc ?_ _)); refine blk_far ?_ NB626_632.out _; (with_reducible repeat (first | refine blk_drewN ?_ _ | refine blk_drew ?_ | refine blk_alloc ?_ _)); exact BK626.out) hb); replace BK632 := Aside0.mk (blk_below (g := gb632) (o := .cells #[.slice Ao25 t628.length co25] 54 (0, 0)) (by (with_reducible repeat (first | refine blk_drewN ?_ _ | refine blk_drew ?_ | refine blk_alloc ?_ _)); refine blk_put (cs := #[.slice none 0 0]) ?_ 0 _ rfl; (with_reducible repeat (first | refine blk_drewN ?_ _ | refine blk_drew ?_ | refine blk_alloc ?_ _)); exact BK632.out) hb); replace HB := hbs HB hb; (try clear hb); (try clear hb2); (try clear hk); (try clear hi); (try clear ho0)) | ((with_reducible refine gate_dst (N := 8) rfl ?_); (try (refine gate_guard (by rfl) ?_; dsimp only)); refine box_event ?hg (N := 8) ?hd (cs := #[.slice none 0 0]) (t := 54) ?hr ?_; (case hd => rfl); (case hg => rfl); (case hr => first | (go_simp; done) | (go_simp; rfl)); intro gb637 hg w32 hbox hb; have BK637 := Aside0.mk (hbox); have GW637 := sQ hg HB; have GE637 := sQ hg HB; have NB622_637 := qL hg BK622; have NB637_622 := qG hg BK622; have NB626_637 := qL hg BK626; have NB637_626 := qG hg BK626; have NB632_637 := qL hg BK632; have NB637_632 := qG hg BK632; replace HO621 := rob HO621 hb; replace HO630 := rob HO630 hb; replace HO635 := rob HO635 hb; replace BK622 := bkb BK622 hb; replace BK626 := bkb BK626 hb; replace BK632 := bkb BK632 hb; replace HB := hbs HB hb; clear hb hbox hg; obtain ⟨Ao33, co33, eo33⟩ := Kd.R_slice HO635.out; subst eo33; have hnb34 := NB637_622.out; have hnc34 := NB622_637.out; have hnb35 := NB637_626.out; have hnc35 := NB626_637.out; have hnb36 := NB637_632.out; have hnc36 := NB632_637.out; have hcz37_0 : w32.cell? ⟨gb637, 0, none⟩ = some (.slice none 0 0) := (blk_cell BK637.out 0).trans rfl; have hfz37_0 := blk_frozen BK637.out 0))
  (try simp only [Act.put, List.setIfInBounds_toArray, List.set_cons_zero, List.set_cons_succ])
  go_cut [81] (fun v81 wc => ∃ (kq : Nat) (x81_9 : Bool), v81 = .bool x81_9 ∧ Aside0 (laws_FnStocks.j0 kq l0 t627 x81_9 t619 t623 t624 t625 t628 = some r) ∧ Aside0 (kq ≤ k) ∧ Aside0 (Kd.R (Kd.int .i64) 3 wc w.heap.size (fun k_ => some k_ ≠ ((.slice Ao25 t628.length co25) : Value).ownBlock ∧ some k_ ≠ ((.slice Ao33 t633.length co33) : Value).ownBlock) (.slice Ao13 t619.length co13) t619) ∧ Aside0 (Kd.R (Kd.int .i64) 3 wc w.heap.size (fun k_ => some k_ ≠ ((.slice Ao13 t619.length co13) : Value).ownBlock ∧ some k_ ≠ ((.slice Ao33 t633.length co33) : Value).ownBlock) (.slice Ao25 t628.length co25) t628) ∧ Aside0 (Kd.R (Kd.int .i64) 3 wc w.heap.size (fun k_ => some k_ ≠ ((.slice Ao13 t619.length co13) : Value).ownBlock ∧ some k_ ≠ ((.slice Ao25 t628.length co25) : Value).ownBlock) (.slice Ao33 t633.length co33) t633) ∧ Aside0 (wc.heap[gb622]? = some (.cells #[(.slice Ao13 t619.length co13)] 54 (0, 0))) ∧ Aside0 (wc.heap[gb626]? = some (.cells #[.int .i64 t623, .int .i64 t624, .int .i64 t625] 56 (0, 0))) ∧ Aside0 (wc.heap[gb632]? = some (.cells #[(.slice Ao25 t628.length co25)] 54 (0, 0))) ∧ Aside0 (wc.heap[gb637]? = some (.cells #[(.slice Ao33 t633.length co33)] 54 (0, 0))) ∧ Aside0 (Below w.heap.size w wc))
  case first =>
   have H := HC10.out
   clear HC10
   by_cases c38 : t627 < 0
   ·
    rw [if_pos c38] at H
    have c38b0 : decide (t627 < 0) = true := decide_eq_true c38
    clear c38
    (first | rw [c38b0] | (simp only [i64_w, i32_w]; rw [c38b0]) | skip)
    have H' := Aside0.mk H
    clear H
    go_wp2
    go_meet
    case rel => exact ⟨_, (true), (by first | rfl | (simp; done) | (simp [*]; done)), H', ⟨by first | omega | exact Nat.le_refl _⟩, ⟨Kd.Rq (Kd.R_mono (Kd.R_far (p := ⟨gb637, 0, none⟩) (Kd.R_types HO621.out BK637.out (by decide)) (fun _ hk => hk.2) (.slice Ao33 t633.length co33)) (fun _ hk => (by (repeat' refine And.intro ?_ ?_) <;> first | exact hk.1.1.1 | exact hk.1.1 | exact hk.1.1.2.1 | exact hk.1.1.2 | exact hk.1.1.2.2.1 | exact hk.1.1.2.2 | exact hk.1.1.2.2.2.1 | exact hk.1.1.2.2.2 | exact hk.1.1.2.2.2.2.1 | exact hk.1.1.2.2.2.2 | exact hk.1.1.2.2.2.2.2.1 | exact hk.1.1.2.2.2.2.2 | exact hk.1.1.1.1 | exact hk.1.1.1 | exact hk.1.1.1.2.1 | exact hk.1.1.1.2 | exact hk.1.1.1.2.2.1 | exact hk.1.1.1.2.2 | exact hk.1.1.1.2.2.2.1 | exact hk.1.1.1.2.2.2 | exact hk.1.1.1.2.2.2.2.1 | exact hk.1.1.1.2.2.2.2 | exact hk.1.1.1.2.2.2.2.2.1 | exact hk.1.1.1.2.2.2.2.2 | exact hk.1.1 | exact hk.1 | exact hk.1.2.1 | exact hk.1.2 | exact hk.1.2.2.1 | exact hk.1.2.2 | exact hk.1.2.2.2.1 | exact hk.1.2.2.2 | exact hk.1.2.2.2.2.1 | exact hk.1.2.2.2.2 | exact hk.1.2.2.2.2.2.1 | exact hk.1.2.2.2.2.2 | exact hk.1 | exact hk | exact hk.2.1 | exact hk.2 | exact hk.2.2.1 | exact hk.2.2 | exact hk.2.2.2.1 | exact hk.2.2.2 | exact hk.2.2.2.2.1 | exact hk.2.2.2.2 | exact hk.2.2.2.2.2.1 | exact hk.2.2.2.2.2)))⟩, ⟨Kd.Rq (Kd.R_mono (Kd.R_far (p := ⟨gb637, 0, none⟩) (Kd.R_types HO630.out BK637.out (by decide)) (fun _ hk => hk.2) (.slice Ao33 t633.length co33)) (fun _ hk => (by (repeat' refine And.intro ?_ ?_) <;> first | exact hk.1.1.1 | exact hk.1.1 | exact hk.1.1.2.1 | exact hk.1.1.2 | exact hk.1.1.2.2.1 | exact hk.1.1.2.2 | exact hk.1.1.2.2.2.1 | exact hk.1.1.2.2.2 | exact hk.1.1.2.2.2.2.1 | exact hk.1.1.2.2.2.2 | exact hk.1.1.2.2.2.2.2.1 | exact hk.1.1.2.2.2.2.2 | exact hk.1.1.1.1 | exact hk.1.1.1 | exact hk.1.1.1.2.1 | exact hk.1.1.1.2 | exact hk.1.1.1.2.2.1 | exact hk.1.1.1.2.2 | exact hk.1.1.1.2.2.2.1 | exact hk.1.1.1.2.2.2 | exact hk.1.1.1.2.2.2.2.1 | exact hk.1.1.1.2.2.2.2 | exact hk.1.1.1.2.2.2.2.2.1 | exact hk.1.1.1.2.2.2.2.2 | exact hk.1.1 | exact hk.1 | exact hk.1.2.1 | exact hk.1.2 | exact hk.1.2.2.1 | exact hk.1.2.2 | exact hk.1.2.2.2.1 | exact hk.1.2.2.2 | exact hk.1.2.2.2.2.1 | exact hk.1.2.2.2.2 | exact hk.1.2.2.2.2.2.1 | exact hk.1.2.2.2.2.2 | exact hk.1 | exact hk | exact hk.2.1 | exact hk.2 | exact hk.2.2.1 | exact hk.2.2 | exact hk.2.2.2.1 | exact hk.2.2.2 | exact hk.2.2.2.2.1 | exact hk.2.2.2.2 | exact hk.2.2.2.2.2.1 | exact hk.2.2.2.2.2)))⟩, ⟨Kd.Rq (Kd.R_mono (Kd.R_far (p := ⟨gb637, 0, none⟩) (Kd.R_types HO635.out BK637.out (by decide)) (fun _ hk => hk.2) (.slice Ao33 t633.length co33)) (fun _ hk => (by (repeat' refine And.intro ?_ ?_) <;> first | exact hk.1.1.1 | exact hk.1.1 | exact hk.1.1.2.1 | exact hk.1.1.2 | exact hk.1.1.2.2.1 | exact hk.1.1.2.2 | exact hk.1.1.2.2.2.1 | exact hk.1.1.2.2.2 | exact hk.1.1.2.2.2.2.1 | exact hk.1.1.2.2.2.2 | exact hk.1.1.2.2.2.2.2.1 | exact hk.1.1.2.2.2.2.2 | exact hk.1.1.1.1 | exact hk.1.1.1 | exact hk.1.1.1.2.1 | exact hk.1.1.1.2 | exact hk.1.1.1.2.2.1 | exact hk.1.1.1.2.2 | exact hk.1.1.1.2.2.2.1 | exact hk.1.1.1.2.2.2 | exact hk.1.1.1.2.2.2.2.1 | exact hk.1.1.1.2.2.2.2 | exact hk.1.1.1.2.2.2.2.2.1 | exact hk.1.1.1.2.2.2.2.2 | exact hk.1.1 | exact hk.1 | exact hk.1.2.1 | exact hk.1.2 | exact hk.1.2.2.1 | exact hk.1.2.2 | exact hk.1.2.2.2.1 | exact hk.1.2.2.2 | exact hk.1.2.2.2.2.1 | exact hk.1.2.2.2.2 | exact hk.1.2.2.2.2.2.1 | exact hk.1.2.2.2.2.2 | exact hk.1 | exact hk | exact hk.2.1 | exact hk.2 | exact hk.2.2.1 | exact hk.2.2 | exact hk.2.2.2.1 | exact hk.2.2.2 | exact hk.2.2.2.2.1 | exact hk.2.2.2.2 | exact hk.2.2.2.2.2.1 | exact hk.2.2.2.2.2)))⟩, ⟨by (with_reducible repeat (first | refine blk_drewN ?_ _ | refine blk_drew ?_ | refine blk_alloc ?_ _)); refine blk_far ?_ NB622_637.out _; (with_reducible repeat (first | refine blk_drewN ?_ _ | refine blk_drew ?_ | refine blk_alloc ?_ _)); exact BK622.out⟩, ⟨by (with_reducible repeat (first | refine blk_drewN ?_ _ | refine blk_drew ?_ | refine blk_alloc ?_ _)); refine blk_far ?_ NB626_637.out _; (with_reducible repeat (first | refine blk_drewN ?_ _ | refine blk_drew ?_ | refine blk_alloc ?_ _)); exact BK626.out⟩, ⟨by (with_reducible repeat (first | refine blk_drewN ?_ _ | refine blk_drew ?_ | refine blk_alloc ?_ _)); refine blk_far ?_ NB632_637.out _; (with_reducible repeat (first | refine blk_drewN ?_ _ | refine blk_drew ?_ | refine blk_alloc ?_ _)); exact BK632.out⟩, ⟨by (with_reducible repeat (first | refine blk_drewN ?_ _ | refine blk_drew ?_ | refine blk_alloc ?_ _)); refine blk_put (cs := #[.slice none 0 0]) ?_ 0 _ rfl; (with_reducible repeat (first | refine blk_drewN ?_ _ | refine blk_drew ?_ | refine blk_alloc ?_ _)); exact BK637.out⟩, ⟨blq HB.out⟩⟩
   ·
    rw [if_neg c38] at H
    have c38b0 : decide (t627 < 0) = false := decide_eq_false c38
    clear c38
    (first | rw [c38b0] | (simp only [i64_w, i32_w]; rw [c38b0]) | skip)
    by_cases c39 : t631 = true
    ·
     subst c39
     have H1 : (if t636 = true then (laws_FnStocks.j0 k l0 t627 true t619 t623 t624 t625 t628) else ((impl_StoreOk.f t628).bind fun t638 => (if t638 = true then ((impl_FirstMissing.f k t619 t623 t624 t625 t627).bind fun t639 => (if t639 = (-1) then ((impl_FirstMissing.f k t619 t623 t624 t625 (wrap64 (t627 + 1))).bind fun t640 => (if t640 < 0 then (laws_FnStocks.j0 k l0 t627 true t619 t623 t624 t625 t628) else (laws_FnStocks.j0 k l0 t627 ((t628.length : Int) != 4) t619 t623 t624 t625 t628))) else (laws_FnStocks.j0 k l0 t627 true t619 t623 t624 t625 t628))) else (laws_FnStocks.j0 k l0 t627 true t619 t623 t624 t625 t628)))) = some r := by rw [if_pos rfl] at H; exact H
     clear H
     have H := H1
     clear H1
     by_cases c40 : t636 = true
     ·
      subst c40
      have H1 : (laws_FnStocks.j0 k l0 t627 true t619 t623 t624 t625 t628) = some r := by rw [if_pos rfl] at H; exact H
      clear H
      have H := H1
      clear H1
      have H' := Aside0.mk H
      clear H
      go_wp2
      go_meet
      case rel => exact ⟨_, (true), (by first | rfl | (simp; done) | (simp [*]; done)), H', ⟨by first | omega | exact Nat.le_refl _⟩, ⟨Kd.Rq (Kd.R_mono (Kd.R_far (p := ⟨gb637, 0, none⟩) (Kd.R_types HO621.out BK637.out (by decide)) (fun _ hk => hk.2) (.slice Ao33 t633.length co33)) (fun _ hk => (by (repeat' refine And.intro ?_ ?_) <;> first | exact hk.1.1.1 | exact hk.1.1 | exact hk.1.1.2.1 | exact hk.1.1.2 | exact hk.1.1.2.2.1 | exact hk.1.1.2.2 | exact hk.1.1.2.2.2.1 | exact hk.1.1.2.2.2 | exact hk.1.1.2.2.2.2.1 | exact hk.1.1.2.2.2.2 | exact hk.1.1.2.2.2.2.2.1 | exact hk.1.1.2.2.2.2.2 | exact hk.1.1.1.1 | exact hk.1.1.1 | exact hk.1.1.1.2.1 | exact hk.1.1.1.2 | exact hk.1.1.1.2.2.1 | exact hk.1.1.1.2.2 | exact hk.1.1.1.2.2.2.1 | exact hk.1.1.1.2.2.2 | exact hk.1.1.1.2.2.2.2.1 | exact hk.1.1.1.2.2.2.2 | exact hk.1.1.1.2.2.2.2.2.1 | exact hk.1.1.1.2.2.2.2.2 | exact hk.1.1 | exact hk.1 | exact hk.1.2.1 | exact hk.1.2 | exact hk.1.2.2.1 | exact hk.1.2.2 | exact hk.1.2.2.2.1 | exact hk.1.2.2.2 | exact hk.1.2.2.2.2.1 | exact hk.1.2.2.2.2 | exact hk.1.2.2.2.2.2.1 | exact hk.1.2.2.2.2.2 | exact hk.1 | exact hk | exact hk.2.1 | exact hk.2 | exact hk.2.2.1 | exact hk.2.2 | exact hk.2.2.2.1 | exact hk.2.2.2 | exact hk.2.2.2.2.1 | exact hk.2.2.2.2 | exact hk.2.2.2.2.2.1 | exact hk.2.2.2.2.2)))⟩, ⟨Kd.Rq (Kd.R_mono (Kd.R_far (p := ⟨gb637, 0, none⟩) (Kd.R_types HO630.out BK637.out (by decide)) (fun _ hk => hk.2) (.slice Ao33 t633.length co33)) (fun _ hk => (by (repeat' refine And.intro ?_ ?_) <;> first | exact hk.1.1.1 | exact hk.1.1 | exact hk.1.1.2.1 | exact hk.1.1.2 | exact hk.1.1.2.2.1 | exact hk.1.1.2.2 | exact hk.1.1.2.2.2.1 | exact hk.1.1.2.2.2 | exact hk.1.1.2.2.2.2.1 | exact hk.1.1.2.2.2.2 | exact hk.1.1.2.2.2.2.2.1 | exact hk.1.1.2.2.2.2.2 | exact hk.1.1.1.1 | exact hk.1.1.1 | exact hk.1.1.1.2.1 | exact hk.1.1.1.2 | exact hk.1.1.1.2.2.1 | exact hk.1.1.1.2.2 | exact hk.1.1.1.2.2.2.1 | exact hk.1.1.1.2.2.2 | exact hk.1.1.1.2.2.2.2.1 | exact hk.1.1.1.2.2.2.2 | exact hk.1.1.1.2.2.2.2.2.1 | exact hk.1.1.1.2.2.2.2.2 | exact hk.1.1 | exact hk.1 | exact hk.1.2.1 | exact hk.1.2 | exact hk.1.2.2.1 | exact hk.1.2.2 | exact hk.1.2.2.2.1 | exact hk.1.2.2.2 | exact hk.1.2.2.2.2.1 | exact hk.1.2.2.2.2 | exact hk.1.2.2.2.2.2.1 | exact hk.1.2.2.2.2.2 | exact hk.1 | exact hk | exact hk.2.1 | exact hk.2 | exact hk.2.2.1 | exact hk.2.2 | exact hk.2.2.2.1 | exact hk.2.2.2 | exact hk.2.2.2.2.1 | exact hk.2.2.2.2 | exact hk.2.2.2.2.2.1 | exact hk.2.2.2.2.2)))⟩, ⟨Kd.Rq (Kd.R_mono (Kd.R_far (p := ⟨gb637, 0, none⟩) (Kd.R_types HO635.out BK637.out (by decide)) (fun _ hk => hk.2) (.slice Ao33 t633.length co33)) (fun _ hk => (by (repeat' refine And.intro ?_ ?_) <;> first | exact hk.1.1.1 | exact hk.1.1 | exact hk.1.1.2.1 | exact hk.1.1.2 | exact hk.1.1.2.2.1 | exact hk.1.1.2.2 | exact hk.1.1.2.2.2.1 | exact hk.1.1.2.2.2 | exact hk.1.1.2.2.2.2.1 | exact hk.1.1.2.2.2.2 | exact hk.1.1.2.2.2.2.2.1 | exact hk.1.1.2.2.2.2.2 | exact hk.1.1.1.1 | exact hk.1.1.1 | exact hk.1.1.1.2.1 | exact hk.1.1.1.2 | exact hk.1.1.1.2.2.1 | exact hk.1.1.1.2.2 | exact hk.1.1.1.2.2.2.1 | exact hk.1.1.1.2.2.2 | exact hk.1.1.1.2.2.2.2.1 | exact hk.1.1.1.2.2.2.2 | exact hk.1.1.1.2.2.2.2.2.1 | exact hk.1.1.1.2.2.2.2.2 | exact hk.1.1 | exact hk.1 | exact hk.1.2.1 | exact hk.1.2 | exact hk.1.2.2.1 | exact hk.1.2.2 | exact hk.1.2.2.2.1 | exact hk.1.2.2.2 | exact hk.1.2.2.2.2.1 | exact hk.1.2.2.2.2 | exact hk.1.2.2.2.2.2.1 | exact hk.1.2.2.2.2.2 | exact hk.1 | exact hk | exact hk.2.1 | exact hk.2 | exact hk.2.2.1 | exact hk.2.2 | exact hk.2.2.2.1 | exact hk.2.2.2 | exact hk.2.2.2.2.1 | exact hk.2.2.2.2 | exact hk.2.2.2.2.2.1 | exact hk.2.2.2.2.2)))⟩, ⟨by (with_reducible repeat (first | refine blk_drewN ?_ _ | refine blk_drew ?_ | refine blk_alloc ?_ _)); refine blk_far ?_ NB622_637.out _; (with_reducible repeat (first | refine blk_drewN ?_ _ | refine blk_drew ?_ | refine blk_alloc ?_ _)); exact BK622.out⟩, ⟨by (with_reducible repeat (first | refine blk_drewN ?_ _ | refine blk_drew ?_ | refine blk_alloc ?_ _)); refine blk_far ?_ NB626_637.out _; (with_reducible repeat (first | refine blk_drewN ?_ _ | refine blk_drew ?_ | refine blk_alloc ?_ _)); exact BK626.out⟩, ⟨by (with_reducible repeat (first | refine blk_drewN ?_ _ | refine blk_drew ?_ | refine blk_alloc ?_ _)); refine blk_far ?_ NB632_637.out _; (with_reducible repeat (first | refine blk_drewN ?_ _ | refine blk_drew ?_ | refine blk_alloc ?_ _)); exact BK632.out⟩, ⟨by (with_reducible repeat (first | refine blk_drewN ?_ _ | refine blk_drew ?_ | refine blk_alloc ?_ _)); refine blk_put (cs := #[.slice none 0 0]) ?_ 0 _ rfl; (with_reducible repeat (first | refine blk_drewN ?_ _ | refine blk_drew ?_ | refine blk_alloc ?_ _)); exact BK637.out⟩, ⟨blq HB.out⟩⟩
     ·
      replace c40 := Bool.eq_false_iff.mpr c40
      subst c40
      have H1 : ((impl_StoreOk.f t628).bind fun t638 => (if t638 = true then ((impl_FirstMissing.f k t619 t623 t624 t625 t627).bind fun t639 => (if t639 = (-1) then ((impl_FirstMissing.f k t619 t623 t624 t625 (wrap64 (t627 + 1))).bind fun t640 => (if t640 < 0 then (laws_FnStocks.j0 k l0 t627 true t619 t623 t624 t625 t628) else (laws_FnStocks.j0 k l0 t627 ((t628.length : Int) != 4) t619 t623 t624 t625 t628))) else (laws_FnStocks.j0 k l0 t627 true t619 t623 t624 t625 t628))) else (laws_FnStocks.j0 k l0 t627 true t619 t623 t624 t625 t628))) = some r := by rw [if_neg (show ¬ (false = true) by decide)] at H; exact H
      clear H
      have H := H1
      clear H1
      replace H := Option.bind_eq_some_iff.mp H
      obtain ⟨t638, A410, H⟩ := H
      replace H : (if t638 = true then ((impl_FirstMissing.f k t619 t623 t624 t625 t627).bind fun t639 => (if t639 = (-1) then ((impl_FirstMissing.f k t619 t623 t624 t625 (wrap64 (t627 + 1))).bind fun t640 => (if t640 < 0 then (laws_FnStocks.j0 k l0 t627 true t619 t623 t624 t625 t628) else (laws_FnStocks.j0 k l0 t627 ((t628.length : Int) != 4) t619 t623 t624 t625 t628))) else (laws_FnStocks.j0 k l0 t627 true t619 t623 t624 t625 t628))) else (laws_FnStocks.j0 k l0 t627 true t619 t623 t624 t625 t628)) = some r := H
      have A41 := Aside0.mk A410
      clear A410
      by_cases c42 : t638 = true
      ·
       subst c42
       have H1 : ((impl_FirstMissing.f k t619 t623 t624 t625 t627).bind fun t639 => (if t639 = (-1) then ((impl_FirstMissing.f k t619 t623 t624 t625 (wrap64 (t627 + 1))).bind fun t640 => (if t640 < 0 then (laws_FnStocks.j0 k l0 t627 true t619 t623 t624 t625 t628) else (laws_FnStocks.j0 k l0 t627 ((t628.length : Int) != 4) t619 t623 t624 t625 t628))) else (laws_FnStocks.j0 k l0 t627 true t619 t623 t624 t625 t628))) = some r := by rw [if_pos rfl] at H; exact H
       clear H
       have H := H1
       clear H1
       replace H := Option.bind_eq_some_iff.mp H
       obtain ⟨t639, A430, H⟩ := H
       replace H : (if t639 = (-1) then ((impl_FirstMissing.f k t619 t623 t624 t625 (wrap64 (t627 + 1))).bind fun t640 => (if t640 < 0 then (laws_FnStocks.j0 k l0 t627 true t619 t623 t624 t625 t628) else (laws_FnStocks.j0 k l0 t627 ((t628.length : Int) != 4) t619 t623 t624 t625 t628))) else (laws_FnStocks.j0 k l0 t627 true t619 t623 t624 t625 t628)) = some r := H
       have A43 := Aside0.mk A430
       clear A430
       by_cases c44 : t639 = (-1)
       ·
        rw [if_pos c44] at H
        have c44b0 : (t639 == (-1)) = true := beq_iff_eq.mpr c44
        have c44b1 : (t639 != (-1)) = false := bne_eq_false_iff_eq.mpr c44
        clear c44
        replace H := Option.bind_eq_some_iff.mp H
        obtain ⟨t640, A450, H⟩ := H
        replace H : (if t640 < 0 then (laws_FnStocks.j0 k l0 t627 true t619 t623 t624 t625 t628) else (laws_FnStocks.j0 k l0 t627 ((t628.length : Int) != 4) t619 t623 t624 t625 t628)) = some r := H
        have A45 := Aside0.mk A450
        clear A450
        by_cases c46 : t640 < 0
        ·
         rw [if_pos c46] at H
         have c46b0 : decide (t640 < 0) = true := decide_eq_true c46
         clear c46
         have H' := Aside0.mk H
         clear H
         have hnb47 := NB632_622.out
         have hnc47 := NB622_632.out
         have hnb48 := NB632_626.out
         have hnc48 := NB626_632.out
         have hnb49 := NB632_637.out
         have hnc49 := NB637_632.out
         have hcz50_0 : w32.cell? ⟨gb632, 0, none⟩ = some (.slice Ao25 t628.length co25) := (blk_cell BK632.out 0).trans rfl
         have hfz50_0 := blk_frozen BK632.out 0
         go_wp2_with (first | (go_at_call 44; (with_reducible refine (impl_StoreOk.calls _ _ t628 true _ ?side1 ?side2 A41.out).mono ?_); (case side1 => refine (Kd.R_reads' (e := 3) (base := w.heap.size) (ok := fun k_ => ((True ∧ some k_ ≠ (.slice Ao13 t619.length co13 : Value).ownBlock) ∧ some k_ ≠ (.slice Ao33 t633.length co33 : Value).ownBlock)) (n := t628.length) (c := co25) ?_).2.2; exact (Kd.Rq (Kd.R_mono (Kd.R_far (p := ⟨gb637, 0, none⟩) (Kd.R_types HO630.out BK637.out (by decide)) (fun _ hk => hk.2) (.slice Ao33 t633.length co33)) (fun _ h_ => h_.1)))); (case side2 => exact (Kd.R_reads' HO630.out).2.1); rintro e w51 ⟨rfl, hb⟩; replace HO621 := Aside0.mk (Kd.R_below (Kd.Rq (Kd.R_mono (Kd.R_far (p := ⟨gb637, 0, none⟩) (Kd.R_types HO621.out BK637.out (by decide)) (fun _ hk => hk.2) (.slice Ao33 t633.length co33)) (fun _ h_ => h_.1))) hb); replace HO630 := Aside0.mk (Kd.R_below (Kd.Rq (Kd.R_mono (Kd.R_far (p := ⟨gb637, 0, none⟩) (Kd.R_types HO630.out BK637.out (by decide)) (fun _ hk => hk.2) (.slice Ao33 t633.length co33)) (fun _ h_ => h_.1))) hb); replace HO635 := Aside0.mk (Kd.R_below (Kd.Rq (Kd.R_mono (Kd.R_far (p := ⟨gb637, 0, none⟩) (Kd.R_types HO635.out BK637.out (by decide)) (fun _ hk => hk.2) (.slice Ao33 t633.length co33)) (fun _ h_ => h_.1))) hb); replace BK622 := Aside0.mk (blk_below (g := gb622) (o := .cells #[.slice Ao13 t619.length co13] 54 (0, 0)) (by (with_reducible repeat (first | refine blk_drewN ?_ _ | refine blk_drew ?_ | refine blk_alloc ?_ _)); refine blk_far ?_ NB622_637.out _; (with_reducible repeat (first | refine blk_drewN ?_ _ | refine blk_drew ?_ | refine blk_alloc ?_ _)); exact BK622.out) hb); replace BK626 := Aside0.mk (blk_below (g := gb626) (o := .cells #[.int .i64 t623, .int .i64 t624, .int .i64 t625] 56 (0, 0)) (by (with_reducible repeat (first | refine blk_drewN ?_ _ | refine blk_drew ?_ | refine blk_alloc ?_ _)); refine blk_far ?_ NB626_637.out _; (with_reducible repeat (first | refine blk_drewN ?_ _ | refine blk_drew ?_ | refine blk_alloc ?_ _)); exact BK626.out) hb); replace BK632 := Aside0.mk (blk_below (g := gb632) (o := .cells #[.slice Ao25 t628.length co25] 54 (0, 0)) (by (with_reducible repeat (first | refine blk_drewN ?_ _ | refine blk_drew ?_ | refine blk_alloc ?_ _)); refine blk_far ?_ NB632_637.out _; (with_reducible repeat (first | refine blk_drewN ?_ _ | refine blk_drew ?_ | refine blk_alloc ?_ _)); exact BK632.out) hb); replace BK637 := Aside0.mk (blk_below (g := gb637) (o := .cells #[.slice Ao33 t633.length co33] 54 (0, 0)) (by (with_reducible repeat (first | refine blk_drewN ?_ _ | refine blk_drew ?_ | refine blk_alloc ?_ _)); refine blk_put (cs := #[.slice none 0 0]) ?_ 0 _ rfl; (with_reducible repeat (first | refine blk_drewN ?_ _ | refine blk_drew ?_ | refine blk_alloc ?_ _)); exact BK637.out) hb); replace HB := hbs HB hb; (try clear hb); (try clear hb2); (try clear hk); (try clear hi); have hnb52 := NB622_626.out; have hnc52 := NB626_622.out; have hnb53 := NB622_637.out; have hnc53 := NB637_622.out; have hcz54_0 : w51.cell? ⟨gb622, 0, none⟩ = some (.slice Ao13 t619.length co13) := (blk_cell BK622.out 0).trans rfl; have hfz54_0 := blk_frozen BK622.out 0; have hnb55 := NB626_637.out; have hnc55 := NB637_626.out; obtain ⟨hcz56_0, hcz56_1, hcz56_2, hfz56_0, hfz56_1, hfz56_2⟩ := bq3 BK626.out) | (go_at_call 45; (with_reducible refine (impl_FirstMissing.calls k _ _ t619 t623 t624 t625 t627 t639 _ ?side1 ?side2 A43.out).mono ?_); (case side1 => repeat (first | exact (Kd.R_reads' HO621.out).2.2 | (with_reducible refine Kd.C_alloc ?_ _) | (with_reducible refine Kd.C_drewN ?_ _) | (with_reducible refine Kd.C_drew ?_))); (case side2 => exact (Kd.R_reads' HO621.out).2.1); rintro e w57 ⟨rfl, hb⟩; replace HO621 := rob HO621 hb; replace HO630 := rob HO630 hb; replace HO635 := rob HO635 hb; replace BK622 := bkb BK622 hb; replace BK626 := bkb BK626 hb; replace BK632 := bkb BK632 hb; replace BK637 := bkb BK637 hb; replace HB := hbs HB hb; (try clear hb); (try clear hb2); (try clear hk); (try clear hi); have hcz58_0 : w57.cell? ⟨gb622, 0, none⟩ = some (.slice Ao13 t619.length co13) := (blk_cell BK622.out 0).trans rfl; have hfz58_0 := blk_frozen BK622.out 0; obtain ⟨hcz59_0, hcz59_1, hcz59_2, hfz59_0, hfz59_1, hfz59_2⟩ := bq3 BK626.out) | (go_at_call 45; (with_reducible refine (impl_FirstMissing.calls k _ _ t619 t623 t624 t625 (wrap64 (t627 + 1)) t640 _ ?side1 ?side2 A45.out).mono ?_); (case side1 => repeat (first | exact (Kd.R_reads' HO621.out).2.2 | (with_reducible refine Kd.C_alloc ?_ _) | (with_reducible refine Kd.C_drewN ?_ _) | (with_reducible refine Kd.C_drew ?_))); (case side2 => exact (Kd.R_reads' HO621.out).2.1); rintro e w60 ⟨rfl, hb⟩; replace HO621 := rob HO621 hb; replace HO630 := rob HO630 hb; replace HO635 := rob HO635 hb; replace BK622 := bkb BK622 hb; replace BK626 := bkb BK626 hb; replace BK632 := bkb BK632 hb; replace BK637 := bkb BK637 hb; replace HB := hbs HB hb; (try clear hb); (try clear hb2); (try clear hk); (try clear hi)))
         go_meet
         case rel => exact ⟨_, (true), (by first | rfl | (simp; done) | (simp [*]; done)), H', ⟨by first | omega | exact Nat.le_refl _⟩, ⟨Kd.Rq (Kd.R_mono HO621.out (fun _ hk => (by (repeat' refine And.intro ?_ ?_) <;> first | exact hk.1.1.1 | exact hk.1.1 | exact hk.1.1.2.1 | exact hk.1.1.2 | exact hk.1.1.2.2.1 | exact hk.1.1.2.2 | exact hk.1.1.2.2.2.1 | exact hk.1.1.2.2.2 | exact hk.1.1.2.2.2.2.1 | exact hk.1.1.2.2.2.2 | exact hk.1.1.2.2.2.2.2.1 | exact hk.1.1.2.2.2.2.2 | exact hk.1.1.1.1 | exact hk.1.1.1 | exact hk.1.1.1.2.1 | exact hk.1.1.1.2 | exact hk.1.1.1.2.2.1 | exact hk.1.1.1.2.2 | exact hk.1.1.1.2.2.2.1 | exact hk.1.1.1.2.2.2 | exact hk.1.1.1.2.2.2.2.1 | exact hk.1.1.1.2.2.2.2 | exact hk.1.1.1.2.2.2.2.2.1 | exact hk.1.1.1.2.2.2.2.2 | exact hk.1.1 | exact hk.1 | exact hk.1.2.1 | exact hk.1.2 | exact hk.1.2.2.1 | exact hk.1.2.2 | exact hk.1.2.2.2.1 | exact hk.1.2.2.2 | exact hk.1.2.2.2.2.1 | exact hk.1.2.2.2.2 | exact hk.1.2.2.2.2.2.1 | exact hk.1.2.2.2.2.2 | exact hk.1 | exact hk | exact hk.2.1 | exact hk.2 | exact hk.2.2.1 | exact hk.2.2 | exact hk.2.2.2.1 | exact hk.2.2.2 | exact hk.2.2.2.2.1 | exact hk.2.2.2.2 | exact hk.2.2.2.2.2.1 | exact hk.2.2.2.2.2)))⟩, ⟨Kd.Rq (Kd.R_mono HO630.out (fun _ hk => (by (repeat' refine And.intro ?_ ?_) <;> first | exact hk.1.1.1 | exact hk.1.1 | exact hk.1.1.2.1 | exact hk.1.1.2 | exact hk.1.1.2.2.1 | exact hk.1.1.2.2 | exact hk.1.1.2.2.2.1 | exact hk.1.1.2.2.2 | exact hk.1.1.2.2.2.2.1 | exact hk.1.1.2.2.2.2 | exact hk.1.1.2.2.2.2.2.1 | exact hk.1.1.2.2.2.2.2 | exact hk.1.1.1.1 | exact hk.1.1.1 | exact hk.1.1.1.2.1 | exact hk.1.1.1.2 | exact hk.1.1.1.2.2.1 | exact hk.1.1.1.2.2 | exact hk.1.1.1.2.2.2.1 | exact hk.1.1.1.2.2.2 | exact hk.1.1.1.2.2.2.2.1 | exact hk.1.1.1.2.2.2.2 | exact hk.1.1.1.2.2.2.2.2.1 | exact hk.1.1.1.2.2.2.2.2 | exact hk.1.1 | exact hk.1 | exact hk.1.2.1 | exact hk.1.2 | exact hk.1.2.2.1 | exact hk.1.2.2 | exact hk.1.2.2.2.1 | exact hk.1.2.2.2 | exact hk.1.2.2.2.2.1 | exact hk.1.2.2.2.2 | exact hk.1.2.2.2.2.2.1 | exact hk.1.2.2.2.2.2 | exact hk.1 | exact hk | exact hk.2.1 | exact hk.2 | exact hk.2.2.1 | exact hk.2.2 | exact hk.2.2.2.1 | exact hk.2.2.2 | exact hk.2.2.2.2.1 | exact hk.2.2.2.2 | exact hk.2.2.2.2.2.1 | exact hk.2.2.2.2.2)))⟩, ⟨Kd.Rq (Kd.R_mono HO635.out (fun _ hk => (by (repeat' refine And.intro ?_ ?_) <;> first | exact hk.1.1.1 | exact hk.1.1 | exact hk.1.1.2.1 | exact hk.1.1.2 | exact hk.1.1.2.2.1 | exact hk.1.1.2.2 | exact hk.1.1.2.2.2.1 | exact hk.1.1.2.2.2 | exact hk.1.1.2.2.2.2.1 | exact hk.1.1.2.2.2.2 | exact hk.1.1.2.2.2.2.2.1 | exact hk.1.1.2.2.2.2.2 | exact hk.1.1.1.1 | exact hk.1.1.1 | exact hk.1.1.1.2.1 | exact hk.1.1.1.2 | exact hk.1.1.1.2.2.1 | exact hk.1.1.1.2.2 | exact hk.1.1.1.2.2.2.1 | exact hk.1.1.1.2.2.2 | exact hk.1.1.1.2.2.2.2.1 | exact hk.1.1.1.2.2.2.2 | exact hk.1.1.1.2.2.2.2.2.1 | exact hk.1.1.1.2.2.2.2.2 | exact hk.1.1 | exact hk.1 | exact hk.1.2.1 | exact hk.1.2 | exact hk.1.2.2.1 | exact hk.1.2.2 | exact hk.1.2.2.2.1 | exact hk.1.2.2.2 | exact hk.1.2.2.2.2.1 | exact hk.1.2.2.2.2 | exact hk.1.2.2.2.2.2.1 | exact hk.1.2.2.2.2.2 | exact hk.1 | exact hk | exact hk.2.1 | exact hk.2 | exact hk.2.2.1 | exact hk.2.2 | exact hk.2.2.2.1 | exact hk.2.2.2 | exact hk.2.2.2.2.1 | exact hk.2.2.2.2 | exact hk.2.2.2.2.2.1 | exact hk.2.2.2.2.2)))⟩, ⟨bkq BK622.out⟩, ⟨bkq BK626.out⟩, ⟨bkq BK632.out⟩, ⟨bkq BK637.out⟩, ⟨blq HB.out⟩⟩
        ·
         rw [if_neg c46] at H
         have c46b0 : decide (t640 < 0) = false := decide_eq_false c46
         clear c46
         have H' := Aside0.mk H
         clear H
         have hnb61 := NB632_622.out
         have hnc61 := NB622_632.out
         have hnb62 := NB632_626.out
         have hnc62 := NB626_632.out
         have hnb63 := NB632_637.out
         have hnc63 := NB637_632.out
         have hcz64_0 : w32.cell? ⟨gb632, 0, none⟩ = some (.slice Ao25 t628.length co25) := (blk_cell BK632.out 0).trans rfl
         have hfz64_0 := blk_frozen BK632.out 0
         go_wp2_with (first | (go_at_call 44; (with_reducible refine (impl_StoreOk.calls _ _ t628 true _ ?side1 ?side2 A41.out).mono ?_); (case side1 => refine (Kd.R_reads' (e := 3) (base := w.heap.size) (ok := fun k_ => ((True ∧ some k_ ≠ (.slice Ao13 t619.length co13 : Value).ownBlock) ∧ some k_ ≠ (.slice Ao33 t633.length co33 : Value).ownBlock)) (n := t628.length) (c := co25) ?_).2.2; exact (Kd.Rq (Kd.R_mono (Kd.R_far (p := ⟨gb637, 0, none⟩) (Kd.R_types HO630.out BK637.out (by decide)) (fun _ hk => hk.2) (.slice Ao33 t633.length co33)) (fun _ h_ => h_.1)))); (case side2 => exact (Kd.R_reads' HO630.out).2.1); rintro e w65 ⟨rfl, hb⟩; replace HO621 := Aside0.mk (Kd.R_below (Kd.Rq (Kd.R_mono (Kd.R_far (p := ⟨gb637, 0, none⟩) (Kd.R_types HO621.out BK637.out (by decide)) (fun _ hk => hk.2) (.slice Ao33 t633.length co33)) (fun _ h_ => h_.1))) hb); replace HO630 := Aside0.mk (Kd.R_below (Kd.Rq (Kd.R_mono (Kd.R_far (p := ⟨gb637, 0, none⟩) (Kd.R_types HO630.out BK637.out (by decide)) (fun _ hk => hk.2) (.slice Ao33 t633.length co33)) (fun _ h_ => h_.1))) hb); replace HO635 := Aside0.mk (Kd.R_below (Kd.Rq (Kd.R_mono (Kd.R_far (p := ⟨gb637, 0, none⟩) (Kd.R_types HO635.out BK637.out (by decide)) (fun _ hk => hk.2) (.slice Ao33 t633.length co33)) (fun _ h_ => h_.1))) hb); replace BK622 := Aside0.mk (blk_below (g := gb622) (o := .cells #[.slice Ao13 t619.length co13] 54 (0, 0)) (by (with_reducible repeat (first | refine blk_drewN ?_ _ | refine blk_drew ?_ | refine blk_alloc ?_ _)); refine blk_far ?_ NB622_637.out _; (with_reducible repeat (first | refine blk_drewN ?_ _ | refine blk_drew ?_ | refine blk_alloc ?_ _)); exact BK622.out) hb); replace BK626 := Aside0.mk (blk_below (g := gb626) (o := .cells #[.int .i64 t623, .int .i64 t624, .int .i64 t625] 56 (0, 0)) (by (with_reducible repeat (first | refine blk_drewN ?_ _ | refine blk_drew ?_ | refine blk_alloc ?_ _)); refine blk_far ?_ NB626_637.out _; (with_reducible repeat (first | refine blk_drewN ?_ _ | refine blk_drew ?_ | refine blk_alloc ?_ _)); exact BK626.out) hb); replace BK632 := Aside0.mk (blk_below (g := gb632) (o := .cells #[.slice Ao25 t628.length co25] 54 (0, 0)) (by (with_reducible repeat (first | refine blk_drewN ?_ _ | refine blk_drew ?_ | refine blk_alloc ?_ _)); refine blk_far ?_ NB632_637.out _; (with_reducible repeat (first | refine blk_drewN ?_ _ | refine blk_drew ?_ | refine blk_alloc ?_ _)); exact BK632.out) hb); replace BK637 := Aside0.mk (blk_below (g := gb637) (o := .cells #[.slice Ao33 t633.length co33] 54 (0, 0)) (by (with_reducible repeat (first | refine blk_drewN ?_ _ | refine blk_drew ?_ | refine blk_alloc ?_ _)); refine blk_put (cs := #[.slice none 0 0]) ?_ 0 _ rfl; (with_reducible repeat (first | refine blk_drewN ?_ _ | refine blk_drew ?_ | refine blk_alloc ?_ _)); exact BK637.out) hb); replace HB := hbs HB hb; (try clear hb); (try clear hb2); (try clear hk); (try clear hi); have hnb66 := NB622_626.out; have hnc66 := NB626_622.out; have hnb67 := NB622_637.out; have hnc67 := NB637_622.out; have hcz68_0 : w65.cell? ⟨gb622, 0, none⟩ = some (.slice Ao13 t619.length co13) := (blk_cell BK622.out 0).trans rfl; have hfz68_0 := blk_frozen BK622.out 0; have hnb69 := NB626_637.out; have hnc69 := NB637_626.out; obtain ⟨hcz70_0, hcz70_1, hcz70_2, hfz70_0, hfz70_1, hfz70_2⟩ := bq3 BK626.out) | (go_at_call 45; (with_reducible refine (impl_FirstMissing.calls k _ _ t619 t623 t624 t625 t627 t639 _ ?side1 ?side2 A43.out).mono ?_); (case side1 => repeat (first | exact (Kd.R_reads' HO621.out).2.2 | (with_reducible refine Kd.C_alloc ?_ _) | (with_reducible refine Kd.C_drewN ?_ _) | (with_reducible refine Kd.C_drew ?_))); (case side2 => exact (Kd.R_reads' HO621.out).2.1); rintro e w71 ⟨rfl, hb⟩; replace HO621 := rob HO621 hb; replace HO630 := rob HO630 hb; replace HO635 := rob HO635 hb; replace BK622 := bkb BK622 hb; replace BK626 := bkb BK626 hb; replace BK632 := bkb BK632 hb; replace BK637 := bkb BK637 hb; replace HB := hbs HB hb; (try clear hb); (try clear hb2); (try clear hk); (try clear hi); have hcz72_0 : w71.cell? ⟨gb622, 0, none⟩ = some (.slice Ao13 t619.length co13) := (blk_cell BK622.out 0).trans rfl; have hfz72_0 := blk_frozen BK622.out 0; obtain ⟨hcz73_0, hcz73_1, hcz73_2, hfz73_0, hfz73_1, hfz73_2⟩ := bq3 BK626.out) | (go_at_call 45; (with_reducible refine (impl_FirstMissing.calls k _ _ t619 t623 t624 t625 (wrap64 (t627 + 1)) t640 _ ?side1 ?side2 A45.out).mono ?_); (case side1 => repeat (first | exact (Kd.R_reads' HO621.out).2.2 | (with_reducible refine Kd.C_alloc ?_ _) | (with_reducible refine Kd.C_drewN ?_ _) | (with_reducible refine Kd.C_drew ?_))); (case side2 => exact (Kd.R_reads' HO621.out).2.1); rintro e w74 ⟨rfl, hb⟩; replace HO621 := rob HO621 hb; replace HO630 := rob HO630 hb; replace HO635 := rob HO635 hb; replace BK622 := bkb BK622 hb; replace BK626 := bkb BK626 hb; replace BK632 := bkb BK632 hb; replace BK637 := bkb BK637 hb; replace HB := hbs HB hb; (try clear hb); (try clear hb2); (try clear hk); (try clear hi); have hcz75_0 : w74.cell? ⟨gb632, 0, none⟩ = some (.slice Ao25 t628.length co25) := (blk_cell BK632.out 0).trans rfl; have hfz75_0 := blk_frozen BK632.out 0))
         go_meet
         case rel => exact ⟨_, (((t628.length : Int) != 4)), (by first | rfl | (simp; done) | (simp [*]; done)), H', ⟨by first | omega | exact Nat.le_refl _⟩, ⟨Kd.Rq (Kd.R_mono HO621.out (fun _ hk => (by (repeat' refine And.intro ?_ ?_) <;> first | exact hk.1.1.1 | exact hk.1.1 | exact hk.1.1.2.1 | exact hk.1.1.2 | exact hk.1.1.2.2.1 | exact hk.1.1.2.2 | exact hk.1.1.2.2.2.1 | exact hk.1.1.2.2.2 | exact hk.1.1.2.2.2.2.1 | exact hk.1.1.2.2.2.2 | exact hk.1.1.2.2.2.2.2.1 | exact hk.1.1.2.2.2.2.2 | exact hk.1.1.1.1 | exact hk.1.1.1 | exact hk.1.1.1.2.1 | exact hk.1.1.1.2 | exact hk.1.1.1.2.2.1 | exact hk.1.1.1.2.2 | exact hk.1.1.1.2.2.2.1 | exact hk.1.1.1.2.2.2 | exact hk.1.1.1.2.2.2.2.1 | exact hk.1.1.1.2.2.2.2 | exact hk.1.1.1.2.2.2.2.2.1 | exact hk.1.1.1.2.2.2.2.2 | exact hk.1.1 | exact hk.1 | exact hk.1.2.1 | exact hk.1.2 | exact hk.1.2.2.1 | exact hk.1.2.2 | exact hk.1.2.2.2.1 | exact hk.1.2.2.2 | exact hk.1.2.2.2.2.1 | exact hk.1.2.2.2.2 | exact hk.1.2.2.2.2.2.1 | exact hk.1.2.2.2.2.2 | exact hk.1 | exact hk | exact hk.2.1 | exact hk.2 | exact hk.2.2.1 | exact hk.2.2 | exact hk.2.2.2.1 | exact hk.2.2.2 | exact hk.2.2.2.2.1 | exact hk.2.2.2.2 | exact hk.2.2.2.2.2.1 | exact hk.2.2.2.2.2)))⟩, ⟨Kd.Rq (Kd.R_mono HO630.out (fun _ hk => (by (repeat' refine And.intro ?_ ?_) <;> first | exact hk.1.1.1 | exact hk.1.1 | exact hk.1.1.2.1 | exact hk.1.1.2 | exact hk.1.1.2.2.1 | exact hk.1.1.2.2 | exact hk.1.1.2.2.2.1 | exact hk.1.1.2.2.2 | exact hk.1.1.2.2.2.2.1 | exact hk.1.1.2.2.2.2 | exact hk.1.1.2.2.2.2.2.1 | exact hk.1.1.2.2.2.2.2 | exact hk.1.1.1.1 | exact hk.1.1.1 | exact hk.1.1.1.2.1 | exact hk.1.1.1.2 | exact hk.1.1.1.2.2.1 | exact hk.1.1.1.2.2 | exact hk.1.1.1.2.2.2.1 | exact hk.1.1.1.2.2.2 | exact hk.1.1.1.2.2.2.2.1 | exact hk.1.1.1.2.2.2.2 | exact hk.1.1.1.2.2.2.2.2.1 | exact hk.1.1.1.2.2.2.2.2 | exact hk.1.1 | exact hk.1 | exact hk.1.2.1 | exact hk.1.2 | exact hk.1.2.2.1 | exact hk.1.2.2 | exact hk.1.2.2.2.1 | exact hk.1.2.2.2 | exact hk.1.2.2.2.2.1 | exact hk.1.2.2.2.2 | exact hk.1.2.2.2.2.2.1 | exact hk.1.2.2.2.2.2 | exact hk.1 | exact hk | exact hk.2.1 | exact hk.2 | exact hk.2.2.1 | exact hk.2.2 | exact hk.2.2.2.1 | exact hk.2.2.2 | exact hk.2.2.2.2.1 | exact hk.2.2.2.2 | exact hk.2.2.2.2.2.1 | exact hk.2.2.2.2.2)))⟩, ⟨Kd.Rq (Kd.R_mono HO635.out (fun _ hk => (by (repeat' refine And.intro ?_ ?_) <;> first | exact hk.1.1.1 | exact hk.1.1 | exact hk.1.1.2.1 | exact hk.1.1.2 | exact hk.1.1.2.2.1 | exact hk.1.1.2.2 | exact hk.1.1.2.2.2.1 | exact hk.1.1.2.2.2 | exact hk.1.1.2.2.2.2.1 | exact hk.1.1.2.2.2.2 | exact hk.1.1.2.2.2.2.2.1 | exact hk.1.1.2.2.2.2.2 | exact hk.1.1.1.1 | exact hk.1.1.1 | exact hk.1.1.1.2.1 | exact hk.1.1.1.2 | exact hk.1.1.1.2.2.1 | exact hk.1.1.1.2.2 | exact hk.1.1.1.2.2.2.1 | exact hk.1.1.1.2.2.2 | exact hk.1.1.1.2.2.2.2.1 | exact hk.1.1.1.2.2.2.2 | exact hk.1.1.1.2.2.2.2.2.1 | exact hk.1.1.1.2.2.2.2.2 | exact hk.1.1 | exact hk.1 | exact hk.1.2.1 | exact hk.1.2 | exact hk.1.2.2.1 | exact hk.1.2.2 | exact hk.1.2.2.2.1 | exact hk.1.2.2.2 | exact hk.1.2.2.2.2.1 | exact hk.1.2.2.2.2 | exact hk.1.2.2.2.2.2.1 | exact hk.1.2.2.2.2.2 | exact hk.1 | exact hk | exact hk.2.1 | exact hk.2 | exact hk.2.2.1 | exact hk.2.2 | exact hk.2.2.2.1 | exact hk.2.2.2 | exact hk.2.2.2.2.1 | exact hk.2.2.2.2 | exact hk.2.2.2.2.2.1 | exact hk.2.2.2.2.2)))⟩, ⟨bkq BK622.out⟩, ⟨bkq BK626.out⟩, ⟨bkq BK632.out⟩, ⟨bkq BK637.out⟩, ⟨blq HB.out⟩⟩
       ·
        rw [if_neg c44] at H
        have c44b0 : (t639 == (-1)) = false := beq_eq_false_iff_ne.mpr c44
        have c44b1 : (t639 != (-1)) = true := bne_iff_ne.mpr c44
        have H' := Aside0.mk H
        clear H
        have hnb76 := NB632_622.out
        have hnc76 := NB622_632.out
        have hnb77 := NB632_626.out
        have hnc77 := NB626_632.out
        have hnb78 := NB632_637.out
        have hnc78 := NB637_632.out
        have hcz79_0 : w32.cell? ⟨gb632, 0, none⟩ = some (.slice Ao25 t628.length co25) := (blk_cell BK632.out 0).trans rfl
        have hfz79_0 := blk_frozen BK632.out 0
        go_wp2_with (first | (go_at_call 44; (with_reducible refine (impl_StoreOk.calls _ _ t628 true _ ?side1 ?side2 A41.out).mono ?_); (case side1 => refine (Kd.R_reads' (e := 3) (base := w.heap.size) (ok := fun k_ => ((True ∧ some k_ ≠ (.slice Ao13 t619.length co13 : Value).ownBlock) ∧ some k_ ≠ (.slice Ao33 t633.length co33 : Value).ownBlock)) (n := t628.length) (c := co25) ?_).2.2; exact (Kd.Rq (Kd.R_mono (Kd.R_far (p := ⟨gb637, 0, none⟩) (Kd.R_types HO630.out BK637.out (by decide)) (fun _ hk => hk.2) (.slice Ao33 t633.length co33)) (fun _ h_ => h_.1)))); (case side2 => exact (Kd.R_reads' HO630.out).2.1); rintro e w80 ⟨rfl, hb⟩; replace HO621 := Aside0.mk (Kd.R_below (Kd.Rq (Kd.R_mono (Kd.R_far (p := ⟨gb637, 0, none⟩) (Kd.R_types HO621.out BK637.out (by decide)) (fun _ hk => hk.2) (.slice Ao33 t633.length co33)) (fun _ h_ => h_.1))) hb); replace HO630 := Aside0.mk (Kd.R_below (Kd.Rq (Kd.R_mono (Kd.R_far (p := ⟨gb637, 0, none⟩) (Kd.R_types HO630.out BK637.out (by decide)) (fun _ hk => hk.2) (.slice Ao33 t633.length co33)) (fun _ h_ => h_.1))) hb); replace HO635 := Aside0.mk (Kd.R_below (Kd.Rq (Kd.R_mono (Kd.R_far (p := ⟨gb637, 0, none⟩) (Kd.R_types HO635.out BK637.out (by decide)) (fun _ hk => hk.2) (.slice Ao33 t633.length co33)) (fun _ h_ => h_.1))) hb); replace BK622 := Aside0.mk (blk_below (g := gb622) (o := .cells #[.slice Ao13 t619.length co13] 54 (0, 0)) (by (with_reducible repeat (first | refine blk_drewN ?_ _ | refine blk_drew ?_ | refine blk_alloc ?_ _)); refine blk_far ?_ NB622_637.out _; (with_reducible repeat (first | refine blk_drewN ?_ _ | refine blk_drew ?_ | refine blk_alloc ?_ _)); exact BK622.out) hb); replace BK626 := Aside0.mk (blk_below (g := gb626) (o := .cells #[.int .i64 t623, .int .i64 t624, .int .i64 t625] 56 (0, 0)) (by (with_reducible repeat (first | refine blk_drewN ?_ _ | refine blk_drew ?_ | refine blk_alloc ?_ _)); refine blk_far ?_ NB626_637.out _; (with_reducible repeat (first | refine blk_drewN ?_ _ | refine blk_drew ?_ | refine blk_alloc ?_ _)); exact BK626.out) hb); replace BK632 := Aside0.mk (blk_below (g := gb632) (o := .cells #[.slice Ao25 t628.length co25] 54 (0, 0)) (by (with_reducible repeat (first | refine blk_drewN ?_ _ | refine blk_drew ?_ | refine blk_alloc ?_ _)); refine blk_far ?_ NB632_637.out _; (with_reducible repeat (first | refine blk_drewN ?_ _ | refine blk_drew ?_ | refine blk_alloc ?_ _)); exact BK632.out) hb); replace BK637 := Aside0.mk (blk_below (g := gb637) (o := .cells #[.slice Ao33 t633.length co33] 54 (0, 0)) (by (with_reducible repeat (first | refine blk_drewN ?_ _ | refine blk_drew ?_ | refine blk_alloc ?_ _)); refine blk_put (cs := #[.slice none 0 0]) ?_ 0 _ rfl; (with_reducible repeat (first | refine blk_drewN ?_ _ | refine blk_drew ?_ | refine blk_alloc ?_ _)); exact BK637.out) hb); replace HB := hbs HB hb; (try clear hb); (try clear hb2); (try clear hk); (try clear hi); have hnb81 := NB622_626.out; have hnc81 := NB626_622.out; have hnb82 := NB622_637.out; have hnc82 := NB637_622.out; have hcz83_0 : w80.cell? ⟨gb622, 0, none⟩ = some (.slice Ao13 t619.length co13) := (blk_cell BK622.out 0).trans rfl; have hfz83_0 := blk_frozen BK622.out 0; have hnb84 := NB626_637.out; have hnc84 := NB637_626.out; obtain ⟨hcz85_0, hcz85_1, hcz85_2, hfz85_0, hfz85_1, hfz85_2⟩ := bq3 BK626.out) | (go_at_call 45; (with_reducible refine (impl_FirstMissing.calls k _ _ t619 t623 t624 t625 t627 t639 _ ?side1 ?side2 A43.out).mono ?_); (case side1 => repeat (first | exact (Kd.R_reads' HO621.out).2.2 | (with_reducible refine Kd.C_alloc ?_ _) | (with_reducible refine Kd.C_drewN ?_ _) | (with_reducible refine Kd.C_drew ?_))); (case side2 => exact (Kd.R_reads' HO621.out).2.1); rintro e w86 ⟨rfl, hb⟩; replace HO621 := rob HO621 hb; replace HO630 := rob HO630 hb; replace HO635 := rob HO635 hb; replace BK622 := bkb BK622 hb; replace BK626 := bkb BK626 hb; replace BK632 := bkb BK632 hb; replace BK637 := bkb BK637 hb; replace HB := hbs HB hb; (try clear hb); (try clear hb2); (try clear hk); (try clear hi)))
        go_meet
        case rel => exact ⟨_, (true), (by first | rfl | (simp; done) | (simp [*]; done)), H', ⟨by first | omega | exact Nat.le_refl _⟩, ⟨Kd.Rq (Kd.R_mono HO621.out (fun _ hk => (by (repeat' refine And.intro ?_ ?_) <;> first | exact hk.1.1.1 | exact hk.1.1 | exact hk.1.1.2.1 | exact hk.1.1.2 | exact hk.1.1.2.2.1 | exact hk.1.1.2.2 | exact hk.1.1.2.2.2.1 | exact hk.1.1.2.2.2 | exact hk.1.1.2.2.2.2.1 | exact hk.1.1.2.2.2.2 | exact hk.1.1.2.2.2.2.2.1 | exact hk.1.1.2.2.2.2.2 | exact hk.1.1.1.1 | exact hk.1.1.1 | exact hk.1.1.1.2.1 | exact hk.1.1.1.2 | exact hk.1.1.1.2.2.1 | exact hk.1.1.1.2.2 | exact hk.1.1.1.2.2.2.1 | exact hk.1.1.1.2.2.2 | exact hk.1.1.1.2.2.2.2.1 | exact hk.1.1.1.2.2.2.2 | exact hk.1.1.1.2.2.2.2.2.1 | exact hk.1.1.1.2.2.2.2.2 | exact hk.1.1 | exact hk.1 | exact hk.1.2.1 | exact hk.1.2 | exact hk.1.2.2.1 | exact hk.1.2.2 | exact hk.1.2.2.2.1 | exact hk.1.2.2.2 | exact hk.1.2.2.2.2.1 | exact hk.1.2.2.2.2 | exact hk.1.2.2.2.2.2.1 | exact hk.1.2.2.2.2.2 | exact hk.1 | exact hk | exact hk.2.1 | exact hk.2 | exact hk.2.2.1 | exact hk.2.2 | exact hk.2.2.2.1 | exact hk.2.2.2 | exact hk.2.2.2.2.1 | exact hk.2.2.2.2 | exact hk.2.2.2.2.2.1 | exact hk.2.2.2.2.2)))⟩, ⟨Kd.Rq (Kd.R_mono HO630.out (fun _ hk => (by (repeat' refine And.intro ?_ ?_) <;> first | exact hk.1.1.1 | exact hk.1.1 | exact hk.1.1.2.1 | exact hk.1.1.2 | exact hk.1.1.2.2.1 | exact hk.1.1.2.2 | exact hk.1.1.2.2.2.1 | exact hk.1.1.2.2.2 | exact hk.1.1.2.2.2.2.1 | exact hk.1.1.2.2.2.2 | exact hk.1.1.2.2.2.2.2.1 | exact hk.1.1.2.2.2.2.2 | exact hk.1.1.1.1 | exact hk.1.1.1 | exact hk.1.1.1.2.1 | exact hk.1.1.1.2 | exact hk.1.1.1.2.2.1 | exact hk.1.1.1.2.2 | exact hk.1.1.1.2.2.2.1 | exact hk.1.1.1.2.2.2 | exact hk.1.1.1.2.2.2.2.1 | exact hk.1.1.1.2.2.2.2 | exact hk.1.1.1.2.2.2.2.2.1 | exact hk.1.1.1.2.2.2.2.2 | exact hk.1.1 | exact hk.1 | exact hk.1.2.1 | exact hk.1.2 | exact hk.1.2.2.1 | exact hk.1.2.2 | exact hk.1.2.2.2.1 | exact hk.1.2.2.2 | exact hk.1.2.2.2.2.1 | exact hk.1.2.2.2.2 | exact hk.1.2.2.2.2.2.1 | exact hk.1.2.2.2.2.2 | exact hk.1 | exact hk | exact hk.2.1 | exact hk.2 | exact hk.2.2.1 | exact hk.2.2 | exact hk.2.2.2.1 | exact hk.2.2.2 | exact hk.2.2.2.2.1 | exact hk.2.2.2.2 | exact hk.2.2.2.2.2.1 | exact hk.2.2.2.2.2)))⟩, ⟨Kd.Rq (Kd.R_mono HO635.out (fun _ hk => (by (repeat' refine And.intro ?_ ?_) <;> first | exact hk.1.1.1 | exact hk.1.1 | exact hk.1.1.2.1 | exact hk.1.1.2 | exact hk.1.1.2.2.1 | exact hk.1.1.2.2 | exact hk.1.1.2.2.2.1 | exact hk.1.1.2.2.2 | exact hk.1.1.2.2.2.2.1 | exact hk.1.1.2.2.2.2 | exact hk.1.1.2.2.2.2.2.1 | exact hk.1.1.2.2.2.2.2 | exact hk.1.1.1.1 | exact hk.1.1.1 | exact hk.1.1.1.2.1 | exact hk.1.1.1.2 | exact hk.1.1.1.2.2.1 | exact hk.1.1.1.2.2 | exact hk.1.1.1.2.2.2.1 | exact hk.1.1.1.2.2.2 | exact hk.1.1.1.2.2.2.2.1 | exact hk.1.1.1.2.2.2.2 | exact hk.1.1.1.2.2.2.2.2.1 | exact hk.1.1.1.2.2.2.2.2 | exact hk.1.1 | exact hk.1 | exact hk.1.2.1 | exact hk.1.2 | exact hk.1.2.2.1 | exact hk.1.2.2 | exact hk.1.2.2.2.1 | exact hk.1.2.2.2 | exact hk.1.2.2.2.2.1 | exact hk.1.2.2.2.2 | exact hk.1.2.2.2.2.2.1 | exact hk.1.2.2.2.2.2 | exact hk.1 | exact hk | exact hk.2.1 | exact hk.2 | exact hk.2.2.1 | exact hk.2.2 | exact hk.2.2.2.1 | exact hk.2.2.2 | exact hk.2.2.2.2.1 | exact hk.2.2.2.2 | exact hk.2.2.2.2.2.1 | exact hk.2.2.2.2.2)))⟩, ⟨bkq BK622.out⟩, ⟨bkq BK626.out⟩, ⟨bkq BK632.out⟩, ⟨bkq BK637.out⟩, ⟨blq HB.out⟩⟩
      ·
       replace c42 := Bool.eq_false_iff.mpr c42
       subst c42
       have H1 : (laws_FnStocks.j0 k l0 t627 true t619 t623 t624 t625 t628) = some r := by rw [if_neg (show ¬ (false = true) by decide)] at H; exact H
       clear H
       have H := H1
       clear H1
       have H' := Aside0.mk H
       clear H
       have hnb87 := NB632_622.out
       have hnc87 := NB622_632.out
       have hnb88 := NB632_626.out
       have hnc88 := NB626_632.out
       have hnb89 := NB632_637.out
       have hnc89 := NB637_632.out
       have hcz90_0 : w32.cell? ⟨gb632, 0, none⟩ = some (.slice Ao25 t628.length co25) := (blk_cell BK632.out 0).trans rfl
       have hfz90_0 := blk_frozen BK632.out 0
       go_wp2_with (first | (go_at_call 44; (with_reducible refine (impl_StoreOk.calls _ _ t628 false _ ?side1 ?side2 A41.out).mono ?_); (case side1 => refine (Kd.R_reads' (e := 3) (base := w.heap.size) (ok := fun k_ => ((True ∧ some k_ ≠ (.slice Ao13 t619.length co13 : Value).ownBlock) ∧ some k_ ≠ (.slice Ao33 t633.length co33 : Value).ownBlock)) (n := t628.length) (c := co25) ?_).2.2; exact (Kd.Rq (Kd.R_mono (Kd.R_far (p := ⟨gb637, 0, none⟩) (Kd.R_types HO630.out BK637.out (by decide)) (fun _ hk => hk.2) (.slice Ao33 t633.length co33)) (fun _ h_ => h_.1)))); (case side2 => exact (Kd.R_reads' HO630.out).2.1); rintro e w91 ⟨rfl, hb⟩; replace HO621 := Aside0.mk (Kd.R_below (Kd.Rq (Kd.R_mono (Kd.R_far (p := ⟨gb637, 0, none⟩) (Kd.R_types HO621.out BK637.out (by decide)) (fun _ hk => hk.2) (.slice Ao33 t633.length co33)) (fun _ h_ => h_.1))) hb); replace HO630 := Aside0.mk (Kd.R_below (Kd.Rq (Kd.R_mono (Kd.R_far (p := ⟨gb637, 0, none⟩) (Kd.R_types HO630.out BK637.out (by decide)) (fun _ hk => hk.2) (.slice Ao33 t633.length co33)) (fun _ h_ => h_.1))) hb); replace HO635 := Aside0.mk (Kd.R_below (Kd.Rq (Kd.R_mono (Kd.R_far (p := ⟨gb637, 0, none⟩) (Kd.R_types HO635.out BK637.out (by decide)) (fun _ hk => hk.2) (.slice Ao33 t633.length co33)) (fun _ h_ => h_.1))) hb); replace BK622 := Aside0.mk (blk_below (g := gb622) (o := .cells #[.slice Ao13 t619.length co13] 54 (0, 0)) (by (with_reducible repeat (first | refine blk_drewN ?_ _ | refine blk_drew ?_ | refine blk_alloc ?_ _)); refine blk_far ?_ NB622_637.out _; (with_reducible repeat (first | refine blk_drewN ?_ _ | refine blk_drew ?_ | refine blk_alloc ?_ _)); exact BK622.out) hb); replace BK626 := Aside0.mk (blk_below (g := gb626) (o := .cells #[.int .i64 t623, .int .i64 t624, .int .i64 t625] 56 (0, 0)) (by (with_reducible repeat (first | refine blk_drewN ?_ _ | refine blk_drew ?_ | refine blk_alloc ?_ _)); refine blk_far ?_ NB626_637.out _; (with_reducible repeat (first | refine blk_drewN ?_ _ | refine blk_drew ?_ | refine blk_alloc ?_ _)); exact BK626.out) hb); replace BK632 := Aside0.mk (blk_below (g := gb632) (o := .cells #[.slice Ao25 t628.length co25] 54 (0, 0)) (by (with_reducible repeat (first | refine blk_drewN ?_ _ | refine blk_drew ?_ | refine blk_alloc ?_ _)); refine blk_far ?_ NB632_637.out _; (with_reducible repeat (first | refine blk_drewN ?_ _ | refine blk_drew ?_ | refine blk_alloc ?_ _)); exact BK632.out) hb); replace BK637 := Aside0.mk (blk_below (g := gb637) (o := .cells #[.slice Ao33 t633.length co33] 54 (0, 0)) (by (with_reducible repeat (first | refine blk_drewN ?_ _ | refine blk_drew ?_ | refine blk_alloc ?_ _)); refine blk_put (cs := #[.slice none 0 0]) ?_ 0 _ rfl; (with_reducible repeat (first | refine blk_drewN ?_ _ | refine blk_drew ?_ | refine blk_alloc ?_ _)); exact BK637.out) hb); replace HB := hbs HB hb; (try clear hb); (try clear hb2); (try clear hk); (try clear hi)))
       go_meet
       case rel => exact ⟨_, (true), (by first | rfl | (simp; done) | (simp [*]; done)), H', ⟨by first | omega | exact Nat.le_refl _⟩, ⟨Kd.Rq (Kd.R_mono HO621.out (fun _ hk => (by (repeat' refine And.intro ?_ ?_) <;> first | exact hk.1.1.1 | exact hk.1.1 | exact hk.1.1.2.1 | exact hk.1.1.2 | exact hk.1.1.2.2.1 | exact hk.1.1.2.2 | exact hk.1.1.2.2.2.1 | exact hk.1.1.2.2.2 | exact hk.1.1.2.2.2.2.1 | exact hk.1.1.2.2.2.2 | exact hk.1.1.2.2.2.2.2.1 | exact hk.1.1.2.2.2.2.2 | exact hk.1.1.1.1 | exact hk.1.1.1 | exact hk.1.1.1.2.1 | exact hk.1.1.1.2 | exact hk.1.1.1.2.2.1 | exact hk.1.1.1.2.2 | exact hk.1.1.1.2.2.2.1 | exact hk.1.1.1.2.2.2 | exact hk.1.1.1.2.2.2.2.1 | exact hk.1.1.1.2.2.2.2 | exact hk.1.1.1.2.2.2.2.2.1 | exact hk.1.1.1.2.2.2.2.2 | exact hk.1.1 | exact hk.1 | exact hk.1.2.1 | exact hk.1.2 | exact hk.1.2.2.1 | exact hk.1.2.2 | exact hk.1.2.2.2.1 | exact hk.1.2.2.2 | exact hk.1.2.2.2.2.1 | exact hk.1.2.2.2.2 | exact hk.1.2.2.2.2.2.1 | exact hk.1.2.2.2.2.2 | exact hk.1 | exact hk | exact hk.2.1 | exact hk.2 | exact hk.2.2.1 | exact hk.2.2 | exact hk.2.2.2.1 | exact hk.2.2.2 | exact hk.2.2.2.2.1 | exact hk.2.2.2.2 | exact hk.2.2.2.2.2.1 | exact hk.2.2.2.2.2)))⟩, ⟨Kd.Rq (Kd.R_mono HO630.out (fun _ hk => (by (repeat' refine And.intro ?_ ?_) <;> first | exact hk.1.1.1 | exact hk.1.1 | exact hk.1.1.2.1 | exact hk.1.1.2 | exact hk.1.1.2.2.1 | exact hk.1.1.2.2 | exact hk.1.1.2.2.2.1 | exact hk.1.1.2.2.2 | exact hk.1.1.2.2.2.2.1 | exact hk.1.1.2.2.2.2 | exact hk.1.1.2.2.2.2.2.1 | exact hk.1.1.2.2.2.2.2 | exact hk.1.1.1.1 | exact hk.1.1.1 | exact hk.1.1.1.2.1 | exact hk.1.1.1.2 | exact hk.1.1.1.2.2.1 | exact hk.1.1.1.2.2 | exact hk.1.1.1.2.2.2.1 | exact hk.1.1.1.2.2.2 | exact hk.1.1.1.2.2.2.2.1 | exact hk.1.1.1.2.2.2.2 | exact hk.1.1.1.2.2.2.2.2.1 | exact hk.1.1.1.2.2.2.2.2 | exact hk.1.1 | exact hk.1 | exact hk.1.2.1 | exact hk.1.2 | exact hk.1.2.2.1 | exact hk.1.2.2 | exact hk.1.2.2.2.1 | exact hk.1.2.2.2 | exact hk.1.2.2.2.2.1 | exact hk.1.2.2.2.2 | exact hk.1.2.2.2.2.2.1 | exact hk.1.2.2.2.2.2 | exact hk.1 | exact hk | exact hk.2.1 | exact hk.2 | exact hk.2.2.1 | exact hk.2.2 | exact hk.2.2.2.1 | exact hk.2.2.2 | exact hk.2.2.2.2.1 | exact hk.2.2.2.2 | exact hk.2.2.2.2.2.1 | exact hk.2.2.2.2.2)))⟩, ⟨Kd.Rq (Kd.R_mono HO635.out (fun _ hk => (by (repeat' refine And.intro ?_ ?_) <;> first | exact hk.1.1.1 | exact hk.1.1 | exact hk.1.1.2.1 | exact hk.1.1.2 | exact hk.1.1.2.2.1 | exact hk.1.1.2.2 | exact hk.1.1.2.2.2.1 | exact hk.1.1.2.2.2 | exact hk.1.1.2.2.2.2.1 | exact hk.1.1.2.2.2.2 | exact hk.1.1.2.2.2.2.2.1 | exact hk.1.1.2.2.2.2.2 | exact hk.1.1.1.1 | exact hk.1.1.1 | exact hk.1.1.1.2.1 | exact hk.1.1.1.2 | exact hk.1.1.1.2.2.1 | exact hk.1.1.1.2.2 | exact hk.1.1.1.2.2.2.1 | exact hk.1.1.1.2.2.2 | exact hk.1.1.1.2.2.2.2.1 | exact hk.1.1.1.2.2.2.2 | exact hk.1.1.1.2.2.2.2.2.1 | exact hk.1.1.1.2.2.2.2.2 | exact hk.1.1 | exact hk.1 | exact hk.1.2.1 | exact hk.1.2 | exact hk.1.2.2.1 | exact hk.1.2.2 | exact hk.1.2.2.2.1 | exact hk.1.2.2.2 | exact hk.1.2.2.2.2.1 | exact hk.1.2.2.2.2 | exact hk.1.2.2.2.2.2.1 | exact hk.1.2.2.2.2.2 | exact hk.1 | exact hk | exact hk.2.1 | exact hk.2 | exact hk.2.2.1 | exact hk.2.2 | exact hk.2.2.2.1 | exact hk.2.2.2 | exact hk.2.2.2.2.1 | exact hk.2.2.2.2 | exact hk.2.2.2.2.2.1 | exact hk.2.2.2.2.2)))⟩, ⟨bkq BK622.out⟩, ⟨bkq BK626.out⟩, ⟨bkq BK632.out⟩, ⟨bkq BK637.out⟩, ⟨blq HB.out⟩⟩
    ·
     replace c39 := Bool.eq_false_iff.mpr c39
     subst c39
     have H1 : (laws_FnStocks.j0 k l0 t627 true t619 t623 t624 t625 t628) = some r := by rw [if_neg (show ¬ (false = true) by decide)] at H; exact H
     clear H
     have H := H1
     clear H1
     have H' := Aside0.mk H
     clear H
     go_wp2
     go_meet
     case rel => exact ⟨_, (true), (by first | rfl | (simp; done) | (simp [*]; done)), H', ⟨by first | omega | exact Nat.le_refl _⟩, ⟨Kd.Rq (Kd.R_mono (Kd.R_far (p := ⟨gb637, 0, none⟩) (Kd.R_types HO621.out BK637.out (by decide)) (fun _ hk => hk.2) (.slice Ao33 t633.length co33)) (fun _ hk => (by (repeat' refine And.intro ?_ ?_) <;> first | exact hk.1.1.1 | exact hk.1.1 | exact hk.1.1.2.1 | exact hk.1.1.2 | exact hk.1.1.2.2.1 | exact hk.1.1.2.2 | exact hk.1.1.2.2.2.1 | exact hk.1.1.2.2.2 | exact hk.1.1.2.2.2.2.1 | exact hk.1.1.2.2.2.2 | exact hk.1.1.2.2.2.2.2.1 | exact hk.1.1.2.2.2.2.2 | exact hk.1.1.1.1 | exact hk.1.1.1 | exact hk.1.1.1.2.1 | exact hk.1.1.1.2 | exact hk.1.1.1.2.2.1 | exact hk.1.1.1.2.2 | exact hk.1.1.1.2.2.2.1 | exact hk.1.1.1.2.2.2 | exact hk.1.1.1.2.2.2.2.1 | exact hk.1.1.1.2.2.2.2 | exact hk.1.1.1.2.2.2.2.2.1 | exact hk.1.1.1.2.2.2.2.2 | exact hk.1.1 | exact hk.1 | exact hk.1.2.1 | exact hk.1.2 | exact hk.1.2.2.1 | exact hk.1.2.2 | exact hk.1.2.2.2.1 | exact hk.1.2.2.2 | exact hk.1.2.2.2.2.1 | exact hk.1.2.2.2.2 | exact hk.1.2.2.2.2.2.1 | exact hk.1.2.2.2.2.2 | exact hk.1 | exact hk | exact hk.2.1 | exact hk.2 | exact hk.2.2.1 | exact hk.2.2 | exact hk.2.2.2.1 | exact hk.2.2.2 | exact hk.2.2.2.2.1 | exact hk.2.2.2.2 | exact hk.2.2.2.2.2.1 | exact hk.2.2.2.2.2)))⟩, ⟨Kd.Rq (Kd.R_mono (Kd.R_far (p := ⟨gb637, 0, none⟩) (Kd.R_types HO630.out BK637.out (by decide)) (fun _ hk => hk.2) (.slice Ao33 t633.length co33)) (fun _ hk => (by (repeat' refine And.intro ?_ ?_) <;> first | exact hk.1.1.1 | exact hk.1.1 | exact hk.1.1.2.1 | exact hk.1.1.2 | exact hk.1.1.2.2.1 | exact hk.1.1.2.2 | exact hk.1.1.2.2.2.1 | exact hk.1.1.2.2.2 | exact hk.1.1.2.2.2.2.1 | exact hk.1.1.2.2.2.2 | exact hk.1.1.2.2.2.2.2.1 | exact hk.1.1.2.2.2.2.2 | exact hk.1.1.1.1 | exact hk.1.1.1 | exact hk.1.1.1.2.1 | exact hk.1.1.1.2 | exact hk.1.1.1.2.2.1 | exact hk.1.1.1.2.2 | exact hk.1.1.1.2.2.2.1 | exact hk.1.1.1.2.2.2 | exact hk.1.1.1.2.2.2.2.1 | exact hk.1.1.1.2.2.2.2 | exact hk.1.1.1.2.2.2.2.2.1 | exact hk.1.1.1.2.2.2.2.2 | exact hk.1.1 | exact hk.1 | exact hk.1.2.1 | exact hk.1.2 | exact hk.1.2.2.1 | exact hk.1.2.2 | exact hk.1.2.2.2.1 | exact hk.1.2.2.2 | exact hk.1.2.2.2.2.1 | exact hk.1.2.2.2.2 | exact hk.1.2.2.2.2.2.1 | exact hk.1.2.2.2.2.2 | exact hk.1 | exact hk | exact hk.2.1 | exact hk.2 | exact hk.2.2.1 | exact hk.2.2 | exact hk.2.2.2.1 | exact hk.2.2.2 | exact hk.2.2.2.2.1 | exact hk.2.2.2.2 | exact hk.2.2.2.2.2.1 | exact hk.2.2.2.2.2)))⟩, ⟨Kd.Rq (Kd.R_mono (Kd.R_far (p := ⟨gb637, 0, none⟩) (Kd.R_types HO635.out BK637.out (by decide)) (fun _ hk => hk.2) (.slice Ao33 t633.length co33)) (fun _ hk => (by (repeat' refine And.intro ?_ ?_) <;> first | exact hk.1.1.1 | exact hk.1.1 | exact hk.1.1.2.1 | exact hk.1.1.2 | exact hk.1.1.2.2.1 | exact hk.1.1.2.2 | exact hk.1.1.2.2.2.1 | exact hk.1.1.2.2.2 | exact hk.1.1.2.2.2.2.1 | exact hk.1.1.2.2.2.2 | exact hk.1.1.2.2.2.2.2.1 | exact hk.1.1.2.2.2.2.2 | exact hk.1.1.1.1 | exact hk.1.1.1 | exact hk.1.1.1.2.1 | exact hk.1.1.1.2 | exact hk.1.1.1.2.2.1 | exact hk.1.1.1.2.2 | exact hk.1.1.1.2.2.2.1 | exact hk.1.1.1.2.2.2 | exact hk.1.1.1.2.2.2.2.1 | exact hk.1.1.1.2.2.2.2 | exact hk.1.1.1.2.2.2.2.2.1 | exact hk.1.1.1.2.2.2.2.2 | exact hk.1.1 | exact hk.1 | exact hk.1.2.1 | exact hk.1.2 | exact hk.1.2.2.1 | exact hk.1.2.2 | exact hk.1.2.2.2.1 | exact hk.1.2.2.2 | exact hk.1.2.2.2.2.1 | exact hk.1.2.2.2.2 | exact hk.1.2.2.2.2.2.1 | exact hk.1.2.2.2.2.2 | exact hk.1 | exact hk | exact hk.2.1 | exact hk.2 | exact hk.2.2.1 | exact hk.2.2 | exact hk.2.2.2.1 | exact hk.2.2.2 | exact hk.2.2.2.2.1 | exact hk.2.2.2.2 | exact hk.2.2.2.2.2.1 | exact hk.2.2.2.2.2)))⟩, ⟨by (with_reducible repeat (first | refine blk_drewN ?_ _ | refine blk_drew ?_ | refine blk_alloc ?_ _)); refine blk_far ?_ NB622_637.out _; (with_reducible repeat (first | refine blk_drewN ?_ _ | refine blk_drew ?_ | refine blk_alloc ?_ _)); exact BK622.out⟩, ⟨by (with_reducible repeat (first | refine blk_drewN ?_ _ | refine blk_drew ?_ | refine blk_alloc ?_ _)); refine blk_far ?_ NB626_637.out _; (with_reducible repeat (first | refine blk_drewN ?_ _ | refine blk_drew ?_ | refine blk_alloc ?_ _)); exact BK626.out⟩, ⟨by (with_reducible repeat (first | refine blk_drewN ?_ _ | refine blk_drew ?_ | refine blk_alloc ?_ _)); refine blk_far ?_ NB632_637.out _; (with_reducible repeat (first | refine blk_drewN ?_ _ | refine blk_drew ?_ | refine blk_alloc ?_ _)); exact BK632.out⟩, ⟨by (with_reducible repeat (first | refine blk_drewN ?_ _ | refine blk_drew ?_ | refine blk_alloc ?_ _)); refine blk_put (cs := #[.slice none 0 0]) ?_ 0 _ rfl; (with_reducible repeat (first | refine blk_drewN ?_ _ | refine blk_drew ?_ | refine blk_alloc ?_ _)); exact BK637.out⟩, ⟨blq HB.out⟩⟩
  case rest =>
   clear HC10
   try clear c1
   try clear c2
   try clear p2
   try clear c3
   try clear c4
   try clear c5
   try clear c6
   try clear p6
   try clear c7
   try clear c8
   try clear c15
   try clear c17
   try clear c26
   try clear c27
   try clear c34
   try clear c35
   try clear c36
   try clear c38
   try clear c38b0
   try clear c39
   try clear c40
   try clear c41
   try clear c42
   try clear c43
   try clear c44
   try clear c44b0
   try clear c44b1
   try clear c46
   try clear c46b0
   try clear c47
   try clear c48
   try clear c49
   try clear c52
   try clear c53
   try clear c55
   try clear c61
   try clear c62
   try clear c63
   try clear p64
   try clear c66
   try clear c67
   try clear c69
   try clear c76
   try clear c77
   try clear c78
   try clear c81
   try clear c82
   try clear c84
   try clear c87
   try clear c88
   try clear c89
   try clear hcz14_0
   try clear hcz18_0
   try clear hcz18_1
   try clear hcz18_2
   try clear hcz19_0
   try clear hcz21_0
   try clear hcz22_0
   try clear hcz22_1
   try clear hcz22_2
   try clear hcz28_0
   try clear hcz29_0
   try clear hcz30_0
   try clear hcz30_1
   try clear hcz30_2
   try clear hcz37_0
   try clear hcz50_0
   try clear hcz54_0
   try clear hcz56_0
   try clear hcz56_1
   try clear hcz56_2
   try clear hcz58_0
   try clear hcz59_0
   try clear hcz59_1
   try clear hcz59_2
   try clear hcz64_0
   try clear hcz68_0
   try clear hcz70_0
   try clear hcz70_1
   try clear hcz70_2
   try clear hcz72_0
   try clear hcz73_0
   try clear hcz73_1
   try clear hcz73_2
   try clear hcz75_0
   try clear hcz79_0
   try clear hcz83_0
   try clear hcz85_0
   try clear hcz85_1
   try clear hcz85_2
   try clear hcz90_0
   try clear hfz14_0
   try clear hfz18_0
   try clear hfz18_1
   try clear hfz18_2
   try clear hfz19_0
   try clear hfz21_0
   try clear hfz22_0
   try clear hfz22_1
   try clear hfz22_2
   try clear hfz28_0
   try clear hfz29_0
   try clear hfz30_0
   try clear hfz30_1
   try clear hfz30_2
   try clear hfz37_0
   try clear hfz50_0
   try clear hfz54_0
   try clear hfz56_0
   try clear hfz56_1
   try clear hfz56_2
   try clear hfz58_0
   try clear hfz59_0
   try clear hfz59_1
   try clear hfz59_2
   try clear hfz64_0
   try clear hfz68_0
   try clear hfz70_0
   try clear hfz70_1
   try clear hfz70_2
   try clear hfz72_0
   try clear hfz73_0
   try clear hfz73_1
   try clear hfz73_2
   try clear hfz75_0
   try clear hfz79_0
   try clear hfz83_0
   try clear hfz85_0
   try clear hfz85_1
   try clear hfz85_2
   try clear hfz90_0
   obtain ⟨kq, x81_9, rfl, HA, HJ9, HO_623000, HO_633000, HO_638000, BK622, BK626, BK632, BK637, HB⟩ := hcut
   cases kq with
   | zero => exact absurd HA.out (by simp [laws_FnStocks.j0])
   | succ kj9 =>
    have H := HA.out
    clear HA
    simp only [laws_FnStocks.j0] at H
    by_cases c92 : x81_9 = true
    ·
     subst c92
     have H1 : (some false) = some r := by rw [if_pos rfl] at H; exact H
     clear H
     have H := H1
     clear H1
     obtain rfl := Option.some.inj H
     go_wp2
     go_ret
     exact ⟨by first | rfl | (simp [errW_none, errW_some] <;> rfl) | (simp [*, errW_none, errW_some] <;> rfl), blq HB.out⟩
    ·
     replace c92 := Bool.eq_false_iff.mpr c92
     subst c92
     have H1 : ((spec_Amounts.f kj9 t623 t624 t625 t627).bind fun t641 => (laws_FnStocks.l0 kj9 l0 t627 t641 0 t619 t623 t624 t625 t628)) = some r := by rw [if_neg (show ¬ (false = true) by decide)] at H; exact H
     clear H
     have H := H1
     clear H1
     replace H := Option.bind_eq_some_iff.mp H
     obtain ⟨t641, A930, H⟩ := H
     replace H : (laws_FnStocks.l0 kj9 l0 t627 t641 0 t619 t623 t624 t625 t628) = some r := H
     have A93 := Aside0.mk A930
     clear A930
     have H' := Aside0.mk H
     clear H
     have hnb94 := NB626_622.out
     have hnc94 := NB622_626.out
     have hnb95 := NB626_632.out
     have hnc95 := NB632_626.out
     have hnb96 := NB626_637.out
     have hnc96 := NB637_626.out
     obtain ⟨hcz97_0, hcz97_1, hcz97_2, hfz97_0, hfz97_1, hfz97_2⟩ := bq3 BK626.out
     go_wp2_with (first | ((with_reducible refine gate_callee (f := 46) rfl ?_); refine gLq (some 84) Try.func46 #[.agg #[.int .i64 t623, .int .i64 t624, .int .i64 t625], .int .i64 t627] ?_; (with_reducible refine (spec_Amounts.calls kj9 t623 t624 t625 t627 t641 _ A93.out).mono ?_); rintro e w98 ⟨v642, rfl, ho0, hb⟩; refine ⟨_, rfl, ?_⟩; have HO643 := Aside0.mk (Kd.R_lower (Kd.R_new' (Kd.R_new' (Kd.R_new' ho0 (Kd.R_lt (Kd.Rq HO_623000.out))) (Kd.R_lt (Kd.Rq HO_633000.out))) (Kd.R_lt (Kd.Rq HO_638000.out))) (below_size (blq HB.out))); replace HO_623000 := Aside0.mk (Kd.R_elder' (Kd.Rq HO_623000.out) (Kd.R_base ho0) hb); replace HO_633000 := Aside0.mk (Kd.R_elder' (Kd.Rq HO_633000.out) (Kd.R_base ho0) hb); replace HO_638000 := Aside0.mk (Kd.R_elder' (Kd.Rq HO_638000.out) (Kd.R_base ho0) hb); replace BK622 := bkb BK622 hb; replace BK626 := bkb BK626 hb; replace BK632 := bkb BK632 hb; replace BK637 := bkb BK637 hb; replace HB := hbs HB hb; (try clear hb); (try clear hb2); (try clear hk); (try clear hi); (try clear ho0)))
     go_loopg [11] kj9 (fun kq v11 w' => ∃ (x11_2 : Int), v11 = .int .i64 x11_2 ∧ Aside0 (laws_FnStocks.l0 kq l0 t627 t641 x11_2 t619 t623 t624 t625 t628 = some r) ∧ Aside0 (kq ≤ kj9) ∧ Aside0 (Kd.R (Kd.int .i64) 3 w' w.heap.size (fun k_ => some k_ ≠ ((.slice Ao13 t619.length co13) : Value).ownBlock ∧ some k_ ≠ ((.slice Ao25 t628.length co25) : Value).ownBlock ∧ some k_ ≠ ((.slice Ao33 t633.length co33) : Value).ownBlock) v642 t641) ∧ Aside0 (Kd.R (Kd.int .i64) 3 w' w.heap.size (fun k_ => some k_ ≠ (v642 : Value).ownBlock ∧ some k_ ≠ ((.slice Ao25 t628.length co25) : Value).ownBlock ∧ some k_ ≠ ((.slice Ao33 t633.length co33) : Value).ownBlock) (.slice Ao13 t619.length co13) t619) ∧ Aside0 (Kd.R (Kd.int .i64) 3 w' w.heap.size (fun k_ => some k_ ≠ (v642 : Value).ownBlock ∧ some k_ ≠ ((.slice Ao13 t619.length co13) : Value).ownBlock ∧ some k_ ≠ ((.slice Ao33 t633.length co33) : Value).ownBlock) (.slice Ao25 t628.length co25) t628) ∧ Aside0 (Kd.R (Kd.int .i64) 3 w' w.heap.size (fun k_ => some k_ ≠ (v642 : Value).ownBlock ∧ some k_ ≠ ((.slice Ao13 t619.length co13) : Value).ownBlock ∧ some k_ ≠ ((.slice Ao25 t628.length co25) : Value).ownBlock) (.slice Ao33 t633.length co33) t633) ∧ Aside0 (w'.heap[gb622]? = some (.cells #[(.slice Ao13 t619.length co13)] 54 (0, 0))) ∧ Aside0 (w'.heap[gb626]? = some (.cells #[.int .i64 t623, .int .i64 t624, .int .i64 t625] 56 (0, 0))) ∧ Aside0 (w'.heap[gb632]? = some (.cells #[(.slice Ao25 t628.length co25)] 54 (0, 0))) ∧ Aside0 (w'.heap[gb637]? = some (.cells #[(.slice Ao33 t633.length co33)] 54 (0, 0))) ∧ Aside0 (Below w.heap.size w w'))
     case atStart => exact ⟨(0), (by first | rfl | (simp; done) | (simp [*]; done)), H', ⟨Nat.le_refl _⟩, ⟨Kd.Rq (Kd.R_mono HO643.out (fun _ hk => ⟨hk.1.1.2, ⟨hk.1.2, hk.2⟩⟩))⟩, ⟨Kd.Rq (Kd.R_mono HO_623000.out (fun _ hk => ⟨hk.2, ⟨hk.1.1, hk.1.2⟩⟩))⟩, ⟨Kd.Rq (Kd.R_mono HO_633000.out (fun _ hk => ⟨hk.2, ⟨hk.1.1, hk.1.2⟩⟩))⟩, ⟨Kd.Rq (Kd.R_mono HO_638000.out (fun _ hk => ⟨hk.2, ⟨hk.1.1, hk.1.2⟩⟩))⟩, ⟨bkq BK622.out⟩, ⟨bkq BK626.out⟩, ⟨bkq BK632.out⟩, ⟨bkq BK637.out⟩, ⟨blq HB.out⟩⟩
     case round =>
      clear H'
      try clear c1
      try clear c2
      try clear p2
      try clear c3
      try clear c4
      try clear c5
      try clear c6
      try clear p6
      try clear c7
      try clear c8
      try clear c9
      try clear c15
      try clear c17
      try clear c26
      try clear c27
      try clear c34
      try clear c35
      try clear c36
      try clear c38
      try clear c38b0
      try clear c39
      try clear c40
      try clear c41
      try clear c42
      try clear c43
      try clear c44
      try clear c44b0
      try clear c44b1
      try clear c46
      try clear c46b0
      try clear c47
      try clear c48
      try clear c49
      try clear c52
      try clear c53
      try clear c55
      try clear c61
      try clear c62
      try clear c63
      try clear p64
      try clear c66
      try clear c67
      try clear c69
      try clear c76
      try clear c77
      try clear c78
      try clear c81
      try clear c82
      try clear c84
      try clear c87
      try clear c88
      try clear c89
      try clear c92
      try clear c94
      try clear c95
      try clear c96
      try clear hcz14_0
      try clear hcz18_0
      try clear hcz18_1
      try clear hcz18_2
      try clear hcz19_0
      try clear hcz21_0
      try clear hcz22_0
      try clear hcz22_1
      try clear hcz22_2
      try clear hcz28_0
      try clear hcz29_0
      try clear hcz30_0
      try clear hcz30_1
      try clear hcz30_2
      try clear hcz37_0
      try clear hcz50_0
      try clear hcz54_0
      try clear hcz56_0
      try clear hcz56_1
      try clear hcz56_2
      try clear hcz58_0
      try clear hcz59_0
      try clear hcz59_1
      try clear hcz59_2
      try clear hcz64_0
      try clear hcz68_0
      try clear hcz70_0
      try clear hcz70_1
      try clear hcz70_2
      try clear hcz72_0
      try clear hcz73_0
      try clear hcz73_1
      try clear hcz73_2
      try clear hcz75_0
      try clear hcz79_0
      try clear hcz83_0
      try clear hcz85_0
      try clear hcz85_1
      try clear hcz85_2
      try clear hcz90_0
      try clear hcz97_0
      try clear hcz97_1
      try clear hcz97_2
      try clear hfz14_0
      try clear hfz18_0
      try clear hfz18_1
      try clear hfz18_2
      try clear hfz19_0
      try clear hfz21_0
      try clear hfz22_0
      try clear hfz22_1
      try clear hfz22_2
      try clear hfz28_0
      try clear hfz29_0
      try clear hfz30_0
      try clear hfz30_1
      try clear hfz30_2
      try clear hfz37_0
      try clear hfz50_0
      try clear hfz54_0
      try clear hfz56_0
      try clear hfz56_1
      try clear hfz56_2
      try clear hfz58_0
      try clear hfz59_0
      try clear hfz59_1
      try clear hfz59_2
      try clear hfz64_0
      try clear hfz68_0
      try clear hfz70_0
      try clear hfz70_1
      try clear hfz70_2
      try clear hfz72_0
      try clear hfz73_0
      try clear hfz73_1
      try clear hfz73_2
      try clear hfz75_0
      try clear hfz79_0
      try clear hfz83_0
      try clear hfz85_0
      try clear hfz85_1
      try clear hfz85_2
      try clear hfz90_0
      try clear hfz97_0
      try clear hfz97_1
      try clear hfz97_2
      try clear p2
      try clear p6
      try clear p64
      obtain ⟨x11_2, rfl, HA, HK2, HO_10, HO_623000, HO_633000, HO_638000, BK622, BK626, BK632, BK637, HB⟩ := hrel
      cases gk with
      | zero => exact absurd HA.out (by simp [laws_FnStocks.l0])
      | succ k2 =>
       have H := HA.out
       clear HA
       simp only [laws_FnStocks.l0] at H
       by_cases c99 : x11_2 < 4
       ·
        rw [if_pos c99] at H
        have c99b0 : decide (x11_2 < 4) = true := decide_eq_true c99
        clear c99
        by_cases c100 : 0 ≤ x11_2
        ·
         rw [if_pos c100] at H
         have c100b0 : decide (0 ≤ x11_2) = true := decide_eq_true c100
         clear c100
         by_cases c101 : x11_2 < (t628.length : Int)
         ·
          rw [if_pos c101] at H
          have c101b0 : decide (x11_2 < (t628.length : Int)) = true := decide_eq_true c101
          clear c101
          by_cases c102 : x11_2 < (t641.length : Int)
          ·
           rw [if_pos c102] at H
           have c102b0 : decide (x11_2 < (t641.length : Int)) = true := decide_eq_true c102
           clear c102
           by_cases c103 : x11_2 < (t619.length : Int)
           ·
            rw [if_pos c103] at H
            have c103b0 : decide (x11_2 < (t619.length : Int)) = true := decide_eq_true c103
            clear c103
            by_cases c104 : (wrap64 ((rd t628 x11_2) + (rd t641 x11_2))) = (rd t619 x11_2)
            ·
             rw [if_pos c104] at H
             have c104b0 : ((wrap64 ((rd t628 x11_2) + (rd t641 x11_2))) == (rd t619 x11_2)) = true := beq_iff_eq.mpr c104
             have c104b1 : ((wrap64 ((rd t628 x11_2) + (rd t641 x11_2))) != (rd t619 x11_2)) = false := bne_eq_false_iff_eq.mpr c104
             clear c104
             have H' := Aside0.mk H
             clear H
             try go_wp2
             replace HO_10 := Aside0.mk (Kd.R_drew HO_10.out)
             replace HO_623000 := Aside0.mk (Kd.R_drew HO_623000.out)
             replace HO_633000 := Aside0.mk (Kd.R_drew HO_633000.out)
             replace HO_638000 := Aside0.mk (Kd.R_drew HO_638000.out)
             replace BK622 := Aside0.mk (blk_drew BK622.out)
             replace BK626 := Aside0.mk (blk_drew BK626.out)
             replace BK632 := Aside0.mk (blk_drew BK632.out)
             replace BK637 := Aside0.mk (blk_drew BK637.out)
             replace HB := Aside0.mk (below_drew1 HB.out)
             have p644 : 0 ≤ (x11_2 : Int) := of_decide_eq_true (by first | (with_reducible assumption) | assumption)
             have q644 : x11_2 < (t628.length : Int) := of_decide_eq_true (by first | (with_reducible assumption) | assumption)
             obtain ⟨ad644, e644, hx644_0⟩ := Kd.at_int (Kd.R_reads' HO_633000.out).2.2 x11_2 p644 q644
             cases e644
             replace p644 := eq_true p644
             replace q644 := eq_true q644
             obtain ⟨Ao106, co106, eo106⟩ := Kd.R_slice HO_10.out
             (first | subst eo106 | (injection eo106 with f1_ f2_ f3_; have f4_ := f1_.symm; have f5_ := f3_.symm; clear f1_ f2_ f3_; subst f4_; subst f5_))
             have p645 : 0 ≤ (x11_2 : Int) := of_decide_eq_true (by first | (with_reducible assumption) | assumption)
             have q645 : x11_2 < (t641.length : Int) := of_decide_eq_true (by first | (with_reducible assumption) | assumption)
             obtain ⟨ad645, e645, hx645_0⟩ := Kd.at_int (Kd.R_reads' HO_10.out).2.2 x11_2 p645 q645
             cases e645
             replace p645 := eq_true p645
             replace q645 := eq_true q645
             have p646 : 0 ≤ (x11_2 : Int) := of_decide_eq_true (by first | (with_reducible assumption) | assumption)
             have q646 : x11_2 < (t619.length : Int) := of_decide_eq_true (by first | (with_reducible assumption) | assumption)
             obtain ⟨ad646, e646, hx646_0⟩ := Kd.at_int (Kd.R_reads' HO_623000.out).2.2 x11_2 p646 q646
             cases e646
             replace p646 := eq_true p646
             replace q646 := eq_true q646
             refine start_ (n := 16) (S := fun w' => w'.cell? ⟨gb632, 0, none⟩ = some (.slice (some ad644) t628.length co25) ∧ w'.cell? ⟨gb622, 0, none⟩ = some (.slice (some ad646) t619.length co13) ∧ w'.cell? (ad644.add (x11_2).toNat) = some (.int .i64 (rd t628 x11_2)) ∧ w'.cell? (ad645.add (x11_2).toNat) = some (.int .i64 (rd t641 x11_2)) ∧ w'.cell? (ad646.add (x11_2).toNat) = some (.int .i64 (rd t619 x11_2))) (ds := []) #[false, false, false, false, false, false, false, false, false, false, false, false, false, false, false, false] (by kernel_rfl) rfl rfl ⟨(blk_cell BK632.out 0).trans rfl, (blk_cell BK622.out 0).trans rfl, hx644_0, hx645_0, hx646_0⟩ (fun hHeld => ?_); refine with_tabW laws_FnStocks.tab14 laws_FnStocks.bits14 (fun HT_ HW_ => ?_)
             generalize wr.drew = w105 at HO_10 HO_623000 HO_633000 HO_638000 BK622 BK626 BK632 BK637 HB hx644_0 hx645_0 hx646_0 hHeld ⊢
             refine pure_ (i := 0) (N := some 89) (v := ?_) (a' := ?_) #[true, false, false, false, false, false, false, false, false, false, false, false, false, false, false, false] rfl rfl (any_of HT_.out (by kernel_rfl)) (fun _ _ _ h => h) (Or.inl ⟨by rfl, ?_⟩) ?_ ?_
             rotate_left
             ·
              intro w'
              go_simp
              with_reducible rfl
             rotate_left
             ·
              simp only [Act.put, List.setIfInBounds_toArray, List.set_cons_zero, List.set_cons_succ, i64_w, i32_w]
              rfl
             refine pure_ (i := 2) (N := some 91) (v := ?_) (a' := ?_) #[true, false, true, false, false, false, false, false, false, false, false, false, false, false, false, false] rfl rfl (any_of HT_.out (by kernel_rfl)) (fun _ _ _ h => h) (Or.inl ⟨by rfl, ?_⟩) ?_ ?_
             rotate_left
             ·
              intro w'
              go_simp
              with_reducible rfl
             rotate_left
             ·
              simp only [Act.put, List.setIfInBounds_toArray, List.set_cons_zero, List.set_cons_succ, i64_w, i32_w]
              rfl
             refine pure_ (i := 5) (N := some 94) (v := ?_) (a' := ?_) #[true, false, true, false, false, true, false, false, false, false, false, false, false, false, false, false] rfl rfl (any_of HT_.out (by kernel_rfl)) (fun _ _ _ h => h) (Or.inl ⟨by rfl, ?_⟩) ?_ ?_
             rotate_left
             ·
              intro w'
              go_simp
              with_reducible rfl
             rotate_left
             ·
              simp only [Act.put, List.setIfInBounds_toArray, List.set_cons_zero, List.set_cons_succ, i64_w, i32_w]
              rfl
             refine pure_ (i := 6) (N := some 95) (v := ?_) (a' := ?_) #[true, false, true, false, false, true, true, false, false, false, false, false, false, false, false, false] rfl rfl (any_of HT_.out (by kernel_rfl)) (fun _ _ _ h => h) (Or.inl ⟨by rfl, ?_⟩) ?_ ?_
             rotate_left
             ·
              intro w'
              go_simp
              with_reducible rfl
             rotate_left
             ·
              simp only [Act.put, List.setIfInBounds_toArray, List.set_cons_zero, List.set_cons_succ, i64_w, i32_w]
              rfl
             refine pure_ (i := 7) (N := some 96) (v := ?_) (a' := ?_) #[true, false, true, false, false, true, true, true, false, false, false, false, false, false, false, false] rfl rfl (any_of HT_.out (by kernel_rfl)) (fun _ _ _ h => h) (Or.inl ⟨by rfl, ?_⟩) ?_ ?_
             rotate_left
             ·
              intro w'
              go_simp
              with_reducible rfl
             rotate_left
             ·
              simp only [Act.put, List.setIfInBounds_toArray, List.set_cons_zero, List.set_cons_succ, i64_w, i32_w]
              rfl
             refine pure_ (i := 10) (N := some 99) (v := ?_) (a' := ?_) #[true, false, true, false, false, true, true, true, false, false, true, false, false, false, false, false] rfl rfl (any_of HT_.out (by kernel_rfl)) (fun _ _ _ h => h) (Or.inl ⟨by rfl, ?_⟩) ?_ ?_
             rotate_left
             ·
              intro w'
              go_simp
              with_reducible rfl
             rotate_left
             ·
              simp only [Act.put, List.setIfInBounds_toArray, List.set_cons_zero, List.set_cons_succ, i64_w, i32_w]
              rfl
             refine pure_ (i := 12) (N := some 101) (v := ?_) (a' := ?_) #[true, false, true, false, false, true, true, true, false, false, true, false, true, false, false, false] rfl rfl (any_of HT_.out (by kernel_rfl)) (fun _ _ _ h => h) (Or.inl ⟨by rfl, ?_⟩) ?_ ?_
             rotate_left
             ·
              intro w'
              go_simp
              with_reducible rfl
             rotate_left
             ·
              simp only [Act.put, List.setIfInBounds_toArray, List.set_cons_zero, List.set_cons_succ, i64_w, i32_w]
              rfl
             refine take_ (i := 1) (N := some 90) (v := ?_) (a' := ?_) #[true, true, true, false, false, true, true, true, false, false, true, false, true, false, false, false] rfl rfl (take_ofW HT_.out HW_.out (by kernel_rfl)) (fun _ _ _ h => h) (Or.inl ⟨by rfl, ?_⟩) hHeld ?_ ?_
             rotate_left
             ·
              rintro w' ⟨s0, s1, s2, s3, s4⟩
              go_simp
              with_reducible rfl
             rotate_left
             ·
              simp only [Act.put, List.setIfInBounds_toArray, List.set_cons_zero, List.set_cons_succ, i64_w, i32_w]
              rfl
             refine pure_ (i := 3) (N := some 92) (v := ?_) (a' := ?_) #[true, true, true, true, false, true, true, true, false, false, true, false, true, false, false, false] rfl rfl (any_of HT_.out (by kernel_rfl)) (fun _ _ _ h => h) (Or.inl ⟨by rfl, ?_⟩) ?_ ?_
             rotate_left
             ·
              intro w'
              go_simp
              with_reducible rfl
             rotate_left
             ·
              simp only [Act.put, List.setIfInBounds_toArray, List.set_cons_zero, List.set_cons_succ, i64_w, i32_w]
              rfl
             refine take_ (i := 4) (N := some 93) (v := ?_) (a' := ?_) #[true, true, true, true, true, true, true, true, false, false, true, false, true, false, false, false] rfl rfl (take_ofW HT_.out HW_.out (by kernel_rfl)) (fun _ _ _ h => h) (Or.inl ⟨by rfl, ?_⟩) hHeld ?_ ?_
             rotate_left
             ·
              rintro w' ⟨s0, s1, s2, s3, s4⟩
              go_simp
              with_reducible rfl
             rotate_left
             ·
              simp only [Act.put, List.setIfInBounds_toArray, List.set_cons_zero, List.set_cons_succ, i64_w, i32_w]
              rfl
             refine take_ (i := 8) (N := some 97) (v := ?_) (a' := ?_) #[true, true, true, true, true, true, true, true, true, false, true, false, true, false, false, false] rfl rfl (take_ofW HT_.out HW_.out (by kernel_rfl)) (fun _ _ _ h => h) (Or.inl ⟨by rfl, ?_⟩) hHeld ?_ ?_
             rotate_left
             ·
              rintro w' ⟨s0, s1, s2, s3, s4⟩
              go_simp
              with_reducible rfl
             rotate_left
             ·
              simp only [Act.put, List.setIfInBounds_toArray, List.set_cons_zero, List.set_cons_succ, i64_w, i32_w]
              rfl
             refine pure_ (i := 9) (N := some 98) (v := ?_) (a' := ?_) #[true, true, true, true, true, true, true, true, true, true, true, false, true, false, false, false] rfl rfl (any_of HT_.out (by kernel_rfl)) (fun _ _ _ h => h) (Or.inl ⟨by rfl, ?_⟩) ?_ ?_
             rotate_left
             ·
              intro w'
              go_simp
              with_reducible rfl
             rotate_left
             ·
              simp only [Act.put, List.setIfInBounds_toArray, List.set_cons_zero, List.set_cons_succ, i64_w, i32_w]
              rfl
             refine take_ (i := 11) (N := some 100) (v := ?_) (a' := ?_) #[true, true, true, true, true, true, true, true, true, true, true, true, true, false, false, false] rfl rfl (take_ofW HT_.out HW_.out (by kernel_rfl)) (fun _ _ _ h => h) (Or.inl ⟨by rfl, ?_⟩) hHeld ?_ ?_
             rotate_left
             ·
              rintro w' ⟨s0, s1, s2, s3, s4⟩
              go_simp
              with_reducible rfl
             rotate_left
             ·
              simp only [Act.put, List.setIfInBounds_toArray, List.set_cons_zero, List.set_cons_succ, i64_w, i32_w]
              rfl
             refine pure_ (i := 13) (N := some 102) (v := ?_) (a' := ?_) #[true, true, true, true, true, true, true, true, true, true, true, true, true, true, false, false] rfl rfl (any_of HT_.out (by kernel_rfl)) (fun _ _ _ h => h) (Or.inl ⟨by rfl, ?_⟩) ?_ ?_
             rotate_left
             ·
              intro w'
              go_simp
              with_reducible rfl
             rotate_left
             ·
              simp only [Act.put, List.setIfInBounds_toArray, List.set_cons_zero, List.set_cons_succ, i64_w, i32_w]
              rfl
             refine take_ (i := 14) (N := some 103) (v := ?_) (a' := ?_) #[true, true, true, true, true, true, true, true, true, true, true, true, true, true, true, false] rfl rfl (take_ofW HT_.out HW_.out (by kernel_rfl)) (fun _ _ _ h => h) (Or.inl ⟨by rfl, ?_⟩) hHeld ?_ ?_
             rotate_left
             ·
              rintro w' ⟨s0, s1, s2, s3, s4⟩
              go_simp
              with_reducible rfl
             rotate_left
             ·
              simp only [Act.put, List.setIfInBounds_toArray, List.set_cons_zero, List.set_cons_succ, i64_w, i32_w]
              rfl
             refine pure_ (i := 15) (N := some 104) (v := ?_) (a' := ?_) #[true, true, true, true, true, true, true, true, true, true, true, true, true, true, true, true] rfl rfl (any_of HT_.out (by kernel_rfl)) (fun _ _ _ h => h) (Or.inl ⟨by rfl, ?_⟩) ?_ ?_
             rotate_left
             ·
              intro w'
              go_simp
              with_reducible rfl
             rotate_left
             ·
              simp only [Act.put, List.setIfInBounds_toArray, List.set_cons_zero, List.set_cons_succ, i64_w, i32_w]
              rfl
             refine done_ (done_of HT_.out (by kernel_rfl)) ?_
             try go_wp2
             go_roundg k2
             case measure => have := HJ9.out; have := HK2.out; omega
             case rel => exact ⟨(wrap64 (x11_2 + 1)), (by first | rfl | (simp; done) | (simp [*]; done)), H', ⟨by have := HJ9.out; have := HK2.out; omega⟩, ⟨Kd.Rq HO_10.out⟩, ⟨Kd.Rq HO_623000.out⟩, ⟨Kd.Rq HO_633000.out⟩, ⟨Kd.Rq HO_638000.out⟩, ⟨bkq BK622.out⟩, ⟨bkq BK626.out⟩, ⟨bkq BK632.out⟩, ⟨bkq BK637.out⟩, ⟨blq HB.out⟩⟩
            ·
             rw [if_neg c104] at H
             have c104b0 : ((wrap64 ((rd t628 x11_2) + (rd t641 x11_2))) == (rd t619 x11_2)) = false := beq_eq_false_iff_ne.mpr c104
             have c104b1 : ((wrap64 ((rd t628 x11_2) + (rd t641 x11_2))) != (rd t619 x11_2)) = true := bne_iff_ne.mpr c104
             obtain rfl := Option.some.inj H
             try go_wp2
             replace HO_10 := Aside0.mk (Kd.R_drew HO_10.out)
             replace HO_623000 := Aside0.mk (Kd.R_drew HO_623000.out)
             replace HO_633000 := Aside0.mk (Kd.R_drew HO_633000.out)
             replace HO_638000 := Aside0.mk (Kd.R_drew HO_638000.out)
             replace BK622 := Aside0.mk (blk_drew BK622.out)
             replace BK626 := Aside0.mk (blk_drew BK626.out)
             replace BK632 := Aside0.mk (blk_drew BK632.out)
             replace BK637 := Aside0.mk (blk_drew BK637.out)
             replace HB := Aside0.mk (below_drew1 HB.out)
             have p644 : 0 ≤ (x11_2 : Int) := of_decide_eq_true (by first | (with_reducible assumption) | assumption)
             have q644 : x11_2 < (t628.length : Int) := of_decide_eq_true (by first | (with_reducible assumption) | assumption)
             obtain ⟨ad644, e644, hx644_0⟩ := Kd.at_int (Kd.R_reads' HO_633000.out).2.2 x11_2 p644 q644
             cases e644
             replace p644 := eq_true p644
             replace q644 := eq_true q644
             obtain ⟨Ao108, co108, eo108⟩ := Kd.R_slice HO_10.out
             (first | subst eo108 | (injection eo108 with f1_ f2_ f3_; have f4_ := f1_.symm; have f5_ := f3_.symm; clear f1_ f2_ f3_; subst f4_; subst f5_))
             have p645 : 0 ≤ (x11_2 : Int) := of_decide_eq_true (by first | (with_reducible assumption) | assumption)
             have q645 : x11_2 < (t641.length : Int) := of_decide_eq_true (by first | (with_reducible assumption) | assumption)
             obtain ⟨ad645, e645, hx645_0⟩ := Kd.at_int (Kd.R_reads' HO_10.out).2.2 x11_2 p645 q645
             cases e645
             replace p645 := eq_true p645
             replace q645 := eq_true q645
             have p646 : 0 ≤ (x11_2 : Int) := of_decide_eq_true (by first | (with_reducible assumption) | assumption)
             have q646 : x11_2 < (t619.length : Int) := of_decide_eq_true (by first | (with_reducible assumption) | assumption)
             obtain ⟨ad646, e646, hx646_0⟩ := Kd.at_int (Kd.R_reads' HO_623000.out).2.2 x11_2 p646 q646
             cases e646
             replace p646 := eq_true p646
             replace q646 := eq_true q646
             refine start_ (n := 16) (S := fun w' => w'.cell? ⟨gb632, 0, none⟩ = some (.slice (some ad644) t628.length co25) ∧ w'.cell? ⟨gb622, 0, none⟩ = some (.slice (some ad646) t619.length co13) ∧ w'.cell? (ad644.add (x11_2).toNat) = some (.int .i64 (rd t628 x11_2)) ∧ w'.cell? (ad645.add (x11_2).toNat) = some (.int .i64 (rd t641 x11_2)) ∧ w'.cell? (ad646.add (x11_2).toNat) = some (.int .i64 (rd t619 x11_2))) (ds := []) #[false, false, false, false, false, false, false, false, false, false, false, false, false, false, false, false] (by kernel_rfl) rfl rfl ⟨(blk_cell BK632.out 0).trans rfl, (blk_cell BK622.out 0).trans rfl, hx644_0, hx645_0, hx646_0⟩ (fun hHeld => ?_); refine with_tabW laws_FnStocks.tab14 laws_FnStocks.bits14 (fun HT_ HW_ => ?_)
             generalize wr.drew = w107 at HO_10 HO_623000 HO_633000 HO_638000 BK622 BK626 BK632 BK637 HB hx644_0 hx645_0 hx646_0 hHeld ⊢
             refine pure_ (i := 0) (N := some 89) (v := ?_) (a' := ?_) #[true, false, false, false, false, false, false, false, false, false, false, false, false, false, false, false] rfl rfl (any_of HT_.out (by kernel_rfl)) (fun _ _ _ h => h) (Or.inl ⟨by rfl, ?_⟩) ?_ ?_
             rotate_left
             ·
              intro w'
              go_simp
              with_reducible rfl
             rotate_left
             ·
              simp only [Act.put, List.setIfInBounds_toArray, List.set_cons_zero, List.set_cons_succ, i64_w, i32_w]
              rfl
             refine pure_ (i := 2) (N := some 91) (v := ?_) (a' := ?_) #[true, false, true, false, false, false, false, false, false, false, false, false, false, false, false, false] rfl rfl (any_of HT_.out (by kernel_rfl)) (fun _ _ _ h => h) (Or.inl ⟨by rfl, ?_⟩) ?_ ?_
             rotate_left
             ·
              intro w'
              go_simp
              with_reducible rfl
             rotate_left
             ·
              simp only [Act.put, List.setIfInBounds_toArray, List.set_cons_zero, List.set_cons_succ, i64_w, i32_w]
              rfl
             refine pure_ (i := 5) (N := some 94) (v := ?_) (a' := ?_) #[true, false, true, false, false, true, false, false, false, false, false, false, false, false, false, false] rfl rfl (any_of HT_.out (by kernel_rfl)) (fun _ _ _ h => h) (Or.inl ⟨by rfl, ?_⟩) ?_ ?_
             rotate_left
             ·
              intro w'
              go_simp
              with_reducible rfl
             rotate_left
             ·
              simp only [Act.put, List.setIfInBounds_toArray, List.set_cons_zero, List.set_cons_succ, i64_w, i32_w]
              rfl
             refine pure_ (i := 6) (N := some 95) (v := ?_) (a' := ?_) #[true, false, true, false, false, true, true, false, false, false, false, false, false, false, false, false] rfl rfl (any_of HT_.out (by kernel_rfl)) (fun _ _ _ h => h) (Or.inl ⟨by rfl, ?_⟩) ?_ ?_
             rotate_left
             ·
              intro w'
              go_simp
              with_reducible rfl
             rotate_left
             ·
              simp only [Act.put, List.setIfInBounds_toArray, List.set_cons_zero, List.set_cons_succ, i64_w, i32_w]
              rfl
             refine pure_ (i := 7) (N := some 96) (v := ?_) (a' := ?_) #[true, false, true, false, false, true, true, true, false, false, false, false, false, false, false, false] rfl rfl (any_of HT_.out (by kernel_rfl)) (fun _ _ _ h => h) (Or.inl ⟨by rfl, ?_⟩) ?_ ?_
             rotate_left
             ·
              intro w'
              go_simp
              with_reducible rfl
             rotate_left
             ·
              simp only [Act.put, List.setIfInBounds_toArray, List.set_cons_zero, List.set_cons_succ, i64_w, i32_w]
              rfl
             refine pure_ (i := 10) (N := some 99) (v := ?_) (a' := ?_) #[true, false, true, false, false, true, true, true, false, false, true, false, false, false, false, false] rfl rfl (any_of HT_.out (by kernel_rfl)) (fun _ _ _ h => h) (Or.inl ⟨by rfl, ?_⟩) ?_ ?_
             rotate_left
             ·
              intro w'
              go_simp
              with_reducible rfl
             rotate_left
             ·
              simp only [Act.put, List.setIfInBounds_toArray, List.set_cons_zero, List.set_cons_succ, i64_w, i32_w]
              rfl
             refine pure_ (i := 12) (N := some 101) (v := ?_) (a' := ?_) #[true, false, true, false, false, true, true, true, false, false, true, false, true, false, false, false] rfl rfl (any_of HT_.out (by kernel_rfl)) (fun _ _ _ h => h) (Or.inl ⟨by rfl, ?_⟩) ?_ ?_
             rotate_left
             ·
              intro w'
              go_simp
              with_reducible rfl
             rotate_left
             ·
              simp only [Act.put, List.setIfInBounds_toArray, List.set_cons_zero, List.set_cons_succ, i64_w, i32_w]
              rfl
             refine take_ (i := 1) (N := some 90) (v := ?_) (a' := ?_) #[true, true, true, false, false, true, true, true, false, false, true, false, true, false, false, false] rfl rfl (take_ofW HT_.out HW_.out (by kernel_rfl)) (fun _ _ _ h => h) (Or.inl ⟨by rfl, ?_⟩) hHeld ?_ ?_
             rotate_left
             ·
              rintro w' ⟨s0, s1, s2, s3, s4⟩
              go_simp
              with_reducible rfl
             rotate_left
             ·
              simp only [Act.put, List.setIfInBounds_toArray, List.set_cons_zero, List.set_cons_succ, i64_w, i32_w]
              rfl
             refine pure_ (i := 3) (N := some 92) (v := ?_) (a' := ?_) #[true, true, true, true, false, true, true, true, false, false, true, false, true, false, false, false] rfl rfl (any_of HT_.out (by kernel_rfl)) (fun _ _ _ h => h) (Or.inl ⟨by rfl, ?_⟩) ?_ ?_
             rotate_left
             ·
              intro w'
              go_simp
              with_reducible rfl
             rotate_left
             ·
              simp only [Act.put, List.setIfInBounds_toArray, List.set_cons_zero, List.set_cons_succ, i64_w, i32_w]
              rfl
             refine take_ (i := 4) (N := some 93) (v := ?_) (a' := ?_) #[true, true, true, true, true, true, true, true, false, false, true, false, true, false, false, false] rfl rfl (take_ofW HT_.out HW_.out (by kernel_rfl)) (fun _ _ _ h => h) (Or.inl ⟨by rfl, ?_⟩) hHeld ?_ ?_
             rotate_left
             ·
              rintro w' ⟨s0, s1, s2, s3, s4⟩
              go_simp
              with_reducible rfl
             rotate_left
             ·
              simp only [Act.put, List.setIfInBounds_toArray, List.set_cons_zero, List.set_cons_succ, i64_w, i32_w]
              rfl
             refine take_ (i := 8) (N := some 97) (v := ?_) (a' := ?_) #[true, true, true, true, true, true, true, true, true, false, true, false, true, false, false, false] rfl rfl (take_ofW HT_.out HW_.out (by kernel_rfl)) (fun _ _ _ h => h) (Or.inl ⟨by rfl, ?_⟩) hHeld ?_ ?_
             rotate_left
             ·
              rintro w' ⟨s0, s1, s2, s3, s4⟩
              go_simp
              with_reducible rfl
             rotate_left
             ·
              simp only [Act.put, List.setIfInBounds_toArray, List.set_cons_zero, List.set_cons_succ, i64_w, i32_w]
              rfl
             refine pure_ (i := 9) (N := some 98) (v := ?_) (a' := ?_) #[true, true, true, true, true, true, true, true, true, true, true, false, true, false, false, false] rfl rfl (any_of HT_.out (by kernel_rfl)) (fun _ _ _ h => h) (Or.inl ⟨by rfl, ?_⟩) ?_ ?_
             rotate_left
             ·
              intro w'
              go_simp
              with_reducible rfl
             rotate_left
             ·
              simp only [Act.put, List.setIfInBounds_toArray, List.set_cons_zero, List.set_cons_succ, i64_w, i32_w]
              rfl
             refine take_ (i := 11) (N := some 100) (v := ?_) (a' := ?_) #[true, true, true, true, true, true, true, true, true, true, true, true, true, false, false, false] rfl rfl (take_ofW HT_.out HW_.out (by kernel_rfl)) (fun _ _ _ h => h) (Or.inl ⟨by rfl, ?_⟩) hHeld ?_ ?_
             rotate_left
             ·
              rintro w' ⟨s0, s1, s2, s3, s4⟩
              go_simp
              with_reducible rfl
             rotate_left
             ·
              simp only [Act.put, List.setIfInBounds_toArray, List.set_cons_zero, List.set_cons_succ, i64_w, i32_w]
              rfl
             refine pure_ (i := 13) (N := some 102) (v := ?_) (a' := ?_) #[true, true, true, true, true, true, true, true, true, true, true, true, true, true, false, false] rfl rfl (any_of HT_.out (by kernel_rfl)) (fun _ _ _ h => h) (Or.inl ⟨by rfl, ?_⟩) ?_ ?_
             rotate_left
             ·
              intro w'
              go_simp
              with_reducible rfl
             rotate_left
             ·
              simp only [Act.put, List.setIfInBounds_toArray, List.set_cons_zero, List.set_cons_succ, i64_w, i32_w]
              rfl
             refine take_ (i := 14) (N := some 103) (v := ?_) (a' := ?_) #[true, true, true, true, true, true, true, true, true, true, true, true, true, true, true, false] rfl rfl (take_ofW HT_.out HW_.out (by kernel_rfl)) (fun _ _ _ h => h) (Or.inl ⟨by rfl, ?_⟩) hHeld ?_ ?_
             rotate_left
             ·
              rintro w' ⟨s0, s1, s2, s3, s4⟩
              go_simp
              with_reducible rfl
             rotate_left
             ·
              simp only [Act.put, List.setIfInBounds_toArray, List.set_cons_zero, List.set_cons_succ, i64_w, i32_w]
              rfl
             refine pure_ (i := 15) (N := some 104) (v := ?_) (a' := ?_) #[true, true, true, true, true, true, true, true, true, true, true, true, true, true, true, true] rfl rfl (any_of HT_.out (by kernel_rfl)) (fun _ _ _ h => h) (Or.inl ⟨by rfl, ?_⟩) ?_ ?_
             rotate_left
             ·
              intro w'
              go_simp
              with_reducible rfl
             rotate_left
             ·
              simp only [Act.put, List.setIfInBounds_toArray, List.set_cons_zero, List.set_cons_succ, i64_w, i32_w]
              rfl
             refine done_ (done_of HT_.out (by kernel_rfl)) ?_
             try go_wp2
             go_ret
             exact ⟨by first | rfl | (simp [errW_none, errW_some] <;> rfl) | (simp [*, errW_none, errW_some] <;> rfl), blq HB.out⟩
           ·
            rw [if_neg c103] at H
            exact absurd H (by simp)
          ·
           rw [if_neg c102] at H
           exact absurd H (by simp)
         ·
          rw [if_neg c101] at H
          exact absurd H (by simp)
        ·
         rw [if_neg c100] at H
         exact absurd H (by simp)
       ·
        rw [if_neg c99] at H
        have c99b0 : decide (x11_2 < 4) = false := decide_eq_false c99
        clear c99
        replace H := Option.bind_eq_some_iff.mp H
        obtain ⟨t647, A1090, H⟩ := H
        replace H : ((impl_MustBuy.f k2 t619 (([(⟨t623, t624, t625⟩ : S56)] : List (S56))) (([wrap64 (t647 * 8)] : List Int))).bind fun t654 => (if (t654.length : Int) = 4 then (laws_FnStocks.l1 k2 t627 (wrap64 (t647 * 8)) t654 true 0 t619 t623 t624 t625 t619) else (some false))) = some r := H
        have A109 := Aside0.mk A1090
        clear A1090
        obtain ⟨y648, hy648⟩ : ∃ y_ : List (S56), y_ = (([(⟨t623, t624, t625⟩ : S56)] : List (S56))) := ⟨_, rfl⟩
        replace H : ((impl_MustBuy.f k2 t619 y648 (([wrap64 (t647 * 8)] : List Int))).bind fun t654 => (if (t654.length : Int) = 4 then (laws_FnStocks.l1 k2 t627 (wrap64 (t647 * 8)) t654 true 0 t619 t623 t624 t625 t619) else (some false))) = some r := by first | (rw [hy648]; with_reducible exact H) | (have H2_ := (Option.bind_some _ _).symm.trans H; rw [hy648]; with_reducible exact H2_) | (have H2_ := (Option.bind_some _ _).symm.trans H; with_reducible exact H2_) | with_reducible exact H | (rw [hy648]; exact H) | exact H
        have Ny648 := Aside0.mk hy648
        clear hy648
        obtain ⟨y651, hy651⟩ : ∃ y_ : List Int, y_ = (([wrap64 (t647 * 8)] : List Int)) := ⟨_, rfl⟩
        replace H : ((impl_MustBuy.f k2 t619 y648 y651).bind fun t654 => (if (t654.length : Int) = 4 then (laws_FnStocks.l1 k2 t627 (wrap64 (t647 * 8)) t654 true 0 t619 t623 t624 t625 t619) else (some false))) = some r := by first | (rw [hy651]; with_reducible exact H) | (have H2_ := (Option.bind_some _ _).symm.trans H; rw [hy651]; with_reducible exact H2_) | (have H2_ := (Option.bind_some _ _).symm.trans H; with_reducible exact H2_) | with_reducible exact H | (rw [hy651]; exact H) | exact H
        have Ny651 := Aside0.mk hy651
        clear hy651
        replace H := Option.bind_eq_some_iff.mp H
        obtain ⟨t654, A1100, H⟩ := H
        replace H : (if (t654.length : Int) = 4 then (laws_FnStocks.l1 k2 t627 (wrap64 (t647 * 8)) t654 true 0 t619 t623 t624 t625 t619) else (some false)) = some r := H
        have A110 := Aside0.mk A1100
        clear A1100
        have HF111 := Aside0.mk H
        clear H
        go_upto_if 116 with (first | ((with_reducible refine gate_callee (f := 23) rfl ?_); refine gLq (some 106) Try.func23 #[.slice A0 l0.length c0, .int .i64 0] ?_; (with_reducible refine (laws_at.calls _ _ l0 0 t647 _ ?side1 ?side2 A109.out).mono ?_); (case side1 => exact Kd.Cq (Kd.C_below HR0.out HB.out)); (case side2 => exact HC0.out); rintro e w' ⟨rfl, ⟨nd, rfl⟩⟩; refine ⟨_, rfl, ?_⟩; have hnb112 := NB622_626.out; have hnc112 := NB626_622.out; have hnb113 := NB622_632.out; have hnc113 := NB632_622.out; have hnb114 := NB622_637.out; have hnc114 := NB637_622.out; have hcz115_0 : wr.cell? ⟨gb622, 0, none⟩ = some (.slice Ao13 t619.length co13) := (blk_cell BK622.out 0).trans rfl; have hfz115_0 := blk_frozen BK622.out 0; have hnb116 := NB626_632.out; have hnc116 := NB632_626.out; have hnb117 := NB626_637.out; have hnc117 := NB637_626.out; obtain ⟨hcz118_0, hcz118_1, hcz118_2, hfz118_0, hfz118_1, hfz118_2⟩ := bq3 BK626.out) | ((with_reducible refine gate_dst (N := 110) rfl ?_); (try (refine gate_guard (by rfl) ?_; dsimp only)); refine Kd.R_lit k56 _ 56 ?hg (N := 110) ?hd (xs := ([(⟨t623, t624, t625⟩ : S56)] : List (S56))) (inner := [.int .i64 t623, .int .i64 t624, .int .i64 t625]) (ok := fun _ => True) (okp := fun _ => True) ?hr ?hp (fun _ hk => hk) trivial (Below.refl _ _) (Nat.le_refl _) (by simp) ?_; (case hd => rfl); (case hg => rfl); (case hr => first | (go_simp; done) | (go_simp; rfl)); (case hp => exact (Reps.c3 (show Kd.M k56 _ _ _ (⟨t623, t624, t625⟩ : S56) [.int .i64 t623, .int .i64 t624, .int .i64 t625] from (k56_mkM _ _ _ (⟨t623, t624, t625⟩ : S56) )) (Reps.none _ _))); intro v649 w119 ho120 hb hg_ hnew_; clear hg_ hnew_; (first | rw [← Ny648.out] at ho120 | (simp only [Int.reduceToNat] at ho120; rw [← Ny648.out] at ho120)); have HO650 := Aside0.mk (Kd.R_lower (Kd.R_newB ho120 (g := gb626) (o := .cells #[.int .i64 t623, .int .i64 t624, .int .i64 t625] 56 (0, 0)) (bkq BK626.out)) (below_size (blq HB.out))); replace HO_10 := rob HO_10 hb; replace HO_623000 := rob HO_623000 hb; replace HO_633000 := rob HO_633000 hb; replace HO_638000 := rob HO_638000 hb; replace BK622 := bkb BK622 hb; replace BK626 := bkb BK626 hb; replace BK632 := bkb BK632 hb; replace BK637 := bkb BK637 hb; replace HB := hbs HB hb; clear hb ho120) | ((with_reducible refine gate_dst (N := 112) rfl ?_); (try (refine gate_guard (by rfl) ?_; dsimp only)); refine Kd.R_lit (Kd.int .i64) _ 3 ?hg (N := 112) ?hd (xs := ([wrap64 (t647 * 8)] : List Int)) (inner := [.int .i64 (wrap64 (t647 * 8))]) (ok := fun _ => True) (okp := fun _ => True) ?hr ?hp (fun _ hk => hk) trivial (Below.refl _ _) (Nat.le_refl _) (by simp) ?_; (case hd => rfl); (case hg => rfl); (case hr => first | (go_simp; done) | (go_simp; rfl)); (case hp => exact (Reps.one (show Kd.M (Kd.int .i64) _ _ _ (wrap64 (t647 * 8)) [.int .i64 (wrap64 (t647 * 8))] from rfl) (Reps.none _ _))); intro v652 w121 ho122 hb hg_ hnew_; clear hg_ hnew_; (first | rw [← Ny651.out] at ho122 | (simp only [Int.reduceToNat] at ho122; rw [← Ny651.out] at ho122)); have HO653 := Aside0.mk (Kd.R_lower (Kd.R_new' (Kd.R_new' (Kd.R_new' (Kd.R_new' ho122 (Kd.R_lt (Kd.Rq HO_10.out))) (Kd.R_lt (Kd.Rq HO_623000.out))) (Kd.R_lt (Kd.Rq HO_633000.out))) (Kd.R_lt (Kd.Rq HO_638000.out))) (below_size (blq HB.out))); replace HO_10 := Aside0.mk (Kd.R_elder' (Kd.Rq HO_10.out) (Kd.R_base ho122) hb); replace HO_623000 := Aside0.mk (Kd.R_elder' (Kd.Rq HO_623000.out) (Kd.R_base ho122) hb); replace HO_633000 := Aside0.mk (Kd.R_elder' (Kd.Rq HO_633000.out) (Kd.R_base ho122) hb); replace HO_638000 := Aside0.mk (Kd.R_elder' (Kd.Rq HO_638000.out) (Kd.R_base ho122) hb); replace HO650 := rob HO650 hb; replace BK622 := bkb BK622 hb; replace BK626 := bkb BK626 hb; replace BK632 := bkb BK632 hb; replace BK637 := bkb BK637 hb; replace HB := hbs HB hb; clear hb ho122; obtain ⟨Ao123, co123, eo123⟩ := Kd.R_slice HO650.out; subst eo123; obtain ⟨Ao124, co124, eo124⟩ := Kd.R_slice HO653.out; subst eo124) | ((with_reducible refine gate_callee (f := 47) rfl ?_); refine gLq (some 113) Try.func47 #[.agg #[.slice Ao13 t619.length co13], .slice Ao123 y648.length co123, .slice Ao124 y651.length co124] ?_; (with_reducible refine (impl_MustBuy.calls k2 _ _ t619 _ _ y648 _ _ y651 t654 _ ?side1 ?side2 ?side3 ?side4 ?side5 ?side6 A110.out).mono ?_); (case side1 => repeat (first | exact (Kd.R_reads' HO_623000.out).2.2 | (with_reducible refine Kd.C_alloc ?_ _) | (with_reducible refine Kd.C_drewN ?_ _) | (with_reducible refine Kd.C_drew ?_))); (case side2 => exact (Kd.R_reads' HO_623000.out).2.1); (case side3 => repeat (first | exact (Kd.R_reads' HO650.out).2.2 | (with_reducible refine Kd.C_alloc ?_ _) | (with_reducible refine Kd.C_drewN ?_ _) | (with_reducible refine Kd.C_drew ?_))); (case side4 => exact (Kd.R_reads' HO650.out).2.1); (case side5 => repeat (first | exact (Kd.R_reads' HO653.out).2.2 | (with_reducible refine Kd.C_alloc ?_ _) | (with_reducible refine Kd.C_drewN ?_ _) | (with_reducible refine Kd.C_drew ?_))); (case side6 => exact (Kd.R_reads' HO653.out).2.1); rintro e w125 ⟨v655, rfl, ho0, hb⟩; refine ⟨_, rfl, ?_⟩; have HO656 := Aside0.mk (Kd.R_lower (Kd.R_new' (Kd.R_new' (Kd.R_new' (Kd.R_new' (Kd.R_new' ho0 (Kd.R_lt (Kd.Rq HO_10.out))) (Kd.R_lt (Kd.Rq HO_623000.out))) (Kd.R_lt (Kd.Rq HO_633000.out))) (Kd.R_lt (Kd.Rq HO_638000.out))) (Kd.R_lt (Kd.Rq HO653.out))) (below_size (blq HB.out))); replace HO_10 := Aside0.mk (Kd.R_elder' (Kd.Rq HO_10.out) (Kd.R_base ho0) hb); replace HO_623000 := Aside0.mk (Kd.R_elder' (Kd.Rq HO_623000.out) (Kd.R_base ho0) hb); replace HO_633000 := Aside0.mk (Kd.R_elder' (Kd.Rq HO_633000.out) (Kd.R_base ho0) hb); replace HO_638000 := Aside0.mk (Kd.R_elder' (Kd.Rq HO_638000.out) (Kd.R_base ho0) hb); replace HO650 := rob HO650 hb; replace HO653 := Aside0.mk (Kd.R_elder' (Kd.Rq HO653.out) (Kd.R_base ho0) hb); replace BK622 := bkb BK622 hb; replace BK626 := bkb BK626 hb; replace BK632 := bkb BK632 hb; replace BK637 := bkb BK637 hb; replace HB := hbs HB hb; (try clear hb); (try clear hb2); (try clear hk); (try clear hi); (try clear ho0); obtain ⟨Ao126, co126, eo126⟩ := Kd.R_slice HO656.out; subst eo126))
        have H := HF111.out
        clear HF111
        by_cases c127 : (t654.length : Int) = 4
        ·
         rw [if_pos c127] at H
         have c127b0 : ((t654.length : Int) == 4) = true := beq_iff_eq.mpr c127
         have c127b1 : ((t654.length : Int) != 4) = false := bne_eq_false_iff_eq.mpr c127
         clear c127
         (first | rw [c127b0] | (simp only [i64_w, i32_w]; rw [c127b0]) | skip)
         have H' := Aside0.mk H
         clear H
         have hnb128 := NB622_626.out
         have hnc128 := NB626_622.out
         have hnb129 := NB622_632.out
         have hnc129 := NB632_622.out
         have hnb130 := NB622_637.out
         have hnc130 := NB637_622.out
         have hcz131_0 : w125.cell? ⟨gb622, 0, none⟩ = some (.slice Ao13 t619.length co13) := (blk_cell BK622.out 0).trans rfl
         have hfz131_0 := blk_frozen BK622.out 0
         go_wp2_with (first | ((with_reducible refine gate_dst (N := 14) rfl ?_); (try (refine gate_guard (by rfl) ?_; dsimp only)); refine box_event ?hg (N := 14) ?hd (cs := #[.slice none 0 0]) (t := 54) ?hr ?_; (case hd => rfl); (case hg => rfl); (case hr => first | (go_simp; done) | (go_simp; rfl)); intro gb657 hg w132 hbox hb; have BK657 := Aside0.mk (hbox); have GW657 := sQ hg HB; have GE657 := sQ hg HB; have NB622_657 := qL hg BK622; have NB657_622 := qG hg BK622; have NB626_657 := qL hg BK626; have NB657_626 := qG hg BK626; have NB632_657 := qL hg BK632; have NB657_632 := qG hg BK632; have NB637_657 := qL hg BK637; have NB657_637 := qG hg BK637; replace HO_10 := rob HO_10 hb; replace HO_623000 := rob HO_623000 hb; replace HO_633000 := rob HO_633000 hb; replace HO_638000 := rob HO_638000 hb; replace HO650 := rob HO650 hb; replace HO653 := rob HO653 hb; replace HO656 := rob HO656 hb; replace BK622 := bkb BK622 hb; replace BK626 := bkb BK626 hb; replace BK632 := bkb BK632 hb; replace BK637 := bkb BK637 hb; replace HB := hbs HB hb; clear hb hbox hg; have hnb133 := NB657_622.out; have hnc133 := NB622_657.out; have hnb134 := NB657_626.out; have hnc134 := NB626_657.out; have hnb135 := NB657_632.out; have hnc135 := NB632_657.out; have hnb136 := NB657_637.out; have hnc136 := NB637_657.out; have hcz137_0 : w132.cell? ⟨gb657, 0, none⟩ = some (.slice none 0 0) := (blk_cell BK657.out 0).trans rfl; have hfz137_0 := blk_frozen BK657.out 0))
         go_loopg [15, 16] k2 (fun kq v15 v16 w' => ∃ (x15_3 : Bool) (x16_3 : Int) (x658000_3 : List Int) (u658000 : Value), v15 = .bool x15_3 ∧ v16 = .int .i64 x16_3 ∧ Aside0 (laws_FnStocks.l1 kq t627 (wrap64 (t647 * 8)) t654 x15_3 x16_3 t619 t623 t624 t625 x658000_3 = some r) ∧ Aside0 (kq ≤ k2) ∧ Aside0 (Kd.R (Kd.int .i64) 3 w' w.heap.size (fun k_ => some k_ ≠ ((.slice Ao13 t619.length co13) : Value).ownBlock ∧ some k_ ≠ ((.slice Ao25 t628.length co25) : Value).ownBlock ∧ some k_ ≠ ((.slice Ao33 t633.length co33) : Value).ownBlock ∧ some k_ ≠ (u658000 : Value).ownBlock) (.slice Ao126 t654.length co126) t654) ∧ Aside0 (Kd.R (Kd.int .i64) 3 w' w.heap.size (fun k_ => some k_ ≠ ((.slice Ao126 t654.length co126) : Value).ownBlock ∧ some k_ ≠ ((.slice Ao25 t628.length co25) : Value).ownBlock ∧ some k_ ≠ ((.slice Ao33 t633.length co33) : Value).ownBlock) (.slice Ao13 t619.length co13) t619) ∧ Aside0 (Kd.R (Kd.int .i64) 3 w' w.heap.size (fun k_ => some k_ ≠ ((.slice Ao126 t654.length co126) : Value).ownBlock ∧ some k_ ≠ ((.slice Ao13 t619.length co13) : Value).ownBlock ∧ some k_ ≠ ((.slice Ao33 t633.length co33) : Value).ownBlock ∧ some k_ ≠ (u658000 : Value).ownBlock) (.slice Ao25 t628.length co25) t628) ∧ Aside0 (Kd.R (Kd.int .i64) 3 w' w.heap.size (fun k_ => some k_ ≠ ((.slice Ao126 t654.length co126) : Value).ownBlock ∧ some k_ ≠ ((.slice Ao13 t619.length co13) : Value).ownBlock ∧ some k_ ≠ ((.slice Ao25 t628.length co25) : Value).ownBlock ∧ some k_ ≠ (u658000 : Value).ownBlock) (.slice Ao33 t633.length co33) t633) ∧ Aside0 (Kd.R (Kd.int .i64) 3 w' w.heap.size (fun k_ => some k_ ≠ ((.slice Ao126 t654.length co126) : Value).ownBlock ∧ some k_ ≠ ((.slice Ao25 t628.length co25) : Value).ownBlock ∧ some k_ ≠ ((.slice Ao33 t633.length co33) : Value).ownBlock) u658000 x658000_3) ∧ Aside0 (w'.heap[gb622]? = some (.cells #[(.slice Ao13 t619.length co13)] 54 (0, 0))) ∧ Aside0 (w'.heap[gb626]? = some (.cells #[.int .i64 t623, .int .i64 t624, .int .i64 t625] 56 (0, 0))) ∧ Aside0 (w'.heap[gb632]? = some (.cells #[(.slice Ao25 t628.length co25)] 54 (0, 0))) ∧ Aside0 (w'.heap[gb637]? = some (.cells #[(.slice Ao33 t633.length co33)] 54 (0, 0))) ∧ Aside0 (w'.heap[gb657]? = some (.cells #[u658000] 54 (0, 0))) ∧ Aside0 (Below w.heap.size w w'))
         case atStart => exact ⟨(true), (0), (t619), (.slice Ao13 t619.length co13), (by first | rfl | (simp; done) | (simp [*]; done)), (by first | rfl | (simp; done) | (simp [*]; done)), H', ⟨Nat.le_refl _⟩, ⟨Kd.Rq (Kd.R_mono (Kd.R_far (p := ⟨gb657, 0, none⟩) (Kd.R_types HO656.out BK657.out (by decide)) (fun _ hk => hk.2) (.slice Ao13 t619.length co13)) (fun _ hk => ⟨hk.1.1.1.1.2, ⟨hk.1.1.1.2, ⟨hk.1.1.2, hk.1.1.1.1.2⟩⟩⟩))⟩, ⟨Kd.Rq (Kd.R_mono (Kd.R_far (p := ⟨gb657, 0, none⟩) (Kd.R_types HO_623000.out BK657.out (by decide)) (fun _ hk => hk.2) (.slice Ao13 t619.length co13)) (fun _ hk => ⟨hk.1.2, ⟨hk.1.1.1.2.1, hk.1.1.1.2.2⟩⟩))⟩, ⟨Kd.Rq (Kd.R_mono (Kd.R_far (p := ⟨gb657, 0, none⟩) (Kd.R_types HO_633000.out BK657.out (by decide)) (fun _ hk => hk.2) (.slice Ao13 t619.length co13)) (fun _ hk => ⟨hk.1.2, ⟨hk.1.1.1.2.1, ⟨hk.1.1.1.2.2, hk.1.1.1.2.1⟩⟩⟩))⟩, ⟨Kd.Rq (Kd.R_mono (Kd.R_far (p := ⟨gb657, 0, none⟩) (Kd.R_types HO_638000.out BK657.out (by decide)) (fun _ hk => hk.2) (.slice Ao13 t619.length co13)) (fun _ hk => ⟨hk.1.2, ⟨hk.1.1.1.2.1, ⟨hk.1.1.1.2.2, hk.1.1.1.2.1⟩⟩⟩))⟩, ⟨Kd.Rq (Kd.R_mono (Kd.R_far (p := ⟨gb657, 0, none⟩) (Kd.R_types HO_623000.out BK657.out (by decide)) (fun _ hk => hk.2) (.slice Ao13 t619.length co13)) (fun _ hk => ⟨hk.1.2, ⟨hk.1.1.1.2.1, hk.1.1.1.2.2⟩⟩))⟩, ⟨by (with_reducible repeat (first | refine blk_drewN ?_ _ | refine blk_drew ?_ | refine blk_alloc ?_ _)); refine blk_far ?_ NB622_657.out _; (with_reducible repeat (first | refine blk_drewN ?_ _ | refine blk_drew ?_ | refine blk_alloc ?_ _)); exact BK622.out⟩, ⟨by (with_reducible repeat (first | refine blk_drewN ?_ _ | refine blk_drew ?_ | refine blk_alloc ?_ _)); refine blk_far ?_ NB626_657.out _; (with_reducible repeat (first | refine blk_drewN ?_ _ | refine blk_drew ?_ | refine blk_alloc ?_ _)); exact BK626.out⟩, ⟨by (with_reducible repeat (first | refine blk_drewN ?_ _ | refine blk_drew ?_ | refine blk_alloc ?_ _)); refine blk_far ?_ NB632_657.out _; (with_reducible repeat (first | refine blk_drewN ?_ _ | refine blk_drew ?_ | refine blk_alloc ?_ _)); exact BK632.out⟩, ⟨by (with_reducible repeat (first | refine blk_drewN ?_ _ | refine blk_drew ?_ | refine blk_alloc ?_ _)); refine blk_far ?_ NB637_657.out _; (with_reducible repeat (first | refine blk_drewN ?_ _ | refine blk_drew ?_ | refine blk_alloc ?_ _)); exact BK637.out⟩, ⟨by (with_reducible repeat (first | refine blk_drewN ?_ _ | refine blk_drew ?_ | refine blk_alloc ?_ _)); refine blk_put (cs := #[.slice none 0 0]) ?_ 0 _ rfl; (with_reducible repeat (first | refine blk_drewN ?_ _ | refine blk_drew ?_ | refine blk_alloc ?_ _)); exact BK657.out⟩, ⟨blq HB.out⟩⟩
         case round =>
          clear H'
          try clear c1
          try clear c2
          try clear p2
          try clear c3
          try clear c4
          try clear c5
          try clear c6
          try clear p6
          try clear q6
          try clear hx6
          try clear c7
          try clear c8
          try clear c9
          try clear c10
          try clear c11
          try clear c12
          try clear c13
          try clear c15
          try clear c17
          try clear c23
          try clear c26
          try clear c27
          try clear c34
          try clear c35
          try clear c36
          try clear c38
          try clear c38b0
          try clear c39
          try clear c40
          try clear c41
          try clear c42
          try clear c43
          try clear c44
          try clear c44b0
          try clear c44b1
          try clear c46
          try clear c46b0
          try clear c47
          try clear c48
          try clear c49
          try clear c52
          try clear c53
          try clear c55
          try clear c61
          try clear c62
          try clear c63
          try clear p64
          try clear q64
          try clear hx64
          try clear c66
          try clear c67
          try clear c69
          try clear c76
          try clear c77
          try clear c78
          try clear c81
          try clear c82
          try clear c84
          try clear c87
          try clear c88
          try clear c89
          try clear c92
          try clear c94
          try clear c95
          try clear c96
          try clear c99
          try clear c99b0
          try clear c100
          try clear c100b0
          try clear c101
          try clear c101b0
          try clear c102
          try clear c102b0
          try clear c103
          try clear c103b0
          try clear c104
          try clear c104b0
          try clear c104b1
          try clear c112
          try clear c113
          try clear c114
          try clear c116
          try clear c117
          try clear c127
          try clear c127b0
          try clear c127b1
          try clear c128
          try clear c129
          try clear c130
          try clear c133
          try clear c134
          try clear c135
          try clear c136
          try clear hcz115_0
          try clear hcz118_0
          try clear hcz118_1
          try clear hcz118_2
          try clear hcz131_0
          try clear hcz137_0
          try clear hcz14_0
          try clear hcz18_0
          try clear hcz18_1
          try clear hcz18_2
          try clear hcz19_0
          try clear hcz21_0
          try clear hcz22_0
          try clear hcz22_1
          try clear hcz22_2
          try clear hcz28_0
          try clear hcz29_0
          try clear hcz30_0
          try clear hcz30_1
          try clear hcz30_2
          try clear hcz37_0
          try clear hcz50_0
          try clear hcz54_0
          try clear hcz56_0
          try clear hcz56_1
          try clear hcz56_2
          try clear hcz58_0
          try clear hcz59_0
          try clear hcz59_1
          try clear hcz59_2
          try clear hcz64_0
          try clear hcz68_0
          try clear hcz70_0
          try clear hcz70_1
          try clear hcz70_2
          try clear hcz72_0
          try clear hcz73_0
          try clear hcz73_1
          try clear hcz73_2
          try clear hcz75_0
          try clear hcz79_0
          try clear hcz83_0
          try clear hcz85_0
          try clear hcz85_1
          try clear hcz85_2
          try clear hcz90_0
          try clear hcz97_0
          try clear hcz97_1
          try clear hcz97_2
          try clear hfz115_0
          try clear hfz118_0
          try clear hfz118_1
          try clear hfz118_2
          try clear hfz131_0
          try clear hfz137_0
          try clear hfz14_0
          try clear hfz18_0
          try clear hfz18_1
          try clear hfz18_2
          try clear hfz19_0
          try clear hfz21_0
          try clear hfz22_0
          try clear hfz22_1
          try clear hfz22_2
          try clear hfz28_0
          try clear hfz29_0
          try clear hfz30_0
          try clear hfz30_1
          try clear hfz30_2
          try clear hfz37_0
          try clear hfz50_0
          try clear hfz54_0
          try clear hfz56_0
          try clear hfz56_1
          try clear hfz56_2
          try clear hfz58_0
          try clear hfz59_0
          try clear hfz59_1
          try clear hfz59_2
          try clear hfz64_0
          try clear hfz68_0
          try clear hfz70_0
          try clear hfz70_1
          try clear hfz70_2
          try clear hfz72_0
          try clear hfz73_0
          try clear hfz73_1
          try clear hfz73_2
          try clear hfz75_0
          try clear hfz79_0
          try clear hfz83_0
          try clear hfz85_0
          try clear hfz85_1
          try clear hfz85_2
          try clear hfz90_0
          try clear hfz97_0
          try clear hfz97_1
          try clear hfz97_2
          try clear hx644_0
          try clear hx645_0
          try clear hx646_0
          try clear p2
          try clear p6
          try clear p64
          try clear p644
          try clear p645
          try clear p646
          try clear q644
          try clear q645
          try clear q646
          obtain ⟨x15_3, x16_3, x658000_3, u658000, rfl, rfl, HA, HK3, HO_13, HO_623000, HO_633000, HO_638000, HO_658000, BK622, BK626, BK632, BK637, BK657, HB⟩ := hrel
          cases gk with
          | zero => exact absurd HA.out (by simp [laws_FnStocks.l1])
          | succ k3 =>
           have H := HA.out
           clear HA
           simp only [laws_FnStocks.l1] at H
           by_cases c138 : x16_3 < 4
           ·
            rw [if_pos c138] at H
            have c138b0 : decide (x16_3 < 4) = true := decide_eq_true c138
            clear c138
            by_cases c139 : 0 ≤ x16_3
            ·
             rw [if_pos c139] at H
             have c139b0 : decide (0 ≤ x16_3) = true := decide_eq_true c139
             clear c139
             by_cases c140 : x16_3 < (t654.length : Int)
             ·
              rw [if_pos c140] at H
              have c140b0 : decide (x16_3 < (t654.length : Int)) = true := decide_eq_true c140
              clear c140
              replace H := Option.bind_eq_some_iff.mp H
              obtain ⟨⟨t659, t662⟩, A1410, H⟩ := H
              replace H : (if t662 = true then (if (rd t654 x16_3) < 0 then (some false) else (if x15_3 = true then (laws_FnStocks.l1 k3 t627 (wrap64 (t647 * 8)) t654 ((rd t654 x16_3) == 0) (wrap64 (x16_3 + 1)) t619 t623 t624 t625 t659) else (laws_FnStocks.l1 k3 t627 (wrap64 (t647 * 8)) t654 false (wrap64 (x16_3 + 1)) t619 t623 t624 t625 t659))) else (some false)) = some r := H
              have A141 := Aside0.mk A1410
              clear A1410
              have HF142 := Aside0.mk H
              clear H
              obtain ⟨Ao143, co143, eo143⟩ := Kd.R_slice HO_658000.out
              subst eo143
              try go_wp2
              replace HO_13 := Aside0.mk (Kd.R_drew HO_13.out)
              replace HO_623000 := Aside0.mk (Kd.R_drew HO_623000.out)
              replace HO_633000 := Aside0.mk (Kd.R_drew HO_633000.out)
              replace HO_638000 := Aside0.mk (Kd.R_drew HO_638000.out)
              replace HO_658000 := Aside0.mk (Kd.R_drew HO_658000.out)
              replace BK622 := Aside0.mk (blk_drew BK622.out)
              replace BK626 := Aside0.mk (blk_drew BK626.out)
              replace BK632 := Aside0.mk (blk_drew BK632.out)
              replace BK637 := Aside0.mk (blk_drew BK637.out)
              replace BK657 := Aside0.mk (blk_drew BK657.out)
              replace HB := Aside0.mk (below_drew1 HB.out)
              have p658 : 0 ≤ (x16_3 : Int) := of_decide_eq_true (by first | (with_reducible assumption) | assumption)
              have q658 : x16_3 < (t654.length : Int) := of_decide_eq_true (by first | (with_reducible assumption) | assumption)
              obtain ⟨ad658, e658, hx658_0⟩ := Kd.at_int (Kd.R_reads' HO_13.out).2.2 x16_3 p658 q658
              cases e658
              replace p658 := eq_true p658
              replace q658 := eq_true q658
              refine start_ (n := 13) (S := fun w' => w'.cell? ⟨gb657, 0, none⟩ = some (.slice Ao143 x658000_3.length co143) ∧ w'.cell? (ad658.add (x16_3).toNat) = some (.int .i64 (rd t654 x16_3))) (ds := []) #[false, false, false, false, false, false, false, false, false, false, false, false, false] (by kernel_rfl) rfl rfl ⟨(blk_cell BK657.out 0).trans rfl, hx658_0⟩ (fun hHeld => ?_); refine with_tabW laws_FnStocks.tab25 laws_FnStocks.bits25 (fun HT_ HW_ => ?_)
              generalize wr.drew = w144 at HO_13 HO_623000 HO_633000 HO_638000 HO_658000 BK622 BK626 BK632 BK637 BK657 HB hx658_0 hHeld ⊢
              refine pure_ (i := 1) (N := some 124) (v := ?_) (a' := ?_) #[false, true, false, false, false, false, false, false, false, false, false, false, false] rfl rfl (any_of HT_.out (by kernel_rfl)) (fun _ _ _ h => h) (Or.inl ⟨by rfl, ?_⟩) ?_ ?_
              rotate_left
              ·
               intro w'
               go_simp
               with_reducible rfl
              rotate_left
              ·
               simp only [Act.put, List.setIfInBounds_toArray, List.set_cons_zero, List.set_cons_succ, i64_w, i32_w]
               rfl
              refine pure_ (i := 2) (N := some 125) (v := ?_) (a' := ?_) #[false, true, true, false, false, false, false, false, false, false, false, false, false] rfl rfl (any_of HT_.out (by kernel_rfl)) (fun _ _ _ h => h) (Or.inl ⟨by rfl, ?_⟩) ?_ ?_
              rotate_left
              ·
               intro w'
               go_simp
               with_reducible rfl
              rotate_left
              ·
               simp only [Act.put, List.setIfInBounds_toArray, List.set_cons_zero, List.set_cons_succ, i64_w, i32_w]
               rfl
              refine pure_ (i := 3) (N := some 126) (v := ?_) (a' := ?_) #[false, true, true, true, false, false, false, false, false, false, false, false, false] rfl rfl (any_of HT_.out (by kernel_rfl)) (fun _ _ _ h => h) (Or.inl ⟨by rfl, ?_⟩) ?_ ?_
              rotate_left
              ·
               intro w'
               go_simp
               with_reducible rfl
              rotate_left
              ·
               simp only [Act.put, List.setIfInBounds_toArray, List.set_cons_zero, List.set_cons_succ, i64_w, i32_w]
               rfl
              refine pure_ (i := 4) (N := some 127) (v := ?_) (a' := ?_) #[false, true, true, true, true, false, false, false, false, false, false, false, false] rfl rfl (any_of HT_.out (by kernel_rfl)) (fun _ _ _ h => h) (Or.inl ⟨by rfl, ?_⟩) ?_ ?_
              rotate_left
              ·
               intro w'
               go_simp
               with_reducible rfl
              rotate_left
              ·
               simp only [Act.put, List.setIfInBounds_toArray, List.set_cons_zero, List.set_cons_succ, i64_w, i32_w]
               rfl
              refine take_ (i := 0) (N := some 123) (v := ?_) (a' := ?_) #[true, true, true, true, true, false, false, false, false, false, false, false, false] rfl rfl (take_ofW HT_.out HW_.out (by kernel_rfl)) (fun _ _ _ h => h) (Or.inl ⟨by rfl, ?_⟩) hHeld ?_ ?_
              rotate_left
              ·
               rintro w' ⟨s0, s1⟩
               go_simp
               with_reducible rfl
              rotate_left
              ·
               simp only [Act.put, List.setIfInBounds_toArray, List.set_cons_zero, List.set_cons_succ, i64_w, i32_w]
               rfl
              refine take_ (i := 5) (N := some 128) (v := ?_) (a' := ?_) #[true, true, true, true, true, true, false, false, false, false, false, false, false] rfl rfl (take_ofW HT_.out HW_.out (by kernel_rfl)) (fun _ _ _ h => h) (Or.inl ⟨by rfl, ?_⟩) hHeld ?_ ?_
              rotate_left
              ·
               rintro w' ⟨s0, s1⟩
               go_simp
               with_reducible rfl
              rotate_left
              ·
               simp only [Act.put, List.setIfInBounds_toArray, List.set_cons_zero, List.set_cons_succ, i64_w, i32_w]
               rfl
              refine join_ (σ := Value × Nat) 2 #[true, true, true, true, true, true, true, true, true, true, true, false, false] (fun s_ => [(129, .tuple #[.agg #[s_.1], .bool t662]), (17, .pointer (some ⟨s_.2, 0, none⟩)), (122, .tuple #[.agg #[s_.1], .bool t662]), (130, .agg #[s_.1]), (131, .bool t662)]) (fun s_ w' => (w'.cell? ⟨gb657, 0, none⟩ = some (.slice Ao143 x658000_3.length co143) ∧ w'.cell? (ad658.add (x16_3).toNat) = some (.int .i64 (rd t654 x16_3))) ∧ (Kd.R (Kd.int .i64) 3 w' w.heap.size (fun k_ => some k_ ≠ (.slice (some ad658) t654.length co126 : Value).ownBlock ∧ some k_ ≠ (.slice Ao13 t619.length co13 : Value).ownBlock ∧ some k_ ≠ (.slice Ao25 t628.length co25 : Value).ownBlock ∧ some k_ ≠ (.slice Ao33 t633.length co33 : Value).ownBlock ∧ some k_ ≠ (.slice Ao143 x658000_3.length co143 : Value).ownBlock) s_.1 t659) ∧ (Kd.R (Kd.int .i64) 3 w' w.heap.size (fun k_ => some k_ ≠ (s_.1 : Value).ownBlock ∧ some k_ ≠ (.slice Ao13 t619.length co13 : Value).ownBlock ∧ some k_ ≠ (.slice Ao25 t628.length co25 : Value).ownBlock ∧ some k_ ≠ (.slice Ao33 t633.length co33 : Value).ownBlock ∧ some k_ ≠ (.slice Ao143 x658000_3.length co143 : Value).ownBlock) (.slice (some ad658) t654.length co126) t654) ∧ (Kd.R (Kd.int .i64) 3 w' w.heap.size (fun k_ => some k_ ≠ (s_.1 : Value).ownBlock ∧ some k_ ≠ (.slice (some ad658) t654.length co126 : Value).ownBlock ∧ some k_ ≠ (.slice Ao25 t628.length co25 : Value).ownBlock ∧ some k_ ≠ (.slice Ao33 t633.length co33 : Value).ownBlock) (.slice Ao13 t619.length co13) t619) ∧ (Kd.R (Kd.int .i64) 3 w' w.heap.size (fun k_ => some k_ ≠ (s_.1 : Value).ownBlock ∧ some k_ ≠ (.slice (some ad658) t654.length co126 : Value).ownBlock ∧ some k_ ≠ (.slice Ao13 t619.length co13 : Value).ownBlock ∧ some k_ ≠ (.slice Ao33 t633.length co33 : Value).ownBlock ∧ some k_ ≠ (.slice Ao143 x658000_3.length co143 : Value).ownBlock) (.slice Ao25 t628.length co25) t628) ∧ (Kd.R (Kd.int .i64) 3 w' w.heap.size (fun k_ => some k_ ≠ (s_.1 : Value).ownBlock ∧ some k_ ≠ (.slice (some ad658) t654.length co126 : Value).ownBlock ∧ some k_ ≠ (.slice Ao13 t619.length co13 : Value).ownBlock ∧ some k_ ≠ (.slice Ao25 t628.length co25 : Value).ownBlock ∧ some k_ ≠ (.slice Ao143 x658000_3.length co143 : Value).ownBlock) (.slice Ao33 t633.length co33) t633) ∧ (Kd.R (Kd.int .i64) 3 w' w.heap.size (fun k_ => some k_ ≠ (s_.1 : Value).ownBlock ∧ some k_ ≠ (.slice (some ad658) t654.length co126 : Value).ownBlock ∧ some k_ ≠ (.slice Ao25 t628.length co25 : Value).ownBlock ∧ some k_ ≠ (.slice Ao33 t633.length co33 : Value).ownBlock) (.slice Ao143 x658000_3.length co143) x658000_3) ∧ (w'.heap[gb622]? = some (.cells #[.slice Ao13 t619.length co13] 54 (0, 0))) ∧ (w'.heap[gb626]? = some (.cells #[.int .i64 t623, .int .i64 t624, .int .i64 t625] 56 (0, 0))) ∧ (w'.heap[gb632]? = some (.cells #[.slice Ao25 t628.length co25] 54 (0, 0))) ∧ (w'.heap[gb637]? = some (.cells #[.slice Ao33 t633.length co33] 54 (0, 0))) ∧ (w'.heap[gb657]? = some (.cells #[.slice Ao143 x658000_3.length co143] 54 (0, 0))) ∧ (w'.heap[s_.2]? = some (.cells #[.slice none 0 0] 54 (0, 0))) ∧ (w.heap.size ≤ s_.2) ∧ (w.heap.size ≤ s_.2) ∧ (gb622 ≠ s_.2) ∧ (s_.2 ≠ gb622) ∧ (gb626 ≠ s_.2) ∧ (s_.2 ≠ gb626) ∧ (gb632 ≠ s_.2) ∧ (s_.2 ≠ gb632) ∧ (gb637 ≠ s_.2) ∧ (s_.2 ≠ gb637) ∧ (gb657 ≠ s_.2) ∧ (s_.2 ≠ gb657) ∧ (Below w.heap.size w w')) ?_ ?_
              rotate_left
              ·
               intro hCont
               refine two_ (i := 6) (j := 10) (Ni := some 129) (Nj := some 17) #[true, true, true, true, true, true, true, false, false, false, false, false, false] #[true, true, true, true, true, true, false, false, false, false, true, false, false] rfl rfl rfl rfl (two_of HT_.out (by kernel_rfl)) (by decide) (by decide) (fun K hK => ?_) (fun K hK => ?_)
               ·
                skip
                refine goes_ Try.func48 (by kernel_rfl) rfl #[.agg #[.slice Ao143 x658000_3.length co143], .int .i64 x16_3, .int .i64 (rd t654 x16_3)] (by rfl) rfl rfl (by (try simp only [List.map_toArray, List.map_cons, List.map_nil]); first | done | rfl | (simp only [List.length_drop, List.length_take]; rfl)) ?_
                with_reducible refine (impl_FillStock.calls k3 _ _ x658000_3 x16_3 (rd t654 x16_3) t659 t662 _ ?side1 ?side2 A141.out).mono ?_
                (case side1 => repeat (first | exact (Kd.R_reads' HO_658000.out).2.2 | (with_reducible refine Kd.C_alloc ?_ _) | (with_reducible refine Kd.C_drewN ?_ _) | (with_reducible refine Kd.C_drew ?_)))
                (case side2 => exact (Kd.R_reads' HO_658000.out).2.1)
                rintro e w145 ⟨v660, rfl, ho0, hb⟩
                have HS1_ := (hb.cell (World.block_lt_of_cell? _ _ (hHeld.2))).trans (hHeld.2)
                refine ⟨_, rfl, ?_⟩
                have HO661 := Aside0.mk (Kd.R_lower (Kd.R_new' (Kd.R_new' (Kd.R_new' (Kd.R_new' (Kd.R_new' ho0 (Kd.R_lt (Kd.Rq HO_13.out))) (Kd.R_lt (Kd.Rq HO_623000.out))) (Kd.R_lt (Kd.Rq HO_633000.out))) (Kd.R_lt (Kd.Rq HO_638000.out))) (Kd.R_lt (Kd.Rq HO_658000.out))) (below_size (blq HB.out)))
                replace HO_13 := Aside0.mk (Kd.R_elder' (Kd.Rq HO_13.out) (Kd.R_base ho0) hb)
                replace HO_623000 := Aside0.mk (Kd.R_elder' (Kd.Rq HO_623000.out) (Kd.R_base ho0) hb)
                replace HO_633000 := Aside0.mk (Kd.R_elder' (Kd.Rq HO_633000.out) (Kd.R_base ho0) hb)
                replace HO_638000 := Aside0.mk (Kd.R_elder' (Kd.Rq HO_638000.out) (Kd.R_base ho0) hb)
                replace HO_658000 := Aside0.mk (Kd.R_elder' (Kd.Rq HO_658000.out) (Kd.R_base ho0) hb)
                replace BK622 := bkb BK622 hb
                replace BK626 := bkb BK626 hb
                replace BK632 := bkb BK632 hb
                replace BK637 := bkb BK637 hb
                replace BK657 := bkb BK657 hb
                replace HB := hbs HB hb
                (try clear hb)
                (try clear hb2)
                (try clear hk)
                (try clear hi)
                (try clear ho0)
                refine hK.out _ _ ⟨(blk_cell BK657.out 0).trans rfl, HS1_⟩ (fun hHeld => ?_)
                clear hK K
                refine norm_ (a' := ?_) ?_ ?_
                rotate_left
                ·
                 show Act.put _ (some 129) _ = _
                 simp only [Act.put, List.setIfInBounds_toArray, List.set_cons_zero, List.set_cons_succ, i64_w, i32_w]
                 rfl
                refine pure_ (i := 7) (N := some 122) (v := ?_) (a' := ?_) #[true, true, true, true, true, true, true, true, false, false, false, false, false] rfl rfl (any_of HT_.out (by kernel_rfl)) (fun _ _ _ h => h) (Or.inl ⟨by rfl, ?_⟩) ?_ ?_
                rotate_left
                ·
                 intro w'
                 go_simp
                 with_reducible rfl
                rotate_left
                ·
                 simp only [Act.put, List.setIfInBounds_toArray, List.set_cons_zero, List.set_cons_succ, i64_w, i32_w]
                 rfl
                refine pure_ (i := 8) (N := some 130) (v := ?_) (a' := ?_) #[true, true, true, true, true, true, true, true, true, false, false, false, false] rfl rfl (any_of HT_.out (by kernel_rfl)) (fun _ _ _ h => h) (Or.inl ⟨by rfl, ?_⟩) ?_ ?_
                rotate_left
                ·
                 intro w'
                 go_simp
                 with_reducible rfl
                rotate_left
                ·
                 simp only [Act.put, List.setIfInBounds_toArray, List.set_cons_zero, List.set_cons_succ, i64_w, i32_w]
                 rfl
                refine pure_ (i := 9) (N := some 131) (v := ?_) (a' := ?_) #[true, true, true, true, true, true, true, true, true, true, false, false, false] rfl rfl (any_of HT_.out (by kernel_rfl)) (fun _ _ _ h => h) (Or.inl ⟨by rfl, ?_⟩) ?_ ?_
                rotate_left
                ·
                 intro w'
                 go_simp
                 with_reducible rfl
                rotate_left
                ·
                 simp only [Act.put, List.setIfInBounds_toArray, List.set_cons_zero, List.set_cons_succ, i64_w, i32_w]
                 rfl
                refine one_ (i := 10) (N := some 17) #[true, true, true, true, true, true, true, true, true, true, true, false, false] rfl rfl (one_of HT_.out (by kernel_rfl)) (by decide) (fun K hK => ?_)
                refine box_step ?hg (N := 17) ?hd (cs := #[.slice none 0 0]) (t := 54) ?hr ?_; (case hd => rfl); (case hg => rfl); (case hr => first | (go_simp; done) | (go_simp; rfl))
                intro gb663 hg w146 hbox hb
                have HS1_ := (hb.cell (World.block_lt_of_cell? _ _ (hHeld.2))).trans (hHeld.2)
                have BK663 := Aside0.mk (hbox)
                have GW663 := sQ hg HB
                have GE663 := sQ hg HB
                have NB622_663 := qL hg BK622
                have NB663_622 := qG hg BK622
                have NB626_663 := qL hg BK626
                have NB663_626 := qG hg BK626
                have NB632_663 := qL hg BK632
                have NB663_632 := qG hg BK632
                have NB637_663 := qL hg BK637
                have NB663_637 := qG hg BK637
                have NB657_663 := qL hg BK657
                have NB663_657 := qG hg BK657
                replace HO_13 := rob HO_13 hb
                replace HO_623000 := rob HO_623000 hb
                replace HO_633000 := rob HO_633000 hb
                replace HO_638000 := rob HO_638000 hb
                replace HO_658000 := rob HO_658000 hb
                replace HO661 := rob HO661 hb
                replace BK622 := bkb BK622 hb
                replace BK626 := bkb BK626 hb
                replace BK632 := bkb BK632 hb
                replace BK637 := bkb BK637 hb
                replace BK657 := bkb BK657 hb
                replace HB := hbs HB hb
                clear hb hbox hg
                refine hK.out _ _ ⟨(blk_cell BK657.out 0).trans rfl, HS1_⟩ (fun hHeld => ?_)
                clear hK K
                refine norm_ (a' := ?_) ?_ ?_
                rotate_left
                ·
                 show Act.put _ (some 17) _ = _
                 simp only [Act.put, List.setIfInBounds_toArray, List.set_cons_zero, List.set_cons_succ, i64_w, i32_w]
                 rfl
                exact norm_ (by simp only [putAll, Act.put, List.setIfInBounds_toArray, List.set_cons_zero, List.set_cons_succ]) (hCont (v660, gb663) _ ⟨hHeld, (Kd.Rq (Kd.R_mono HO661.out (fun _ hk => ⟨hk.1.1.1.1.2, ⟨hk.1.1.1.2, ⟨hk.1.1.2, ⟨hk.1.2, hk.2⟩⟩⟩⟩))), (Kd.Rq (Kd.R_mono HO_13.out (fun _ hk => ⟨hk.2, ⟨hk.1.1, ⟨hk.1.2.1, ⟨hk.1.2.2.1, hk.1.2.2.2⟩⟩⟩⟩))), (Kd.Rq (Kd.R_mono HO_623000.out (fun _ hk => ⟨hk.2, ⟨hk.1.1, ⟨hk.1.2.1, hk.1.2.2⟩⟩⟩))), (Kd.Rq (Kd.R_mono HO_633000.out (fun _ hk => ⟨hk.2, ⟨hk.1.1, ⟨hk.1.2.1, ⟨hk.1.2.2.1, hk.1.2.2.2⟩⟩⟩⟩))), (Kd.Rq (Kd.R_mono HO_638000.out (fun _ hk => ⟨hk.2, ⟨hk.1.1, ⟨hk.1.2.1, ⟨hk.1.2.2.1, hk.1.2.2.2⟩⟩⟩⟩))), (Kd.Rq (Kd.R_mono HO_658000.out (fun _ hk => ⟨hk.2, ⟨hk.1.1, ⟨hk.1.2.1, hk.1.2.2⟩⟩⟩))), (bkq BK622.out), (bkq BK626.out), (bkq BK632.out), (bkq BK637.out), (bkq BK657.out), (bkq BK663.out), GW663.out, GE663.out, NB622_663.out, NB663_622.out, NB626_663.out, NB663_626.out, NB632_663.out, NB663_632.out, NB637_663.out, NB663_637.out, NB657_663.out, NB663_657.out, (blq HB.out)⟩)
               ·
                skip
                refine box_step ?hg (N := 17) ?hd (cs := #[.slice none 0 0]) (t := 54) ?hr ?_; (case hd => rfl); (case hg => rfl); (case hr => first | (go_simp; done) | (go_simp; rfl))
                intro gb663 hg w145 hbox hb
                have HS1_ := (hb.cell (World.block_lt_of_cell? _ _ (hHeld.2))).trans (hHeld.2)
                have BK663 := Aside0.mk (hbox)
                have GW663 := sQ hg HB
                have GE663 := sQ hg HB
                have NB622_663 := qL hg BK622
                have NB663_622 := qG hg BK622
                have NB626_663 := qL hg BK626
                have NB663_626 := qG hg BK626
                have NB632_663 := qL hg BK632
                have NB663_632 := qG hg BK632
                have NB637_663 := qL hg BK637
                have NB663_637 := qG hg BK637
                have NB657_663 := qL hg BK657
                have NB663_657 := qG hg BK657
                replace HO_13 := rob HO_13 hb
                replace HO_623000 := rob HO_623000 hb
                replace HO_633000 := rob HO_633000 hb
                replace HO_638000 := rob HO_638000 hb
                replace HO_658000 := rob HO_658000 hb
                replace BK622 := bkb BK622 hb
                replace BK626 := bkb BK626 hb
                replace BK632 := bkb BK632 hb
                replace BK637 := bkb BK637 hb
                replace BK657 := bkb BK657 hb
                replace HB := hbs HB hb
                clear hb hbox hg
                refine hK.out _ _ ⟨(blk_cell BK657.out 0).trans rfl, HS1_⟩ (fun hHeld => ?_)
                clear hK K
                refine norm_ (a' := ?_) ?_ ?_
                rotate_left
                ·
                 show Act.put _ (some 17) _ = _
                 simp only [Act.put, List.setIfInBounds_toArray, List.set_cons_zero, List.set_cons_succ, i64_w, i32_w]
                 rfl
                refine one_ (i := 6) (N := some 129) #[true, true, true, true, true, true, true, false, false, false, true, false, false] rfl rfl (one_of HT_.out (by kernel_rfl)) (by decide) (fun K hK => ?_)
                refine goes_ Try.func48 (by kernel_rfl) rfl #[.agg #[.slice Ao143 x658000_3.length co143], .int .i64 x16_3, .int .i64 (rd t654 x16_3)] (by rfl) rfl rfl (by (try simp only [List.map_toArray, List.map_cons, List.map_nil]); first | done | rfl | (simp only [List.length_drop, List.length_take]; rfl)) ?_
                with_reducible refine (impl_FillStock.calls k3 _ _ x658000_3 x16_3 (rd t654 x16_3) t659 t662 _ ?side1 ?side2 A141.out).mono ?_
                (case side1 => repeat (first | exact (Kd.R_reads' HO_658000.out).2.2 | (with_reducible refine Kd.C_alloc ?_ _) | (with_reducible refine Kd.C_drewN ?_ _) | (with_reducible refine Kd.C_drew ?_)))
                (case side2 => exact (Kd.R_reads' HO_658000.out).2.1)
                rintro e w146 ⟨v660, rfl, ho0, hb⟩
                have HS1_ := (hb.cell (World.block_lt_of_cell? _ _ (hHeld.2))).trans (hHeld.2)
                refine ⟨_, rfl, ?_⟩
                have HO661 := Aside0.mk (Kd.R_lower (Kd.R_new' (Kd.R_new' (Kd.R_new' (Kd.R_new' (Kd.R_new' ho0 (Kd.R_lt (Kd.Rq HO_13.out))) (Kd.R_lt (Kd.Rq HO_623000.out))) (Kd.R_lt (Kd.Rq HO_633000.out))) (Kd.R_lt (Kd.Rq HO_638000.out))) (Kd.R_lt (Kd.Rq HO_658000.out))) (below_size (blq HB.out)))
                replace HO_13 := Aside0.mk (Kd.R_elder' (Kd.Rq HO_13.out) (Kd.R_base ho0) hb)
                replace HO_623000 := Aside0.mk (Kd.R_elder' (Kd.Rq HO_623000.out) (Kd.R_base ho0) hb)
                replace HO_633000 := Aside0.mk (Kd.R_elder' (Kd.Rq HO_633000.out) (Kd.R_base ho0) hb)
                replace HO_638000 := Aside0.mk (Kd.R_elder' (Kd.Rq HO_638000.out) (Kd.R_base ho0) hb)
                replace HO_658000 := Aside0.mk (Kd.R_elder' (Kd.Rq HO_658000.out) (Kd.R_base ho0) hb)
                replace BK622 := bkb BK622 hb
                replace BK626 := bkb BK626 hb
                replace BK632 := bkb BK632 hb
                replace BK637 := bkb BK637 hb
                replace BK657 := bkb BK657 hb
                replace BK663 := bkb BK663 hb
                replace HB := hbs HB hb
                (try clear hb)
                (try clear hb2)
                (try clear hk)
                (try clear hi)
                (try clear ho0)
                refine hK.out _ _ ⟨(blk_cell BK657.out 0).trans rfl, HS1_⟩ (fun hHeld => ?_)
                clear hK K
                refine norm_ (a' := ?_) ?_ ?_
                rotate_left
                ·
                 show Act.put _ (some 129) _ = _
                 simp only [Act.put, List.setIfInBounds_toArray, List.set_cons_zero, List.set_cons_succ, i64_w, i32_w]
                 rfl
                refine pure_ (i := 7) (N := some 122) (v := ?_) (a' := ?_) #[true, true, true, true, true, true, true, true, false, false, true, false, false] rfl rfl (any_of HT_.out (by kernel_rfl)) (fun _ _ _ h => h) (Or.inl ⟨by rfl, ?_⟩) ?_ ?_
                rotate_left
                ·
                 intro w'
                 go_simp
                 with_reducible rfl
                rotate_left
                ·
                 simp only [Act.put, List.setIfInBounds_toArray, List.set_cons_zero, List.set_cons_succ, i64_w, i32_w]
                 rfl
                refine pure_ (i := 8) (N := some 130) (v := ?_) (a' := ?_) #[true, true, true, true, true, true, true, true, true, false, true, false, false] rfl rfl (any_of HT_.out (by kernel_rfl)) (fun _ _ _ h => h) (Or.inl ⟨by rfl, ?_⟩) ?_ ?_
                rotate_left
                ·
                 intro w'
                 go_simp
                 with_reducible rfl
                rotate_left
                ·
                 simp only [Act.put, List.setIfInBounds_toArray, List.set_cons_zero, List.set_cons_succ, i64_w, i32_w]
                 rfl
                refine pure_ (i := 9) (N := some 131) (v := ?_) (a' := ?_) #[true, true, true, true, true, true, true, true, true, true, true, false, false] rfl rfl (any_of HT_.out (by kernel_rfl)) (fun _ _ _ h => h) (Or.inl ⟨by rfl, ?_⟩) ?_ ?_
                rotate_left
                ·
                 intro w'
                 go_simp
                 with_reducible rfl
                rotate_left
                ·
                 simp only [Act.put, List.setIfInBounds_toArray, List.set_cons_zero, List.set_cons_succ, i64_w, i32_w]
                 rfl
                exact norm_ (by simp only [putAll, Act.put, List.setIfInBounds_toArray, List.set_cons_zero, List.set_cons_succ]) (hCont (v660, gb663) _ ⟨hHeld, (Kd.Rq (Kd.R_mono HO661.out (fun _ hk => ⟨hk.1.1.1.1.2, ⟨hk.1.1.1.2, ⟨hk.1.1.2, ⟨hk.1.2, hk.2⟩⟩⟩⟩))), (Kd.Rq (Kd.R_mono HO_13.out (fun _ hk => ⟨hk.2, ⟨hk.1.1, ⟨hk.1.2.1, ⟨hk.1.2.2.1, hk.1.2.2.2⟩⟩⟩⟩))), (Kd.Rq (Kd.R_mono HO_623000.out (fun _ hk => ⟨hk.2, ⟨hk.1.1, ⟨hk.1.2.1, hk.1.2.2⟩⟩⟩))), (Kd.Rq (Kd.R_mono HO_633000.out (fun _ hk => ⟨hk.2, ⟨hk.1.1, ⟨hk.1.2.1, ⟨hk.1.2.2.1, hk.1.2.2.2⟩⟩⟩⟩))), (Kd.Rq (Kd.R_mono HO_638000.out (fun _ hk => ⟨hk.2, ⟨hk.1.1, ⟨hk.1.2.1, ⟨hk.1.2.2.1, hk.1.2.2.2⟩⟩⟩⟩))), (Kd.Rq (Kd.R_mono HO_658000.out (fun _ hk => ⟨hk.2, ⟨hk.1.1, ⟨hk.1.2.1, hk.1.2.2⟩⟩⟩))), (bkq BK622.out), (bkq BK626.out), (bkq BK632.out), (bkq BK637.out), (bkq BK657.out), (bkq BK663.out), GW663.out, GE663.out, NB622_663.out, NB663_622.out, NB626_663.out, NB663_626.out, NB632_663.out, NB663_632.out, NB637_663.out, NB663_637.out, NB657_663.out, NB663_657.out, (blq HB.out)⟩)
              rintro ⟨v660, gb663⟩ w147 ⟨hS_, h0_, h1_, h2_, h3_, h4_, h5_, h6_, h7_, h8_, h9_, h10_, h11_, h12_, h13_, h14_, h15_, h16_, h17_, h18_, h19_, h20_, h21_, h22_, h23_, h24_⟩
              have n0_ : Aside0 (Kd.R (Kd.int .i64) 3 w147 w.heap.size (fun k_ => some k_ ≠ (.slice (some ad658) t654.length co126 : Value).ownBlock ∧ some k_ ≠ (.slice Ao13 t619.length co13 : Value).ownBlock ∧ some k_ ≠ (.slice Ao25 t628.length co25 : Value).ownBlock ∧ some k_ ≠ (.slice Ao33 t633.length co33 : Value).ownBlock ∧ some k_ ≠ (.slice Ao143 x658000_3.length co143 : Value).ownBlock) v660 t659) := ⟨h0_⟩
              have n1_ : Aside0 (Kd.R (Kd.int .i64) 3 w147 w.heap.size (fun k_ => some k_ ≠ (v660 : Value).ownBlock ∧ some k_ ≠ (.slice Ao13 t619.length co13 : Value).ownBlock ∧ some k_ ≠ (.slice Ao25 t628.length co25 : Value).ownBlock ∧ some k_ ≠ (.slice Ao33 t633.length co33 : Value).ownBlock ∧ some k_ ≠ (.slice Ao143 x658000_3.length co143 : Value).ownBlock) (.slice (some ad658) t654.length co126) t654) := ⟨h1_⟩
              have n2_ : Aside0 (Kd.R (Kd.int .i64) 3 w147 w.heap.size (fun k_ => some k_ ≠ (v660 : Value).ownBlock ∧ some k_ ≠ (.slice (some ad658) t654.length co126 : Value).ownBlock ∧ some k_ ≠ (.slice Ao25 t628.length co25 : Value).ownBlock ∧ some k_ ≠ (.slice Ao33 t633.length co33 : Value).ownBlock) (.slice Ao13 t619.length co13) t619) := ⟨h2_⟩
              have n3_ : Aside0 (Kd.R (Kd.int .i64) 3 w147 w.heap.size (fun k_ => some k_ ≠ (v660 : Value).ownBlock ∧ some k_ ≠ (.slice (some ad658) t654.length co126 : Value).ownBlock ∧ some k_ ≠ (.slice Ao13 t619.length co13 : Value).ownBlock ∧ some k_ ≠ (.slice Ao33 t633.length co33 : Value).ownBlock ∧ some k_ ≠ (.slice Ao143 x658000_3.length co143 : Value).ownBlock) (.slice Ao25 t628.length co25) t628) := ⟨h3_⟩
              have n4_ : Aside0 (Kd.R (Kd.int .i64) 3 w147 w.heap.size (fun k_ => some k_ ≠ (v660 : Value).ownBlock ∧ some k_ ≠ (.slice (some ad658) t654.length co126 : Value).ownBlock ∧ some k_ ≠ (.slice Ao13 t619.length co13 : Value).ownBlock ∧ some k_ ≠ (.slice Ao25 t628.length co25 : Value).ownBlock ∧ some k_ ≠ (.slice Ao143 x658000_3.length co143 : Value).ownBlock) (.slice Ao33 t633.length co33) t633) := ⟨h4_⟩
              have n5_ : Aside0 (Kd.R (Kd.int .i64) 3 w147 w.heap.size (fun k_ => some k_ ≠ (v660 : Value).ownBlock ∧ some k_ ≠ (.slice (some ad658) t654.length co126 : Value).ownBlock ∧ some k_ ≠ (.slice Ao25 t628.length co25 : Value).ownBlock ∧ some k_ ≠ (.slice Ao33 t633.length co33 : Value).ownBlock) (.slice Ao143 x658000_3.length co143) x658000_3) := ⟨h5_⟩
              have n6_ : Aside0 (w147.heap[gb622]? = some (.cells #[.slice Ao13 t619.length co13] 54 (0, 0))) := ⟨h6_⟩
              have n7_ : Aside0 (w147.heap[gb626]? = some (.cells #[.int .i64 t623, .int .i64 t624, .int .i64 t625] 56 (0, 0))) := ⟨h7_⟩
              have n8_ : Aside0 (w147.heap[gb632]? = some (.cells #[.slice Ao25 t628.length co25] 54 (0, 0))) := ⟨h8_⟩
              have n9_ : Aside0 (w147.heap[gb637]? = some (.cells #[.slice Ao33 t633.length co33] 54 (0, 0))) := ⟨h9_⟩
              have n10_ : Aside0 (w147.heap[gb657]? = some (.cells #[.slice Ao143 x658000_3.length co143] 54 (0, 0))) := ⟨h10_⟩
              have n11_ : Aside0 (w147.heap[gb663]? = some (.cells #[.slice none 0 0] 54 (0, 0))) := ⟨h11_⟩
              have n12_ : Aside0 (w.heap.size ≤ gb663) := ⟨h12_⟩
              have n13_ : Aside0 (w.heap.size ≤ gb663) := ⟨h13_⟩
              have n14_ : Aside0 (gb622 ≠ gb663) := ⟨h14_⟩
              have n15_ : Aside0 (gb663 ≠ gb622) := ⟨h15_⟩
              have n16_ : Aside0 (gb626 ≠ gb663) := ⟨h16_⟩
              have n17_ : Aside0 (gb663 ≠ gb626) := ⟨h17_⟩
              have n18_ : Aside0 (gb632 ≠ gb663) := ⟨h18_⟩
              have n19_ : Aside0 (gb663 ≠ gb632) := ⟨h19_⟩
              have n20_ : Aside0 (gb637 ≠ gb663) := ⟨h20_⟩
              have n21_ : Aside0 (gb663 ≠ gb637) := ⟨h21_⟩
              have n22_ : Aside0 (gb657 ≠ gb663) := ⟨h22_⟩
              have n23_ : Aside0 (gb663 ≠ gb657) := ⟨h23_⟩
              have n24_ : Aside0 (Below w.heap.size w w147) := ⟨h24_⟩
              clear HO_13
              clear HO_623000
              clear HO_633000
              clear HO_638000
              clear HO_658000
              clear BK622
              clear BK626
              clear BK632
              clear BK637
              clear BK657
              clear HB
              clear h0_ h1_ h2_ h3_ h4_ h5_ h6_ h7_ h8_ h9_ h10_ h11_ h12_ h13_ h14_ h15_ h16_ h17_ h18_ h19_ h20_ h21_ h22_ h23_ h24_
              have HO661 := n0_
              have HO_13 := n1_
              have HO_623000 := n2_
              have HO_633000 := n3_
              have HO_638000 := n4_
              have HO_658000 := n5_
              have BK622 := n6_
              have BK626 := n7_
              have BK632 := n8_
              have BK637 := n9_
              have BK657 := n10_
              have BK663 := n11_
              have GW663 := n12_
              have GE663 := n13_
              have NB622_663 := n14_
              have NB663_622 := n15_
              have NB626_663 := n16_
              have NB663_626 := n17_
              have NB632_663 := n18_
              have NB663_632 := n19_
              have NB637_663 := n20_
              have NB663_637 := n21_
              have NB657_663 := n22_
              have NB663_657 := n23_
              have HB := n24_
              clear n0_ n1_ n2_ n3_ n4_ n5_ n6_ n7_ n8_ n9_ n10_ n11_ n12_ n13_ n14_ n15_ n16_ n17_ n18_ n19_ n20_ n21_ n22_ n23_ n24_
              have hHeld : w147.cell? ⟨gb657, 0, none⟩ = some (.slice Ao143 x658000_3.length co143) ∧ w147.cell? (ad658.add (x16_3).toNat) = some (.int .i64 (rd t654 x16_3)) := hS_
              obtain ⟨Ao148, co148, eo148⟩ := Kd.R_slice HO661.out
              (first | subst eo148 | (injection eo148 with f1_ f2_ f3_; have f4_ := f1_.symm; have f5_ := f3_.symm; clear f1_ f2_ f3_; subst f4_; subst f5_))
              refine norm_ (a' := ?_) ?_ ?_
              rotate_left
              ·
               simp only [putAll, Act.put, List.setIfInBounds_toArray, List.set_cons_zero, List.set_cons_succ]
               rfl
              refine one_ (i := 11) (N := none) #[true, true, true, true, true, true, true, true, true, true, true, true, false] rfl rfl (one_of HT_.out (by kernel_rfl)) (by decide) (fun K hK => ?_)
              have hs149 : w147.cell? ⟨gb663, 0, none⟩ = some (.slice none 0 0) := (blk_cell BK663.out 0).trans rfl
              have hfs149 := blk_frozen BK663.out 0
              have hns149_0 := NB622_663.out
              have hns149_1 := NB626_663.out
              have hns149_2 := NB632_663.out
              have hns149_3 := NB637_663.out
              have hns149_4 := NB657_663.out
              have hms149_0 := NB663_622.out
              have hms149_1 := NB663_626.out
              have hms149_2 := NB663_632.out
              have hms149_3 := NB663_637.out
              have hms149_4 := NB663_657.out
              refine skip_ (w1 := ?_) (by rfl) rfl ?_ ?_
              rotate_left
              ·
               go_simp
               rfl
              refine hK.out _ _ ⟨((cell_far (p := ⟨gb663, _, none⟩) NB657_663.out _).trans (hHeld.1)), ((cell_far (p := ⟨gb663, _, none⟩) (by first | exact Kd.own_blk (Kd.R_ne HO_13.out BK663.out (by decide)) | (rw [add_block]; exact Kd.own_blk (Kd.R_ne HO_13.out BK663.out (by decide))) | (show (Addr.add _ _).block ≠ _; rw [add_block]; exact Kd.own_blk (Kd.R_ne HO_13.out BK663.out (by decide))) | (dsimp only; exact Kd.own_blk (Kd.R_ne HO_13.out BK663.out (by decide)))) _).trans (hHeld.2))⟩ (fun hHeld => ?_)
              clear hK K
              refine pure_ (i := 12) (N := some 18) (v := ?_) (a' := ?_) #[true, true, true, true, true, true, true, true, true, true, true, true, true] rfl rfl (any_of HT_.out (by kernel_rfl)) (fun _ _ _ h => h) (Or.inl ⟨by rfl, ?_⟩) ?_ ?_
              rotate_left
              ·
               intro w'
               go_simp
               with_reducible rfl
              rotate_left
              ·
               simp only [Act.put, List.setIfInBounds_toArray, List.set_cons_zero, List.set_cons_succ, i64_w, i32_w]
               rfl
              refine done_ (done_of HT_.out (by kernel_rfl)) ?_
              go_upto_region 26 with (fail)
              have H := HF142.out
              clear HF142
              by_cases c150 : t662 = true
              ·
               subst c150
               have H1 : (if (rd t654 x16_3) < 0 then (some false) else (if x15_3 = true then (laws_FnStocks.l1 k3 t627 (wrap64 (t647 * 8)) t654 ((rd t654 x16_3) == 0) (wrap64 (x16_3 + 1)) t619 t623 t624 t625 t659) else (laws_FnStocks.l1 k3 t627 (wrap64 (t647 * 8)) t654 false (wrap64 (x16_3 + 1)) t619 t623 t624 t625 t659))) = some r := by rw [if_pos rfl] at H; exact H
               clear H
               have H := H1
               clear H1
               by_cases c151 : (rd t654 x16_3) < 0
               ·
                rw [if_pos c151] at H
                have c151b0 : decide ((rd t654 x16_3) < 0) = true := decide_eq_true c151
                clear c151
                (first | rw [c151b0] | (simp only [i64_w, i32_w]; rw [c151b0]) | skip)
                obtain rfl := Option.some.inj H
                have p664 : 0 ≤ (x16_3 : Int) := of_decide_eq_true (by first | (with_reducible assumption) | assumption)
                have q664 : x16_3 < (t654.length : Int) := of_decide_eq_true (by first | (with_reducible assumption) | assumption)
                obtain ⟨ad664, e664, hx664_0⟩ := Kd.at_int (Kd.R_reads' HO_13.out).2.2 x16_3 p664 q664
                obtain rfl : ad658 = ad664 := (by injection e664)
                have hn664_0 : ad658.block ≠ gb663 := Kd.own_blk (Kd.R_ne HO_13.out BK663.out (by decide))
                replace hx664_0 := (cell_far (p := ⟨gb663, 0, none⟩) (by first | (rw [add_block]; exact hn664_0) | (show (Addr.add _ _).block ≠ _; rw [add_block]; exact hn664_0) | exact hn664_0) (.slice Ao148 t659.length co148)).trans hx664_0
                clear hn664_0
                replace p664 := eq_true p664
                replace q664 := eq_true q664
                go_wp2
                go_ret
                exact ⟨by first | rfl | (simp [errW_none, errW_some] <;> rfl) | (simp [*, errW_none, errW_some] <;> rfl), blq HB.out⟩
               ·
                rw [if_neg c151] at H
                have c151b0 : decide ((rd t654 x16_3) < 0) = false := decide_eq_false c151
                clear c151
                (first | rw [c151b0] | (simp only [i64_w, i32_w]; rw [c151b0]) | skip)
                by_cases c152 : x15_3 = true
                ·
                 subst c152
                 have H1 : (laws_FnStocks.l1 k3 t627 (wrap64 (t647 * 8)) t654 ((rd t654 x16_3) == 0) (wrap64 (x16_3 + 1)) t619 t623 t624 t625 t659) = some r := by rw [if_pos rfl] at H; exact H
                 clear H
                 have H := H1
                 clear H1
                 have H' := Aside0.mk H
                 clear H
                 have p664 : 0 ≤ (x16_3 : Int) := of_decide_eq_true (by first | (with_reducible assumption) | assumption)
                 have q664 : x16_3 < (t654.length : Int) := of_decide_eq_true (by first | (with_reducible assumption) | assumption)
                 obtain ⟨ad664, e664, hx664_0⟩ := Kd.at_int (Kd.R_reads' HO_13.out).2.2 x16_3 p664 q664
                 obtain rfl : ad658 = ad664 := (by injection e664)
                 have hn664_0 : ad658.block ≠ gb663 := Kd.own_blk (Kd.R_ne HO_13.out BK663.out (by decide))
                 replace hx664_0 := (cell_far (p := ⟨gb663, 0, none⟩) (by first | (rw [add_block]; exact hn664_0) | (show (Addr.add _ _).block ≠ _; rw [add_block]; exact hn664_0) | exact hn664_0) (.slice Ao148 t659.length co148)).trans hx664_0
                 clear hn664_0
                 replace p664 := eq_true p664
                 replace q664 := eq_true q664
                 have p665 : 0 ≤ (x16_3 : Int) := of_decide_eq_true (by first | (with_reducible assumption) | assumption)
                 have q665 : x16_3 < (t654.length : Int) := of_decide_eq_true (by first | (with_reducible assumption) | assumption)
                 obtain ⟨ad665, e665, hx665_0⟩ := Kd.at_int (Kd.R_reads' HO_13.out).2.2 x16_3 p665 q665
                 obtain rfl : ad658 = ad665 := (by injection e665)
                 have hn665_0 : ad658.block ≠ gb663 := Kd.own_blk (Kd.R_ne HO_13.out BK663.out (by decide))
                 replace hx665_0 := (cell_far (p := ⟨gb663, 0, none⟩) (by first | (rw [add_block]; exact hn665_0) | (show (Addr.add _ _).block ≠ _; rw [add_block]; exact hn665_0) | exact hn665_0) (.slice Ao148 t659.length co148)).trans hx665_0
                 clear hn665_0
                 replace p665 := eq_true p665
                 replace q665 := eq_true q665
                 have hnb153 := NB663_622.out
                 have hnc153 := NB622_663.out
                 have hnb154 := NB663_626.out
                 have hnc154 := NB626_663.out
                 have hnb155 := NB663_632.out
                 have hnc155 := NB632_663.out
                 have hnb156 := NB663_637.out
                 have hnc156 := NB637_663.out
                 have hnb157 := NB663_657.out
                 have hnc157 := NB657_663.out
                 have hcz158_0 : w147.cell? ⟨gb663, 0, none⟩ = some (.slice none 0 0) := (blk_cell BK663.out 0).trans rfl
                 have hfz158_0 := blk_frozen BK663.out 0
                 have hnb159 := NB657_622.out
                 have hnc159 := NB622_657.out
                 have hnb160 := NB657_626.out
                 have hnc160 := NB626_657.out
                 have hnb161 := NB657_632.out
                 have hnc161 := NB632_657.out
                 have hnb162 := NB657_637.out
                 have hnc162 := NB637_657.out
                 have hcz163_0 : w147.cell? ⟨gb657, 0, none⟩ = some (.slice Ao143 x658000_3.length co143) := (blk_cell BK657.out 0).trans rfl
                 have hfz163_0 := blk_frozen BK657.out 0
                 go_wp2
                 go_roundg k3
                 case measure => have := HJ9.out; have := HK2.out; have := HK3.out; omega
                 case rel => exact ⟨(((rd t654 x16_3) == 0)), (wrap64 (x16_3 + 1)), (t659), (.slice Ao148 t659.length co148), (by first | rfl | (simp; done) | (simp [*]; done)), (by first | rfl | (simp; done) | (simp [*]; done)), H', ⟨by have := HJ9.out; have := HK2.out; have := HK3.out; omega⟩, ⟨Kd.Rq (Kd.R_mono (Kd.R_far (p := ⟨gb657, 0, none⟩) (Kd.R_far (p := ⟨gb663, 0, none⟩) (Kd.R_types (Kd.R_types HO_13.out BK663.out (by decide)) BK657.out (by decide)) (fun _ hk => hk.1.2) (.slice Ao148 t659.length co148)) (fun _ hk => hk.2) (.slice Ao148 t659.length co148)) (fun _ hk => (by (repeat' refine And.intro ?_ ?_) <;> first | exact hk.1.1.1 | exact hk.1.1 | exact hk.1.1.2.1 | exact hk.1.1.2 | exact hk.1.1.2.2.1 | exact hk.1.1.2.2 | exact hk.1.1.2.2.2.1 | exact hk.1.1.2.2.2 | exact hk.1.1.2.2.2.2.1 | exact hk.1.1.2.2.2.2 | exact hk.1.1.2.2.2.2.2.1 | exact hk.1.1.2.2.2.2.2 | exact hk.1.1.1.1 | exact hk.1.1.1 | exact hk.1.1.1.2.1 | exact hk.1.1.1.2 | exact hk.1.1.1.2.2.1 | exact hk.1.1.1.2.2 | exact hk.1.1.1.2.2.2.1 | exact hk.1.1.1.2.2.2 | exact hk.1.1.1.2.2.2.2.1 | exact hk.1.1.1.2.2.2.2 | exact hk.1.1.1.2.2.2.2.2.1 | exact hk.1.1.1.2.2.2.2.2 | exact hk.1.1 | exact hk.1 | exact hk.1.2.1 | exact hk.1.2 | exact hk.1.2.2.1 | exact hk.1.2.2 | exact hk.1.2.2.2.1 | exact hk.1.2.2.2 | exact hk.1.2.2.2.2.1 | exact hk.1.2.2.2.2 | exact hk.1.2.2.2.2.2.1 | exact hk.1.2.2.2.2.2 | exact hk.1 | exact hk | exact hk.2.1 | exact hk.2 | exact hk.2.2.1 | exact hk.2.2 | exact hk.2.2.2.1 | exact hk.2.2.2 | exact hk.2.2.2.2.1 | exact hk.2.2.2.2 | exact hk.2.2.2.2.2.1 | exact hk.2.2.2.2.2)))⟩, ⟨Kd.Rq (Kd.R_mono (Kd.R_far (p := ⟨gb657, 0, none⟩) (Kd.R_far (p := ⟨gb663, 0, none⟩) (Kd.R_types (Kd.R_types HO_623000.out BK663.out (by decide)) BK657.out (by decide)) (fun _ hk => hk.1.2) (.slice Ao148 t659.length co148)) (fun _ hk => hk.2) (.slice Ao148 t659.length co148)) (fun _ hk => (by (repeat' refine And.intro ?_ ?_) <;> first | exact hk.1.1.1 | exact hk.1.1 | exact hk.1.1.2.1 | exact hk.1.1.2 | exact hk.1.1.2.2.1 | exact hk.1.1.2.2 | exact hk.1.1.2.2.2.1 | exact hk.1.1.2.2.2 | exact hk.1.1.2.2.2.2.1 | exact hk.1.1.2.2.2.2 | exact hk.1.1.2.2.2.2.2.1 | exact hk.1.1.2.2.2.2.2 | exact hk.1.1.1.1 | exact hk.1.1.1 | exact hk.1.1.1.2.1 | exact hk.1.1.1.2 | exact hk.1.1.1.2.2.1 | exact hk.1.1.1.2.2 | exact hk.1.1.1.2.2.2.1 | exact hk.1.1.1.2.2.2 | exact hk.1.1.1.2.2.2.2.1 | exact hk.1.1.1.2.2.2.2 | exact hk.1.1.1.2.2.2.2.2.1 | exact hk.1.1.1.2.2.2.2.2 | exact hk.1.1 | exact hk.1 | exact hk.1.2.1 | exact hk.1.2 | exact hk.1.2.2.1 | exact hk.1.2.2 | exact hk.1.2.2.2.1 | exact hk.1.2.2.2 | exact hk.1.2.2.2.2.1 | exact hk.1.2.2.2.2 | exact hk.1.2.2.2.2.2.1 | exact hk.1.2.2.2.2.2 | exact hk.1 | exact hk | exact hk.2.1 | exact hk.2 | exact hk.2.2.1 | exact hk.2.2 | exact hk.2.2.2.1 | exact hk.2.2.2 | exact hk.2.2.2.2.1 | exact hk.2.2.2.2 | exact hk.2.2.2.2.2.1 | exact hk.2.2.2.2.2)))⟩, ⟨Kd.Rq (Kd.R_mono (Kd.R_far (p := ⟨gb657, 0, none⟩) (Kd.R_far (p := ⟨gb663, 0, none⟩) (Kd.R_types (Kd.R_types HO_633000.out BK663.out (by decide)) BK657.out (by decide)) (fun _ hk => hk.1.2) (.slice Ao148 t659.length co148)) (fun _ hk => hk.2) (.slice Ao148 t659.length co148)) (fun _ hk => (by (repeat' refine And.intro ?_ ?_) <;> first | exact hk.1.1.1 | exact hk.1.1 | exact hk.1.1.2.1 | exact hk.1.1.2 | exact hk.1.1.2.2.1 | exact hk.1.1.2.2 | exact hk.1.1.2.2.2.1 | exact hk.1.1.2.2.2 | exact hk.1.1.2.2.2.2.1 | exact hk.1.1.2.2.2.2 | exact hk.1.1.2.2.2.2.2.1 | exact hk.1.1.2.2.2.2.2 | exact hk.1.1.1.1 | exact hk.1.1.1 | exact hk.1.1.1.2.1 | exact hk.1.1.1.2 | exact hk.1.1.1.2.2.1 | exact hk.1.1.1.2.2 | exact hk.1.1.1.2.2.2.1 | exact hk.1.1.1.2.2.2 | exact hk.1.1.1.2.2.2.2.1 | exact hk.1.1.1.2.2.2.2 | exact hk.1.1.1.2.2.2.2.2.1 | exact hk.1.1.1.2.2.2.2.2 | exact hk.1.1 | exact hk.1 | exact hk.1.2.1 | exact hk.1.2 | exact hk.1.2.2.1 | exact hk.1.2.2 | exact hk.1.2.2.2.1 | exact hk.1.2.2.2 | exact hk.1.2.2.2.2.1 | exact hk.1.2.2.2.2 | exact hk.1.2.2.2.2.2.1 | exact hk.1.2.2.2.2.2 | exact hk.1 | exact hk | exact hk.2.1 | exact hk.2 | exact hk.2.2.1 | exact hk.2.2 | exact hk.2.2.2.1 | exact hk.2.2.2 | exact hk.2.2.2.2.1 | exact hk.2.2.2.2 | exact hk.2.2.2.2.2.1 | exact hk.2.2.2.2.2)))⟩, ⟨Kd.Rq (Kd.R_mono (Kd.R_far (p := ⟨gb657, 0, none⟩) (Kd.R_far (p := ⟨gb663, 0, none⟩) (Kd.R_types (Kd.R_types HO_638000.out BK663.out (by decide)) BK657.out (by decide)) (fun _ hk => hk.1.2) (.slice Ao148 t659.length co148)) (fun _ hk => hk.2) (.slice Ao148 t659.length co148)) (fun _ hk => (by (repeat' refine And.intro ?_ ?_) <;> first | exact hk.1.1.1 | exact hk.1.1 | exact hk.1.1.2.1 | exact hk.1.1.2 | exact hk.1.1.2.2.1 | exact hk.1.1.2.2 | exact hk.1.1.2.2.2.1 | exact hk.1.1.2.2.2 | exact hk.1.1.2.2.2.2.1 | exact hk.1.1.2.2.2.2 | exact hk.1.1.2.2.2.2.2.1 | exact hk.1.1.2.2.2.2.2 | exact hk.1.1.1.1 | exact hk.1.1.1 | exact hk.1.1.1.2.1 | exact hk.1.1.1.2 | exact hk.1.1.1.2.2.1 | exact hk.1.1.1.2.2 | exact hk.1.1.1.2.2.2.1 | exact hk.1.1.1.2.2.2 | exact hk.1.1.1.2.2.2.2.1 | exact hk.1.1.1.2.2.2.2 | exact hk.1.1.1.2.2.2.2.2.1 | exact hk.1.1.1.2.2.2.2.2 | exact hk.1.1 | exact hk.1 | exact hk.1.2.1 | exact hk.1.2 | exact hk.1.2.2.1 | exact hk.1.2.2 | exact hk.1.2.2.2.1 | exact hk.1.2.2.2 | exact hk.1.2.2.2.2.1 | exact hk.1.2.2.2.2 | exact hk.1.2.2.2.2.2.1 | exact hk.1.2.2.2.2.2 | exact hk.1 | exact hk | exact hk.2.1 | exact hk.2 | exact hk.2.2.1 | exact hk.2.2 | exact hk.2.2.2.1 | exact hk.2.2.2 | exact hk.2.2.2.2.1 | exact hk.2.2.2.2 | exact hk.2.2.2.2.2.1 | exact hk.2.2.2.2.2)))⟩, ⟨Kd.Rq (Kd.R_mono (Kd.R_far (p := ⟨gb657, 0, none⟩) (Kd.R_far (p := ⟨gb663, 0, none⟩) (Kd.R_types (Kd.R_types HO661.out BK663.out (by decide)) BK657.out (by decide)) (fun _ hk => hk.1.2) (.slice Ao148 t659.length co148)) (fun _ hk => hk.2) (.slice Ao148 t659.length co148)) (fun _ hk => (by (repeat' refine And.intro ?_ ?_) <;> first | exact hk.1.1.1 | exact hk.1.1 | exact hk.1.1.2.1 | exact hk.1.1.2 | exact hk.1.1.2.2.1 | exact hk.1.1.2.2 | exact hk.1.1.2.2.2.1 | exact hk.1.1.2.2.2 | exact hk.1.1.2.2.2.2.1 | exact hk.1.1.2.2.2.2 | exact hk.1.1.2.2.2.2.2.1 | exact hk.1.1.2.2.2.2.2 | exact hk.1.1.1.1 | exact hk.1.1.1 | exact hk.1.1.1.2.1 | exact hk.1.1.1.2 | exact hk.1.1.1.2.2.1 | exact hk.1.1.1.2.2 | exact hk.1.1.1.2.2.2.1 | exact hk.1.1.1.2.2.2 | exact hk.1.1.1.2.2.2.2.1 | exact hk.1.1.1.2.2.2.2 | exact hk.1.1.1.2.2.2.2.2.1 | exact hk.1.1.1.2.2.2.2.2 | exact hk.1.1 | exact hk.1 | exact hk.1.2.1 | exact hk.1.2 | exact hk.1.2.2.1 | exact hk.1.2.2 | exact hk.1.2.2.2.1 | exact hk.1.2.2.2 | exact hk.1.2.2.2.2.1 | exact hk.1.2.2.2.2 | exact hk.1.2.2.2.2.2.1 | exact hk.1.2.2.2.2.2 | exact hk.1 | exact hk | exact hk.2.1 | exact hk.2 | exact hk.2.2.1 | exact hk.2.2 | exact hk.2.2.2.1 | exact hk.2.2.2 | exact hk.2.2.2.2.1 | exact hk.2.2.2.2 | exact hk.2.2.2.2.2.1 | exact hk.2.2.2.2.2)))⟩, ⟨by (with_reducible repeat (first | refine blk_drewN ?_ _ | refine blk_drew ?_ | refine blk_alloc ?_ _)); refine blk_far ?_ NB622_657.out _; (with_reducible repeat (first | refine blk_drewN ?_ _ | refine blk_drew ?_ | refine blk_alloc ?_ _)); refine blk_far ?_ NB622_663.out _; (with_reducible repeat (first | refine blk_drewN ?_ _ | refine blk_drew ?_ | refine blk_alloc ?_ _)); exact BK622.out⟩, ⟨by (with_reducible repeat (first | refine blk_drewN ?_ _ | refine blk_drew ?_ | refine blk_alloc ?_ _)); refine blk_far ?_ NB626_657.out _; (with_reducible repeat (first | refine blk_drewN ?_ _ | refine blk_drew ?_ | refine blk_alloc ?_ _)); refine blk_far ?_ NB626_663.out _; (with_reducible repeat (first | refine blk_drewN ?_ _ | refine blk_drew ?_ | refine blk_alloc ?_ _)); exact BK626.out⟩, ⟨by (with_reducible repeat (first | refine blk_drewN ?_ _ | refine blk_drew ?_ | refine blk_alloc ?_ _)); refine blk_far ?_ NB632_657.out _; (with_reducible repeat (first | refine blk_drewN ?_ _ | refine blk_drew ?_ | refine blk_alloc ?_ _)); refine blk_far ?_ NB632_663.out _; (with_reducible repeat (first | refine blk_drewN ?_ _ | refine blk_drew ?_ | refine blk_alloc ?_ _)); exact BK632.out⟩, ⟨by (with_reducible repeat (first | refine blk_drewN ?_ _ | refine blk_drew ?_ | refine blk_alloc ?_ _)); refine blk_far ?_ NB637_657.out _; (with_reducible repeat (first | refine blk_drewN ?_ _ | refine blk_drew ?_ | refine blk_alloc ?_ _)); refine blk_far ?_ NB637_663.out _; (with_reducible repeat (first | refine blk_drewN ?_ _ | refine blk_drew ?_ | refine blk_alloc ?_ _)); exact BK637.out⟩, ⟨by (with_reducible repeat (first | refine blk_drewN ?_ _ | refine blk_drew ?_ | refine blk_alloc ?_ _)); refine blk_put (cs := #[.slice Ao143 x658000_3.length co143]) ?_ 0 _ rfl; (with_reducible repeat (first | refine blk_drewN ?_ _ | refine blk_drew ?_ | refine blk_alloc ?_ _)); refine blk_far ?_ NB657_663.out _; (with_reducible repeat (first | refine blk_drewN ?_ _ | refine blk_drew ?_ | refine blk_alloc ?_ _)); exact BK657.out⟩, ⟨blq HB.out⟩⟩
                ·
                 replace c152 := Bool.eq_false_iff.mpr c152
                 subst c152
                 have H1 : (laws_FnStocks.l1 k3 t627 (wrap64 (t647 * 8)) t654 false (wrap64 (x16_3 + 1)) t619 t623 t624 t625 t659) = some r := by rw [if_neg (show ¬ (false = true) by decide)] at H; exact H
                 clear H
                 have H := H1
                 clear H1
                 have H' := Aside0.mk H
                 clear H
                 have p664 : 0 ≤ (x16_3 : Int) := of_decide_eq_true (by first | (with_reducible assumption) | assumption)
                 have q664 : x16_3 < (t654.length : Int) := of_decide_eq_true (by first | (with_reducible assumption) | assumption)
                 obtain ⟨ad664, e664, hx664_0⟩ := Kd.at_int (Kd.R_reads' HO_13.out).2.2 x16_3 p664 q664
                 obtain rfl : ad658 = ad664 := (by injection e664)
                 have hn664_0 : ad658.block ≠ gb663 := Kd.own_blk (Kd.R_ne HO_13.out BK663.out (by decide))
                 replace hx664_0 := (cell_far (p := ⟨gb663, 0, none⟩) (by first | (rw [add_block]; exact hn664_0) | (show (Addr.add _ _).block ≠ _; rw [add_block]; exact hn664_0) | exact hn664_0) (.slice Ao148 t659.length co148)).trans hx664_0
                 clear hn664_0
                 replace p664 := eq_true p664
                 replace q664 := eq_true q664
                 have hnb164 := NB663_622.out
                 have hnc164 := NB622_663.out
                 have hnb165 := NB663_626.out
                 have hnc165 := NB626_663.out
                 have hnb166 := NB663_632.out
                 have hnc166 := NB632_663.out
                 have hnb167 := NB663_637.out
                 have hnc167 := NB637_663.out
                 have hnb168 := NB663_657.out
                 have hnc168 := NB657_663.out
                 have hcz169_0 : w147.cell? ⟨gb663, 0, none⟩ = some (.slice none 0 0) := (blk_cell BK663.out 0).trans rfl
                 have hfz169_0 := blk_frozen BK663.out 0
                 have hnb170 := NB657_622.out
                 have hnc170 := NB622_657.out
                 have hnb171 := NB657_626.out
                 have hnc171 := NB626_657.out
                 have hnb172 := NB657_632.out
                 have hnc172 := NB632_657.out
                 have hnb173 := NB657_637.out
                 have hnc173 := NB637_657.out
                 have hcz174_0 : w147.cell? ⟨gb657, 0, none⟩ = some (.slice Ao143 x658000_3.length co143) := (blk_cell BK657.out 0).trans rfl
                 have hfz174_0 := blk_frozen BK657.out 0
                 go_wp2
                 go_roundg k3
                 case measure => have := HJ9.out; have := HK2.out; have := HK3.out; omega
                 case rel => exact ⟨(false), (wrap64 (x16_3 + 1)), (t659), (.slice Ao148 t659.length co148), (by first | rfl | (simp; done) | (simp [*]; done)), (by first | rfl | (simp; done) | (simp [*]; done)), H', ⟨by have := HJ9.out; have := HK2.out; have := HK3.out; omega⟩, ⟨Kd.Rq (Kd.R_mono (Kd.R_far (p := ⟨gb657, 0, none⟩) (Kd.R_far (p := ⟨gb663, 0, none⟩) (Kd.R_types (Kd.R_types HO_13.out BK663.out (by decide)) BK657.out (by decide)) (fun _ hk => hk.1.2) (.slice Ao148 t659.length co148)) (fun _ hk => hk.2) (.slice Ao148 t659.length co148)) (fun _ hk => (by (repeat' refine And.intro ?_ ?_) <;> first | exact hk.1.1.1 | exact hk.1.1 | exact hk.1.1.2.1 | exact hk.1.1.2 | exact hk.1.1.2.2.1 | exact hk.1.1.2.2 | exact hk.1.1.2.2.2.1 | exact hk.1.1.2.2.2 | exact hk.1.1.2.2.2.2.1 | exact hk.1.1.2.2.2.2 | exact hk.1.1.2.2.2.2.2.1 | exact hk.1.1.2.2.2.2.2 | exact hk.1.1.1.1 | exact hk.1.1.1 | exact hk.1.1.1.2.1 | exact hk.1.1.1.2 | exact hk.1.1.1.2.2.1 | exact hk.1.1.1.2.2 | exact hk.1.1.1.2.2.2.1 | exact hk.1.1.1.2.2.2 | exact hk.1.1.1.2.2.2.2.1 | exact hk.1.1.1.2.2.2.2 | exact hk.1.1.1.2.2.2.2.2.1 | exact hk.1.1.1.2.2.2.2.2 | exact hk.1.1 | exact hk.1 | exact hk.1.2.1 | exact hk.1.2 | exact hk.1.2.2.1 | exact hk.1.2.2 | exact hk.1.2.2.2.1 | exact hk.1.2.2.2 | exact hk.1.2.2.2.2.1 | exact hk.1.2.2.2.2 | exact hk.1.2.2.2.2.2.1 | exact hk.1.2.2.2.2.2 | exact hk.1 | exact hk | exact hk.2.1 | exact hk.2 | exact hk.2.2.1 | exact hk.2.2 | exact hk.2.2.2.1 | exact hk.2.2.2 | exact hk.2.2.2.2.1 | exact hk.2.2.2.2 | exact hk.2.2.2.2.2.1 | exact hk.2.2.2.2.2)))⟩, ⟨Kd.Rq (Kd.R_mono (Kd.R_far (p := ⟨gb657, 0, none⟩) (Kd.R_far (p := ⟨gb663, 0, none⟩) (Kd.R_types (Kd.R_types HO_623000.out BK663.out (by decide)) BK657.out (by decide)) (fun _ hk => hk.1.2) (.slice Ao148 t659.length co148)) (fun _ hk => hk.2) (.slice Ao148 t659.length co148)) (fun _ hk => (by (repeat' refine And.intro ?_ ?_) <;> first | exact hk.1.1.1 | exact hk.1.1 | exact hk.1.1.2.1 | exact hk.1.1.2 | exact hk.1.1.2.2.1 | exact hk.1.1.2.2 | exact hk.1.1.2.2.2.1 | exact hk.1.1.2.2.2 | exact hk.1.1.2.2.2.2.1 | exact hk.1.1.2.2.2.2 | exact hk.1.1.2.2.2.2.2.1 | exact hk.1.1.2.2.2.2.2 | exact hk.1.1.1.1 | exact hk.1.1.1 | exact hk.1.1.1.2.1 | exact hk.1.1.1.2 | exact hk.1.1.1.2.2.1 | exact hk.1.1.1.2.2 | exact hk.1.1.1.2.2.2.1 | exact hk.1.1.1.2.2.2 | exact hk.1.1.1.2.2.2.2.1 | exact hk.1.1.1.2.2.2.2 | exact hk.1.1.1.2.2.2.2.2.1 | exact hk.1.1.1.2.2.2.2.2 | exact hk.1.1 | exact hk.1 | exact hk.1.2.1 | exact hk.1.2 | exact hk.1.2.2.1 | exact hk.1.2.2 | exact hk.1.2.2.2.1 | exact hk.1.2.2.2 | exact hk.1.2.2.2.2.1 | exact hk.1.2.2.2.2 | exact hk.1.2.2.2.2.2.1 | exact hk.1.2.2.2.2.2 | exact hk.1 | exact hk | exact hk.2.1 | exact hk.2 | exact hk.2.2.1 | exact hk.2.2 | exact hk.2.2.2.1 | exact hk.2.2.2 | exact hk.2.2.2.2.1 | exact hk.2.2.2.2 | exact hk.2.2.2.2.2.1 | exact hk.2.2.2.2.2)))⟩, ⟨Kd.Rq (Kd.R_mono (Kd.R_far (p := ⟨gb657, 0, none⟩) (Kd.R_far (p := ⟨gb663, 0, none⟩) (Kd.R_types (Kd.R_types HO_633000.out BK663.out (by decide)) BK657.out (by decide)) (fun _ hk => hk.1.2) (.slice Ao148 t659.length co148)) (fun _ hk => hk.2) (.slice Ao148 t659.length co148)) (fun _ hk => (by (repeat' refine And.intro ?_ ?_) <;> first | exact hk.1.1.1 | exact hk.1.1 | exact hk.1.1.2.1 | exact hk.1.1.2 | exact hk.1.1.2.2.1 | exact hk.1.1.2.2 | exact hk.1.1.2.2.2.1 | exact hk.1.1.2.2.2 | exact hk.1.1.2.2.2.2.1 | exact hk.1.1.2.2.2.2 | exact hk.1.1.2.2.2.2.2.1 | exact hk.1.1.2.2.2.2.2 | exact hk.1.1.1.1 | exact hk.1.1.1 | exact hk.1.1.1.2.1 | exact hk.1.1.1.2 | exact hk.1.1.1.2.2.1 | exact hk.1.1.1.2.2 | exact hk.1.1.1.2.2.2.1 | exact hk.1.1.1.2.2.2 | exact hk.1.1.1.2.2.2.2.1 | exact hk.1.1.1.2.2.2.2 | exact hk.1.1.1.2.2.2.2.2.1 | exact hk.1.1.1.2.2.2.2.2 | exact hk.1.1 | exact hk.1 | exact hk.1.2.1 | exact hk.1.2 | exact hk.1.2.2.1 | exact hk.1.2.2 | exact hk.1.2.2.2.1 | exact hk.1.2.2.2 | exact hk.1.2.2.2.2.1 | exact hk.1.2.2.2.2 | exact hk.1.2.2.2.2.2.1 | exact hk.1.2.2.2.2.2 | exact hk.1 | exact hk | exact hk.2.1 | exact hk.2 | exact hk.2.2.1 | exact hk.2.2 | exact hk.2.2.2.1 | exact hk.2.2.2 | exact hk.2.2.2.2.1 | exact hk.2.2.2.2 | exact hk.2.2.2.2.2.1 | exact hk.2.2.2.2.2)))⟩, ⟨Kd.Rq (Kd.R_mono (Kd.R_far (p := ⟨gb657, 0, none⟩) (Kd.R_far (p := ⟨gb663, 0, none⟩) (Kd.R_types (Kd.R_types HO_638000.out BK663.out (by decide)) BK657.out (by decide)) (fun _ hk => hk.1.2) (.slice Ao148 t659.length co148)) (fun _ hk => hk.2) (.slice Ao148 t659.length co148)) (fun _ hk => (by (repeat' refine And.intro ?_ ?_) <;> first | exact hk.1.1.1 | exact hk.1.1 | exact hk.1.1.2.1 | exact hk.1.1.2 | exact hk.1.1.2.2.1 | exact hk.1.1.2.2 | exact hk.1.1.2.2.2.1 | exact hk.1.1.2.2.2 | exact hk.1.1.2.2.2.2.1 | exact hk.1.1.2.2.2.2 | exact hk.1.1.2.2.2.2.2.1 | exact hk.1.1.2.2.2.2.2 | exact hk.1.1.1.1 | exact hk.1.1.1 | exact hk.1.1.1.2.1 | exact hk.1.1.1.2 | exact hk.1.1.1.2.2.1 | exact hk.1.1.1.2.2 | exact hk.1.1.1.2.2.2.1 | exact hk.1.1.1.2.2.2 | exact hk.1.1.1.2.2.2.2.1 | exact hk.1.1.1.2.2.2.2 | exact hk.1.1.1.2.2.2.2.2.1 | exact hk.1.1.1.2.2.2.2.2 | exact hk.1.1 | exact hk.1 | exact hk.1.2.1 | exact hk.1.2 | exact hk.1.2.2.1 | exact hk.1.2.2 | exact hk.1.2.2.2.1 | exact hk.1.2.2.2 | exact hk.1.2.2.2.2.1 | exact hk.1.2.2.2.2 | exact hk.1.2.2.2.2.2.1 | exact hk.1.2.2.2.2.2 | exact hk.1 | exact hk | exact hk.2.1 | exact hk.2 | exact hk.2.2.1 | exact hk.2.2 | exact hk.2.2.2.1 | exact hk.2.2.2 | exact hk.2.2.2.2.1 | exact hk.2.2.2.2 | exact hk.2.2.2.2.2.1 | exact hk.2.2.2.2.2)))⟩, ⟨Kd.Rq (Kd.R_mono (Kd.R_far (p := ⟨gb657, 0, none⟩) (Kd.R_far (p := ⟨gb663, 0, none⟩) (Kd.R_types (Kd.R_types HO661.out BK663.out (by decide)) BK657.out (by decide)) (fun _ hk => hk.1.2) (.slice Ao148 t659.length co148)) (fun _ hk => hk.2) (.slice Ao148 t659.length co148)) (fun _ hk => (by (repeat' refine And.intro ?_ ?_) <;> first | exact hk.1.1.1 | exact hk.1.1 | exact hk.1.1.2.1 | exact hk.1.1.2 | exact hk.1.1.2.2.1 | exact hk.1.1.2.2 | exact hk.1.1.2.2.2.1 | exact hk.1.1.2.2.2 | exact hk.1.1.2.2.2.2.1 | exact hk.1.1.2.2.2.2 | exact hk.1.1.2.2.2.2.2.1 | exact hk.1.1.2.2.2.2.2 | exact hk.1.1.1.1 | exact hk.1.1.1 | exact hk.1.1.1.2.1 | exact hk.1.1.1.2 | exact hk.1.1.1.2.2.1 | exact hk.1.1.1.2.2 | exact hk.1.1.1.2.2.2.1 | exact hk.1.1.1.2.2.2 | exact hk.1.1.1.2.2.2.2.1 | exact hk.1.1.1.2.2.2.2 | exact hk.1.1.1.2.2.2.2.2.1 | exact hk.1.1.1.2.2.2.2.2 | exact hk.1.1 | exact hk.1 | exact hk.1.2.1 | exact hk.1.2 | exact hk.1.2.2.1 | exact hk.1.2.2 | exact hk.1.2.2.2.1 | exact hk.1.2.2.2 | exact hk.1.2.2.2.2.1 | exact hk.1.2.2.2.2 | exact hk.1.2.2.2.2.2.1 | exact hk.1.2.2.2.2.2 | exact hk.1 | exact hk | exact hk.2.1 | exact hk.2 | exact hk.2.2.1 | exact hk.2.2 | exact hk.2.2.2.1 | exact hk.2.2.2 | exact hk.2.2.2.2.1 | exact hk.2.2.2.2 | exact hk.2.2.2.2.2.1 | exact hk.2.2.2.2.2)))⟩, ⟨by (with_reducible repeat (first | refine blk_drewN ?_ _ | refine blk_drew ?_ | refine blk_alloc ?_ _)); refine blk_far ?_ NB622_657.out _; (with_reducible repeat (first | refine blk_drewN ?_ _ | refine blk_drew ?_ | refine blk_alloc ?_ _)); refine blk_far ?_ NB622_663.out _; (with_reducible repeat (first | refine blk_drewN ?_ _ | refine blk_drew ?_ | refine blk_alloc ?_ _)); exact BK622.out⟩, ⟨by (with_reducible repeat (first | refine blk_drewN ?_ _ | refine blk_drew ?_ | refine blk_alloc ?_ _)); refine blk_far ?_ NB626_657.out _; (with_reducible repeat (first | refine blk_drewN ?_ _ | refine blk_drew ?_ | refine blk_alloc ?_ _)); refine blk_far ?_ NB626_663.out _; (with_reducible repeat (first | refine blk_drewN ?_ _ | refine blk_drew ?_ | refine blk_alloc ?_ _)); exact BK626.out⟩, ⟨by (with_reducible repeat (first | refine blk_drewN ?_ _ | refine blk_drew ?_ | refine blk_alloc ?_ _)); refine blk_far ?_ NB632_657.out _; (with_reducible repeat (first | refine blk_drewN ?_ _ | refine blk_drew ?_ | refine blk_alloc ?_ _)); refine blk_far ?_ NB632_663.out _; (with_reducible repeat (first | refine blk_drewN ?_ _ | refine blk_drew ?_ | refine blk_alloc ?_ _)); exact BK632.out⟩, ⟨by (with_reducible repeat (first | refine blk_drewN ?_ _ | refine blk_drew ?_ | refine blk_alloc ?_ _)); refine blk_far ?_ NB637_657.out _; (with_reducible repeat (first | refine blk_drewN ?_ _ | refine blk_drew ?_ | refine blk_alloc ?_ _)); refine blk_far ?_ NB637_663.out _; (with_reducible repeat (first | refine blk_drewN ?_ _ | refine blk_drew ?_ | refine blk_alloc ?_ _)); exact BK637.out⟩, ⟨by (with_reducible repeat (first | refine blk_drewN ?_ _ | refine blk_drew ?_ | refine blk_alloc ?_ _)); refine blk_put (cs := #[.slice Ao143 x658000_3.length co143]) ?_ 0 _ rfl; (with_reducible repeat (first | refine blk_drewN ?_ _ | refine blk_drew ?_ | refine blk_alloc ?_ _)); refine blk_far ?_ NB657_663.out _; (with_reducible repeat (first | refine blk_drewN ?_ _ | refine blk_drew ?_ | refine blk_alloc ?_ _)); exact BK657.out⟩, ⟨blq HB.out⟩⟩
              ·
               replace c150 := Bool.eq_false_iff.mpr c150
               subst c150
               have H1 : (some false) = some r := by rw [if_neg (show ¬ (false = true) by decide)] at H; exact H
               clear H
               have H := H1
               clear H1
               obtain rfl := Option.some.inj H
               go_wp2
               go_ret
               exact ⟨by first | rfl | (simp [errW_none, errW_some] <;> rfl) | (simp [*, errW_none, errW_some] <;> rfl), blq HB.out⟩
             ·
              rw [if_neg c140] at H
              exact absurd H (by simp)
            ·
             rw [if_neg c139] at H
             exact absurd H (by simp)
           ·
            rw [if_neg c138] at H
            have c138b0 : decide (x16_3 < 4) = false := decide_eq_false c138
            clear c138
            replace H := Option.bind_eq_some_iff.mp H
            obtain ⟨⟨t666, t669⟩, A1750, H⟩ := H
            replace H : ((impl_TakeFor.f k3 t619 t623 t624 t625 (wrap64 (t647 * 8))).bind fun bt671 => (if t669 = true then (if (bt671.2 == x15_3) = true then (some ((decide ((wrap64 (t647 * 8)) ≤ t627)) == bt671.2)) else (some false)) else (some false))) = some r := H
            have A175 := Aside0.mk A1750
            clear A1750
            replace H := Option.bind_eq_some_iff.mp H
            obtain ⟨⟨t671, t674⟩, A1760, H⟩ := H
            replace H : (if t669 = true then (if (t674 == x15_3) = true then (some ((decide ((wrap64 (t647 * 8)) ≤ t627)) == t674)) else (some false)) else (some false)) = some r := H
            have A176 := Aside0.mk A1760
            clear A1760
            have HF177 := Aside0.mk H
            clear H
            have hnb178 := NB657_622.out
            have hnc178 := NB622_657.out
            have hnb179 := NB657_626.out
            have hnc179 := NB626_657.out
            have hnb180 := NB657_632.out
            have hnc180 := NB632_657.out
            have hnb181 := NB657_637.out
            have hnc181 := NB637_657.out
            have hcz182_0 : wr.cell? ⟨gb657, 0, none⟩ = some (u658000) := (blk_cell BK657.out 0).trans rfl
            have hfz182_0 := blk_frozen BK657.out 0
            have hnb183 := NB626_622.out
            have hnc183 := NB622_626.out
            have hnb184 := NB626_632.out
            have hnc184 := NB632_626.out
            have hnb185 := NB626_637.out
            have hnc185 := NB637_626.out
            obtain ⟨hcz186_0, hcz186_1, hcz186_2, hfz186_0, hfz186_1, hfz186_2⟩ := bq3 BK626.out
            obtain ⟨Ao187, co187, eo187⟩ := Kd.R_slice HO_658000.out
            subst eo187
            go_upto_region 32 with (first | ((with_reducible refine gate_callee (f := 43) rfl ?_); refine gLq (some 154) Try.func43 #[.agg #[.slice Ao187 x658000_3.length co187], .agg #[.int .i64 t623, .int .i64 t624, .int .i64 t625], .int .i64 (wrap64 (t647 * 8))] ?_; (with_reducible refine (impl_TakeFor.calls k3 _ _ x658000_3 t623 t624 t625 (wrap64 (t647 * 8)) t666 t669 _ ?side1 ?side2 A175.out).mono ?_); (case side1 => repeat (first | exact (Kd.R_reads' HO_658000.out).2.2 | (with_reducible refine Kd.C_alloc ?_ _) | (with_reducible refine Kd.C_drewN ?_ _) | (with_reducible refine Kd.C_drew ?_))); (case side2 => exact (Kd.R_reads' HO_658000.out).2.1); rintro e w188 ⟨v667, rfl, ho0, hb⟩; refine ⟨_, rfl, ?_⟩; have HO668 := Aside0.mk (Kd.R_lower (Kd.R_new' (Kd.R_new' (Kd.R_new' (Kd.R_new' (Kd.R_new' ho0 (Kd.R_lt (Kd.Rq HO_13.out))) (Kd.R_lt (Kd.Rq HO_623000.out))) (Kd.R_lt (Kd.Rq HO_633000.out))) (Kd.R_lt (Kd.Rq HO_638000.out))) (Kd.R_lt (Kd.Rq HO_658000.out))) (below_size (blq HB.out))); replace HO_13 := Aside0.mk (Kd.R_elder' (Kd.Rq HO_13.out) (Kd.R_base ho0) hb); replace HO_623000 := Aside0.mk (Kd.R_elder' (Kd.Rq HO_623000.out) (Kd.R_base ho0) hb); replace HO_633000 := Aside0.mk (Kd.R_elder' (Kd.Rq HO_633000.out) (Kd.R_base ho0) hb); replace HO_638000 := Aside0.mk (Kd.R_elder' (Kd.Rq HO_638000.out) (Kd.R_base ho0) hb); replace HO_658000 := Aside0.mk (Kd.R_elder' (Kd.Rq HO_658000.out) (Kd.R_base ho0) hb); replace BK622 := bkb BK622 hb; replace BK626 := bkb BK626 hb; replace BK632 := bkb BK632 hb; replace BK637 := bkb BK637 hb; replace BK657 := bkb BK657 hb; replace HB := hbs HB hb; (try clear hb); (try clear hb2); (try clear hk); (try clear hi); (try clear ho0)) | ((with_reducible refine gate_dst (N := 19) rfl ?_); (try (refine gate_guard (by rfl) ?_; dsimp only)); refine box_event ?hg (N := 19) ?hd (cs := #[.slice none 0 0]) (t := 54) ?hr ?_; (case hd => rfl); (case hg => rfl); (case hr => first | (go_simp; done) | (go_simp; rfl)); intro gb670 hg w189 hbox hb; have BK670 := Aside0.mk (hbox); have GW670 := sQ hg HB; have GE670 := sQ hg HB; have NB622_670 := qL hg BK622; have NB670_622 := qG hg BK622; have NB626_670 := qL hg BK626; have NB670_626 := qG hg BK626; have NB632_670 := qL hg BK632; have NB670_632 := qG hg BK632; have NB637_670 := qL hg BK637; have NB670_637 := qG hg BK637; have NB657_670 := qL hg BK657; have NB670_657 := qG hg BK657; replace HO_13 := rob HO_13 hb; replace HO_623000 := rob HO_623000 hb; replace HO_633000 := rob HO_633000 hb; replace HO_638000 := rob HO_638000 hb; replace HO_658000 := rob HO_658000 hb; replace HO668 := rob HO668 hb; replace BK622 := bkb BK622 hb; replace BK626 := bkb BK626 hb; replace BK632 := bkb BK632 hb; replace BK637 := bkb BK637 hb; replace BK657 := bkb BK657 hb; replace HB := hbs HB hb; clear hb hbox hg; obtain ⟨Ao190, co190, eo190⟩ := Kd.R_slice HO668.out; subst eo190; have hnb191 := NB670_622.out; have hnc191 := NB622_670.out; have hnb192 := NB670_626.out; have hnc192 := NB626_670.out; have hnb193 := NB670_632.out; have hnc193 := NB632_670.out; have hnb194 := NB670_637.out; have hnc194 := NB637_670.out; have hnb195 := NB670_657.out; have hnc195 := NB657_670.out; have hcz196_0 : w189.cell? ⟨gb670, 0, none⟩ = some (.slice none 0 0) := (blk_cell BK670.out 0).trans rfl; have hfz196_0 := blk_frozen BK670.out 0; have hnb197 := NB622_632.out; have hnc197 := NB632_622.out; have hnb198 := NB622_637.out; have hnc198 := NB637_622.out; have hcz199_0 : w189.cell? ⟨gb622, 0, none⟩ = some (.slice Ao13 t619.length co13) := (blk_cell BK622.out 0).trans rfl; have hfz199_0 := blk_frozen BK622.out 0; obtain ⟨hcz200_0, hcz200_1, hcz200_2, hfz200_0, hfz200_1, hfz200_2⟩ := bq3 BK626.out) | ((with_reducible refine gate_callee (f := 43) rfl ?_); refine gLq (some 161) Try.func43 #[.agg #[.slice Ao13 t619.length co13], .agg #[.int .i64 t623, .int .i64 t624, .int .i64 t625], .int .i64 (wrap64 (t647 * 8))] ?_; (with_reducible refine (impl_TakeFor.calls k3 _ _ t619 t623 t624 t625 (wrap64 (t647 * 8)) t671 t674 _ ?side1 ?side2 A176.out).mono ?_); (case side1 => refine (Kd.R_reads' (e := 3) (base := w.heap.size) (ok := fun k_ => ((some k_ ≠ (.slice Ao126 t654.length co126 : Value).ownBlock ∧ (some k_ ≠ (.slice Ao25 t628.length co25 : Value).ownBlock ∧ some k_ ≠ (.slice Ao33 t633.length co33 : Value).ownBlock)) ∧ some k_ ≠ (.slice Ao190 t666.length co190 : Value).ownBlock)) (n := t619.length) (c := co13) ?_).2.2; exact (Kd.Rq (Kd.R_mono (Kd.R_far (p := ⟨gb670, 0, none⟩) (Kd.R_types HO_623000.out BK670.out (by decide)) (fun _ hk => hk.2) (.slice Ao190 t666.length co190)) (fun _ h_ => h_.1)))); (case side2 => exact (Kd.R_reads' HO_623000.out).2.1); rintro e w201 ⟨v672, rfl, ho0, hb⟩; refine ⟨_, rfl, ?_⟩; have HO673 := Aside0.mk (Kd.R_lower (Kd.R_new' (Kd.R_new' (Kd.R_new' (Kd.R_new' (Kd.R_new' (Kd.R_new' ho0 (Kd.R_lt (Kd.Rq (Kd.R_mono (Kd.R_far (p := ⟨gb670, 0, none⟩) (Kd.R_types HO_13.out BK670.out (by decide)) (fun _ hk => hk.2) (.slice Ao190 t666.length co190)) (fun _ h_ => h_.1))))) (Kd.R_lt (Kd.Rq (Kd.R_mono (Kd.R_far (p := ⟨gb670, 0, none⟩) (Kd.R_types HO_623000.out BK670.out (by decide)) (fun _ hk => hk.2) (.slice Ao190 t666.length co190)) (fun _ h_ => h_.1))))) (Kd.R_lt (Kd.Rq (Kd.R_mono (Kd.R_far (p := ⟨gb670, 0, none⟩) (Kd.R_types HO_633000.out BK670.out (by decide)) (fun _ hk => hk.2) (.slice Ao190 t666.length co190)) (fun _ h_ => h_.1))))) (Kd.R_lt (Kd.Rq (Kd.R_mono (Kd.R_far (p := ⟨gb670, 0, none⟩) (Kd.R_types HO_638000.out BK670.out (by decide)) (fun _ hk => hk.2) (.slice Ao190 t666.length co190)) (fun _ h_ => h_.1))))) (Kd.R_lt (Kd.Rq (Kd.R_mono (Kd.R_far (p := ⟨gb670, 0, none⟩) (Kd.R_types HO_658000.out BK670.out (by decide)) (fun _ hk => hk.2) (.slice Ao190 t666.length co190)) (fun _ h_ => h_.1))))) (Kd.R_lt (Kd.Rq (Kd.R_mono (Kd.R_far (p := ⟨gb670, 0, none⟩) (Kd.R_types HO668.out BK670.out (by decide)) (fun _ hk => hk.2) (.slice Ao190 t666.length co190)) (fun _ h_ => h_.1))))) (below_size (blq HB.out))); replace HO_13 := Aside0.mk (Kd.R_elder' (Kd.Rq (Kd.R_mono (Kd.R_far (p := ⟨gb670, 0, none⟩) (Kd.R_types HO_13.out BK670.out (by decide)) (fun _ hk => hk.2) (.slice Ao190 t666.length co190)) (fun _ h_ => h_.1))) (Kd.R_base ho0) hb); replace HO_623000 := Aside0.mk (Kd.R_elder' (Kd.Rq (Kd.R_mono (Kd.R_far (p := ⟨gb670, 0, none⟩) (Kd.R_types HO_623000.out BK670.out (by decide)) (fun _ hk => hk.2) (.slice Ao190 t666.length co190)) (fun _ h_ => h_.1))) (Kd.R_base ho0) hb); replace HO_633000 := Aside0.mk (Kd.R_elder' (Kd.Rq (Kd.R_mono (Kd.R_far (p := ⟨gb670, 0, none⟩) (Kd.R_types HO_633000.out BK670.out (by decide)) (fun _ hk => hk.2) (.slice Ao190 t666.length co190)) (fun _ h_ => h_.1))) (Kd.R_base ho0) hb); replace HO_638000 := Aside0.mk (Kd.R_elder' (Kd.Rq (Kd.R_mono (Kd.R_far (p := ⟨gb670, 0, none⟩) (Kd.R_types HO_638000.out BK670.out (by decide)) (fun _ hk => hk.2) (.slice Ao190 t666.length co190)) (fun _ h_ => h_.1))) (Kd.R_base ho0) hb); replace HO_658000 := Aside0.mk (Kd.R_elder' (Kd.Rq (Kd.R_mono (Kd.R_far (p := ⟨gb670, 0, none⟩) (Kd.R_types HO_658000.out BK670.out (by decide)) (fun _ hk => hk.2) (.slice Ao190 t666.length co190)) (fun _ h_ => h_.1))) (Kd.R_base ho0) hb); replace HO668 := Aside0.mk (Kd.R_elder' (Kd.Rq (Kd.R_mono (Kd.R_far (p := ⟨gb670, 0, none⟩) (Kd.R_types HO668.out BK670.out (by decide)) (fun _ hk => hk.2) (.slice Ao190 t666.length co190)) (fun _ h_ => h_.1))) (Kd.R_base ho0) hb); replace BK622 := Aside0.mk (blk_below (g := gb622) (o := .cells #[.slice Ao13 t619.length co13] 54 (0, 0)) (by (with_reducible repeat (first | refine blk_drewN ?_ _ | refine blk_drew ?_ | refine blk_alloc ?_ _)); refine blk_far ?_ NB622_670.out _; (with_reducible repeat (first | refine blk_drewN ?_ _ | refine blk_drew ?_ | refine blk_alloc ?_ _)); exact BK622.out) hb); replace BK626 := Aside0.mk (blk_below (g := gb626) (o := .cells #[.int .i64 t623, .int .i64 t624, .int .i64 t625] 56 (0, 0)) (by (with_reducible repeat (first | refine blk_drewN ?_ _ | refine blk_drew ?_ | refine blk_alloc ?_ _)); refine blk_far ?_ NB626_670.out _; (with_reducible repeat (first | refine blk_drewN ?_ _ | refine blk_drew ?_ | refine blk_alloc ?_ _)); exact BK626.out) hb); replace BK632 := Aside0.mk (blk_below (g := gb632) (o := .cells #[.slice Ao25 t628.length co25] 54 (0, 0)) (by (with_reducible repeat (first | refine blk_drewN ?_ _ | refine blk_drew ?_ | refine blk_alloc ?_ _)); refine blk_far ?_ NB632_670.out _; (with_reducible repeat (first | refine blk_drewN ?_ _ | refine blk_drew ?_ | refine blk_alloc ?_ _)); exact BK632.out) hb); replace BK637 := Aside0.mk (blk_below (g := gb637) (o := .cells #[.slice Ao33 t633.length co33] 54 (0, 0)) (by (with_reducible repeat (first | refine blk_drewN ?_ _ | refine blk_drew ?_ | refine blk_alloc ?_ _)); refine blk_far ?_ NB637_670.out _; (with_reducible repeat (first | refine blk_drewN ?_ _ | refine blk_drew ?_ | refine blk_alloc ?_ _)); exact BK637.out) hb); replace BK657 := Aside0.mk (blk_below (g := gb657) (o := .cells #[.slice Ao187 x658000_3.length co187] 54 (0, 0)) (by (with_reducible repeat (first | refine blk_drewN ?_ _ | refine blk_drew ?_ | refine blk_alloc ?_ _)); refine blk_far ?_ NB657_670.out _; (with_reducible repeat (first | refine blk_drewN ?_ _ | refine blk_drew ?_ | refine blk_alloc ?_ _)); exact BK657.out) hb); replace BK670 := Aside0.mk (blk_below (g := gb670) (o := .cells #[.slice Ao190 t666.length co190] 54 (0, 0)) (by (with_reducible repeat (first | refine blk_drewN ?_ _ | refine blk_drew ?_ | refine blk_alloc ?_ _)); refine blk_put (cs := #[.slice none 0 0]) ?_ 0 _ rfl; (with_reducible repeat (first | refine blk_drewN ?_ _ | refine blk_drew ?_ | refine blk_alloc ?_ _)); exact BK670.out) hb); replace HB := hbs HB hb; (try clear hb); (try clear hb2); (try clear hk); (try clear hi); (try clear ho0)) | ((with_reducible refine gate_dst (N := 21) rfl ?_); (try (refine gate_guard (by rfl) ?_; dsimp only)); refine box_event ?hg (N := 21) ?hd (cs := #[.slice none 0 0]) (t := 54) ?hr ?_; (case hd => rfl); (case hg => rfl); (case hr => first | (go_simp; done) | (go_simp; rfl)); intro gb675 hg w202 hbox hb; have BK675 := Aside0.mk (hbox); have GW675 := sQ hg HB; have GE675 := sQ hg HB; have NB622_675 := qL hg BK622; have NB675_622 := qG hg BK622; have NB626_675 := qL hg BK626; have NB675_626 := qG hg BK626; have NB632_675 := qL hg BK632; have NB675_632 := qG hg BK632; have NB637_675 := qL hg BK637; have NB675_637 := qG hg BK637; have NB657_675 := qL hg BK657; have NB675_657 := qG hg BK657; have NB670_675 := qL hg BK670; have NB675_670 := qG hg BK670; replace HO_13 := rob HO_13 hb; replace HO_623000 := rob HO_623000 hb; replace HO_633000 := rob HO_633000 hb; replace HO_638000 := rob HO_638000 hb; replace HO_658000 := rob HO_658000 hb; replace HO668 := rob HO668 hb; replace HO673 := rob HO673 hb; replace BK622 := bkb BK622 hb; replace BK626 := bkb BK626 hb; replace BK632 := bkb BK632 hb; replace BK637 := bkb BK637 hb; replace BK657 := bkb BK657 hb; replace BK670 := bkb BK670 hb; replace HB := hbs HB hb; clear hb hbox hg; obtain ⟨Ao203, co203, eo203⟩ := Kd.R_slice HO673.out; subst eo203; have hnb204 := NB675_622.out; have hnc204 := NB622_675.out; have hnb205 := NB675_626.out; have hnc205 := NB626_675.out; have hnb206 := NB675_632.out; have hnc206 := NB632_675.out; have hnb207 := NB675_637.out; have hnc207 := NB637_675.out; have hnb208 := NB675_657.out; have hnc208 := NB657_675.out; have hnb209 := NB675_670.out; have hnc209 := NB670_675.out; have hcz210_0 : w202.cell? ⟨gb675, 0, none⟩ = some (.slice none 0 0) := (blk_cell BK675.out 0).trans rfl; have hfz210_0 := blk_frozen BK675.out 0))
            have H := HF177.out
            clear HF177
            by_cases c211 : t669 = true
            ·
             subst c211
             have H1 : (if (t674 == x15_3) = true then (some ((decide ((wrap64 (t647 * 8)) ≤ t627)) == t674)) else (some false)) = some r := by rw [if_pos rfl] at H; exact H
             clear H
             have H := H1
             clear H1
             by_cases c212 : (t674 == x15_3) = true
             ·
              rw [if_pos c212] at H
              have c212b0 : (t674 == x15_3) = true := c212
              (try (have c212b1 : decide (t674 = x15_3) = true := by simpa using c212))
              (try (have c212b2 : (t674 == x15_3) = true := by simpa using c212))
              clear c212
              (first | rw [c212b0] | (simp only [i64_w, i32_w]; rw [c212b0]) | skip)
              obtain rfl := Option.some.inj H
              go_wp2
              go_ret
              exact ⟨by first | rfl | (simp [errW_none, errW_some] <;> rfl) | (simp [*, errW_none, errW_some] <;> rfl), blq HB.out⟩
             ·
              rw [if_neg c212] at H
              have c212b0 : (t674 == x15_3) = false := by simpa using c212
              (try (have c212b1 : decide (t674 = x15_3) = false := by simpa using c212))
              (try (have c212b2 : (t674 == x15_3) = false := by simpa using c212))
              (try (have c212b3 : ¬ (t674 = x15_3) := by simpa using c212))
              clear c212
              (first | rw [c212b0] | (simp only [i64_w, i32_w]; rw [c212b0]) | skip)
              obtain rfl := Option.some.inj H
              go_wp2
              go_ret
              exact ⟨by first | rfl | (simp [errW_none, errW_some] <;> rfl) | (simp [*, errW_none, errW_some] <;> rfl), blq HB.out⟩
            ·
             replace c211 := Bool.eq_false_iff.mpr c211
             subst c211
             have H1 : (some false) = some r := by rw [if_neg (show ¬ (false = true) by decide)] at H; exact H
             clear H
             have H := H1
             clear H1
             obtain rfl := Option.some.inj H
             go_wp2
             go_ret
             exact ⟨by first | rfl | (simp [errW_none, errW_some] <;> rfl) | (simp [*, errW_none, errW_some] <;> rfl), blq HB.out⟩
        ·
         rw [if_neg c127] at H
         have c127b0 : ((t654.length : Int) == 4) = false := beq_eq_false_iff_ne.mpr c127
         have c127b1 : ((t654.length : Int) != 4) = true := bne_iff_ne.mpr c127
         (first | rw [c127b0] | (simp only [i64_w, i32_w]; rw [c127b0]) | skip)
         obtain rfl := Option.some.inj H
         go_wp2
         go_ret
         exact ⟨by first | rfl | (simp [errW_none, errW_some] <;> rfl) | (simp [*, errW_none, errW_some] <;> rfl), blq HB.out⟩

/-- THE ONE PURE STATEMENT of laws_FnStocks: yours. -/
def laws_FnStocks.Pure : Prop := ∀ (l0 : List Int), l0.length ≤ maxLen → l0.length * 1 ≤ 140737488351232 → (∀ x ∈ l0, (Lit.int .u8 x).wf = true) → ∃ k, laws_FnStocks.f k l0 = some true
theorem laws_FnStocks.walk (P : laws_FnStocks.Pure) (a0 : Option Addr) (len0 cap0 : Nat) (z0 : List Int) (w : World) (w0 : (a0 = none ∧ len0 = 0 ∧ cap0 = 0 ∧ z0 = []) ∨ ∃ x, a0 = some x ∧ len0 ≤ cap0 ∧ cap0 ≤ maxLen ∧ z0.length = cap0 ∧ (∀ i, i < z0.length → w.cell? (x.add i) = some (.int .u8 (z0.getD i 0))) ∧ ∀ n ∈ z0, (Lit.int .u8 n).wf = true) (y0 : len0 * 1 ≤ 140737488351232) :
  Calls Try.prog 7 #[.slice a0 len0 cap0] w fun e w' => e = .returned (.bool true) ∧ Below w.heap.size w w' := by
 obtain ⟨l0, rfl, hr0, hm0, hw0, hc0⟩ := ReadsInt.ofRowC w0
 obtain ⟨k, h⟩ := P l0 hm0 y0 hw0
 refine (laws_FnStocks.calls k _ _ l0 true w (Kd.C_of_reads (d := (0 : Int)) (h1 := fun _ => rfl) hr0) hc0 h).mono ?_
 rintro e w' ⟨rfl, hd⟩
 exact ⟨rfl, hd⟩

end Go.Proofs.Ytnlioefgpgamdaa.Q
