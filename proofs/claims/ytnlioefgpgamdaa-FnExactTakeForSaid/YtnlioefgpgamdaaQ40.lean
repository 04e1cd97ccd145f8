-- Written for this claim by wip/xprint.py of this repository (by way of the kit's print); Lean checks every line.
import Derived.Test.YtnlioefgpgamdaaQ0
import Derived.Test.YtnlioefgpgamdaaQ17
import Derived.Test.YtnlioefgpgamdaaQ33
import Derived.Test.YtnlioefgpgamdaaQ39
import Derived.Test.YtnlioefgpgamdaaQ42
namespace Go.Proofs.Ytnlioefgpgamdaa.Q
open Go.RowKit Go.Proofs.YtnlioefgpgamdaaW.PrintWords Go.Proofs.YtnlioefgpgamdaaW.PrintLast Go.Proofs.YtnlioefgpgamdaaW.PrintMore
attribute [local go_sem] max2_int min2_int max_two min_two max_three min_three max_four min_four   -- for this text's walks alone
set_option linter.unusedVariables false
set_option linter.unusedSimpArgs false

/-! ### laws_FnExactTakeFor: function 10 -/
mutual
def laws_FnExactTakeFor.j0 : Nat → Int → Bool → Bool → Bool → List Int → Int → Int → Int → List Int → List Int → List Int → Option (Bool)
 | 0, _, _, _, _, _, _, _, _, _, _, _ => none
 | k + 1, x2, x9, x12, x50, x765000, x766000, x766001, x766002, x778000, x782000, x790000 => if x50 = true then (some false) else ((laws_toStock.f k x765000).bind fun t791 => ((laws_eqStock.f k x782000 t791).bind fun t794 => (if t794 = true then ((laws_markStock.f k x782000 1).bind fun bt795 => (if bt795.1 < 0 then (laws_FnExactTakeFor.j1 k x2 x9 true x765000 x766000 x766001 x766002 x778000 x790000) else ((laws_eqStock.f k x790000 x778000).bind fun t797 => (if t797 = true then (laws_FnExactTakeFor.j1 k x2 x9 (x12 != x9) x765000 x766000 x766001 x766002 x778000 x790000) else (laws_FnExactTakeFor.j1 k x2 x9 true x765000 x766000 x766001 x766002 x778000 x790000))))) else (some false))))
def laws_FnExactTakeFor.j1 : Nat → Int → Bool → Bool → List Int → Int → Int → Int → List Int → List Int → Option (Bool)
 | 0, _, _, _, _, _, _, _, _, _ => none
 | k + 1, x2, x9, x71, x765000, x766000, x766001, x766002, x778000, x790000 => if x71 = true then (some false) else ((laws_markStock.f k x790000 1).bind fun bt798 => ((laws_heldStock.f k bt798.2 1).bind fun t800 => (if t800 < 0 then (some false) else (if t800 = bt798.1 then ((laws_toStock.f k x765000).bind fun t801 => ((laws_toDough.f x766000 x766001 x766002).bind fun bt804 => ((impl_TakeFor.f k t801 bt804.1 bt804.2.1 bt804.2.2 x2).bind fun bt807 => ((laws_eqStock.f k bt807.1 x778000).bind fun t812 => (if t812 = true then (laws_FnExactTakeFor.j2 k bt798.1 (bt807.2 != x9) bt798.2) else (laws_FnExactTakeFor.j2 k bt798.1 true bt798.2)))))) else (some false)))))
def laws_FnExactTakeFor.j2 : Nat → Int → Bool → List Int → Option (Bool)
 | 0, _, _, _ => none
 | k + 1, x14, x100, x790000 => if x100 = true then (some false) else ((laws_heldStock.f k x790000 1).bind fun t813 => (if t813 < 0 then (some false) else (if t813 = x14 then (some true) else (some false))))
end
def laws_FnExactTakeFor.f (k : Nat) (l0_0 : List Int) (a1_0 : Int) (a1_1 : Int) (a1_2 : Int) (a2 : Int) : Option (Bool) := (laws_szStock.f l0_0 1048576).bind fun t766 => (if t766 < 0 then (some true) else ((laws_toStock.f k l0_0).bind fun t767 => ((laws_toDough.f a1_0 a1_1 a1_2).bind fun bt770 => ((spec_TakeFor.f k t767 bt770.1 bt770.2.1 bt770.2.2 a2).bind fun bt773 => ((laws_toStock.f k l0_0).bind fun t778 => ((laws_toDough.f a1_0 a1_1 a1_2).bind fun bt782 => ((impl_TakeFor.f k t778 bt782.1 bt782.2.1 bt782.2.2 a2).bind fun bt785 => ((laws_eqStock.f k bt785.1 bt773.1).bind fun t790 => (if t790 = true then (laws_FnExactTakeFor.j0 k a2 bt773.2 bt785.2 (bt785.2 != bt773.2) l0_0 a1_0 a1_1 a1_2 bt773.1 t778 bt785.1) else (laws_FnExactTakeFor.j0 k a2 bt773.2 bt785.2 true l0_0 a1_0 a1_1 a1_2 bt773.1 t778 bt785.1))))))))))
theorem laws_FnExactTakeFor.mono_l : ∀ k, (∀ y0 y1 y2 y3 y4 y5 y6 y7 y8 y9 y10, LeO (laws_FnExactTakeFor.j0 k y0 y1 y2 y3 y4 y5 y6 y7 y8 y9 y10) (laws_FnExactTakeFor.j0 (k + 1) y0 y1 y2 y3 y4 y5 y6 y7 y8 y9 y10)) ∧ (∀ y0 y1 y2 y3 y4 y5 y6 y7 y8, LeO (laws_FnExactTakeFor.j1 k y0 y1 y2 y3 y4 y5 y6 y7 y8) (laws_FnExactTakeFor.j1 (k + 1) y0 y1 y2 y3 y4 y5 y6 y7 y8)) ∧ (∀ y0 y1 y2, LeO (laws_FnExactTakeFor.j2 k y0 y1 y2) (laws_FnExactTakeFor.j2 (k + 1) y0 y1 y2))
 | 0 => ⟨fun _ _ _ _ _ _ _ _ _ _ _ r h => by simp [laws_FnExactTakeFor.j0] at h, fun _ _ _ _ _ _ _ _ _ r h => by simp [laws_FnExactTakeFor.j1] at h, fun _ _ _ r h => by simp [laws_FnExactTakeFor.j2] at h⟩
 | k + 1 => by
  obtain ⟨ih0, ih1, ih2⟩ := laws_FnExactTakeFor.mono_l k
  refine ⟨?_, ?_, ?_⟩
  ·
   intro y0 y1 y2 y3 y4 y5 y6 y7 y8 y9 y10
   unfold laws_FnExactTakeFor.j0
   repeat' first
   | (with_reducible exact ih0 _ _ _ _ _ _ _ _ _ _ _)
   | (with_reducible exact ih1 _ _ _ _ _ _ _ _ _)
   | (with_reducible exact ih2 _ _ _)
   | (with_reducible exact impl_TakeFor.mono _ _ _ _ _ _)
   | (with_reducible exact laws_eqStock.mono _ _ _)
   | (with_reducible exact laws_heldStock.mono _ _ _)
   | (with_reducible exact laws_markStock.mono _ _ _)
   | (with_reducible exact laws_toStock.mono _ _)
   | (with_reducible exact spec_TakeFor.mono _ _ _ _ _ _)
   | (with_reducible exact LeO.refl _)
   | (with_reducible exact LeO.none _)
   | (with_reducible refine LeO.ite ?_ ?_)
   | (with_reducible refine LeO.bind ?_ (fun _ => ?_))
   | exact ih0 _ _ _ _ _ _ _ _ _ _ _
   | exact ih1 _ _ _ _ _ _ _ _ _
   | exact ih2 _ _ _
   | exact impl_TakeFor.mono _ _ _ _ _ _
   | exact laws_eqStock.mono _ _ _
   | exact laws_heldStock.mono _ _ _
   | exact laws_markStock.mono _ _ _
   | exact laws_toStock.mono _ _
   | exact spec_TakeFor.mono _ _ _ _ _ _
   | exact LeO.none _
   | refine LeO.ite ?_ ?_
   | refine LeO.bind ?_ (fun _ => ?_)
  ·
   intro y0 y1 y2 y3 y4 y5 y6 y7 y8
   unfold laws_FnExactTakeFor.j1
   repeat' first
   | (with_reducible exact ih0 _ _ _ _ _ _ _ _ _ _ _)
   | (with_reducible exact ih1 _ _ _ _ _ _ _ _ _)
   | (with_reducible exact ih2 _ _ _)
   | (with_reducible exact impl_TakeFor.mono _ _ _ _ _ _)
   | (with_reducible exact laws_eqStock.mono _ _ _)
   | (with_reducible exact laws_heldStock.mono _ _ _)
   | (with_reducible exact laws_markStock.mono _ _ _)
   | (with_reducible exact laws_toStock.mono _ _)
   | (with_reducible exact spec_TakeFor.mono _ _ _ _ _ _)
   | (with_reducible exact LeO.refl _)
   | (with_reducible exact LeO.none _)
   | (with_reducible refine LeO.ite ?_ ?_)
   | (with_reducible refine LeO.bind ?_ (fun _ => ?_))
   | exact ih0 _ _ _ _ _ _ _ _ _ _ _
   | exact ih1 _ _ _ _ _ _ _ _ _
   | exact ih2 _ _ _
   | exact impl_TakeFor.mono _ _ _ _ _ _
   | exact laws_eqStock.mono _ _ _
   | exact laws_heldStock.mono _ _ _
   | exact laws_markStock.mono _ _ _
   | exact laws_toStock.mono _ _
   | exact spec_TakeFor.mono _ _ _ _ _ _
   | exact LeO.none _
   | refine LeO.ite ?_ ?_
   | refine LeO.bind ?_ (fun _ => ?_)
  ·
   intro y0 y1 y2
   unfold laws_FnExactTakeFor.j2
   repeat' first
   | (with_reducible exact ih0 _ _ _ _ _ _ _ _ _ _ _)
   | (with_reducible exact ih1 _ _ _ _ _ _ _ _ _)
   | (with_reducible exact ih2 _ _ _)
   | (with_reducible exact impl_TakeFor.mono _ _ _ _ _ _)
   | (with_reducible exact laws_eqStock.mono _ _ _)
   | (with_reducible exact laws_heldStock.mono _ _ _)
   | (with_reducible exact laws_markStock.mono _ _ _)
   | (with_reducible exact laws_toStock.mono _ _)
   | (with_reducible exact spec_TakeFor.mono _ _ _ _ _ _)
   | (with_reducible exact LeO.refl _)
   | (with_reducible exact LeO.none _)
   | (with_reducible refine LeO.ite ?_ ?_)
   | (with_reducible refine LeO.bind ?_ (fun _ => ?_))
   | exact ih0 _ _ _ _ _ _ _ _ _ _ _
   | exact ih1 _ _ _ _ _ _ _ _ _
   | exact ih2 _ _ _
   | exact impl_TakeFor.mono _ _ _ _ _ _
   | exact laws_eqStock.mono _ _ _
   | exact laws_heldStock.mono _ _ _
   | exact laws_markStock.mono _ _ _
   | exact laws_toStock.mono _ _
   | exact spec_TakeFor.mono _ _ _ _ _ _
   | exact LeO.none _
   | refine LeO.ite ?_ ?_
   | refine LeO.bind ?_ (fun _ => ?_)
theorem laws_FnExactTakeFor.mono : ∀ a0 a1 a2 a3 a4 k, LeO (laws_FnExactTakeFor.f k a0 a1 a2 a3 a4) (laws_FnExactTakeFor.f (k + 1) a0 a1 a2 a3 a4) := by
 intro a0 a1 a2 a3 a4 k
 obtain ⟨ih0, ih1, ih2⟩ := laws_FnExactTakeFor.mono_l k
 unfold laws_FnExactTakeFor.f
 repeat' first
   | (with_reducible exact ih0 _ _ _ _ _ _ _ _ _ _ _)
   | (with_reducible exact ih1 _ _ _ _ _ _ _ _ _)
   | (with_reducible exact ih2 _ _ _)
   | (with_reducible exact impl_TakeFor.mono _ _ _ _ _ _)
   | (with_reducible exact laws_eqStock.mono _ _ _)
   | (with_reducible exact laws_heldStock.mono _ _ _)
   | (with_reducible exact laws_markStock.mono _ _ _)
   | (with_reducible exact laws_toStock.mono _ _)
   | (with_reducible exact spec_TakeFor.mono _ _ _ _ _ _)
   | (with_reducible exact LeO.refl _)
   | (with_reducible exact LeO.none _)
   | (with_reducible refine LeO.ite ?_ ?_)
   | (with_reducible refine LeO.bind ?_ (fun _ => ?_))
   | exact ih0 _ _ _ _ _ _ _ _ _ _ _
   | exact ih1 _ _ _ _ _ _ _ _ _
   | exact ih2 _ _ _
   | exact impl_TakeFor.mono _ _ _ _ _ _
   | exact laws_eqStock.mono _ _ _
   | exact laws_heldStock.mono _ _ _
   | exact laws_markStock.mono _ _ _
   | exact laws_toStock.mono _ _
   | exact spec_TakeFor.mono _ _ _ _ _ _
   | exact LeO.none _
   | refine LeO.ite ?_ ?_
   | refine LeO.bind ?_ (fun _ => ?_)
def laws_FnExactTakeFor.T5 : Bool × List (List Nat × List Nat) := (true, [([], []), ([0], [0]), ([], []), ([2, 1], [2]), ([], []), ([1, 3, 4, 3], [1, 3, 4]), ([5], [5]), ([6], [6]), ([6], [6]), ([], []), ([9, 7, 5, 0, 1, 2, 3, 4, 5, 6, 7, 9], [7, 9]), ([8, 10, 0, 1, 2, 3, 4, 5, 6, 7, 8, 9, 10], [8])])
def laws_FnExactTakeFor.B5 : List Nat := [0, 1, 0, 7, 0, 31, 63, 127, 127, 0, 767, 2047]
theorem laws_FnExactTakeFor.tab5 : rtab .any (opsOf Try.f10 5) = laws_FnExactTakeFor.T5 := by kernel_rfl
theorem laws_FnExactTakeFor.bits5 : waitsOk laws_FnExactTakeFor.T5.2 laws_FnExactTakeFor.B5 = true := by kernel_rfl
def laws_FnExactTakeFor.T7 : Bool × List (List Nat × List Nat) := (true, [([], []), ([], []), ([1], [1]), ([], []), ([0, 2, 3, 2], [0, 2, 3]), ([4], [4]), ([5], [5]), ([5], [5]), ([], []), ([8, 6, 4, 0, 1, 2, 3, 4, 5, 6, 8], [6, 8]), ([7, 9, 0, 1, 2, 3, 4, 5, 6, 7, 8, 9], [7])])
def laws_FnExactTakeFor.B7 : List Nat := [0, 0, 2, 0, 15, 31, 63, 63, 0, 383, 1023]
theorem laws_FnExactTakeFor.tab7 : rtab .any (opsOf Try.f10 7) = laws_FnExactTakeFor.T7 := by kernel_rfl
theorem laws_FnExactTakeFor.bits7 : waitsOk laws_FnExactTakeFor.T7.2 laws_FnExactTakeFor.B7 = true := by kernel_rfl
def laws_FnExactTakeFor.T24 : Bool × List (List Nat × List Nat) := (true, [([], []), ([0], [0]), ([], []), ([2, 1], [2]), ([], []), ([1, 3, 4, 3], [1, 3, 4]), ([5], [5]), ([6], [6]), ([6], [6]), ([], []), ([9, 7, 5, 0, 1, 2, 3, 4, 5, 6, 7, 9], [7, 9]), ([8, 10, 0, 1, 2, 3, 4, 5, 6, 7, 8, 9, 10], [8])])
def laws_FnExactTakeFor.B24 : List Nat := [0, 1, 0, 7, 0, 31, 63, 127, 127, 0, 767, 2047]
theorem laws_FnExactTakeFor.tab24 : rtab .any (opsOf Try.f10 24) = laws_FnExactTakeFor.T24 := by kernel_rfl
theorem laws_FnExactTakeFor.bits24 : waitsOk laws_FnExactTakeFor.T24.2 laws_FnExactTakeFor.B24 = true := by kernel_rfl
set_option maxHeartbeats 8000000 in
set_option maxRecDepth 100000 in
theorem laws_FnExactTakeFor.calls (k : Nat) (A0_0 : Option Addr) (c0_0 : Nat) (l0_0 : List Int) (a1_0 : Int) (a1_1 : Int) (a1_2 : Int) (a2 : Int) (r : Bool) (w : World) (hr0_0 : Kd.C (Kd.int .i64) w A0_0 l0_0.length l0_0) (hc0_0 : l0_0.length ≤ c0_0) (h : laws_FnExactTakeFor.f k l0_0 a1_0 a1_1 a1_2 a2 = some r) :
  Calls Try.prog 10 #[.agg #[.slice A0_0 l0_0.length c0_0], .agg #[.int .i64 a1_0, .int .i64 a1_1, .int .i64 a1_2], .int .i64 a2] w fun e w' => e = .returned (.bool r) ∧ Below w.heap.size w w' := by
 have hu49 := Try.underlying49
 have hu51 := Try.underlying51
 have hu54 := Try.underlying54
 have HR0_0 := Aside0.mk hr0_0
 have HC0_0 := Aside0.mk hc0_0
 clear hr0_0 hc0_0
 have HB := Aside0.mk (Below.refl w.heap.size w)
 have H : ((laws_szStock.f l0_0 1048576).bind fun t766 => (if t766 < 0 then (some true) else ((laws_toStock.f k l0_0).bind fun t767 => ((laws_toDough.f a1_0 a1_1 a1_2).bind fun bt770 => ((spec_TakeFor.f k t767 bt770.1 bt770.2.1 bt770.2.2 a2).bind fun bt773 => ((laws_toStock.f k l0_0).bind fun t778 => ((laws_toDough.f a1_0 a1_1 a1_2).bind fun bt782 => ((impl_TakeFor.f k t778 bt782.1 bt782.2.1 bt782.2.2 a2).bind fun bt785 => ((laws_eqStock.f k bt785.1 bt773.1).bind fun t790 => (if t790 = true then (laws_FnExactTakeFor.j0 k a2 bt773.2 bt785.2 (bt785.2 != bt773.2) l0_0 a1_0 a1_1 a1_2 bt773.1 t778 bt785.1) else (laws_FnExactTakeFor.j0 k a2 bt773.2 bt785.2 true l0_0 a1_0 a1_1 a1_2 bt773.1 t778 bt785.1))))))))))) = some r := h
 clear h
 replace H := Option.bind_eq_some_iff.mp H
 obtain ⟨t766, A40, H⟩ := H
 replace H : (if t766 < 0 then (some true) else ((laws_toStock.f k l0_0).bind fun t767 => ((laws_toDough.f a1_0 a1_1 a1_2).bind fun bt770 => ((spec_TakeFor.f k t767 bt770.1 bt770.2.1 bt770.2.2 a2).bind fun bt773 => ((laws_toStock.f k l0_0).bind fun t778 => ((laws_toDough.f a1_0 a1_1 a1_2).bind fun bt782 => ((impl_TakeFor.f k t778 bt782.1 bt782.2.1 bt782.2.2 a2).bind fun bt785 => ((laws_eqStock.f k bt785.1 bt773.1).bind fun t790 => (if t790 = true then (laws_FnExactTakeFor.j0 k a2 bt773.2 bt785.2 (bt785.2 != bt773.2) l0_0 a1_0 a1_1 a1_2 bt773.1 t778 bt785.1) else (laws_FnExactTakeFor.j0 k a2 bt773.2 bt785.2 true l0_0 a1_0 a1_1 a1_2 bt773.1 t778 bt785.1)))))))))) = some r := H
 have A4 := Aside0.mk A40
 clear A40
 have HF5 := Aside0.mk H
 clear H
 go_enter Try.func10, Try.ntmps10
 go_upto_if 22 with (first | ((with_reducible refine gate_dst (N := 3) rfl ?_); refine box_event ?hg (N := 3) ?hd (cs := #[.slice A0_0 l0_0.length c0_0]) (t := 49) ?hr ?_; (case hd => rfl); (case hg => rfl); (case hr => first | (go_simp; done) | (go_simp; rfl)); intro gb764 hg w6 hbox hb; have n0_ := Aside0.mk (below_step (blq HB.out) hb); have n1_ := Aside0.mk (hbox); have n2_ := Aside0.mk ((sq hg HB.out)); have n3_ := Aside0.mk ((sq hg HB.out)); clear HB; have HB := n0_; have BK764 := n1_; have GW764 := n2_; have GE764 := n3_; clear n0_ n1_ n2_ n3_; clear hb hbox hg) | ((with_reducible refine gate_dst (N := 4) rfl ?_); refine box_event ?hg (N := 4) ?hd (cs := #[.int .i64 a1_0, .int .i64 a1_1, .int .i64 a1_2]) (t := 51) ?hr ?_; (case hd => rfl); (case hg => rfl); (case hr => first | (go_simp; done) | (go_simp; rfl)); intro gb765 hg w7 hbox hb; have n0_ := Aside0.mk (blk_below (bkq BK764.out) hb); have n1_ := Aside0.mk (below_step (blq HB.out) hb); have n2_ := Aside0.mk (hbox); have n3_ := Aside0.mk ((sq hg HB.out)); have n4_ := Aside0.mk ((sq hg HB.out)); have n5_ := Aside0.mk ((by rw [hg]; exact Nat.ne_of_lt (blk_lt (bkq BK764.out)) : gb764 ≠ gb765)); have n6_ := Aside0.mk ((by rw [hg]; exact Nat.ne_of_gt (blk_lt (bkq BK764.out)) : gb765 ≠ gb764)); clear BK764; clear HB; have BK764 := n0_; have HB := n1_; have BK765 := n2_; have GW765 := n3_; have GE765 := n4_; have NB764_765 := n5_; have NB765_764 := n6_; clear n0_ n1_ n2_ n3_ n4_ n5_ n6_; clear hb hbox hg; have hnb8 := NB764_765.out; have hnc8 := NB765_764.out; have hcz9_0 : w7.cell? ⟨gb764, 0, none⟩ = some (.slice A0_0 l0_0.length c0_0) := (blk_cell BK764.out 0).trans rfl; have hfz9_0 := blk_frozen BK764.out 0) | ((with_reducible refine gate_callee (f := 30) rfl ?_); refine gLq (some 20) Try.func30 #[.agg #[.slice A0_0 l0_0.length c0_0], .int .i64 1048576] ?_; (with_reducible refine (laws_szStock.calls _ _ l0_0 1048576 t766 _ ?side1 ?side2 A4.out).mono ?_); (case side1 => exact Kd.Cq (Kd.C_below HR0_0.out HB.out)); (case side2 => exact HC0_0.out); rintro e w10 ⟨rfl, hb⟩; refine ⟨_, rfl, ?_⟩; have n0_ := Aside0.mk (blk_below (bkq BK764.out) hb); have n1_ := Aside0.mk (blk_below (bkq BK765.out) hb); have n2_ := Aside0.mk (below_step (blq HB.out) hb); clear BK764; clear BK765; clear HB; have BK764 := n0_; have BK765 := n1_; have HB := n2_; clear n0_ n1_ n2_; (try clear hb); (try clear hb2); (try clear hk); (try clear hi)))
 have H := HF5.out
 clear HF5
 by_cases c11 : t766 < 0
 ·
  rw [if_pos c11] at H
  have c11b0 : decide (t766 < 0) = true := decide_eq_true c11
  clear c11
  (first | rw [c11b0] | (simp only [i64_w, i32_w]; rw [c11b0]) | skip)
  obtain rfl := Option.some.inj H
  go_wp2
  go_ret
  exact ⟨by first | rfl | (simp [errW_none, errW_some] <;> rfl) | (simp [*, errW_none, errW_some] <;> rfl), blq HB.out⟩
 ·
  rw [if_neg c11] at H
  have c11b0 : decide (t766 < 0) = false := decide_eq_false c11
  clear c11
  (first | rw [c11b0] | (simp only [i64_w, i32_w]; rw [c11b0]) | skip)
  replace H := Option.bind_eq_some_iff.mp H
  obtain ⟨t767, A120, H⟩ := H
  replace H : ((laws_toDough.f a1_0 a1_1 a1_2).bind fun bt770 => ((spec_TakeFor.f k t767 bt770.1 bt770.2.1 bt770.2.2 a2).bind fun bt773 => ((laws_toStock.f k l0_0).bind fun t778 => ((laws_toDough.f a1_0 a1_1 a1_2).bind fun bt782 => ((impl_TakeFor.f k t778 bt782.1 bt782.2.1 bt782.2.2 a2).bind fun bt785 => ((laws_eqStock.f k bt785.1 bt773.1).bind fun t790 => (if t790 = true then (laws_FnExactTakeFor.j0 k a2 bt773.2 bt785.2 (bt785.2 != bt773.2) l0_0 a1_0 a1_1 a1_2 bt773.1 t778 bt785.1) else (laws_FnExactTakeFor.j0 k a2 bt773.2 bt785.2 true l0_0 a1_0 a1_1 a1_2 bt773.1 t778 bt785.1)))))))) = some r := H
  have A12 := Aside0.mk A120
  clear A120
  replace H := Option.bind_eq_some_iff.mp H
  obtain ⟨⟨t770, t771, t772⟩, A130, H⟩ := H
  replace H : ((spec_TakeFor.f k t767 t770 t771 t772 a2).bind fun bt773 => ((laws_toStock.f k l0_0).bind fun t778 => ((laws_toDough.f a1_0 a1_1 a1_2).bind fun bt782 => ((impl_TakeFor.f k t778 bt782.1 bt782.2.1 bt782.2.2 a2).bind fun bt785 => ((laws_eqStock.f k bt785.1 bt773.1).bind fun t790 => (if t790 = true then (laws_FnExactTakeFor.j0 k a2 bt773.2 bt785.2 (bt785.2 != bt773.2) l0_0 a1_0 a1_1 a1_2 bt773.1 t778 bt785.1) else (laws_FnExactTakeFor.j0 k a2 bt773.2 bt785.2 true l0_0 a1_0 a1_1 a1_2 bt773.1 t778 bt785.1))))))) = some r := H
  have A13 := Aside0.mk A130
  clear A130
  replace H := Option.bind_eq_some_iff.mp H
  obtain ⟨⟨t773, t776⟩, A140, H⟩ := H
  replace H : ((laws_toStock.f k l0_0).bind fun t778 => ((laws_toDough.f a1_0 a1_1 a1_2).bind fun bt782 => ((impl_TakeFor.f k t778 bt782.1 bt782.2.1 bt782.2.2 a2).bind fun bt785 => ((laws_eqStock.f k bt785.1 t773).bind fun t790 => (if t790 = true then (laws_FnExactTakeFor.j0 k a2 t776 bt785.2 (bt785.2 != t776) l0_0 a1_0 a1_1 a1_2 t773 t778 bt785.1) else (laws_FnExactTakeFor.j0 k a2 t776 bt785.2 true l0_0 a1_0 a1_1 a1_2 t773 t778 bt785.1)))))) = some r := H
  have A14 := Aside0.mk A140
  clear A140
  replace H := Option.bind_eq_some_iff.mp H
  obtain ⟨t778, A150, H⟩ := H
  replace H : ((laws_toDough.f a1_0 a1_1 a1_2).bind fun bt782 => ((impl_TakeFor.f k t778 bt782.1 bt782.2.1 bt782.2.2 a2).bind fun bt785 => ((laws_eqStock.f k bt785.1 t773).bind fun t790 => (if t790 = true then (laws_FnExactTakeFor.j0 k a2 t776 bt785.2 (bt785.2 != t776) l0_0 a1_0 a1_1 a1_2 t773 t778 bt785.1) else (laws_FnExactTakeFor.j0 k a2 t776 bt785.2 true l0_0 a1_0 a1_1 a1_2 t773 t778 bt785.1))))) = some r := H
  have A15 := Aside0.mk A150
  clear A150
  replace H := Option.bind_eq_some_iff.mp H
  obtain ⟨⟨t782, t783, t784⟩, A160, H⟩ := H
  replace H : ((impl_TakeFor.f k t778 t782 t783 t784 a2).bind fun bt785 => ((laws_eqStock.f k bt785.1 t773).bind fun t790 => (if t790 = true then (laws_FnExactTakeFor.j0 k a2 t776 bt785.2 (bt785.2 != t776) l0_0 a1_0 a1_1 a1_2 t773 t778 bt785.1) else (laws_FnExactTakeFor.j0 k a2 t776 bt785.2 true l0_0 a1_0 a1_1 a1_2 t773 t778 bt785.1)))) = some r := H
  have A16 := Aside0.mk A160
  clear A160
  replace H := Option.bind_eq_some_iff.mp H
  obtain ⟨⟨t785, t788⟩, A170, H⟩ := H
  replace H : ((laws_eqStock.f k t785 t773).bind fun t790 => (if t790 = true then (laws_FnExactTakeFor.j0 k a2 t776 t788 (t788 != t776) l0_0 a1_0 a1_1 a1_2 t773 t778 t785) else (laws_FnExactTakeFor.j0 k a2 t776 t788 true l0_0 a1_0 a1_1 a1_2 t773 t778 t785))) = some r := H
  have A17 := Aside0.mk A170
  clear A170
  have HC18 := Aside0.mk H
  clear H
  try go_wp2
  have n0_ := Aside0.mk (blk_drew BK764.out)
  have n1_ := Aside0.mk (blk_drew BK765.out)
  have n2_ := Aside0.mk (below_drew1 HB.out)
  clear BK764
  clear BK765
  clear HB
  have BK764 := n0_
  have BK765 := n1_
  have HB := n2_
  clear n0_ n1_ n2_
  refine start_ (n := 12) (S := fun w' => w'.cell? ⟨gb764, 0, none⟩ = some (.slice A0_0 l0_0.length c0_0) ∧ w'.cell? ⟨gb765, 0, none⟩ = some (.int .i64 a1_0) ∧ w'.cell? ⟨gb765, 1, none⟩ = some (.int .i64 a1_1) ∧ w'.cell? ⟨gb765, 2, none⟩ = some (.int .i64 a1_2)) (ds := []) #[false, false, false, false, false, false, false, false, false, false, false, false] (by kernel_rfl) rfl rfl ⟨(blk_cell BK764.out 0).trans rfl, (blk_cell BK765.out 0).trans rfl, (blk_cell BK765.out 1).trans rfl, (blk_cell BK765.out 2).trans rfl⟩ (fun hHeld => ?_); refine with_tabW laws_FnExactTakeFor.tab5 laws_FnExactTakeFor.bits5 (fun HT_ HW_ => ?_)
  generalize w10.drew = w19 at BK764 BK765 HB hHeld ⊢
  refine pure_ (i := 4) (N := some 28) (v := ?_) (a' := ?_) #[false, false, false, false, true, false, false, false, false, false, false, false] rfl rfl (any_of HT_.out (by kernel_rfl)) (fun _ _ _ h => h) (Or.inl ⟨by rfl, ?_⟩) ?_ ?_
  rotate_left
  ·
   intro w'
   go_simp
   with_reducible rfl
  rotate_left
  ·
   simp only [Act.put, List.setIfInBounds_toArray, List.set_cons_zero, List.set_cons_succ, i64_w, i32_w]
   rfl
  refine take_ (i := 0) (N := some 24) (v := ?_) (a' := ?_) #[true, false, false, false, true, false, false, false, false, false, false, false] rfl rfl (take_ofW HT_.out HW_.out (by kernel_rfl)) (fun _ _ _ h => h) (Or.inl ⟨by rfl, ?_⟩) hHeld ?_ ?_
  rotate_left
  ·
   rintro w' ⟨s0, s1, s2, s3⟩
   go_simp
   with_reducible rfl
  rotate_left
  ·
   simp only [Act.put, List.setIfInBounds_toArray, List.set_cons_zero, List.set_cons_succ, i64_w, i32_w]
   rfl
  refine take_ (i := 2) (N := some 26) (v := ?_) (a' := ?_) #[true, false, true, false, true, false, false, false, false, false, false, false] rfl rfl (take_ofW HT_.out HW_.out (by kernel_rfl)) (fun _ _ _ h => h) (Or.inl ⟨by rfl, ?_⟩) hHeld ?_ ?_
  rotate_left
  ·
   rintro w' ⟨s0, s1, s2, s3⟩
   go_simp
   with_reducible rfl
  rotate_left
  ·
   simp only [Act.put, List.setIfInBounds_toArray, List.set_cons_zero, List.set_cons_succ, i64_w, i32_w]
   rfl
  refine join_ (σ := Value × Value × Nat) 2 #[true, true, true, true, true, true, true, true, true, true, false, false] (fun s_ => [(25, .agg #[s_.1]), (27, .agg #[.int .i64 t770, .int .i64 t771, .int .i64 t772]), (29, .tuple #[.agg #[s_.2.1], .bool t776]), (8, .pointer (some ⟨s_.2.2, 0, none⟩)), (23, .tuple #[.agg #[s_.2.1], .bool t776]), (30, .agg #[s_.2.1]), (31, .bool t776)]) (fun s_ w' => (w'.cell? ⟨gb764, 0, none⟩ = some (.slice A0_0 l0_0.length c0_0) ∧ w'.cell? ⟨gb765, 0, none⟩ = some (.int .i64 a1_0) ∧ w'.cell? ⟨gb765, 1, none⟩ = some (.int .i64 a1_1) ∧ w'.cell? ⟨gb765, 2, none⟩ = some (.int .i64 a1_2)) ∧ (Kd.R (Kd.int .i64) 3 w' w.heap.size (fun k_ => some k_ ≠ (s_.2.1 : Value).ownBlock) s_.1 t767) ∧ (Kd.R (Kd.int .i64) 3 w' w.heap.size (fun k_ => some k_ ≠ (s_.1 : Value).ownBlock) s_.2.1 t773) ∧ (w'.heap[gb764]? = some (.cells #[.slice A0_0 l0_0.length c0_0] 49 (0, 0))) ∧ (w'.heap[gb765]? = some (.cells #[.int .i64 a1_0, .int .i64 a1_1, .int .i64 a1_2] 51 (0, 0))) ∧ (w'.heap[s_.2.2]? = some (.cells #[.slice none 0 0] 54 (0, 0))) ∧ (w.heap.size ≤ s_.2.2) ∧ (w.heap.size ≤ s_.2.2) ∧ (gb764 ≠ s_.2.2) ∧ (s_.2.2 ≠ gb764) ∧ (gb765 ≠ s_.2.2) ∧ (s_.2.2 ≠ gb765) ∧ (Below w.heap.size w w')) ?_ ?_
  rotate_left
  ·
   intro hCont
   refine two_ (i := 1) (j := 9) (Ni := some 25) (Nj := some 8) #[true, true, true, false, true, false, false, false, false, false, false, false] #[true, false, true, false, true, false, false, false, false, true, false, false] rfl rfl rfl rfl (two_of HT_.out (by kernel_rfl)) (by decide) (by decide) (fun K hK => ?_) (fun K hK => ?_)
   ·
    skip
    refine goes_ Try.func32 (by kernel_rfl) rfl #[.agg #[.slice A0_0 l0_0.length c0_0]] (by rfl) rfl rfl (by (try simp only [List.map_toArray, List.map_cons, List.map_nil]); first | done | rfl | (simp only [List.length_drop, List.length_take]; rfl)) ?_
    with_reducible refine (laws_toStock.calls k _ _ l0_0 t767 _ ?side1 ?side2 A12.out).mono ?_
    (case side1 => exact Kd.Cq (Kd.C_below HR0_0.out HB.out))
    (case side2 => exact HC0_0.out)
    rintro e w20 ⟨v768, rfl, ho0, hb⟩
    refine ⟨_, rfl, ?_⟩
    have n0_ := Aside0.mk (Kd.R_lower ho0 (below_size (blq HB.out)))
    have n1_ := Aside0.mk (blk_below (bkq BK764.out) hb)
    have n2_ := Aside0.mk (blk_below (bkq BK765.out) hb)
    have n3_ := Aside0.mk (below_step (blq HB.out) hb)
    clear BK764
    clear BK765
    clear HB
    have HO769 := n0_
    have BK764 := n1_
    have BK765 := n2_
    have HB := n3_
    clear n0_ n1_ n2_ n3_
    (try clear hb)
    (try clear hb2)
    (try clear hk)
    (try clear hi)
    (try clear ho0)
    refine hK.out _ _ ⟨(blk_cell BK764.out 0).trans rfl, (blk_cell BK765.out 0).trans rfl, (blk_cell BK765.out 1).trans rfl, (blk_cell BK765.out 2).trans rfl⟩ (fun hHeld => ?_)
    clear hK K
    refine norm_ (a' := ?_) ?_ ?_
    rotate_left
    ·
     show Act.put _ (some 25) _ = _
     simp only [Act.put, List.setIfInBounds_toArray, List.set_cons_zero, List.set_cons_succ, i64_w, i32_w]
     rfl
    refine two_ (i := 3) (j := 9) (Ni := some 27) (Nj := some 8) #[true, true, true, true, true, false, false, false, false, false, false, false] #[true, true, true, false, true, false, false, false, false, true, false, false] rfl rfl rfl rfl (two_of HT_.out (by kernel_rfl)) (by decide) (by decide) (fun K hK => ?_) (fun K hK => ?_)
    ·
     skip
     refine goes_ Try.func33 (by kernel_rfl) rfl #[.agg #[.int .i64 a1_0, .int .i64 a1_1, .int .i64 a1_2]] (by rfl) rfl rfl (by (try simp only [List.map_toArray, List.map_cons, List.map_nil]); first | done | rfl | (simp only [List.length_drop, List.length_take]; rfl)) ?_
     with_reducible refine (laws_toDough.calls a1_0 a1_1 a1_2 t770 t771 t772 _ A13.out).mono ?_
     rintro e w21 ⟨rfl, hb⟩
     refine ⟨_, rfl, ?_⟩
     have n0_ := Aside0.mk (Kd.R_below (Kd.Rq HO769.out) hb)
     have n1_ := Aside0.mk (blk_below (bkq BK764.out) hb)
     have n2_ := Aside0.mk (blk_below (bkq BK765.out) hb)
     have n3_ := Aside0.mk (below_step (blq HB.out) hb)
     clear HO769
     clear BK764
     clear BK765
     clear HB
     have HO769 := n0_
     have BK764 := n1_
     have BK765 := n2_
     have HB := n3_
     clear n0_ n1_ n2_ n3_
     (try clear hb)
     (try clear hb2)
     (try clear hk)
     (try clear hi)
     obtain ⟨Ao22, co22, eo22⟩ := Kd.R_slice HO769.out
     (first | subst eo22 | (injection eo22 with f1_ f2_ f3_; have f4_ := f1_.symm; have f5_ := f3_.symm; clear f1_ f2_ f3_; subst f4_; subst f5_))
     refine hK.out _ _ ⟨(blk_cell BK764.out 0).trans rfl, (blk_cell BK765.out 0).trans rfl, (blk_cell BK765.out 1).trans rfl, (blk_cell BK765.out 2).trans rfl⟩ (fun hHeld => ?_)
     clear hK K
     refine norm_ (a' := ?_) ?_ ?_
     rotate_left
     ·
      show Act.put _ (some 27) _ = _
      simp only [Act.put, List.setIfInBounds_toArray, List.set_cons_zero, List.set_cons_succ, i64_w, i32_w]
      rfl
     refine two_ (i := 5) (j := 9) (Ni := some 29) (Nj := some 8) #[true, true, true, true, true, true, false, false, false, false, false, false] #[true, true, true, true, true, false, false, false, false, true, false, false] rfl rfl rfl rfl (two_of HT_.out (by kernel_rfl)) (by decide) (by decide) (fun K hK => ?_) (fun K hK => ?_)
     ·
      skip
      refine goes_ Try.func53 (by kernel_rfl) rfl #[.agg #[.slice Ao22 t767.length co22], .agg #[.int .i64 t770, .int .i64 t771, .int .i64 t772], .int .i64 a2] (by rfl) rfl rfl (by (try simp only [List.map_toArray, List.map_cons, List.map_nil]); first | done | rfl | (simp only [List.length_drop, List.length_take]; rfl)) ?_
      with_reducible refine (spec_TakeFor.calls k _ _ t767 t770 t771 t772 a2 t773 t776 _ ?side1 ?side2 A14.out).mono ?_
      (case side1 => repeat (first | exact (Kd.R_reads' HO769.out).2.2 | (with_reducible refine Kd.C_alloc ?_ _) | (with_reducible refine Kd.C_drewN ?_ _) | (with_reducible refine Kd.C_drew ?_)))
      (case side2 => exact (Kd.R_reads' HO769.out).2.1)
      rintro e w23 ⟨v774, rfl, ho0, hb⟩
      refine ⟨_, rfl, ?_⟩
      have n0_ := Aside0.mk (Kd.R_elder' (Kd.Rq HO769.out) (Kd.R_base ho0) hb)
      have n1_ := Aside0.mk (Kd.R_lower (Kd.R_new' ho0 (Kd.R_lt (Kd.Rq HO769.out))) (below_size (blq HB.out)))
      have n2_ := Aside0.mk (blk_below (bkq BK764.out) hb)
      have n3_ := Aside0.mk (blk_below (bkq BK765.out) hb)
      have n4_ := Aside0.mk (below_step (blq HB.out) hb)
      clear HO769
      clear BK764
      clear BK765
      clear HB
      have HO769 := n0_
      have HO775 := n1_
      have BK764 := n2_
      have BK765 := n3_
      have HB := n4_
      clear n0_ n1_ n2_ n3_ n4_
      (try clear hb)
      (try clear hb2)
      (try clear hk)
      (try clear hi)
      (try clear ho0)
      refine hK.out _ _ ⟨(blk_cell BK764.out 0).trans rfl, (blk_cell BK765.out 0).trans rfl, (blk_cell BK765.out 1).trans rfl, (blk_cell BK765.out 2).trans rfl⟩ (fun hHeld => ?_)
      clear hK K
      refine norm_ (a' := ?_) ?_ ?_
      rotate_left
      ·
       show Act.put _ (some 29) _ = _
       simp only [Act.put, List.setIfInBounds_toArray, List.set_cons_zero, List.set_cons_succ, i64_w, i32_w]
       rfl
      refine pure_ (i := 6) (N := some 23) (v := ?_) (a' := ?_) #[true, true, true, true, true, true, true, false, false, false, false, false] rfl rfl (any_of HT_.out (by kernel_rfl)) (fun _ _ _ h => h) (Or.inl ⟨by rfl, ?_⟩) ?_ ?_
      rotate_left
      ·
       intro w'
       go_simp
       with_reducible rfl
      rotate_left
      ·
       simp only [Act.put, List.setIfInBounds_toArray, List.set_cons_zero, List.set_cons_succ, i64_w, i32_w]
       rfl
      refine pure_ (i := 7) (N := some 30) (v := ?_) (a' := ?_) #[true, true, true, true, true, true, true, true, false, false, false, false] rfl rfl (any_of HT_.out (by kernel_rfl)) (fun _ _ _ h => h) (Or.inl ⟨by rfl, ?_⟩) ?_ ?_
      rotate_left
      ·
       intro w'
       go_simp
       with_reducible rfl
      rotate_left
      ·
       simp only [Act.put, List.setIfInBounds_toArray, List.set_cons_zero, List.set_cons_succ, i64_w, i32_w]
       rfl
      refine pure_ (i := 8) (N := some 31) (v := ?_) (a' := ?_) #[true, true, true, true, true, true, true, true, true, false, false, false] rfl rfl (any_of HT_.out (by kernel_rfl)) (fun _ _ _ h => h) (Or.inl ⟨by rfl, ?_⟩) ?_ ?_
      rotate_left
      ·
       intro w'
       go_simp
       with_reducible rfl
      rotate_left
      ·
       simp only [Act.put, List.setIfInBounds_toArray, List.set_cons_zero, List.set_cons_succ, i64_w, i32_w]
       rfl
      refine one_ (i := 9) (N := some 8) #[true, true, true, true, true, true, true, true, true, true, false, false] rfl rfl (one_of HT_.out (by kernel_rfl)) (by decide) (fun K hK => ?_)
      refine box_step ?hg (N := 8) ?hd (cs := #[.slice none 0 0]) (t := 54) ?hr ?_; (case hd => rfl); (case hg => rfl); (case hr => first | (go_simp; done) | (go_simp; rfl))
      intro gb777 hg w24 hbox hb
      have n0_ := Aside0.mk (Kd.R_below (Kd.Rq HO769.out) hb)
      have n1_ := Aside0.mk (Kd.R_below (Kd.Rq HO775.out) hb)
      have n2_ := Aside0.mk (blk_below (bkq BK764.out) hb)
      have n3_ := Aside0.mk (blk_below (bkq BK765.out) hb)
      have n4_ := Aside0.mk (below_step (blq HB.out) hb)
      have n5_ := Aside0.mk (hbox)
      have n6_ := Aside0.mk ((sq hg HB.out))
      have n7_ := Aside0.mk ((sq hg HB.out))
      have n8_ := Aside0.mk ((by rw [hg]; exact Nat.ne_of_lt (blk_lt (bkq BK764.out)) : gb764 ≠ gb777))
      have n9_ := Aside0.mk ((by rw [hg]; exact Nat.ne_of_gt (blk_lt (bkq BK764.out)) : gb777 ≠ gb764))
      have n10_ := Aside0.mk ((by rw [hg]; exact Nat.ne_of_lt (blk_lt (bkq BK765.out)) : gb765 ≠ gb777))
      have n11_ := Aside0.mk ((by rw [hg]; exact Nat.ne_of_gt (blk_lt (bkq BK765.out)) : gb777 ≠ gb765))
      clear HO769
      clear HO775
      clear BK764
      clear BK765
      clear HB
      have HO769 := n0_
      have HO775 := n1_
      have BK764 := n2_
      have BK765 := n3_
      have HB := n4_
      have BK777 := n5_
      have GW777 := n6_
      have GE777 := n7_
      have NB764_777 := n8_
      have NB777_764 := n9_
      have NB765_777 := n10_
      have NB777_765 := n11_
      clear n0_ n1_ n2_ n3_ n4_ n5_ n6_ n7_ n8_ n9_ n10_ n11_
      clear hb hbox hg
      refine hK.out _ _ ⟨(blk_cell BK764.out 0).trans rfl, (blk_cell BK765.out 0).trans rfl, (blk_cell BK765.out 1).trans rfl, (blk_cell BK765.out 2).trans rfl⟩ (fun hHeld => ?_)
      clear hK K
      refine norm_ (a' := ?_) ?_ ?_
      rotate_left
      ·
       show Act.put _ (some 8) _ = _
       simp only [Act.put, List.setIfInBounds_toArray, List.set_cons_zero, List.set_cons_succ, i64_w, i32_w]
       rfl
      exact norm_ (by simp only [putAll, Act.put, List.setIfInBounds_toArray, List.set_cons_zero, List.set_cons_succ]) (hCont (.slice Ao22 t767.length co22, v774, gb777) _ ⟨hHeld, (Kd.Rq (Kd.R_mono HO769.out (fun _ hk => hk.2))), (Kd.Rq (Kd.R_mono HO775.out (fun _ hk => hk.2))), (bkq BK764.out), (bkq BK765.out), (bkq BK777.out), GW777.out, GE777.out, NB764_777.out, NB777_764.out, NB765_777.out, NB777_765.out, (blq HB.out)⟩)
     ·
      skip
      refine box_step ?hg (N := 8) ?hd (cs := #[.slice none 0 0]) (t := 54) ?hr ?_; (case hd => rfl); (case hg => rfl); (case hr => first | (go_simp; done) | (go_simp; rfl))
      intro gb777 hg w22 hbox hb
      have n0_ := Aside0.mk (Kd.R_below (Kd.Rq HO769.out) hb)
      have n1_ := Aside0.mk (blk_below (bkq BK764.out) hb)
      have n2_ := Aside0.mk (blk_below (bkq BK765.out) hb)
      have n3_ := Aside0.mk (below_step (blq HB.out) hb)
      have n4_ := Aside0.mk (hbox)
      have n5_ := Aside0.mk ((sq hg HB.out))
      have n6_ := Aside0.mk ((sq hg HB.out))
      have n7_ := Aside0.mk ((by rw [hg]; exact Nat.ne_of_lt (blk_lt (bkq BK764.out)) : gb764 ≠ gb777))
      have n8_ := Aside0.mk ((by rw [hg]; exact Nat.ne_of_gt (blk_lt (bkq BK764.out)) : gb777 ≠ gb764))
      have n9_ := Aside0.mk ((by rw [hg]; exact Nat.ne_of_lt (blk_lt (bkq BK765.out)) : gb765 ≠ gb777))
      have n10_ := Aside0.mk ((by rw [hg]; exact Nat.ne_of_gt (blk_lt (bkq BK765.out)) : gb777 ≠ gb765))
      clear HO769
      clear BK764
      clear BK765
      clear HB
      have HO769 := n0_
      have BK764 := n1_
      have BK765 := n2_
      have HB := n3_
      have BK777 := n4_
      have GW777 := n5_
      have GE777 := n6_
      have NB764_777 := n7_
      have NB777_764 := n8_
      have NB765_777 := n9_
      have NB777_765 := n10_
      clear n0_ n1_ n2_ n3_ n4_ n5_ n6_ n7_ n8_ n9_ n10_
      clear hb hbox hg
      obtain ⟨Ao23, co23, eo23⟩ := Kd.R_slice HO769.out
      (first | subst eo23 | (injection eo23 with f1_ f2_ f3_; have f4_ := f1_.symm; have f5_ := f3_.symm; clear f1_ f2_ f3_; subst f4_; subst f5_))
      refine hK.out _ _ ⟨(blk_cell BK764.out 0).trans rfl, (blk_cell BK765.out 0).trans rfl, (blk_cell BK765.out 1).trans rfl, (blk_cell BK765.out 2).trans rfl⟩ (fun hHeld => ?_)
      clear hK K
      refine norm_ (a' := ?_) ?_ ?_
      rotate_left
      ·
       show Act.put _ (some 8) _ = _
       simp only [Act.put, List.setIfInBounds_toArray, List.set_cons_zero, List.set_cons_succ, i64_w, i32_w]
       rfl
      refine one_ (i := 5) (N := some 29) #[true, true, true, true, true, true, false, false, false, true, false, false] rfl rfl (one_of HT_.out (by kernel_rfl)) (by decide) (fun K hK => ?_)
      refine goes_ Try.func53 (by kernel_rfl) rfl #[.agg #[.slice Ao23 t767.length co23], .agg #[.int .i64 t770, .int .i64 t771, .int .i64 t772], .int .i64 a2] (by rfl) rfl rfl (by (try simp only [List.map_toArray, List.map_cons, List.map_nil]); first | done | rfl | (simp only [List.length_drop, List.length_take]; rfl)) ?_
      with_reducible refine (spec_TakeFor.calls k _ _ t767 t770 t771 t772 a2 t773 t776 _ ?side1 ?side2 A14.out).mono ?_
      (case side1 => repeat (first | exact (Kd.R_reads' HO769.out).2.2 | (with_reducible refine Kd.C_alloc ?_ _) | (with_reducible refine Kd.C_drewN ?_ _) | (with_reducible refine Kd.C_drew ?_)))
      (case side2 => exact (Kd.R_reads' HO769.out).2.1)
      rintro e w24 ⟨v774, rfl, ho0, hb⟩
      refine ⟨_, rfl, ?_⟩
      have n0_ := Aside0.mk (Kd.R_elder' (Kd.Rq HO769.out) (Kd.R_base ho0) hb)
      have n1_ := Aside0.mk (Kd.R_lower (Kd.R_new' ho0 (Kd.R_lt (Kd.Rq HO769.out))) (below_size (blq HB.out)))
      have n2_ := Aside0.mk (blk_below (bkq BK764.out) hb)
      have n3_ := Aside0.mk (blk_below (bkq BK765.out) hb)
      have n4_ := Aside0.mk (blk_below (bkq BK777.out) hb)
      have n5_ := Aside0.mk (below_step (blq HB.out) hb)
      clear HO769
      clear BK764
      clear BK765
      clear BK777
      clear HB
      have HO769 := n0_
      have HO775 := n1_
      have BK764 := n2_
      have BK765 := n3_
      have BK777 := n4_
      have HB := n5_
      clear n0_ n1_ n2_ n3_ n4_ n5_
      (try clear hb)
      (try clear hb2)
      (try clear hk)
      (try clear hi)
      (try clear ho0)
      refine hK.out _ _ ⟨(blk_cell BK764.out 0).trans rfl, (blk_cell BK765.out 0).trans rfl, (blk_cell BK765.out 1).trans rfl, (blk_cell BK765.out 2).trans rfl⟩ (fun hHeld => ?_)
      clear hK K
      refine norm_ (a' := ?_) ?_ ?_
      rotate_left
      ·
       show Act.put _ (some 29) _ = _
       simp only [Act.put, List.setIfInBounds_toArray, List.set_cons_zero, List.set_cons_succ, i64_w, i32_w]
       rfl
      refine pure_ (i := 6) (N := some 23) (v := ?_) (a' := ?_) #[true, true, true, true, true, true, true, false, false, true, false, false] rfl rfl (any_of HT_.out (by kernel_rfl)) (fun _ _ _ h => h) (Or.inl ⟨by rfl, ?_⟩) ?_ ?_
      rotate_left
      ·
       intro w'
       go_simp
       with_reducible rfl
      rotate_left
      ·
       simp only [Act.put, List.setIfInBounds_toArray, List.set_cons_zero, List.set_cons_succ, i64_w, i32_w]
       rfl
      refine pure_ (i := 7) (N := some 30) (v := ?_) (a' := ?_) #[true, true, true, true, true, true, true, true, false, true, false, false] rfl rfl (any_of HT_.out (by kernel_rfl)) (fun _ _ _ h => h) (Or.inl ⟨by rfl, ?_⟩) ?_ ?_
      rotate_left
      ·
       intro w'
       go_simp
       with_reducible rfl
      rotate_left
      ·
       simp only [Act.put, List.setIfInBounds_toArray, List.set_cons_zero, List.set_cons_succ, i64_w, i32_w]
       rfl
      refine pure_ (i := 8) (N := some 31) (v := ?_) (a' := ?_) #[true, true, true, true, true, true, true, true, true, true, false, false] rfl rfl (any_of HT_.out (by kernel_rfl)) (fun _ _ _ h => h) (Or.inl ⟨by rfl, ?_⟩) ?_ ?_
      rotate_left
      ·
       intro w'
       go_simp
       with_reducible rfl
      rotate_left
      ·
       simp only [Act.put, List.setIfInBounds_toArray, List.set_cons_zero, List.set_cons_succ, i64_w, i32_w]
       rfl
      exact norm_ (by simp only [putAll, Act.put, List.setIfInBounds_toArray, List.set_cons_zero, List.set_cons_succ]) (hCont (.slice Ao23 t767.length co23, v774, gb777) _ ⟨hHeld, (Kd.Rq (Kd.R_mono HO769.out (fun _ hk => hk.2))), (Kd.Rq (Kd.R_mono HO775.out (fun _ hk => hk.2))), (bkq BK764.out), (bkq BK765.out), (bkq BK777.out), GW777.out, GE777.out, NB764_777.out, NB777_764.out, NB765_777.out, NB777_765.out, (blq HB.out)⟩)
    ·
     skip
     refine box_step ?hg (N := 8) ?hd (cs := #[.slice none 0 0]) (t := 54) ?hr ?_; (case hd => rfl); (case hg => rfl); (case hr => first | (go_simp; done) | (go_simp; rfl))
     intro gb777 hg w21 hbox hb
     have n0_ := Aside0.mk (Kd.R_below (Kd.Rq HO769.out) hb)
     have n1_ := Aside0.mk (blk_below (bkq BK764.out) hb)
     have n2_ := Aside0.mk (blk_below (bkq BK765.out) hb)
     have n3_ := Aside0.mk (below_step (blq HB.out) hb)
     have n4_ := Aside0.mk (hbox)
     have n5_ := Aside0.mk ((sq hg HB.out))
     have n6_ := Aside0.mk ((sq hg HB.out))
     have n7_ := Aside0.mk ((by rw [hg]; exact Nat.ne_of_lt (blk_lt (bkq BK764.out)) : gb764 ≠ gb777))
     have n8_ := Aside0.mk ((by rw [hg]; exact Nat.ne_of_gt (blk_lt (bkq BK764.out)) : gb777 ≠ gb764))
     have n9_ := Aside0.mk ((by rw [hg]; exact Nat.ne_of_lt (blk_lt (bkq BK765.out)) : gb765 ≠ gb777))
     have n10_ := Aside0.mk ((by rw [hg]; exact Nat.ne_of_gt (blk_lt (bkq BK765.out)) : gb777 ≠ gb765))
     clear HO769
     clear BK764
     clear BK765
     clear HB
     have HO769 := n0_
     have BK764 := n1_
     have BK765 := n2_
     have HB := n3_
     have BK777 := n4_
     have GW777 := n5_
     have GE777 := n6_
     have NB764_777 := n7_
     have NB777_764 := n8_
     have NB765_777 := n9_
     have NB777_765 := n10_
     clear n0_ n1_ n2_ n3_ n4_ n5_ n6_ n7_ n8_ n9_ n10_
     clear hb hbox hg
     refine hK.out _ _ ⟨(blk_cell BK764.out 0).trans rfl, (blk_cell BK765.out 0).trans rfl, (blk_cell BK765.out 1).trans rfl, (blk_cell BK765.out 2).trans rfl⟩ (fun hHeld => ?_)
     clear hK K
     refine norm_ (a' := ?_) ?_ ?_
     rotate_left
     ·
      show Act.put _ (some 8) _ = _
      simp only [Act.put, List.setIfInBounds_toArray, List.set_cons_zero, List.set_cons_succ, i64_w, i32_w]
      rfl
     refine one_ (i := 3) (N := some 27) #[true, true, true, true, true, false, false, false, false, true, false, false] rfl rfl (one_of HT_.out (by kernel_rfl)) (by decide) (fun K hK => ?_)
     refine goes_ Try.func33 (by kernel_rfl) rfl #[.agg #[.int .i64 a1_0, .int .i64 a1_1, .int .i64 a1_2]] (by rfl) rfl rfl (by (try simp only [List.map_toArray, List.map_cons, List.map_nil]); first | done | rfl | (simp only [List.length_drop, List.length_take]; rfl)) ?_
     with_reducible refine (laws_toDough.calls a1_0 a1_1 a1_2 t770 t771 t772 _ A13.out).mono ?_
     rintro e w22 ⟨rfl, hb⟩
     refine ⟨_, rfl, ?_⟩
     have n0_ := Aside0.mk (Kd.R_below (Kd.Rq HO769.out) hb)
     have n1_ := Aside0.mk (blk_below (bkq BK764.out) hb)
     have n2_ := Aside0.mk (blk_below (bkq BK765.out) hb)
     have n3_ := Aside0.mk (blk_below (bkq BK777.out) hb)
     have n4_ := Aside0.mk (below_step (blq HB.out) hb)
     clear HO769
     clear BK764
     clear BK765
     clear BK777
     clear HB
     have HO769 := n0_
     have BK764 := n1_
     have BK765 := n2_
     have BK777 := n3_
     have HB := n4_
     clear n0_ n1_ n2_ n3_ n4_
     (try clear hb)
     (try clear hb2)
     (try clear hk)
     (try clear hi)
     obtain ⟨Ao23, co23, eo23⟩ := Kd.R_slice HO769.out
     (first | subst eo23 | (injection eo23 with f1_ f2_ f3_; have f4_ := f1_.symm; have f5_ := f3_.symm; clear f1_ f2_ f3_; subst f4_; subst f5_))
     refine hK.out _ _ ⟨(blk_cell BK764.out 0).trans rfl, (blk_cell BK765.out 0).trans rfl, (blk_cell BK765.out 1).trans rfl, (blk_cell BK765.out 2).trans rfl⟩ (fun hHeld => ?_)
     clear hK K
     refine norm_ (a' := ?_) ?_ ?_
     rotate_left
     ·
      show Act.put _ (some 27) _ = _
      simp only [Act.put, List.setIfInBounds_toArray, List.set_cons_zero, List.set_cons_succ, i64_w, i32_w]
      rfl
     refine one_ (i := 5) (N := some 29) #[true, true, true, true, true, true, false, false, false, true, false, false] rfl rfl (one_of HT_.out (by kernel_rfl)) (by decide) (fun K hK => ?_)
     refine goes_ Try.func53 (by kernel_rfl) rfl #[.agg #[.slice Ao23 t767.length co23], .agg #[.int .i64 t770, .int .i64 t771, .int .i64 t772], .int .i64 a2] (by rfl) rfl rfl (by (try simp only [List.map_toArray, List.map_cons, List.map_nil]); first | done | rfl | (simp only [List.length_drop, List.length_take]; rfl)) ?_
     with_reducible refine (spec_TakeFor.calls k _ _ t767 t770 t771 t772 a2 t773 t776 _ ?side1 ?side2 A14.out).mono ?_
     (case side1 => repeat (first | exact (Kd.R_reads' HO769.out).2.2 | (with_reducible refine Kd.C_alloc ?_ _) | (with_reducible refine Kd.C_drewN ?_ _) | (with_reducible refine Kd.C_drew ?_)))
     (case side2 => exact (Kd.R_reads' HO769.out).2.1)
     rintro e w24 ⟨v774, rfl, ho0, hb⟩
     refine ⟨_, rfl, ?_⟩
     have n0_ := Aside0.mk (Kd.R_elder' (Kd.Rq HO769.out) (Kd.R_base ho0) hb)
     have n1_ := Aside0.mk (Kd.R_lower (Kd.R_new' ho0 (Kd.R_lt (Kd.Rq HO769.out))) (below_size (blq HB.out)))
     have n2_ := Aside0.mk (blk_below (bkq BK764.out) hb)
     have n3_ := Aside0.mk (blk_below (bkq BK765.out) hb)
     have n4_ := Aside0.mk (blk_below (bkq BK777.out) hb)
     have n5_ := Aside0.mk (below_step (blq HB.out) hb)
     clear HO769
     clear BK764
     clear BK765
     clear BK777
     clear HB
     have HO769 := n0_
     have HO775 := n1_
     have BK764 := n2_
     have BK765 := n3_
     have BK777 := n4_
     have HB := n5_
     clear n0_ n1_ n2_ n3_ n4_ n5_
     (try clear hb)
     (try clear hb2)
     (try clear hk)
     (try clear hi)
     (try clear ho0)
     refine hK.out _ _ ⟨(blk_cell BK764.out 0).trans rfl, (blk_cell BK765.out 0).trans rfl, (blk_cell BK765.out 1).trans rfl, (blk_cell BK765.out 2).trans rfl⟩ (fun hHeld => ?_)
     clear hK K
     refine norm_ (a' := ?_) ?_ ?_
     rotate_left
     ·
      show Act.put _ (some 29) _ = _
      simp only [Act.put, List.setIfInBounds_toArray, List.set_cons_zero, List.set_cons_succ, i64_w, i32_w]
      rfl
     refine pure_ (i := 6) (N := some 23) (v := ?_) (a' := ?_) #[true, true, true, true, true, true, true, false, false, true, false, false] rfl rfl (any_of HT_.out (by kernel_rfl)) (fun _ _ _ h => h) (Or.inl ⟨by rfl, ?_⟩) ?_ ?_
     rotate_left
     ·
      intro w'
      go_simp
      with_reducible rfl
     rotate_left
     ·
      simp only [Act.put, List.setIfInBounds_toArray, List.set_cons_zero, List.set_cons_succ, i64_w, i32_w]
      rfl
     refine pure_ (i := 7) (N := some 30) (v := ?_) (a' := ?_) #[true, true, true, true, true, true, true, true, false, true, false, false] rfl rfl (any_of HT_.out (by kernel_rfl)) (fun _ _ _ h => h) (Or.inl ⟨by rfl, ?_⟩) ?_ ?_
     rotate_left
     ·
      intro w'
      go_simp
      with_reducible rfl
     rotate_left
     ·
      simp only [Act.put, List.setIfInBounds_toArray, List.set_cons_zero, List.set_cons_succ, i64_w, i32_w]
      rfl
     refine pure_ (i := 8) (N := some 31) (v := ?_) (a' := ?_) #[true, true, true, true, true, true, true, true, true, true, false, false] rfl rfl (any_of HT_.out (by kernel_rfl)) (fun _ _ _ h => h) (Or.inl ⟨by rfl, ?_⟩) ?_ ?_
     rotate_left
     ·
      intro w'
      go_simp
      with_reducible rfl
     rotate_left
     ·
      simp only [Act.put, List.setIfInBounds_toArray, List.set_cons_zero, List.set_cons_succ, i64_w, i32_w]
      rfl
     exact norm_ (by simp only [putAll, Act.put, List.setIfInBounds_toArray, List.set_cons_zero, List.set_cons_succ]) (hCont (.slice Ao23 t767.length co23, v774, gb777) _ ⟨hHeld, (Kd.Rq (Kd.R_mono HO769.out (fun _ hk => hk.2))), (Kd.Rq (Kd.R_mono HO775.out (fun _ hk => hk.2))), (bkq BK764.out), (bkq BK765.out), (bkq BK777.out), GW777.out, GE777.out, NB764_777.out, NB777_764.out, NB765_777.out, NB777_765.out, (blq HB.out)⟩)
   ·
    skip
    refine box_step ?hg (N := 8) ?hd (cs := #[.slice none 0 0]) (t := 54) ?hr ?_; (case hd => rfl); (case hg => rfl); (case hr => first | (go_simp; done) | (go_simp; rfl))
    intro gb777 hg w20 hbox hb
    have n0_ := Aside0.mk (blk_below (bkq BK764.out) hb)
    have n1_ := Aside0.mk (blk_below (bkq BK765.out) hb)
    have n2_ := Aside0.mk (below_step (blq HB.out) hb)
    have n3_ := Aside0.mk (hbox)
    have n4_ := Aside0.mk ((sq hg HB.out))
    have n5_ := Aside0.mk ((sq hg HB.out))
    have n6_ := Aside0.mk ((by rw [hg]; exact Nat.ne_of_lt (blk_lt (bkq BK764.out)) : gb764 ≠ gb777))
    have n7_ := Aside0.mk ((by rw [hg]; exact Nat.ne_of_gt (blk_lt (bkq BK764.out)) : gb777 ≠ gb764))
    have n8_ := Aside0.mk ((by rw [hg]; exact Nat.ne_of_lt (blk_lt (bkq BK765.out)) : gb765 ≠ gb777))
    have n9_ := Aside0.mk ((by rw [hg]; exact Nat.ne_of_gt (blk_lt (bkq BK765.out)) : gb777 ≠ gb765))
    clear BK764
    clear BK765
    clear HB
    have BK764 := n0_
    have BK765 := n1_
    have HB := n2_
    have BK777 := n3_
    have GW777 := n4_
    have GE777 := n5_
    have NB764_777 := n6_
    have NB777_764 := n7_
    have NB765_777 := n8_
    have NB777_765 := n9_
    clear n0_ n1_ n2_ n3_ n4_ n5_ n6_ n7_ n8_ n9_
    clear hb hbox hg
    refine hK.out _ _ ⟨(blk_cell BK764.out 0).trans rfl, (blk_cell BK765.out 0).trans rfl, (blk_cell BK765.out 1).trans rfl, (blk_cell BK765.out 2).trans rfl⟩ (fun hHeld => ?_)
    clear hK K
    refine norm_ (a' := ?_) ?_ ?_
    rotate_left
    ·
     show Act.put _ (some 8) _ = _
     simp only [Act.put, List.setIfInBounds_toArray, List.set_cons_zero, List.set_cons_succ, i64_w, i32_w]
     rfl
    refine one_ (i := 1) (N := some 25) #[true, true, true, false, true, false, false, false, false, true, false, false] rfl rfl (one_of HT_.out (by kernel_rfl)) (by decide) (fun K hK => ?_)
    refine goes_ Try.func32 (by kernel_rfl) rfl #[.agg #[.slice A0_0 l0_0.length c0_0]] (by rfl) rfl rfl (by (try simp only [List.map_toArray, List.map_cons, List.map_nil]); first | done | rfl | (simp only [List.length_drop, List.length_take]; rfl)) ?_
    with_reducible refine (laws_toStock.calls k _ _ l0_0 t767 _ ?side1 ?side2 A12.out).mono ?_
    (case side1 => exact Kd.Cq (Kd.C_below HR0_0.out HB.out))
    (case side2 => exact HC0_0.out)
    rintro e w21 ⟨v768, rfl, ho0, hb⟩
    refine ⟨_, rfl, ?_⟩
    have n0_ := Aside0.mk (Kd.R_lower ho0 (below_size (blq HB.out)))
    have n1_ := Aside0.mk (blk_below (bkq BK764.out) hb)
    have n2_ := Aside0.mk (blk_below (bkq BK765.out) hb)
    have n3_ := Aside0.mk (blk_below (bkq BK777.out) hb)
    have n4_ := Aside0.mk (below_step (blq HB.out) hb)
    clear BK764
    clear BK765
    clear BK777
    clear HB
    have HO769 := n0_
    have BK764 := n1_
    have BK765 := n2_
    have BK777 := n3_
    have HB := n4_
    clear n0_ n1_ n2_ n3_ n4_
    (try clear hb)
    (try clear hb2)
    (try clear hk)
    (try clear hi)
    (try clear ho0)
    refine hK.out _ _ ⟨(blk_cell BK764.out 0).trans rfl, (blk_cell BK765.out 0).trans rfl, (blk_cell BK765.out 1).trans rfl, (blk_cell BK765.out 2).trans rfl⟩ (fun hHeld => ?_)
    clear hK K
    refine norm_ (a' := ?_) ?_ ?_
    rotate_left
    ·
     show Act.put _ (some 25) _ = _
     simp only [Act.put, List.setIfInBounds_toArray, List.set_cons_zero, List.set_cons_succ, i64_w, i32_w]
     rfl
    refine one_ (i := 3) (N := some 27) #[true, true, true, true, true, false, false, false, false, true, false, false] rfl rfl (one_of HT_.out (by kernel_rfl)) (by decide) (fun K hK => ?_)
    refine goes_ Try.func33 (by kernel_rfl) rfl #[.agg #[.int .i64 a1_0, .int .i64 a1_1, .int .i64 a1_2]] (by rfl) rfl rfl (by (try simp only [List.map_toArray, List.map_cons, List.map_nil]); first | done | rfl | (simp only [List.length_drop, List.length_take]; rfl)) ?_
    with_reducible refine (laws_toDough.calls a1_0 a1_1 a1_2 t770 t771 t772 _ A13.out).mono ?_
    rintro e w22 ⟨rfl, hb⟩
    refine ⟨_, rfl, ?_⟩
    have n0_ := Aside0.mk (Kd.R_below (Kd.Rq HO769.out) hb)
    have n1_ := Aside0.mk (blk_below (bkq BK764.out) hb)
    have n2_ := Aside0.mk (blk_below (bkq BK765.out) hb)
    have n3_ := Aside0.mk (blk_below (bkq BK777.out) hb)
    have n4_ := Aside0.mk (below_step (blq HB.out) hb)
    clear HO769
    clear BK764
    clear BK765
    clear BK777
    clear HB
    have HO769 := n0_
    have BK764 := n1_
    have BK765 := n2_
    have BK777 := n3_
    have HB := n4_
    clear n0_ n1_ n2_ n3_ n4_
    (try clear hb)
    (try clear hb2)
    (try clear hk)
    (try clear hi)
    obtain ⟨Ao23, co23, eo23⟩ := Kd.R_slice HO769.out
    (first | subst eo23 | (injection eo23 with f1_ f2_ f3_; have f4_ := f1_.symm; have f5_ := f3_.symm; clear f1_ f2_ f3_; subst f4_; subst f5_))
    refine hK.out _ _ ⟨(blk_cell BK764.out 0).trans rfl, (blk_cell BK765.out 0).trans rfl, (blk_cell BK765.out 1).trans rfl, (blk_cell BK765.out 2).trans rfl⟩ (fun hHeld => ?_)
    clear hK K
    refine norm_ (a' := ?_) ?_ ?_
    rotate_left
    ·
     show Act.put _ (some 27) _ = _
     simp only [Act.put, List.setIfInBounds_toArray, List.set_cons_zero, List.set_cons_succ, i64_w, i32_w]
     rfl
    refine one_ (i := 5) (N := some 29) #[true, true, true, true, true, true, false, false, false, true, false, false] rfl rfl (one_of HT_.out (by kernel_rfl)) (by decide) (fun K hK => ?_)
    refine goes_ Try.func53 (by kernel_rfl) rfl #[.agg #[.slice Ao23 t767.length co23], .agg #[.int .i64 t770, .int .i64 t771, .int .i64 t772], .int .i64 a2] (by rfl) rfl rfl (by (try simp only [List.map_toArray, List.map_cons, List.map_nil]); first | done | rfl | (simp only [List.length_drop, List.length_take]; rfl)) ?_
    with_reducible refine (spec_TakeFor.calls k _ _ t767 t770 t771 t772 a2 t773 t776 _ ?side1 ?side2 A14.out).mono ?_
    (case side1 => repeat (first | exact (Kd.R_reads' HO769.out).2.2 | (with_reducible refine Kd.C_alloc ?_ _) | (with_reducible refine Kd.C_drewN ?_ _) | (with_reducible refine Kd.C_drew ?_)))
    (case side2 => exact (Kd.R_reads' HO769.out).2.1)
    rintro e w24 ⟨v774, rfl, ho0, hb⟩
    refine ⟨_, rfl, ?_⟩
    have n0_ := Aside0.mk (Kd.R_elder' (Kd.Rq HO769.out) (Kd.R_base ho0) hb)
    have n1_ := Aside0.mk (Kd.R_lower (Kd.R_new' ho0 (Kd.R_lt (Kd.Rq HO769.out))) (below_size (blq HB.out)))
    have n2_ := Aside0.mk (blk_below (bkq BK764.out) hb)
    have n3_ := Aside0.mk (blk_below (bkq BK765.out) hb)
    have n4_ := Aside0.mk (blk_below (bkq BK777.out) hb)
    have n5_ := Aside0.mk (below_step (blq HB.out) hb)
    clear HO769
    clear BK764
    clear BK765
    clear BK777
    clear HB
    have HO769 := n0_
    have HO775 := n1_
    have BK764 := n2_
    have BK765 := n3_
    have BK777 := n4_
    have HB := n5_
    clear n0_ n1_ n2_ n3_ n4_ n5_
    (try clear hb)
    (try clear hb2)
    (try clear hk)
    (try clear hi)
    (try clear ho0)
    refine hK.out _ _ ⟨(blk_cell BK764.out 0).trans rfl, (blk_cell BK765.out 0).trans rfl, (blk_cell BK765.out 1).trans rfl, (blk_cell BK765.out 2).trans rfl⟩ (fun hHeld => ?_)
    clear hK K
    refine norm_ (a' := ?_) ?_ ?_
    rotate_left
    ·
     show Act.put _ (some 29) _ = _
     simp only [Act.put, List.setIfInBounds_toArray, List.set_cons_zero, List.set_cons_succ, i64_w, i32_w]
     rfl
    refine pure_ (i := 6) (N := some 23) (v := ?_) (a' := ?_) #[true, true, true, true, true, true, true, false, false, true, false, false] rfl rfl (any_of HT_.out (by kernel_rfl)) (fun _ _ _ h => h) (Or.inl ⟨by rfl, ?_⟩) ?_ ?_
    rotate_left
    ·
     intro w'
     go_simp
     with_reducible rfl
    rotate_left
    ·
     simp only [Act.put, List.setIfInBounds_toArray, List.set_cons_zero, List.set_cons_succ, i64_w, i32_w]
     rfl
    refine pure_ (i := 7) (N := some 30) (v := ?_) (a' := ?_) #[true, true, true, true, true, true, true, true, false, true, false, false] rfl rfl (any_of HT_.out (by kernel_rfl)) (fun _ _ _ h => h) (Or.inl ⟨by rfl, ?_⟩) ?_ ?_
    rotate_left
    ·
     intro w'
     go_simp
     with_reducible rfl
    rotate_left
    ·
     simp only [Act.put, List.setIfInBounds_toArray, List.set_cons_zero, List.set_cons_succ, i64_w, i32_w]
     rfl
    refine pure_ (i := 8) (N := some 31) (v := ?_) (a' := ?_) #[true, true, true, true, true, true, true, true, true, true, false, false] rfl rfl (any_of HT_.out (by kernel_rfl)) (fun _ _ _ h => h) (Or.inl ⟨by rfl, ?_⟩) ?_ ?_
    rotate_left
    ·
     intro w'
     go_simp
     with_reducible rfl
    rotate_left
    ·
     simp only [Act.put, List.setIfInBounds_toArray, List.set_cons_zero, List.set_cons_succ, i64_w, i32_w]
     rfl
    exact norm_ (by simp only [putAll, Act.put, List.setIfInBounds_toArray, List.set_cons_zero, List.set_cons_succ]) (hCont (.slice Ao23 t767.length co23, v774, gb777) _ ⟨hHeld, (Kd.Rq (Kd.R_mono HO769.out (fun _ hk => hk.2))), (Kd.Rq (Kd.R_mono HO775.out (fun _ hk => hk.2))), (bkq BK764.out), (bkq BK765.out), (bkq BK777.out), GW777.out, GE777.out, NB764_777.out, NB777_764.out, NB765_777.out, NB777_765.out, (blq HB.out)⟩)
  rintro ⟨v768, v774, gb777⟩ w25 ⟨hS_, h0_, h1_, h2_, h3_, h4_, h5_, h6_, h7_, h8_, h9_, h10_, h11_⟩
  have n0_ : Aside0 (Kd.R (Kd.int .i64) 3 w25 w.heap.size (fun k_ => some k_ ≠ (v774 : Value).ownBlock) v768 t767) := ⟨h0_⟩
  have n1_ : Aside0 (Kd.R (Kd.int .i64) 3 w25 w.heap.size (fun k_ => some k_ ≠ (v768 : Value).ownBlock) v774 t773) := ⟨h1_⟩
  have n2_ : Aside0 (w25.heap[gb764]? = some (.cells #[.slice A0_0 l0_0.length c0_0] 49 (0, 0))) := ⟨h2_⟩
  have n3_ : Aside0 (w25.heap[gb765]? = some (.cells #[.int .i64 a1_0, .int .i64 a1_1, .int .i64 a1_2] 51 (0, 0))) := ⟨h3_⟩
  have n4_ : Aside0 (w25.heap[gb777]? = some (.cells #[.slice none 0 0] 54 (0, 0))) := ⟨h4_⟩
  have n5_ : Aside0 (w.heap.size ≤ gb777) := ⟨h5_⟩
  have n6_ : Aside0 (w.heap.size ≤ gb777) := ⟨h6_⟩
  have n7_ : Aside0 (gb764 ≠ gb777) := ⟨h7_⟩
  have n8_ : Aside0 (gb777 ≠ gb764) := ⟨h8_⟩
  have n9_ : Aside0 (gb765 ≠ gb777) := ⟨h9_⟩
  have n10_ : Aside0 (gb777 ≠ gb765) := ⟨h10_⟩
  have n11_ : Aside0 (Below w.heap.size w w25) := ⟨h11_⟩
  clear BK764
  clear BK765
  clear HB
  clear h0_ h1_ h2_ h3_ h4_ h5_ h6_ h7_ h8_ h9_ h10_ h11_
  have HO769 := n0_
  have HO775 := n1_
  have BK764 := n2_
  have BK765 := n3_
  have BK777 := n4_
  have GW777 := n5_
  have GE777 := n6_
  have NB764_777 := n7_
  have NB777_764 := n8_
  have NB765_777 := n9_
  have NB777_765 := n10_
  have HB := n11_
  clear n0_ n1_ n2_ n3_ n4_ n5_ n6_ n7_ n8_ n9_ n10_ n11_
  have hHeld : w25.cell? ⟨gb764, 0, none⟩ = some (.slice A0_0 l0_0.length c0_0) ∧ w25.cell? ⟨gb765, 0, none⟩ = some (.int .i64 a1_0) ∧ w25.cell? ⟨gb765, 1, none⟩ = some (.int .i64 a1_1) ∧ w25.cell? ⟨gb765, 2, none⟩ = some (.int .i64 a1_2) := hS_
  obtain ⟨Ao26, co26, eo26⟩ := Kd.R_slice HO775.out
  (first | subst eo26 | (injection eo26 with f1_ f2_ f3_; have f4_ := f1_.symm; have f5_ := f3_.symm; clear f1_ f2_ f3_; subst f4_; subst f5_))
  refine norm_ (a' := ?_) ?_ ?_
  rotate_left
  ·
   simp only [putAll, Act.put, List.setIfInBounds_toArray, List.set_cons_zero, List.set_cons_succ]
   rfl
  refine one_ (i := 10) (N := none) #[true, true, true, true, true, true, true, true, true, true, true, false] rfl rfl (one_of HT_.out (by kernel_rfl)) (by decide) (fun K hK => ?_)
  have hs27 : w25.cell? ⟨gb777, 0, none⟩ = some (.slice none 0 0) := (blk_cell BK777.out 0).trans rfl
  have hfs27 := blk_frozen BK777.out 0
  have hns27_0 := NB764_777.out
  have hns27_1 := NB765_777.out
  have hms27_0 := NB777_764.out
  have hms27_1 := NB777_765.out
  refine skip_ (w1 := ?_) (by rfl) rfl ?_ ?_
  rotate_left
  ·
   go_simp
   rfl
  refine hK.out _ _ ⟨((cell_far (p := ⟨gb777, _, none⟩) NB764_777.out _).trans (hHeld.1)), ((cell_far (p := ⟨gb777, _, none⟩) NB765_777.out _).trans (hHeld.2.1)), ((cell_far (p := ⟨gb777, _, none⟩) NB765_777.out _).trans (hHeld.2.2.1)), ((cell_far (p := ⟨gb777, _, none⟩) NB765_777.out _).trans (hHeld.2.2.2))⟩ (fun hHeld => ?_)
  clear hK K
  refine pure_ (i := 11) (N := some 9) (v := ?_) (a' := ?_) #[true, true, true, true, true, true, true, true, true, true, true, true] rfl rfl (any_of HT_.out (by kernel_rfl)) (fun _ _ _ h => h) (Or.inl ⟨by rfl, ?_⟩) ?_ ?_
  rotate_left
  ·
   intro w'
   go_simp
   with_reducible rfl
  rotate_left
  ·
   simp only [Act.put, List.setIfInBounds_toArray, List.set_cons_zero, List.set_cons_succ, i64_w, i32_w]
   rfl
  refine done_ (done_of HT_.out (by kernel_rfl)) ?_
  have hnb28 := NB764_765.out
  have hnc28 := NB765_764.out
  have hnb29 := NB764_777.out
  have hnc29 := NB777_764.out
  have hcz30_0 : w25.cell? ⟨gb764, 0, none⟩ = some (.slice A0_0 l0_0.length c0_0) := (blk_cell BK764.out 0).trans rfl
  have hfz30_0 := blk_frozen BK764.out 0
  try go_wp2_with (first | ((with_reducible refine gate_callee (f := 32) rfl ?_); refine gLq (some 33) Try.func32 #[.agg #[.slice A0_0 l0_0.length c0_0]] ?_; (with_reducible refine (laws_toStock.calls k _ _ l0_0 t778 _ ?side1 ?side2 A15.out).mono ?_); (case side1 => exact Kd.C_below HR0_0.out (blq HB.out)); (case side2 => exact HC0_0.out); rintro e w31 ⟨v779, rfl, ho0, hb⟩; refine ⟨_, rfl, ?_⟩; have n0_ := Aside0.mk (Kd.R_elder' (Kd.Rq (Kd.R_mono (Kd.R_far (p := ⟨gb777, 0, none⟩) (Kd.R_types HO769.out BK777.out (by decide)) (fun _ hk => hk.2) (.slice Ao26 t773.length co26)) (fun _ h_ => h_.1))) (Kd.R_base ho0) hb); have n1_ := Aside0.mk (Kd.R_elder' (Kd.Rq (Kd.R_mono (Kd.R_far (p := ⟨gb777, 0, none⟩) (Kd.R_types HO775.out BK777.out (by decide)) (fun _ hk => hk.2) (.slice Ao26 t773.length co26)) (fun _ h_ => h_.1))) (Kd.R_base ho0) hb); have n2_ := Aside0.mk (Kd.R_lower (Kd.R_new' (Kd.R_new' ho0 (Kd.R_lt (Kd.Rq (Kd.R_mono (Kd.R_far (p := ⟨gb777, 0, none⟩) (Kd.R_types HO769.out BK777.out (by decide)) (fun _ hk => hk.2) (.slice Ao26 t773.length co26)) (fun _ h_ => h_.1))))) (Kd.R_lt (Kd.Rq (Kd.R_mono (Kd.R_far (p := ⟨gb777, 0, none⟩) (Kd.R_types HO775.out BK777.out (by decide)) (fun _ hk => hk.2) (.slice Ao26 t773.length co26)) (fun _ h_ => h_.1))))) (below_size (blq HB.out))); have n3_ := Aside0.mk (blk_below (g := gb764) (o := .cells #[.slice A0_0 l0_0.length c0_0] 49 (0, 0)) (by (with_reducible repeat (first | refine blk_drewN ?_ _ | refine blk_drew ?_ | refine blk_alloc ?_ _)); refine blk_far ?_ NB764_777.out _; (with_reducible repeat (first | refine blk_drewN ?_ _ | refine blk_drew ?_ | refine blk_alloc ?_ _)); exact BK764.out) hb); have n4_ := Aside0.mk (blk_below (g := gb765) (o := .cells #[.int .i64 a1_0, .int .i64 a1_1, .int .i64 a1_2] 51 (0, 0)) (by (with_reducible repeat (first | refine blk_drewN ?_ _ | refine blk_drew ?_ | refine blk_alloc ?_ _)); refine blk_far ?_ NB765_777.out _; (with_reducible repeat (first | refine blk_drewN ?_ _ | refine blk_drew ?_ | refine blk_alloc ?_ _)); exact BK765.out) hb); have n5_ := Aside0.mk (blk_below (g := gb777) (o := .cells #[.slice Ao26 t773.length co26] 54 (0, 0)) (by (with_reducible repeat (first | refine blk_drewN ?_ _ | refine blk_drew ?_ | refine blk_alloc ?_ _)); refine blk_put (cs := #[.slice none 0 0]) ?_ 0 _ rfl; (with_reducible repeat (first | refine blk_drewN ?_ _ | refine blk_drew ?_ | refine blk_alloc ?_ _)); exact BK777.out) hb); have n6_ := Aside0.mk (below_step (blq HB.out) hb); clear HO769; clear HO775; clear BK764; clear BK765; clear BK777; clear HB; have HO769 := n0_; have HO775 := n1_; have HO780 := n2_; have BK764 := n3_; have BK765 := n4_; have BK777 := n5_; have HB := n6_; clear n0_ n1_ n2_ n3_ n4_ n5_ n6_; (try clear hb); (try clear hb2); (try clear hk); (try clear hi); (try clear ho0)) | ((with_reducible refine gate_dst (N := 10) rfl ?_); refine box_event ?hg (N := 10) ?hd (cs := #[.slice none 0 0]) (t := 54) ?hr ?_; (case hd => rfl); (case hg => rfl); (case hr => first | (go_simp; done) | (go_simp; rfl)); intro gb781 hg w32 hbox hb; have n0_ := Aside0.mk (Kd.R_below (Kd.Rq HO769.out) hb); have n1_ := Aside0.mk (Kd.R_below (Kd.Rq HO775.out) hb); have n2_ := Aside0.mk (Kd.R_below (Kd.Rq HO780.out) hb); have n3_ := Aside0.mk (blk_below (bkq BK764.out) hb); have n4_ := Aside0.mk (blk_below (bkq BK765.out) hb); have n5_ := Aside0.mk (blk_below (bkq BK777.out) hb); have n6_ := Aside0.mk (below_step (blq HB.out) hb); have n7_ := Aside0.mk (hbox); have n8_ := Aside0.mk ((sq hg HB.out)); have n9_ := Aside0.mk ((sq hg HB.out)); have n10_ := Aside0.mk ((by rw [hg]; exact Nat.ne_of_lt (blk_lt (bkq BK764.out)) : gb764 ≠ gb781)); have n11_ := Aside0.mk ((by rw [hg]; exact Nat.ne_of_gt (blk_lt (bkq BK764.out)) : gb781 ≠ gb764)); have n12_ := Aside0.mk ((by rw [hg]; exact Nat.ne_of_lt (blk_lt (bkq BK765.out)) : gb765 ≠ gb781)); have n13_ := Aside0.mk ((by rw [hg]; exact Nat.ne_of_gt (blk_lt (bkq BK765.out)) : gb781 ≠ gb765)); have n14_ := Aside0.mk ((by rw [hg]; exact Nat.ne_of_lt (blk_lt (bkq BK777.out)) : gb777 ≠ gb781)); have n15_ := Aside0.mk ((by rw [hg]; exact Nat.ne_of_gt (blk_lt (bkq BK777.out)) : gb781 ≠ gb777)); clear HO769; clear HO775; clear HO780; clear BK764; clear BK765; clear BK777; clear HB; have HO769 := n0_; have HO775 := n1_; have HO780 := n2_; have BK764 := n3_; have BK765 := n4_; have BK777 := n5_; have HB := n6_; have BK781 := n7_; have GW781 := n8_; have GE781 := n9_; have NB764_781 := n10_; have NB781_764 := n11_; have NB765_781 := n12_; have NB781_765 := n13_; have NB777_781 := n14_; have NB781_777 := n15_; clear n0_ n1_ n2_ n3_ n4_ n5_ n6_ n7_ n8_ n9_ n10_ n11_ n12_ n13_ n14_ n15_; clear hb hbox hg; obtain ⟨Ao33, co33, eo33⟩ := Kd.R_slice HO780.out; subst eo33; have hnb34 := NB781_764.out; have hnc34 := NB764_781.out; have hnb35 := NB781_765.out; have hnc35 := NB765_781.out; have hnb36 := NB781_777.out; have hnc36 := NB777_781.out; have hcz37_0 : w32.cell? ⟨gb781, 0, none⟩ = some (.slice none 0 0) := (blk_cell BK781.out 0).trans rfl; have hfz37_0 := blk_frozen BK781.out 0))
  have n0_ : Aside0 (Kd.R (Kd.int .i64) 3 (w32.setCell ⟨gb781, 0, none⟩ (.slice Ao33 t778.length co33)) w.heap.size (fun k_ => some k_ ≠ (.slice Ao26 t773.length co26 : Value).ownBlock ∧ some k_ ≠ (.slice Ao33 t778.length co33 : Value).ownBlock) v768 t767) := ⟨Kd.Rq (Kd.R_mono (Kd.R_far (p := ⟨gb781, 0, none⟩) (Kd.R_types HO769.out BK781.out (by decide)) (fun _ hk => hk.2) (.slice Ao33 t778.length co33)) (fun _ hk => ⟨hk.1.1, hk.1.2⟩))⟩
  have n1_ : Aside0 (Kd.R (Kd.int .i64) 3 (w32.setCell ⟨gb781, 0, none⟩ (.slice Ao33 t778.length co33)) w.heap.size (fun k_ => some k_ ≠ (v768 : Value).ownBlock ∧ some k_ ≠ (.slice Ao33 t778.length co33 : Value).ownBlock) (.slice Ao26 t773.length co26) t773) := ⟨Kd.Rq (Kd.R_mono (Kd.R_far (p := ⟨gb781, 0, none⟩) (Kd.R_types HO775.out BK781.out (by decide)) (fun _ hk => hk.2) (.slice Ao33 t778.length co33)) (fun _ hk => ⟨hk.1.1, hk.1.2⟩))⟩
  have n2_ : Aside0 (Kd.R (Kd.int .i64) 3 (w32.setCell ⟨gb781, 0, none⟩ (.slice Ao33 t778.length co33)) w.heap.size (fun k_ => some k_ ≠ (v768 : Value).ownBlock ∧ some k_ ≠ (.slice Ao26 t773.length co26 : Value).ownBlock) (.slice Ao33 t778.length co33) t778) := ⟨Kd.Rq (Kd.R_mono (Kd.R_far (p := ⟨gb781, 0, none⟩) (Kd.R_types HO780.out BK781.out (by decide)) (fun _ hk => hk.2) (.slice Ao33 t778.length co33)) (fun _ hk => ⟨hk.1.1.2, hk.1.2⟩))⟩
  have n3_ : Aside0 ((w32.setCell ⟨gb781, 0, none⟩ (.slice Ao33 t778.length co33)).heap[gb764]? = some (.cells #[.slice A0_0 l0_0.length c0_0] 49 (0, 0))) := ⟨by (with_reducible repeat (first | refine blk_drewN ?_ _ | refine blk_drew ?_ | refine blk_alloc ?_ _)); refine blk_far ?_ NB764_781.out _; (with_reducible repeat (first | refine blk_drewN ?_ _ | refine blk_drew ?_ | refine blk_alloc ?_ _)); exact BK764.out⟩
  have n4_ : Aside0 ((w32.setCell ⟨gb781, 0, none⟩ (.slice Ao33 t778.length co33)).heap[gb765]? = some (.cells #[.int .i64 a1_0, .int .i64 a1_1, .int .i64 a1_2] 51 (0, 0))) := ⟨by (with_reducible repeat (first | refine blk_drewN ?_ _ | refine blk_drew ?_ | refine blk_alloc ?_ _)); refine blk_far ?_ NB765_781.out _; (with_reducible repeat (first | refine blk_drewN ?_ _ | refine blk_drew ?_ | refine blk_alloc ?_ _)); exact BK765.out⟩
  have n5_ : Aside0 ((w32.setCell ⟨gb781, 0, none⟩ (.slice Ao33 t778.length co33)).heap[gb777]? = some (.cells #[.slice Ao26 t773.length co26] 54 (0, 0))) := ⟨by (with_reducible repeat (first | refine blk_drewN ?_ _ | refine blk_drew ?_ | refine blk_alloc ?_ _)); refine blk_far ?_ NB777_781.out _; (with_reducible repeat (first | refine blk_drewN ?_ _ | refine blk_drew ?_ | refine blk_alloc ?_ _)); exact BK777.out⟩
  have n6_ : Aside0 ((w32.setCell ⟨gb781, 0, none⟩ (.slice Ao33 t778.length co33)).heap[gb781]? = some (.cells #[.slice Ao33 t778.length co33] 54 (0, 0))) := ⟨by (with_reducible repeat (first | refine blk_drewN ?_ _ | refine blk_drew ?_ | refine blk_alloc ?_ _)); refine blk_put (cs := #[.slice none 0 0]) ?_ 0 _ rfl; (with_reducible repeat (first | refine blk_drewN ?_ _ | refine blk_drew ?_ | refine blk_alloc ?_ _)); exact BK781.out⟩
  have n7_ : Aside0 (Below w.heap.size w (w32.setCell ⟨gb781, 0, none⟩ (.slice Ao33 t778.length co33))) := ⟨blq HB.out⟩
  (try clear HO769)
  (try clear HO775)
  (try clear HO780)
  (try clear BK764)
  (try clear BK765)
  (try clear BK777)
  (try clear BK781)
  (try clear HB)
  generalize (w32.setCell ⟨gb781, 0, none⟩ (.slice Ao33 t778.length co33)) = w38 at n0_ n1_ n2_ n3_ n4_ n5_ n6_ n7_ ⊢
  have HO769 := n0_
  have HO775 := n1_
  have HO780 := n2_
  have BK764 := n3_
  have BK765 := n4_
  have BK777 := n5_
  have BK781 := n6_
  have HB := n7_
  clear n0_ n1_ n2_ n3_ n4_ n5_ n6_ n7_
  have n0_ := Aside0.mk (Kd.R_drew HO769.out)
  have n1_ := Aside0.mk (Kd.R_drew HO775.out)
  have n2_ := Aside0.mk (Kd.R_drew HO780.out)
  have n3_ := Aside0.mk (blk_drew BK764.out)
  have n4_ := Aside0.mk (blk_drew BK765.out)
  have n5_ := Aside0.mk (blk_drew BK777.out)
  have n6_ := Aside0.mk (blk_drew BK781.out)
  have n7_ := Aside0.mk (below_drew1 HB.out)
  clear HO769
  clear HO775
  clear HO780
  clear BK764
  clear BK765
  clear BK777
  clear BK781
  clear HB
  have HO769 := n0_
  have HO775 := n1_
  have HO780 := n2_
  have BK764 := n3_
  have BK765 := n4_
  have BK777 := n5_
  have BK781 := n6_
  have HB := n7_
  clear n0_ n1_ n2_ n3_ n4_ n5_ n6_ n7_
  refine start_ (n := 11) (S := fun w' => w'.cell? ⟨gb781, 0, none⟩ = some (.slice Ao33 t778.length co33) ∧ w'.cell? ⟨gb765, 0, none⟩ = some (.int .i64 a1_0) ∧ w'.cell? ⟨gb765, 1, none⟩ = some (.int .i64 a1_1) ∧ w'.cell? ⟨gb765, 2, none⟩ = some (.int .i64 a1_2)) (ds := []) #[false, false, false, false, false, false, false, false, false, false, false] (by kernel_rfl) rfl rfl ⟨(blk_cell BK781.out 0).trans rfl, (blk_cell BK765.out 0).trans rfl, (blk_cell BK765.out 1).trans rfl, (blk_cell BK765.out 2).trans rfl⟩ (fun hHeld => ?_); refine with_tabW laws_FnExactTakeFor.tab7 laws_FnExactTakeFor.bits7 (fun HT_ HW_ => ?_)
  generalize w38.drew = w39 at HO769 HO775 HO780 BK764 BK765 BK777 BK781 HB hHeld ⊢
  refine pure_ (i := 3) (N := some 38) (v := ?_) (a' := ?_) #[false, false, false, true, false, false, false, false, false, false, false] rfl rfl (any_of HT_.out (by kernel_rfl)) (fun _ _ _ h => h) (Or.inl ⟨by rfl, ?_⟩) ?_ ?_
  rotate_left
  ·
   intro w'
   go_simp
   with_reducible rfl
  rotate_left
  ·
   simp only [Act.put, List.setIfInBounds_toArray, List.set_cons_zero, List.set_cons_succ, i64_w, i32_w]
   rfl
  refine take_ (i := 0) (N := some 35) (v := ?_) (a' := ?_) #[true, false, false, true, false, false, false, false, false, false, false] rfl rfl (take_ofW HT_.out HW_.out (by kernel_rfl)) (fun _ _ _ h => h) (Or.inl ⟨by rfl, ?_⟩) hHeld ?_ ?_
  rotate_left
  ·
   rintro w' ⟨s0, s1, s2, s3⟩
   go_simp
   with_reducible rfl
  rotate_left
  ·
   simp only [Act.put, List.setIfInBounds_toArray, List.set_cons_zero, List.set_cons_succ, i64_w, i32_w]
   rfl
  refine take_ (i := 1) (N := some 36) (v := ?_) (a' := ?_) #[true, true, false, true, false, false, false, false, false, false, false] rfl rfl (take_ofW HT_.out HW_.out (by kernel_rfl)) (fun _ _ _ h => h) (Or.inl ⟨by rfl, ?_⟩) hHeld ?_ ?_
  rotate_left
  ·
   rintro w' ⟨s0, s1, s2, s3⟩
   go_simp
   with_reducible rfl
  rotate_left
  ·
   simp only [Act.put, List.setIfInBounds_toArray, List.set_cons_zero, List.set_cons_succ, i64_w, i32_w]
   rfl
  refine join_ (σ := Value × Nat) 2 #[true, true, true, true, true, true, true, true, true, false, false] (fun s_ => [(37, .agg #[.int .i64 t782, .int .i64 t783, .int .i64 t784]), (39, .tuple #[.agg #[s_.1], .bool t788]), (11, .pointer (some ⟨s_.2, 0, none⟩)), (34, .tuple #[.agg #[s_.1], .bool t788]), (40, .agg #[s_.1]), (41, .bool t788)]) (fun s_ w' => (w'.cell? ⟨gb781, 0, none⟩ = some (.slice Ao33 t778.length co33) ∧ w'.cell? ⟨gb765, 0, none⟩ = some (.int .i64 a1_0) ∧ w'.cell? ⟨gb765, 1, none⟩ = some (.int .i64 a1_1) ∧ w'.cell? ⟨gb765, 2, none⟩ = some (.int .i64 a1_2)) ∧ (Kd.R (Kd.int .i64) 3 w' w.heap.size (fun k_ => some k_ ≠ (.slice Ao26 t773.length co26 : Value).ownBlock ∧ some k_ ≠ (.slice Ao33 t778.length co33 : Value).ownBlock ∧ some k_ ≠ (s_.1 : Value).ownBlock) v768 t767) ∧ (Kd.R (Kd.int .i64) 3 w' w.heap.size (fun k_ => some k_ ≠ (v768 : Value).ownBlock ∧ some k_ ≠ (.slice Ao33 t778.length co33 : Value).ownBlock ∧ some k_ ≠ (s_.1 : Value).ownBlock) (.slice Ao26 t773.length co26) t773) ∧ (Kd.R (Kd.int .i64) 3 w' w.heap.size (fun k_ => some k_ ≠ (v768 : Value).ownBlock ∧ some k_ ≠ (.slice Ao26 t773.length co26 : Value).ownBlock ∧ some k_ ≠ (s_.1 : Value).ownBlock) (.slice Ao33 t778.length co33) t778) ∧ (Kd.R (Kd.int .i64) 3 w' w.heap.size (fun k_ => some k_ ≠ (v768 : Value).ownBlock ∧ some k_ ≠ (.slice Ao26 t773.length co26 : Value).ownBlock ∧ some k_ ≠ (.slice Ao33 t778.length co33 : Value).ownBlock) s_.1 t785) ∧ (w'.heap[gb764]? = some (.cells #[.slice A0_0 l0_0.length c0_0] 49 (0, 0))) ∧ (w'.heap[gb765]? = some (.cells #[.int .i64 a1_0, .int .i64 a1_1, .int .i64 a1_2] 51 (0, 0))) ∧ (w'.heap[gb777]? = some (.cells #[.slice Ao26 t773.length co26] 54 (0, 0))) ∧ (w'.heap[gb781]? = some (.cells #[.slice Ao33 t778.length co33] 54 (0, 0))) ∧ (w'.heap[s_.2]? = some (.cells #[.slice none 0 0] 54 (0, 0))) ∧ (w.heap.size ≤ s_.2) ∧ (w.heap.size ≤ s_.2) ∧ (gb764 ≠ s_.2) ∧ (s_.2 ≠ gb764) ∧ (gb765 ≠ s_.2) ∧ (s_.2 ≠ gb765) ∧ (gb777 ≠ s_.2) ∧ (s_.2 ≠ gb777) ∧ (gb781 ≠ s_.2) ∧ (s_.2 ≠ gb781) ∧ (Below w.heap.size w w')) ?_ ?_
  rotate_left
  ·
   intro hCont
   refine two_ (i := 2) (j := 8) (Ni := some 37) (Nj := some 11) #[true, true, true, true, false, false, false, false, false, false, false] #[true, true, false, true, false, false, false, false, true, false, false] rfl rfl rfl rfl (two_of HT_.out (by kernel_rfl)) (by decide) (by decide) (fun K hK => ?_) (fun K hK => ?_)
   ·
    skip
    refine goes_ Try.func33 (by kernel_rfl) rfl #[.agg #[.int .i64 a1_0, .int .i64 a1_1, .int .i64 a1_2]] (by rfl) rfl rfl (by (try simp only [List.map_toArray, List.map_cons, List.map_nil]); first | done | rfl | (simp only [List.length_drop, List.length_take]; rfl)) ?_
    with_reducible refine (laws_toDough.calls a1_0 a1_1 a1_2 t782 t783 t784 _ A16.out).mono ?_
    rintro e w40 ⟨rfl, hb⟩
    refine ⟨_, rfl, ?_⟩
    have n0_ := Aside0.mk (Kd.R_below (Kd.Rq HO769.out) hb)
    have n1_ := Aside0.mk (Kd.R_below (Kd.Rq HO775.out) hb)
    have n2_ := Aside0.mk (Kd.R_below (Kd.Rq HO780.out) hb)
    have n3_ := Aside0.mk (blk_below (bkq BK764.out) hb)
    have n4_ := Aside0.mk (blk_below (bkq BK765.out) hb)
    have n5_ := Aside0.mk (blk_below (bkq BK777.out) hb)
    have n6_ := Aside0.mk (blk_below (bkq BK781.out) hb)
    have n7_ := Aside0.mk (below_step (blq HB.out) hb)
    clear HO769
    clear HO775
    clear HO780
    clear BK764
    clear BK765
    clear BK777
    clear BK781
    clear HB
    have HO769 := n0_
    have HO775 := n1_
    have HO780 := n2_
    have BK764 := n3_
    have BK765 := n4_
    have BK777 := n5_
    have BK781 := n6_
    have HB := n7_
    clear n0_ n1_ n2_ n3_ n4_ n5_ n6_ n7_
    (try clear hb)
    (try clear hb2)
    (try clear hk)
    (try clear hi)
    refine hK.out _ _ ⟨(blk_cell BK781.out 0).trans rfl, (blk_cell BK765.out 0).trans rfl, (blk_cell BK765.out 1).trans rfl, (blk_cell BK765.out 2).trans rfl⟩ (fun hHeld => ?_)
    clear hK K
    refine norm_ (a' := ?_) ?_ ?_
    rotate_left
    ·
     show Act.put _ (some 37) _ = _
     simp only [Act.put, List.setIfInBounds_toArray, List.set_cons_zero, List.set_cons_succ, i64_w, i32_w]
     rfl
    refine two_ (i := 4) (j := 8) (Ni := some 39) (Nj := some 11) #[true, true, true, true, true, false, false, false, false, false, false] #[true, true, true, true, false, false, false, false, true, false, false] rfl rfl rfl rfl (two_of HT_.out (by kernel_rfl)) (by decide) (by decide) (fun K hK => ?_) (fun K hK => ?_)
    ·
     skip
     refine goes_ Try.func43 (by kernel_rfl) rfl #[.agg #[.slice Ao33 t778.length co33], .agg #[.int .i64 t782, .int .i64 t783, .int .i64 t784], .int .i64 a2] (by rfl) rfl rfl (by (try simp only [List.map_toArray, List.map_cons, List.map_nil]); first | done | rfl | (simp only [List.length_drop, List.length_take]; rfl)) ?_
     with_reducible refine (impl_TakeFor.calls k _ _ t778 t782 t783 t784 a2 t785 t788 _ ?side1 ?side2 A17.out).mono ?_
     (case side1 => repeat (first | exact (Kd.R_reads' HO780.out).2.2 | (with_reducible refine Kd.C_alloc ?_ _) | (with_reducible refine Kd.C_drewN ?_ _) | (with_reducible refine Kd.C_drew ?_)))
     (case side2 => exact (Kd.R_reads' HO780.out).2.1)
     rintro e w41 ⟨v786, rfl, ho0, hb⟩
     refine ⟨_, rfl, ?_⟩
     have n0_ := Aside0.mk (Kd.R_elder' (Kd.Rq HO769.out) (Kd.R_base ho0) hb)
     have n1_ := Aside0.mk (Kd.R_elder' (Kd.Rq HO775.out) (Kd.R_base ho0) hb)
     have n2_ := Aside0.mk (Kd.R_elder' (Kd.Rq HO780.out) (Kd.R_base ho0) hb)
     have n3_ := Aside0.mk (Kd.R_lower (Kd.R_new' (Kd.R_new' (Kd.R_new' ho0 (Kd.R_lt (Kd.Rq HO769.out))) (Kd.R_lt (Kd.Rq HO775.out))) (Kd.R_lt (Kd.Rq HO780.out))) (below_size (blq HB.out)))
     have n4_ := Aside0.mk (blk_below (bkq BK764.out) hb)
     have n5_ := Aside0.mk (blk_below (bkq BK765.out) hb)
     have n6_ := Aside0.mk (blk_below (bkq BK777.out) hb)
     have n7_ := Aside0.mk (blk_below (bkq BK781.out) hb)
     have n8_ := Aside0.mk (below_step (blq HB.out) hb)
     clear HO769
     clear HO775
     clear HO780
     clear BK764
     clear BK765
     clear BK777
     clear BK781
     clear HB
     have HO769 := n0_
     have HO775 := n1_
     have HO780 := n2_
     have HO787 := n3_
     have BK764 := n4_
     have BK765 := n5_
     have BK777 := n6_
     have BK781 := n7_
     have HB := n8_
     clear n0_ n1_ n2_ n3_ n4_ n5_ n6_ n7_ n8_
     (try clear hb)
     (try clear hb2)
     (try clear hk)
     (try clear hi)
     (try clear ho0)
     refine hK.out _ _ ⟨(blk_cell BK781.out 0).trans rfl, (blk_cell BK765.out 0).trans rfl, (blk_cell BK765.out 1).trans rfl, (blk_cell BK765.out 2).trans rfl⟩ (fun hHeld => ?_)
     clear hK K
     refine norm_ (a' := ?_) ?_ ?_
     rotate_left
     ·
      show Act.put _ (some 39) _ = _
      simp only [Act.put, List.setIfInBounds_toArray, List.set_cons_zero, List.set_cons_succ, i64_w, i32_w]
      rfl
     refine pure_ (i := 5) (N := some 34) (v := ?_) (a' := ?_) #[true, true, true, true, true, true, false, false, false, false, false] rfl rfl (any_of HT_.out (by kernel_rfl)) (fun _ _ _ h => h) (Or.inl ⟨by rfl, ?_⟩) ?_ ?_
     rotate_left
     ·
      intro w'
      go_simp
      with_reducible rfl
     rotate_left
     ·
      simp only [Act.put, List.setIfInBounds_toArray, List.set_cons_zero, List.set_cons_succ, i64_w, i32_w]
      rfl
     refine pure_ (i := 6) (N := some 40) (v := ?_) (a' := ?_) #[true, true, true, true, true, true, true, false, false, false, false] rfl rfl (any_of HT_.out (by kernel_rfl)) (fun _ _ _ h => h) (Or.inl ⟨by rfl, ?_⟩) ?_ ?_
     rotate_left
     ·
      intro w'
      go_simp
      with_reducible rfl
     rotate_left
     ·
      simp only [Act.put, List.setIfInBounds_toArray, List.set_cons_zero, List.set_cons_succ, i64_w, i32_w]
      rfl
     refine pure_ (i := 7) (N := some 41) (v := ?_) (a' := ?_) #[true, true, true, true, true, true, true, true, false, false, false] rfl rfl (any_of HT_.out (by kernel_rfl)) (fun _ _ _ h => h) (Or.inl ⟨by rfl, ?_⟩) ?_ ?_
     rotate_left
     ·
      intro w'
      go_simp
      with_reducible rfl
     rotate_left
     ·
      simp only [Act.put, List.setIfInBounds_toArray, List.set_cons_zero, List.set_cons_succ, i64_w, i32_w]
      rfl
     refine one_ (i := 8) (N := some 11) #[true, true, true, true, true, true, true, true, true, false, false] rfl rfl (one_of HT_.out (by kernel_rfl)) (by decide) (fun K hK => ?_)
     refine box_step ?hg (N := 11) ?hd (cs := #[.slice none 0 0]) (t := 54) ?hr ?_; (case hd => rfl); (case hg => rfl); (case hr => first | (go_simp; done) | (go_simp; rfl))
     intro gb789 hg w42 hbox hb
     have n0_ := Aside0.mk (Kd.R_below (Kd.Rq HO769.out) hb)
     have n1_ := Aside0.mk (Kd.R_below (Kd.Rq HO775.out) hb)
     have n2_ := Aside0.mk (Kd.R_below (Kd.Rq HO780.out) hb)
     have n3_ := Aside0.mk (Kd.R_below (Kd.Rq HO787.out) hb)
     have n4_ := Aside0.mk (blk_below (bkq BK764.out) hb)
     have n5_ := Aside0.mk (blk_below (bkq BK765.out) hb)
     have n6_ := Aside0.mk (blk_below (bkq BK777.out) hb)
     have n7_ := Aside0.mk (blk_below (bkq BK781.out) hb)
     have n8_ := Aside0.mk (below_step (blq HB.out) hb)
     have n9_ := Aside0.mk (hbox)
     have n10_ := Aside0.mk ((sq hg HB.out))
     have n11_ := Aside0.mk ((sq hg HB.out))
     have n12_ := Aside0.mk ((by rw [hg]; exact Nat.ne_of_lt (blk_lt (bkq BK764.out)) : gb764 ≠ gb789))
     have n13_ := Aside0.mk ((by rw [hg]; exact Nat.ne_of_gt (blk_lt (bkq BK764.out)) : gb789 ≠ gb764))
     have n14_ := Aside0.mk ((by rw [hg]; exact Nat.ne_of_lt (blk_lt (bkq BK765.out)) : gb765 ≠ gb789))
     have n15_ := Aside0.mk ((by rw [hg]; exact Nat.ne_of_gt (blk_lt (bkq BK765.out)) : gb789 ≠ gb765))
     have n16_ := Aside0.mk ((by rw [hg]; exact Nat.ne_of_lt (blk_lt (bkq BK777.out)) : gb777 ≠ gb789))
     have n17_ := Aside0.mk ((by rw [hg]; exact Nat.ne_of_gt (blk_lt (bkq BK777.out)) : gb789 ≠ gb777))
     have n18_ := Aside0.mk ((by rw [hg]; exact Nat.ne_of_lt (blk_lt (bkq BK781.out)) : gb781 ≠ gb789))
     have n19_ := Aside0.mk ((by rw [hg]; exact Nat.ne_of_gt (blk_lt (bkq BK781.out)) : gb789 ≠ gb781))
     clear HO769
     clear HO775
     clear HO780
     clear HO787
     clear BK764
     clear BK765
     clear BK777
     clear BK781
     clear HB
     have HO769 := n0_
     have HO775 := n1_
     have HO780 := n2_
     have HO787 := n3_
     have BK764 := n4_
     have BK765 := n5_
     have BK777 := n6_
     have BK781 := n7_
     have HB := n8_
     have BK789 := n9_
     have GW789 := n10_
     have GE789 := n11_
     have NB764_789 := n12_
     have NB789_764 := n13_
     have NB765_789 := n14_
     have NB789_765 := n15_
     have NB777_789 := n16_
     have NB789_777 := n17_
     have NB781_789 := n18_
     have NB789_781 := n19_
     clear n0_ n1_ n2_ n3_ n4_ n5_ n6_ n7_ n8_ n9_ n10_ n11_ n12_ n13_ n14_ n15_ n16_ n17_ n18_ n19_
     clear hb hbox hg
     refine hK.out _ _ ⟨(blk_cell BK781.out 0).trans rfl, (blk_cell BK765.out 0).trans rfl, (blk_cell BK765.out 1).trans rfl, (blk_cell BK765.out 2).trans rfl⟩ (fun hHeld => ?_)
     clear hK K
     refine norm_ (a' := ?_) ?_ ?_
     rotate_left
     ·
      show Act.put _ (some 11) _ = _
      simp only [Act.put, List.setIfInBounds_toArray, List.set_cons_zero, List.set_cons_succ, i64_w, i32_w]
      rfl
     exact norm_ (by simp only [putAll, Act.put, List.setIfInBounds_toArray, List.set_cons_zero, List.set_cons_succ]) (hCont (v786, gb789) _ ⟨hHeld, (Kd.Rq (Kd.R_mono HO769.out (fun _ hk => ⟨hk.1.1, ⟨hk.1.2, hk.2⟩⟩))), (Kd.Rq (Kd.R_mono HO775.out (fun _ hk => ⟨hk.1.1, ⟨hk.1.2, hk.2⟩⟩))), (Kd.Rq (Kd.R_mono HO780.out (fun _ hk => ⟨hk.1.1, ⟨hk.1.2, hk.2⟩⟩))), (Kd.Rq (Kd.R_mono HO787.out (fun _ hk => ⟨hk.1.1.2, ⟨hk.1.2, hk.2⟩⟩))), (bkq BK764.out), (bkq BK765.out), (bkq BK777.out), (bkq BK781.out), (bkq BK789.out), GW789.out, GE789.out, NB764_789.out, NB789_764.out, NB765_789.out, NB789_765.out, NB777_789.out, NB789_777.out, NB781_789.out, NB789_781.out, (blq HB.out)⟩)
    ·
     skip
     refine box_step ?hg (N := 11) ?hd (cs := #[.slice none 0 0]) (t := 54) ?hr ?_; (case hd => rfl); (case hg => rfl); (case hr => first | (go_simp; done) | (go_simp; rfl))
     intro gb789 hg w41 hbox hb
     have n0_ := Aside0.mk (Kd.R_below (Kd.Rq HO769.out) hb)
     have n1_ := Aside0.mk (Kd.R_below (Kd.Rq HO775.out) hb)
     have n2_ := Aside0.mk (Kd.R_below (Kd.Rq HO780.out) hb)
     have n3_ := Aside0.mk (blk_below (bkq BK764.out) hb)
     have n4_ := Aside0.mk (blk_below (bkq BK765.out) hb)
     have n5_ := Aside0.mk (blk_below (bkq BK777.out) hb)
     have n6_ := Aside0.mk (blk_below (bkq BK781.out) hb)
     have n7_ := Aside0.mk (below_step (blq HB.out) hb)
     have n8_ := Aside0.mk (hbox)
     have n9_ := Aside0.mk ((sq hg HB.out))
     have n10_ := Aside0.mk ((sq hg HB.out))
     have n11_ := Aside0.mk ((by rw [hg]; exact Nat.ne_of_lt (blk_lt (bkq BK764.out)) : gb764 ≠ gb789))
     have n12_ := Aside0.mk ((by rw [hg]; exact Nat.ne_of_gt (blk_lt (bkq BK764.out)) : gb789 ≠ gb764))
     have n13_ := Aside0.mk ((by rw [hg]; exact Nat.ne_of_lt (blk_lt (bkq BK765.out)) : gb765 ≠ gb789))
     have n14_ := Aside0.mk ((by rw [hg]; exact Nat.ne_of_gt (blk_lt (bkq BK765.out)) : gb789 ≠ gb765))
     have n15_ := Aside0.mk ((by rw [hg]; exact Nat.ne_of_lt (blk_lt (bkq BK777.out)) : gb777 ≠ gb789))
     have n16_ := Aside0.mk ((by rw [hg]; exact Nat.ne_of_gt (blk_lt (bkq BK777.out)) : gb789 ≠ gb777))
     have n17_ := Aside0.mk ((by rw [hg]; exact Nat.ne_of_lt (blk_lt (bkq BK781.out)) : gb781 ≠ gb789))
     have n18_ := Aside0.mk ((by rw [hg]; exact Nat.ne_of_gt (blk_lt (bkq BK781.out)) : gb789 ≠ gb781))
     clear HO769
     clear HO775
     clear HO780
     clear BK764
     clear BK765
     clear BK777
     clear BK781
     clear HB
     have HO769 := n0_
     have HO775 := n1_
     have HO780 := n2_
     have BK764 := n3_
     have BK765 := n4_
     have BK777 := n5_
     have BK781 := n6_
     have HB := n7_
     have BK789 := n8_
     have GW789 := n9_
     have GE789 := n10_
     have NB764_789 := n11_
     have NB789_764 := n12_
     have NB765_789 := n13_
     have NB789_765 := n14_
     have NB777_789 := n15_
     have NB789_777 := n16_
     have NB781_789 := n17_
     have NB789_781 := n18_
     clear n0_ n1_ n2_ n3_ n4_ n5_ n6_ n7_ n8_ n9_ n10_ n11_ n12_ n13_ n14_ n15_ n16_ n17_ n18_
     clear hb hbox hg
     refine hK.out _ _ ⟨(blk_cell BK781.out 0).trans rfl, (blk_cell BK765.out 0).trans rfl, (blk_cell BK765.out 1).trans rfl, (blk_cell BK765.out 2).trans rfl⟩ (fun hHeld => ?_)
     clear hK K
     refine norm_ (a' := ?_) ?_ ?_
     rotate_left
     ·
      show Act.put _ (some 11) _ = _
      simp only [Act.put, List.setIfInBounds_toArray, List.set_cons_zero, List.set_cons_succ, i64_w, i32_w]
      rfl
     refine one_ (i := 4) (N := some 39) #[true, true, true, true, true, false, false, false, true, false, false] rfl rfl (one_of HT_.out (by kernel_rfl)) (by decide) (fun K hK => ?_)
     refine goes_ Try.func43 (by kernel_rfl) rfl #[.agg #[.slice Ao33 t778.length co33], .agg #[.int .i64 t782, .int .i64 t783, .int .i64 t784], .int .i64 a2] (by rfl) rfl rfl (by (try simp only [List.map_toArray, List.map_cons, List.map_nil]); first | done | rfl | (simp only [List.length_drop, List.length_take]; rfl)) ?_
     with_reducible refine (impl_TakeFor.calls k _ _ t778 t782 t783 t784 a2 t785 t788 _ ?side1 ?side2 A17.out).mono ?_
     (case side1 => repeat (first | exact (Kd.R_reads' HO780.out).2.2 | (with_reducible refine Kd.C_alloc ?_ _) | (with_reducible refine Kd.C_drewN ?_ _) | (with_reducible refine Kd.C_drew ?_)))
     (case side2 => exact (Kd.R_reads' HO780.out).2.1)
     rintro e w42 ⟨v786, rfl, ho0, hb⟩
     refine ⟨_, rfl, ?_⟩
     have n0_ := Aside0.mk (Kd.R_elder' (Kd.Rq HO769.out) (Kd.R_base ho0) hb)
     have n1_ := Aside0.mk (Kd.R_elder' (Kd.Rq HO775.out) (Kd.R_base ho0) hb)
     have n2_ := Aside0.mk (Kd.R_elder' (Kd.Rq HO780.out) (Kd.R_base ho0) hb)
     have n3_ := Aside0.mk (Kd.R_lower (Kd.R_new' (Kd.R_new' (Kd.R_new' ho0 (Kd.R_lt (Kd.Rq HO769.out))) (Kd.R_lt (Kd.Rq HO775.out))) (Kd.R_lt (Kd.Rq HO780.out))) (below_size (blq HB.out)))
     have n4_ := Aside0.mk (blk_below (bkq BK764.out) hb)
     have n5_ := Aside0.mk (blk_below (bkq BK765.out) hb)
     have n6_ := Aside0.mk (blk_below (bkq BK777.out) hb)
     have n7_ := Aside0.mk (blk_below (bkq BK781.out) hb)
     have n8_ := Aside0.mk (blk_below (bkq BK789.out) hb)
     have n9_ := Aside0.mk (below_step (blq HB.out) hb)
     clear HO769
     clear HO775
     clear HO780
     clear BK764
     clear BK765
     clear BK777
     clear BK781
     clear BK789
     clear HB
     have HO769 := n0_
     have HO775 := n1_
     have HO780 := n2_
     have HO787 := n3_
     have BK764 := n4_
     have BK765 := n5_
     have BK777 := n6_
     have BK781 := n7_
     have BK789 := n8_
     have HB := n9_
     clear n0_ n1_ n2_ n3_ n4_ n5_ n6_ n7_ n8_ n9_
     (try clear hb)
     (try clear hb2)
     (try clear hk)
     (try clear hi)
     (try clear ho0)
     refine hK.out _ _ ⟨(blk_cell BK781.out 0).trans rfl, (blk_cell BK765.out 0).trans rfl, (blk_cell BK765.out 1).trans rfl, (blk_cell BK765.out 2).trans rfl⟩ (fun hHeld => ?_)
     clear hK K
     refine norm_ (a' := ?_) ?_ ?_
     rotate_left
     ·
      show Act.put _ (some 39) _ = _
      simp only [Act.put, List.setIfInBounds_toArray, List.set_cons_zero, List.set_cons_succ, i64_w, i32_w]
      rfl
     refine pure_ (i := 5) (N := some 34) (v := ?_) (a' := ?_) #[true, true, true, true, true, true, false, false, true, false, false] rfl rfl (any_of HT_.out (by kernel_rfl)) (fun _ _ _ h => h) (Or.inl ⟨by rfl, ?_⟩) ?_ ?_
     rotate_left
     ·
      intro w'
      go_simp
      with_reducible rfl
     rotate_left
     ·
      simp only [Act.put, List.setIfInBounds_toArray, List.set_cons_zero, List.set_cons_succ, i64_w, i32_w]
      rfl
     refine pure_ (i := 6) (N := some 40) (v := ?_) (a' := ?_) #[true, true, true, true, true, true, true, false, true, false, false] rfl rfl (any_of HT_.out (by kernel_rfl)) (fun _ _ _ h => h) (Or.inl ⟨by rfl, ?_⟩) ?_ ?_
     rotate_left
     ·
      intro w'
      go_simp
      with_reducible rfl
     rotate_left
     ·
      simp only [Act.put, List.setIfInBounds_toArray, List.set_cons_zero, List.set_cons_succ, i64_w, i32_w]
      rfl
     refine pure_ (i := 7) (N := some 41) (v := ?_) (a' := ?_) #[true, true, true, true, true, true, true, true, true, false, false] rfl rfl (any_of HT_.out (by kernel_rfl)) (fun _ _ _ h => h) (Or.inl ⟨by rfl, ?_⟩) ?_ ?_
     rotate_left
     ·
      intro w'
      go_simp
      with_reducible rfl
     rotate_left
     ·
      simp only [Act.put, List.setIfInBounds_toArray, List.set_cons_zero, List.set_cons_succ, i64_w, i32_w]
      rfl
     exact norm_ (by simp only [putAll, Act.put, List.setIfInBounds_toArray, List.set_cons_zero, List.set_cons_succ]) (hCont (v786, gb789) _ ⟨hHeld, (Kd.Rq (Kd.R_mono HO769.out (fun _ hk => ⟨hk.1.1, ⟨hk.1.2, hk.2⟩⟩))), (Kd.Rq (Kd.R_mono HO775.out (fun _ hk => ⟨hk.1.1, ⟨hk.1.2, hk.2⟩⟩))), (Kd.Rq (Kd.R_mono HO780.out (fun _ hk => ⟨hk.1.1, ⟨hk.1.2, hk.2⟩⟩))), (Kd.Rq (Kd.R_mono HO787.out (fun _ hk => ⟨hk.1.1.2, ⟨hk.1.2, hk.2⟩⟩))), (bkq BK764.out), (bkq BK765.out), (bkq BK777.out), (bkq BK781.out), (bkq BK789.out), GW789.out, GE789.out, NB764_789.out, NB789_764.out, NB765_789.out, NB789_765.out, NB777_789.out, NB789_777.out, NB781_789.out, NB789_781.out, (blq HB.out)⟩)
   ·
    skip
    refine box_step ?hg (N := 11) ?hd (cs := #[.slice none 0 0]) (t := 54) ?hr ?_; (case hd => rfl); (case hg => rfl); (case hr => first | (go_simp; done) | (go_simp; rfl))
    intro gb789 hg w40 hbox hb
    have n0_ := Aside0.mk (Kd.R_below (Kd.Rq HO769.out) hb)
    have n1_ := Aside0.mk (Kd.R_below (Kd.Rq HO775.out) hb)
    have n2_ := Aside0.mk (Kd.R_below (Kd.Rq HO780.out) hb)
    have n3_ := Aside0.mk (blk_below (bkq BK764.out) hb)
    have n4_ := Aside0.mk (blk_below (bkq BK765.out) hb)
    have n5_ := Aside0.mk (blk_below (bkq BK777.out) hb)
    have n6_ := Aside0.mk (blk_below (bkq BK781.out) hb)
    have n7_ := Aside0.mk (below_step (blq HB.out) hb)
    have n8_ := Aside0.mk (hbox)
    have n9_ := Aside0.mk ((sq hg HB.out))
    have n10_ := Aside0.mk ((sq hg HB.out))
    have n11_ := Aside0.mk ((by rw [hg]; exact Nat.ne_of_lt (blk_lt (bkq BK764.out)) : gb764 ≠ gb789))
    have n12_ := Aside0.mk ((by rw [hg]; exact Nat.ne_of_gt (blk_lt (bkq BK764.out)) : gb789 ≠ gb764))
    have n13_ := Aside0.mk ((by rw [hg]; exact Nat.ne_of_lt (blk_lt (bkq BK765.out)) : gb765 ≠ gb789))
    have n14_ := Aside0.mk ((by rw [hg]; exact Nat.ne_of_gt (blk_lt (bkq BK765.out)) : gb789 ≠ gb765))
    have n15_ := Aside0.mk ((by rw [hg]; exact Nat.ne_of_lt (blk_lt (bkq BK777.out)) : gb777 ≠ gb789))
    have n16_ := Aside0.mk ((by rw [hg]; exact Nat.ne_of_gt (blk_lt (bkq BK777.out)) : gb789 ≠ gb777))
    have n17_ := Aside0.mk ((by rw [hg]; exact Nat.ne_of_lt (blk_lt (bkq BK781.out)) : gb781 ≠ gb789))
    have n18_ := Aside0.mk ((by rw [hg]; exact Nat.ne_of_gt (blk_lt (bkq BK781.out)) : gb789 ≠ gb781))
    clear HO769
    clear HO775
    clear HO780
    clear BK764
    clear BK765
    clear BK777
    clear BK781
    clear HB
    have HO769 := n0_
    have HO775 := n1_
    have HO780 := n2_
    have BK764 := n3_
    have BK765 := n4_
    have BK777 := n5_
    have BK781 := n6_
    have HB := n7_
    have BK789 := n8_
    have GW789 := n9_
    have GE789 := n10_
    have NB764_789 := n11_
    have NB789_764 := n12_
    have NB765_789 := n13_
    have NB789_765 := n14_
    have NB777_789 := n15_
    have NB789_777 := n16_
    have NB781_789 := n17_
    have NB789_781 := n18_
    clear n0_ n1_ n2_ n3_ n4_ n5_ n6_ n7_ n8_ n9_ n10_ n11_ n12_ n13_ n14_ n15_ n16_ n17_ n18_
    clear hb hbox hg
    refine hK.out _ _ ⟨(blk_cell BK781.out 0).trans rfl, (blk_cell BK765.out 0).trans rfl, (blk_cell BK765.out 1).trans rfl, (blk_cell BK765.out 2).trans rfl⟩ (fun hHeld => ?_)
    clear hK K
    refine norm_ (a' := ?_) ?_ ?_
    rotate_left
    ·
     show Act.put _ (some 11) _ = _
     simp only [Act.put, List.setIfInBounds_toArray, List.set_cons_zero, List.set_cons_succ, i64_w, i32_w]
     rfl
    refine one_ (i := 2) (N := some 37) #[true, true, true, true, false, false, false, false, true, false, false] rfl rfl (one_of HT_.out (by kernel_rfl)) (by decide) (fun K hK => ?_)
    refine goes_ Try.func33 (by kernel_rfl) rfl #[.agg #[.int .i64 a1_0, .int .i64 a1_1, .int .i64 a1_2]] (by rfl) rfl rfl (by (try simp only [List.map_toArray, List.map_cons, List.map_nil]); first | done | rfl | (simp only [List.length_drop, List.length_take]; rfl)) ?_
    with_reducible refine (laws_toDough.calls a1_0 a1_1 a1_2 t782 t783 t784 _ A16.out).mono ?_
    rintro e w41 ⟨rfl, hb⟩
    refine ⟨_, rfl, ?_⟩
    have n0_ := Aside0.mk (Kd.R_below (Kd.Rq HO769.out) hb)
    have n1_ := Aside0.mk (Kd.R_below (Kd.Rq HO775.out) hb)
    have n2_ := Aside0.mk (Kd.R_below (Kd.Rq HO780.out) hb)
    have n3_ := Aside0.mk (blk_below (bkq BK764.out) hb)
    have n4_ := Aside0.mk (blk_below (bkq BK765.out) hb)
    have n5_ := Aside0.mk (blk_below (bkq BK777.out) hb)
    have n6_ := Aside0.mk (blk_below (bkq BK781.out) hb)
    have n7_ := Aside0.mk (blk_below (bkq BK789.out) hb)
    have n8_ := Aside0.mk (below_step (blq HB.out) hb)
    clear HO769
    clear HO775
    clear HO780
    clear BK764
    clear BK765
    clear BK777
    clear BK781
    clear BK789
    clear HB
    have HO769 := n0_
    have HO775 := n1_
    have HO780 := n2_
    have BK764 := n3_
    have BK765 := n4_
    have BK777 := n5_
    have BK781 := n6_
    have BK789 := n7_
    have HB := n8_
    clear n0_ n1_ n2_ n3_ n4_ n5_ n6_ n7_ n8_
    (try clear hb)
    (try clear hb2)
    (try clear hk)
    (try clear hi)
    refine hK.out _ _ ⟨(blk_cell BK781.out 0).trans rfl, (blk_cell BK765.out 0).trans rfl, (blk_cell BK765.out 1).trans rfl, (blk_cell BK765.out 2).trans rfl⟩ (fun hHeld => ?_)
    clear hK K
    refine norm_ (a' := ?_) ?_ ?_
    rotate_left
    ·
     show Act.put _ (some 37) _ = _
     simp only [Act.put, List.setIfInBounds_toArray, List.set_cons_zero, List.set_cons_succ, i64_w, i32_w]
     rfl
    refine one_ (i := 4) (N := some 39) #[true, true, true, true, true, false, false, false, true, false, false] rfl rfl (one_of HT_.out (by kernel_rfl)) (by decide) (fun K hK => ?_)
    refine goes_ Try.func43 (by kernel_rfl) rfl #[.agg #[.slice Ao33 t778.length co33], .agg #[.int .i64 t782, .int .i64 t783, .int .i64 t784], .int .i64 a2] (by rfl) rfl rfl (by (try simp only [List.map_toArray, List.map_cons, List.map_nil]); first | done | rfl | (simp only [List.length_drop, List.length_take]; rfl)) ?_
    with_reducible refine (impl_TakeFor.calls k _ _ t778 t782 t783 t784 a2 t785 t788 _ ?side1 ?side2 A17.out).mono ?_
    (case side1 => repeat (first | exact (Kd.R_reads' HO780.out).2.2 | (with_reducible refine Kd.C_alloc ?_ _) | (with_reducible refine Kd.C_drewN ?_ _) | (with_reducible refine Kd.C_drew ?_)))
    (case side2 => exact (Kd.R_reads' HO780.out).2.1)
    rintro e w42 ⟨v786, rfl, ho0, hb⟩
    refine ⟨_, rfl, ?_⟩
    have n0_ := Aside0.mk (Kd.R_elder' (Kd.Rq HO769.out) (Kd.R_base ho0) hb)
    have n1_ := Aside0.mk (Kd.R_elder' (Kd.Rq HO775.out) (Kd.R_base ho0) hb)
    have n2_ := Aside0.mk (Kd.R_elder' (Kd.Rq HO780.out) (Kd.R_base ho0) hb)
    have n3_ := Aside0.mk (Kd.R_lower (Kd.R_new' (Kd.R_new' (Kd.R_new' ho0 (Kd.R_lt (Kd.Rq HO769.out))) (Kd.R_lt (Kd.Rq HO775.out))) (Kd.R_lt (Kd.Rq HO780.out))) (below_size (blq HB.out)))
    have n4_ := Aside0.mk (blk_below (bkq BK764.out) hb)
    have n5_ := Aside0.mk (blk_below (bkq BK765.out) hb)
    have n6_ := Aside0.mk (blk_below (bkq BK777.out) hb)
    have n7_ := Aside0.mk (blk_below (bkq BK781.out) hb)
    have n8_ := Aside0.mk (blk_below (bkq BK789.out) hb)
    have n9_ := Aside0.mk (below_step (blq HB.out) hb)
    clear HO769
    clear HO775
    clear HO780
    clear BK764
    clear BK765
    clear BK777
    clear BK781
    clear BK789
    clear HB
    have HO769 := n0_
    have HO775 := n1_
    have HO780 := n2_
    have HO787 := n3_
    have BK764 := n4_
    have BK765 := n5_
    have BK777 := n6_
    have BK781 := n7_
    have BK789 := n8_
    have HB := n9_
    clear n0_ n1_ n2_ n3_ n4_ n5_ n6_ n7_ n8_ n9_
    (try clear hb)
    (try clear hb2)
    (try clear hk)
    (try clear hi)
    (try clear ho0)
    refine hK.out _ _ ⟨(blk_cell BK781.out 0).trans rfl, (blk_cell BK765.out 0).trans rfl, (blk_cell BK765.out 1).trans rfl, (blk_cell BK765.out 2).trans rfl⟩ (fun hHeld => ?_)
    clear hK K
    refine norm_ (a' := ?_) ?_ ?_
    rotate_left
    ·
     show Act.put _ (some 39) _ = _
     simp only [Act.put, List.setIfInBounds_toArray, List.set_cons_zero, List.set_cons_succ, i64_w, i32_w]
     rfl
    refine pure_ (i := 5) (N := some 34) (v := ?_) (a' := ?_) #[true, true, true, true, true, true, false, false, true, false, false] rfl rfl (any_of HT_.out (by kernel_rfl)) (fun _ _ _ h => h) (Or.inl ⟨by rfl, ?_⟩) ?_ ?_
    rotate_left
    ·
     intro w'
     go_simp
     with_reducible rfl
    rotate_left
    ·
     simp only [Act.put, List.setIfInBounds_toArray, List.set_cons_zero, List.set_cons_succ, i64_w, i32_w]
     rfl
    refine pure_ (i := 6) (N := some 40) (v := ?_) (a' := ?_) #[true, true, true, true, true, true, true, false, true, false, false] rfl rfl (any_of HT_.out (by kernel_rfl)) (fun _ _ _ h => h) (Or.inl ⟨by rfl, ?_⟩) ?_ ?_
    rotate_left
    ·
     intro w'
     go_simp
     with_reducible rfl
    rotate_left
    ·
     simp only [Act.put, List.setIfInBounds_toArray, List.set_cons_zero, List.set_cons_succ, i64_w, i32_w]
     rfl
    refine pure_ (i := 7) (N := some 41) (v := ?_) (a' := ?_) #[true, true, true, true, true, true, true, true, true, false, false] rfl rfl (any_of HT_.out (by kernel_rfl)) (fun _ _ _ h => h) (Or.inl ⟨by rfl, ?_⟩) ?_ ?_
    rotate_left
    ·
     intro w'
     go_simp
     with_reducible rfl
    rotate_left
    ·
     simp only [Act.put, List.setIfInBounds_toArray, List.set_cons_zero, List.set_cons_succ, i64_w, i32_w]
     rfl
    exact norm_ (by simp only [putAll, Act.put, List.setIfInBounds_toArray, List.set_cons_zero, List.set_cons_succ]) (hCont (v786, gb789) _ ⟨hHeld, (Kd.Rq (Kd.R_mono HO769.out (fun _ hk => ⟨hk.1.1, ⟨hk.1.2, hk.2⟩⟩))), (Kd.Rq (Kd.R_mono HO775.out (fun _ hk => ⟨hk.1.1, ⟨hk.1.2, hk.2⟩⟩))), (Kd.Rq (Kd.R_mono HO780.out (fun _ hk => ⟨hk.1.1, ⟨hk.1.2, hk.2⟩⟩))), (Kd.Rq (Kd.R_mono HO787.out (fun _ hk => ⟨hk.1.1.2, ⟨hk.1.2, hk.2⟩⟩))), (bkq BK764.out), (bkq BK765.out), (bkq BK777.out), (bkq BK781.out), (bkq BK789.out), GW789.out, GE789.out, NB764_789.out, NB789_764.out, NB765_789.out, NB789_765.out, NB777_789.out, NB789_777.out, NB781_789.out, NB789_781.out, (blq HB.out)⟩)
  rintro ⟨v786, gb789⟩ w43 ⟨hS_, h0_, h1_, h2_, h3_, h4_, h5_, h6_, h7_, h8_, h9_, h10_, h11_, h12_, h13_, h14_, h15_, h16_, h17_, h18_, h19_⟩
  have n0_ : Aside0 (Kd.R (Kd.int .i64) 3 w43 w.heap.size (fun k_ => some k_ ≠ (.slice Ao26 t773.length co26 : Value).ownBlock ∧ some k_ ≠ (.slice Ao33 t778.length co33 : Value).ownBlock ∧ some k_ ≠ (v786 : Value).ownBlock) v768 t767) := ⟨h0_⟩
  have n1_ : Aside0 (Kd.R (Kd.int .i64) 3 w43 w.heap.size (fun k_ => some k_ ≠ (v768 : Value).ownBlock ∧ some k_ ≠ (.slice Ao33 t778.length co33 : Value).ownBlock ∧ some k_ ≠ (v786 : Value).ownBlock) (.slice Ao26 t773.length co26) t773) := ⟨h1_⟩
  have n2_ : Aside0 (Kd.R (Kd.int .i64) 3 w43 w.heap.size (fun k_ => some k_ ≠ (v768 : Value).ownBlock ∧ some k_ ≠ (.slice Ao26 t773.length co26 : Value).ownBlock ∧ some k_ ≠ (v786 : Value).ownBlock) (.slice Ao33 t778.length co33) t778) := ⟨h2_⟩
  have n3_ : Aside0 (Kd.R (Kd.int .i64) 3 w43 w.heap.size (fun k_ => some k_ ≠ (v768 : Value).ownBlock ∧ some k_ ≠ (.slice Ao26 t773.length co26 : Value).ownBlock ∧ some k_ ≠ (.slice Ao33 t778.length co33 : Value).ownBlock) v786 t785) := ⟨h3_⟩
  have n4_ : Aside0 (w43.heap[gb764]? = some (.cells #[.slice A0_0 l0_0.length c0_0] 49 (0, 0))) := ⟨h4_⟩
  have n5_ : Aside0 (w43.heap[gb765]? = some (.cells #[.int .i64 a1_0, .int .i64 a1_1, .int .i64 a1_2] 51 (0, 0))) := ⟨h5_⟩
  have n6_ : Aside0 (w43.heap[gb777]? = some (.cells #[.slice Ao26 t773.length co26] 54 (0, 0))) := ⟨h6_⟩
  have n7_ : Aside0 (w43.heap[gb781]? = some (.cells #[.slice Ao33 t778.length co33] 54 (0, 0))) := ⟨h7_⟩
  have n8_ : Aside0 (w43.heap[gb789]? = some (.cells #[.slice none 0 0] 54 (0, 0))) := ⟨h8_⟩
  have n9_ : Aside0 (w.heap.size ≤ gb789) := ⟨h9_⟩
  have n10_ : Aside0 (w.heap.size ≤ gb789) := ⟨h10_⟩
  have n11_ : Aside0 (gb764 ≠ gb789) := ⟨h11_⟩
  have n12_ : Aside0 (gb789 ≠ gb764) := ⟨h12_⟩
  have n13_ : Aside0 (gb765 ≠ gb789) := ⟨h13_⟩
  have n14_ : Aside0 (gb789 ≠ gb765) := ⟨h14_⟩
  have n15_ : Aside0 (gb777 ≠ gb789) := ⟨h15_⟩
  have n16_ : Aside0 (gb789 ≠ gb777) := ⟨h16_⟩
  have n17_ : Aside0 (gb781 ≠ gb789) := ⟨h17_⟩
  have n18_ : Aside0 (gb789 ≠ gb781) := ⟨h18_⟩
  have n19_ : Aside0 (Below w.heap.size w w43) := ⟨h19_⟩
  clear HO769
  clear HO775
  clear HO780
  clear BK764
  clear BK765
  clear BK777
  clear BK781
  clear HB
  clear h0_ h1_ h2_ h3_ h4_ h5_ h6_ h7_ h8_ h9_ h10_ h11_ h12_ h13_ h14_ h15_ h16_ h17_ h18_ h19_
  have HO769 := n0_
  have HO775 := n1_
  have HO780 := n2_
  have HO787 := n3_
  have BK764 := n4_
  have BK765 := n5_
  have BK777 := n6_
  have BK781 := n7_
  have BK789 := n8_
  have GW789 := n9_
  have GE789 := n10_
  have NB764_789 := n11_
  have NB789_764 := n12_
  have NB765_789 := n13_
  have NB789_765 := n14_
  have NB777_789 := n15_
  have NB789_777 := n16_
  have NB781_789 := n17_
  have NB789_781 := n18_
  have HB := n19_
  clear n0_ n1_ n2_ n3_ n4_ n5_ n6_ n7_ n8_ n9_ n10_ n11_ n12_ n13_ n14_ n15_ n16_ n17_ n18_ n19_
  have hHeld : w43.cell? ⟨gb781, 0, none⟩ = some (.slice Ao33 t778.length co33) ∧ w43.cell? ⟨gb765, 0, none⟩ = some (.int .i64 a1_0) ∧ w43.cell? ⟨gb765, 1, none⟩ = some (.int .i64 a1_1) ∧ w43.cell? ⟨gb765, 2, none⟩ = some (.int .i64 a1_2) := hS_
  obtain ⟨Ao44, co44, eo44⟩ := Kd.R_slice HO787.out
  (first | subst eo44 | (injection eo44 with f1_ f2_ f3_; have f4_ := f1_.symm; have f5_ := f3_.symm; clear f1_ f2_ f3_; subst f4_; subst f5_))
  refine norm_ (a' := ?_) ?_ ?_
  rotate_left
  ·
   simp only [putAll, Act.put, List.setIfInBounds_toArray, List.set_cons_zero, List.set_cons_succ]
   rfl
  refine one_ (i := 9) (N := none) #[true, true, true, true, true, true, true, true, true, true, false] rfl rfl (one_of HT_.out (by kernel_rfl)) (by decide) (fun K hK => ?_)
  have hs45 : w43.cell? ⟨gb789, 0, none⟩ = some (.slice none 0 0) := (blk_cell BK789.out 0).trans rfl
  have hfs45 := blk_frozen BK789.out 0
  have hns45_0 := NB764_789.out
  have hns45_1 := NB765_789.out
  have hns45_2 := NB777_789.out
  have hns45_3 := NB781_789.out
  have hms45_0 := NB789_764.out
  have hms45_1 := NB789_765.out
  have hms45_2 := NB789_777.out
  have hms45_3 := NB789_781.out
  refine skip_ (w1 := ?_) (by rfl) rfl ?_ ?_
  rotate_left
  ·
   go_simp
   rfl
  refine hK.out _ _ ⟨((cell_far (p := ⟨gb789, _, none⟩) NB781_789.out _).trans (hHeld.1)), ((cell_far (p := ⟨gb789, _, none⟩) NB765_789.out _).trans (hHeld.2.1)), ((cell_far (p := ⟨gb789, _, none⟩) NB765_789.out _).trans (hHeld.2.2.1)), ((cell_far (p := ⟨gb789, _, none⟩) NB765_789.out _).trans (hHeld.2.2.2))⟩ (fun hHeld => ?_)
  clear hK K
  refine pure_ (i := 10) (N := some 12) (v := ?_) (a' := ?_) #[true, true, true, true, true, true, true, true, true, true, true] rfl rfl (any_of HT_.out (by kernel_rfl)) (fun _ _ _ h => h) (Or.inl ⟨by rfl, ?_⟩) ?_ ?_
  rotate_left
  ·
   intro w'
   go_simp
   with_reducible rfl
  rotate_left
  ·
   simp only [Act.put, List.setIfInBounds_toArray, List.set_cons_zero, List.set_cons_succ, i64_w, i32_w]
   rfl
  refine done_ (done_of HT_.out (by kernel_rfl)) ?_
  go_upto_region 8 with (fail)
  go_cut [50] (fun v50 wc => ∃ (kq : Nat) (x50_17 : Bool), v50 = .bool x50_17 ∧ Aside0 (laws_FnExactTakeFor.j0 kq a2 t776 t788 x50_17 l0_0 a1_0 a1_1 a1_2 t773 t778 t785 = some r) ∧ Aside0 (kq ≤ k) ∧ Aside0 (Kd.R (Kd.int .i64) 3 wc w.heap.size (fun k_ => some k_ ≠ ((.slice Ao33 t778.length co33) : Value).ownBlock ∧ some k_ ≠ ((.slice Ao44 t785.length co44) : Value).ownBlock) (.slice Ao26 t773.length co26) t773) ∧ Aside0 (Kd.R (Kd.int .i64) 3 wc w.heap.size (fun k_ => some k_ ≠ ((.slice Ao26 t773.length co26) : Value).ownBlock ∧ some k_ ≠ ((.slice Ao44 t785.length co44) : Value).ownBlock) (.slice Ao33 t778.length co33) t778) ∧ Aside0 (Kd.R (Kd.int .i64) 3 wc w.heap.size (fun k_ => some k_ ≠ ((.slice Ao26 t773.length co26) : Value).ownBlock ∧ some k_ ≠ ((.slice Ao33 t778.length co33) : Value).ownBlock) (.slice Ao44 t785.length co44) t785) ∧ Aside0 (wc.heap[gb764]? = some (.cells #[(.slice A0_0 l0_0.length c0_0)] 49 (0, 0))) ∧ Aside0 (wc.heap[gb765]? = some (.cells #[.int .i64 a1_0, .int .i64 a1_1, .int .i64 a1_2] 51 (0, 0))) ∧ Aside0 (wc.heap[gb777]? = some (.cells #[(.slice Ao26 t773.length co26)] 54 (0, 0))) ∧ Aside0 (wc.heap[gb781]? = some (.cells #[(.slice Ao33 t778.length co33)] 54 (0, 0))) ∧ Aside0 (wc.heap[gb789]? = some (.cells #[(.slice Ao44 t785.length co44)] 54 (0, 0))) ∧ Aside0 (Below w.heap.size w wc))
  case first =>
   have H := HC18.out
   clear HC18
   replace H := Option.bind_eq_some_iff.mp H
   obtain ⟨t790, A460, H⟩ := H
   replace H : (if t790 = true then (laws_FnExactTakeFor.j0 k a2 t776 t788 (t788 != t776) l0_0 a1_0 a1_1 a1_2 t773 t778 t785) else (laws_FnExactTakeFor.j0 k a2 t776 t788 true l0_0 a1_0 a1_1 a1_2 t773 t778 t785)) = some r := H
   have A46 := Aside0.mk A460
   clear A460
   by_cases c47 : t790 = true
   ·
    subst c47
    have H1 : (laws_FnExactTakeFor.j0 k a2 t776 t788 (t788 != t776) l0_0 a1_0 a1_1 a1_2 t773 t778 t785) = some r := by rw [if_pos rfl] at H; exact H
    clear H
    have H := H1
    clear H1
    have H' := Aside0.mk H
    clear H
    have hnb48 := NB789_764.out
    have hnc48 := NB764_789.out
    have hnb49 := NB789_765.out
    have hnc49 := NB765_789.out
    have hnb50 := NB789_777.out
    have hnc50 := NB777_789.out
    have hnb51 := NB789_781.out
    have hnc51 := NB781_789.out
    have hcz52_0 : w43.cell? ⟨gb789, 0, none⟩ = some (.slice none 0 0) := (blk_cell BK789.out 0).trans rfl
    have hfz52_0 := blk_frozen BK789.out 0
    have hnb53 := NB777_764.out
    have hnc53 := NB764_777.out
    have hnb54 := NB777_765.out
    have hnc54 := NB765_777.out
    have hnb55 := NB777_781.out
    have hnc55 := NB781_777.out
    have hcz56_0 : w43.cell? ⟨gb777, 0, none⟩ = some (.slice Ao26 t773.length co26) := (blk_cell BK777.out 0).trans rfl
    have hfz56_0 := blk_frozen BK777.out 0
    go_wp2_with (first | ((with_reducible refine gate_callee (f := 35) rfl ?_); refine gLq (some 44) Try.func35 #[.agg #[.slice Ao44 t785.length co44], .agg #[.slice Ao26 t773.length co26]] ?_; (with_reducible refine (laws_eqStock.calls k _ _ t785 _ _ t773 true _ ?side1 ?side2 ?side3 ?side4 A46.out).mono ?_); (case side1 => refine (Kd.R_reads' (e := 3) (base := w.heap.size) (ok := fun k_ => (some k_ ≠ (v768 : Value).ownBlock ∧ (some k_ ≠ (.slice Ao26 t773.length co26 : Value).ownBlock ∧ some k_ ≠ (.slice Ao33 t778.length co33 : Value).ownBlock))) (n := t785.length) (c := co44) ?_).2.2; exact (Kd.Rq (Kd.R_mono (Kd.R_far (p := ⟨gb789, 0, none⟩) (Kd.R_types HO787.out BK789.out (by decide)) (fun _ hk => hk.2) (.slice Ao44 t785.length co44)) (fun _ h_ => h_.1)))); (case side2 => exact (Kd.R_reads' HO787.out).2.1); (case side3 => refine (Kd.R_reads' (e := 3) (base := w.heap.size) (ok := fun k_ => (some k_ ≠ (v768 : Value).ownBlock ∧ (some k_ ≠ (.slice Ao33 t778.length co33 : Value).ownBlock ∧ some k_ ≠ (.slice Ao44 t785.length co44 : Value).ownBlock))) (n := t773.length) (c := co26) ?_).2.2; exact (Kd.Rq (Kd.R_mono (Kd.R_far (p := ⟨gb789, 0, none⟩) (Kd.R_types HO775.out BK789.out (by decide)) (fun _ hk => hk.2) (.slice Ao44 t785.length co44)) (fun _ h_ => h_.1)))); (case side4 => exact (Kd.R_reads' HO775.out).2.1); rintro e w57 ⟨rfl, hb⟩; refine ⟨_, rfl, ?_⟩; have n0_ := Aside0.mk (Kd.R_below (Kd.Rq (Kd.R_mono (Kd.R_far (p := ⟨gb789, 0, none⟩) (Kd.R_types HO769.out BK789.out (by decide)) (fun _ hk => hk.2) (.slice Ao44 t785.length co44)) (fun _ h_ => h_.1))) hb); have n1_ := Aside0.mk (Kd.R_below (Kd.Rq (Kd.R_mono (Kd.R_far (p := ⟨gb789, 0, none⟩) (Kd.R_types HO775.out BK789.out (by decide)) (fun _ hk => hk.2) (.slice Ao44 t785.length co44)) (fun _ h_ => h_.1))) hb); have n2_ := Aside0.mk (Kd.R_below (Kd.Rq (Kd.R_mono (Kd.R_far (p := ⟨gb789, 0, none⟩) (Kd.R_types HO780.out BK789.out (by decide)) (fun _ hk => hk.2) (.slice Ao44 t785.length co44)) (fun _ h_ => h_.1))) hb); have n3_ := Aside0.mk (Kd.R_below (Kd.Rq (Kd.R_mono (Kd.R_far (p := ⟨gb789, 0, none⟩) (Kd.R_types HO787.out BK789.out (by decide)) (fun _ hk => hk.2) (.slice Ao44 t785.length co44)) (fun _ h_ => h_.1))) hb); have n4_ := Aside0.mk (blk_below (g := gb764) (o := .cells #[.slice A0_0 l0_0.length c0_0] 49 (0, 0)) (by (with_reducible repeat (first | refine blk_drewN ?_ _ | refine blk_drew ?_ | refine blk_alloc ?_ _)); refine blk_far ?_ NB764_789.out _; (with_reducible repeat (first | refine blk_drewN ?_ _ | refine blk_drew ?_ | refine blk_alloc ?_ _)); exact BK764.out) hb); have n5_ := Aside0.mk (blk_below (g := gb765) (o := .cells #[.int .i64 a1_0, .int .i64 a1_1, .int .i64 a1_2] 51 (0, 0)) (by (with_reducible repeat (first | refine blk_drewN ?_ _ | refine blk_drew ?_ | refine blk_alloc ?_ _)); refine blk_far ?_ NB765_789.out _; (with_reducible repeat (first | refine blk_drewN ?_ _ | refine blk_drew ?_ | refine blk_alloc ?_ _)); exact BK765.out) hb); have n6_ := Aside0.mk (blk_below (g := gb777) (o := .cells #[.slice Ao26 t773.length co26] 54 (0, 0)) (by (with_reducible repeat (first | refine blk_drewN ?_ _ | refine blk_drew ?_ | refine blk_alloc ?_ _)); refine blk_far ?_ NB777_789.out _; (with_reducible repeat (first | refine blk_drewN ?_ _ | refine blk_drew ?_ | refine blk_alloc ?_ _)); exact BK777.out) hb); have n7_ := Aside0.mk (blk_below (g := gb781) (o := .cells #[.slice Ao33 t778.length co33] 54 (0, 0)) (by (with_reducible repeat (first | refine blk_drewN ?_ _ | refine blk_drew ?_ | refine blk_alloc ?_ _)); refine blk_far ?_ NB781_789.out _; (with_reducible repeat (first | refine blk_drewN ?_ _ | refine blk_drew ?_ | refine blk_alloc ?_ _)); exact BK781.out) hb); have n8_ := Aside0.mk (blk_below (g := gb789) (o := .cells #[.slice Ao44 t785.length co44] 54 (0, 0)) (by (with_reducible repeat (first | refine blk_drewN ?_ _ | refine blk_drew ?_ | refine blk_alloc ?_ _)); refine blk_put (cs := #[.slice none 0 0]) ?_ 0 _ rfl; (with_reducible repeat (first | refine blk_drewN ?_ _ | refine blk_drew ?_ | refine blk_alloc ?_ _)); exact BK789.out) hb); have n9_ := Aside0.mk (below_step (blq HB.out) hb); clear HO769; clear HO775; clear HO780; clear HO787; clear BK764; clear BK765; clear BK777; clear BK781; clear BK789; clear HB; have HO769 := n0_; have HO775 := n1_; have HO780 := n2_; have HO787 := n3_; have BK764 := n4_; have BK765 := n5_; have BK777 := n6_; have BK781 := n7_; have BK789 := n8_; have HB := n9_; clear n0_ n1_ n2_ n3_ n4_ n5_ n6_ n7_ n8_ n9_; (try clear hb); (try clear hb2); (try clear hk); (try clear hi)))
    go_meet
    case rel => exact ⟨_, ((t788 != t776)), (by first | rfl | (simp; done) | (simp [*]; done)), H', ⟨by first | omega | exact Nat.le_refl _⟩, ⟨Kd.Rq (Kd.R_mono HO775.out (fun _ hk => ⟨hk.2.1, hk.2.2⟩))⟩, ⟨Kd.Rq (Kd.R_mono HO780.out (fun _ hk => ⟨hk.2.1, hk.2.2⟩))⟩, ⟨Kd.Rq (Kd.R_mono HO787.out (fun _ hk => ⟨hk.2.1, hk.2.2⟩))⟩, ⟨bkq BK764.out⟩, ⟨bkq BK765.out⟩, ⟨bkq BK777.out⟩, ⟨bkq BK781.out⟩, ⟨bkq BK789.out⟩, ⟨blq HB.out⟩⟩
   ·
    replace c47 := Bool.eq_false_iff.mpr c47
    subst c47
    have H1 : (laws_FnExactTakeFor.j0 k a2 t776 t788 true l0_0 a1_0 a1_1 a1_2 t773 t778 t785) = some r := by rw [if_neg (show ¬ (false = true) by decide)] at H; exact H
    clear H
    have H := H1
    clear H1
    have H' := Aside0.mk H
    clear H
    have hnb58 := NB789_764.out
    have hnc58 := NB764_789.out
    have hnb59 := NB789_765.out
    have hnc59 := NB765_789.out
    have hnb60 := NB789_777.out
    have hnc60 := NB777_789.out
    have hnb61 := NB789_781.out
    have hnc61 := NB781_789.out
    have hcz62_0 : w43.cell? ⟨gb789, 0, none⟩ = some (.slice none 0 0) := (blk_cell BK789.out 0).trans rfl
    have hfz62_0 := blk_frozen BK789.out 0
    have hnb63 := NB777_764.out
    have hnc63 := NB764_777.out
    have hnb64 := NB777_765.out
    have hnc64 := NB765_777.out
    have hnb65 := NB777_781.out
    have hnc65 := NB781_777.out
    have hcz66_0 : w43.cell? ⟨gb777, 0, none⟩ = some (.slice Ao26 t773.length co26) := (blk_cell BK777.out 0).trans rfl
    have hfz66_0 := blk_frozen BK777.out 0
    go_wp2_with (first | ((with_reducible refine gate_callee (f := 35) rfl ?_); refine gLq (some 44) Try.func35 #[.agg #[.slice Ao44 t785.length co44], .agg #[.slice Ao26 t773.length co26]] ?_; (with_reducible refine (laws_eqStock.calls k _ _ t785 _ _ t773 false _ ?side1 ?side2 ?side3 ?side4 A46.out).mono ?_); (case side1 => refine (Kd.R_reads' (e := 3) (base := w.heap.size) (ok := fun k_ => (some k_ ≠ (v768 : Value).ownBlock ∧ (some k_ ≠ (.slice Ao26 t773.length co26 : Value).ownBlock ∧ some k_ ≠ (.slice Ao33 t778.length co33 : Value).ownBlock))) (n := t785.length) (c := co44) ?_).2.2; exact (Kd.Rq (Kd.R_mono (Kd.R_far (p := ⟨gb789, 0, none⟩) (Kd.R_types HO787.out BK789.out (by decide)) (fun _ hk => hk.2) (.slice Ao44 t785.length co44)) (fun _ h_ => h_.1)))); (case side2 => exact (Kd.R_reads' HO787.out).2.1); (case side3 => refine (Kd.R_reads' (e := 3) (base := w.heap.size) (ok := fun k_ => (some k_ ≠ (v768 : Value).ownBlock ∧ (some k_ ≠ (.slice Ao33 t778.length co33 : Value).ownBlock ∧ some k_ ≠ (.slice Ao44 t785.length co44 : Value).ownBlock))) (n := t773.length) (c := co26) ?_).2.2; exact (Kd.Rq (Kd.R_mono (Kd.R_far (p := ⟨gb789, 0, none⟩) (Kd.R_types HO775.out BK789.out (by decide)) (fun _ hk => hk.2) (.slice Ao44 t785.length co44)) (fun _ h_ => h_.1)))); (case side4 => exact (Kd.R_reads' HO775.out).2.1); rintro e w67 ⟨rfl, hb⟩; refine ⟨_, rfl, ?_⟩; have n0_ := Aside0.mk (Kd.R_below (Kd.Rq (Kd.R_mono (Kd.R_far (p := ⟨gb789, 0, none⟩) (Kd.R_types HO769.out BK789.out (by decide)) (fun _ hk => hk.2) (.slice Ao44 t785.length co44)) (fun _ h_ => h_.1))) hb); have n1_ := Aside0.mk (Kd.R_below (Kd.Rq (Kd.R_mono (Kd.R_far (p := ⟨gb789, 0, none⟩) (Kd.R_types HO775.out BK789.out (by decide)) (fun _ hk => hk.2) (.slice Ao44 t785.length co44)) (fun _ h_ => h_.1))) hb); have n2_ := Aside0.mk (Kd.R_below (Kd.Rq (Kd.R_mono (Kd.R_far (p := ⟨gb789, 0, none⟩) (Kd.R_types HO780.out BK789.out (by decide)) (fun _ hk => hk.2) (.slice Ao44 t785.length co44)) (fun _ h_ => h_.1))) hb); have n3_ := Aside0.mk (Kd.R_below (Kd.Rq (Kd.R_mono (Kd.R_far (p := ⟨gb789, 0, none⟩) (Kd.R_types HO787.out BK789.out (by decide)) (fun _ hk => hk.2) (.slice Ao44 t785.length co44)) (fun _ h_ => h_.1))) hb); have n4_ := Aside0.mk (blk_below (g := gb764) (o := .cells #[.slice A0_0 l0_0.length c0_0] 49 (0, 0)) (by (with_reducible repeat (first | refine blk_drewN ?_ _ | refine blk_drew ?_ | refine blk_alloc ?_ _)); refine blk_far ?_ NB764_789.out _; (with_reducible repeat (first | refine blk_drewN ?_ _ | refine blk_drew ?_ | refine blk_alloc ?_ _)); exact BK764.out) hb); have n5_ := Aside0.mk (blk_below (g := gb765) (o := .cells #[.int .i64 a1_0, .int .i64 a1_1, .int .i64 a1_2] 51 (0, 0)) (by (with_reducible repeat (first | refine blk_drewN ?_ _ | refine blk_drew ?_ | refine blk_alloc ?_ _)); refine blk_far ?_ NB765_789.out _; (with_reducible repeat (first | refine blk_drewN ?_ _ | refine blk_drew ?_ | refine blk_alloc ?_ _)); exact BK765.out) hb); have n6_ := Aside0.mk (blk_below (g := gb777) (o := .cells #[.slice Ao26 t773.length co26] 54 (0, 0)) (by (with_reducible repeat (first | refine blk_drewN ?_ _ | refine blk_drew ?_ | refine blk_alloc ?_ _)); refine blk_far ?_ NB777_789.out _; (with_reducible repeat (first | refine blk_drewN ?_ _ | refine blk_drew ?_ | refine blk_alloc ?_ _)); exact BK777.out) hb); have n7_ := Aside0.mk (blk_below (g := gb781) (o := .cells #[.slice Ao33 t778.length co33] 54 (0, 0)) (by (with_reducible repeat (first | refine blk_drewN ?_ _ | refine blk_drew ?_ | refine blk_alloc ?_ _)); refine blk_far ?_ NB781_789.out _; (with_reducible repeat (first | refine blk_drewN ?_ _ | refine blk_drew ?_ | refine blk_alloc ?_ _)); exact BK781.out) hb); have n8_ := Aside0.mk (blk_below (g := gb789) (o := .cells #[.slice Ao44 t785.length co44] 54 (0, 0)) (by (with_reducible repeat (first | refine blk_drewN ?_ _ | refine blk_drew ?_ | refine blk_alloc ?_ _)); refine blk_put (cs := #[.slice none 0 0]) ?_ 0 _ rfl; (with_reducible repeat (first | refine blk_drewN ?_ _ | refine blk_drew ?_ | refine blk_alloc ?_ _)); exact BK789.out) hb); have n9_ := Aside0.mk (below_step (blq HB.out) hb); clear HO769; clear HO775; clear HO780; clear HO787; clear BK764; clear BK765; clear BK777; clear BK781; clear BK789; clear HB; have HO769 := n0_; have HO775 := n1_; have HO780 := n2_; have HO787 := n3_; have BK764 := n4_; have BK765 := n5_; have BK777 := n6_; have BK781 := n7_; have BK789 := n8_; have HB := n9_; clear n0_ n1_ n2_ n3_ n4_ n5_ n6_ n7_ n8_ n9_; (try clear hb); (try clear hb2); (try clear hk); (try clear hi)))
    go_meet
    case rel => exact ⟨_, (true), (by first | rfl | (simp; done) | (simp [*]; done)), H', ⟨by first | omega | exact Nat.le_refl _⟩, ⟨Kd.Rq (Kd.R_mono HO775.out (fun _ hk => ⟨hk.2.1, hk.2.2⟩))⟩, ⟨Kd.Rq (Kd.R_mono HO780.out (fun _ hk => ⟨hk.2.1, hk.2.2⟩))⟩, ⟨Kd.Rq (Kd.R_mono HO787.out (fun _ hk => ⟨hk.2.1, hk.2.2⟩))⟩, ⟨bkq BK764.out⟩, ⟨bkq BK765.out⟩, ⟨bkq BK777.out⟩, ⟨bkq BK781.out⟩, ⟨bkq BK789.out⟩, ⟨blq HB.out⟩⟩
  case rest =>
   clear HC18
   try clear p2
   try clear c3
   try clear c4
   try clear c5
   try clear c6
   try clear c33
   try clear c35
   try clear c43
   try clear c47
   try clear c48
   try clear c49
   try clear c50
   try clear c51
   try clear c53
   try clear c54
   try clear c55
   try clear c58
   try clear c59
   try clear c60
   try clear c61
   try clear c63
   try clear c64
   try clear c65
   try clear hcz52_0
   try clear hcz56_0
   try clear hcz62_0
   try clear hcz66_0
   try clear hfz52_0
   try clear hfz56_0
   try clear hfz62_0
   try clear hfz66_0
   obtain ⟨kq, x50_17, rfl, HA, HJ17, HO_778000, HO_782000, HO_790000, BK764, BK765, BK777, BK781, BK789, HB⟩ := hcut
   cases kq with
   | zero => exact absurd HA.out (by simp [laws_FnExactTakeFor.j0])
   | succ kj17 =>
    have H := HA.out
    clear HA
    simp only [laws_FnExactTakeFor.j0] at H
    by_cases c68 : x50_17 = true
    ·
     subst c68
     have H1 : (some false) = some r := by rw [if_pos rfl] at H; exact H
     clear H
     have H := H1
     clear H1
     obtain rfl := Option.some.inj H
     go_wp2
     go_ret
     exact ⟨by first | rfl | (simp [errW_none, errW_some] <;> rfl) | (simp [*, errW_none, errW_some] <;> rfl), blq HB.out⟩
    ·
     replace c68 := Bool.eq_false_iff.mpr c68
     subst c68
     have H1 : ((laws_toStock.f kj17 l0_0).bind fun t791 => ((laws_eqStock.f kj17 t778 t791).bind fun t794 => (if t794 = true then ((laws_markStock.f kj17 t778 1).bind fun bt795 => (if bt795.1 < 0 then (laws_FnExactTakeFor.j1 kj17 a2 t776 true l0_0 a1_0 a1_1 a1_2 t773 t785) else ((laws_eqStock.f kj17 t785 t773).bind fun t797 => (if t797 = true then (laws_FnExactTakeFor.j1 kj17 a2 t776 (t788 != t776) l0_0 a1_0 a1_1 a1_2 t773 t785) else (laws_FnExactTakeFor.j1 kj17 a2 t776 true l0_0 a1_0 a1_1 a1_2 t773 t785))))) else (some false)))) = some r := by rw [if_neg (show ¬ (false = true) by decide)] at H; exact H
     clear H
     have H := H1
     clear H1
     replace H := Option.bind_eq_some_iff.mp H
     obtain ⟨t791, A690, H⟩ := H
     replace H : ((laws_eqStock.f kj17 t778 t791).bind fun t794 => (if t794 = true then ((laws_markStock.f kj17 t778 1).bind fun bt795 => (if bt795.1 < 0 then (laws_FnExactTakeFor.j1 kj17 a2 t776 true l0_0 a1_0 a1_1 a1_2 t773 t785) else ((laws_eqStock.f kj17 t785 t773).bind fun t797 => (if t797 = true then (laws_FnExactTakeFor.j1 kj17 a2 t776 (t788 != t776) l0_0 a1_0 a1_1 a1_2 t773 t785) else (laws_FnExactTakeFor.j1 kj17 a2 t776 true l0_0 a1_0 a1_1 a1_2 t773 t785))))) else (some false))) = some r := H
     have A69 := Aside0.mk A690
     clear A690
     replace H := Option.bind_eq_some_iff.mp H
     obtain ⟨t794, A700, H⟩ := H
     replace H : (if t794 = true then ((laws_markStock.f kj17 t778 1).bind fun bt795 => (if bt795.1 < 0 then (laws_FnExactTakeFor.j1 kj17 a2 t776 true l0_0 a1_0 a1_1 a1_2 t773 t785) else ((laws_eqStock.f kj17 t785 t773).bind fun t797 => (if t797 = true then (laws_FnExactTakeFor.j1 kj17 a2 t776 (t788 != t776) l0_0 a1_0 a1_1 a1_2 t773 t785) else (laws_FnExactTakeFor.j1 kj17 a2 t776 true l0_0 a1_0 a1_1 a1_2 t773 t785))))) else (some false)) = some r := H
     have A70 := Aside0.mk A700
     clear A700
     have HF71 := Aside0.mk H
     clear H
     try go_wp2
     have n0_ := Aside0.mk (Kd.R_drew HO_778000.out)
     have n1_ := Aside0.mk (Kd.R_drew HO_782000.out)
     have n2_ := Aside0.mk (Kd.R_drew HO_790000.out)
     have n3_ := Aside0.mk (blk_drew BK764.out)
     have n4_ := Aside0.mk (blk_drew BK765.out)
     have n5_ := Aside0.mk (blk_drew BK777.out)
     have n6_ := Aside0.mk (blk_drew BK781.out)
     have n7_ := Aside0.mk (blk_drew BK789.out)
     have n8_ := Aside0.mk (below_drew1 HB.out)
     clear HO_778000
     clear HO_782000
     clear HO_790000
     clear BK764
     clear BK765
     clear BK777
     clear BK781
     clear BK789
     clear HB
     have HO_778000 := n0_
     have HO_782000 := n1_
     have HO_790000 := n2_
     have BK764 := n3_
     have BK765 := n4_
     have BK777 := n5_
     have BK781 := n6_
     have BK789 := n7_
     have HB := n8_
     clear n0_ n1_ n2_ n3_ n4_ n5_ n6_ n7_ n8_
     refine start_ (n := 5) (S := fun w' => w'.cell? ⟨gb781, 0, none⟩ = some (.slice Ao33 t778.length co33) ∧ w'.cell? ⟨gb764, 0, none⟩ = some (.slice A0_0 l0_0.length c0_0)) (ds := []) #[false, false, false, false, false] (by kernel_rfl) rfl rfl ⟨(blk_cell BK781.out 0).trans rfl, (blk_cell BK764.out 0).trans rfl⟩ (fun hHeld => ?_)
     generalize wc.drew = w72 at HO_778000 HO_782000 HO_790000 BK764 BK765 BK777 BK781 BK789 HB hHeld ⊢
     refine take_ (i := 0) (N := some 51) (v := ?_) (a' := ?_) #[true, false, false, false, false] rfl rfl (by kernel_rfl) (fun _ _ _ h => h) (Or.inl ⟨by rfl, ?_⟩) hHeld ?_ ?_
     rotate_left
     ·
      rintro w' ⟨s0, s1⟩
      go_simp
      with_reducible rfl
     rotate_left
     ·
      simp only [Act.put, List.setIfInBounds_toArray, List.set_cons_zero, List.set_cons_succ, i64_w, i32_w]
      rfl
     refine take_ (i := 1) (N := some 52) (v := ?_) (a' := ?_) #[true, true, false, false, false] rfl rfl (by kernel_rfl) (fun _ _ _ h => h) (Or.inl ⟨by rfl, ?_⟩) hHeld ?_ ?_
     rotate_left
     ·
      rintro w' ⟨s0, s1⟩
      go_simp
      with_reducible rfl
     rotate_left
     ·
      simp only [Act.put, List.setIfInBounds_toArray, List.set_cons_zero, List.set_cons_succ, i64_w, i32_w]
      rfl
     refine one_ (i := 2) (N := some 53) #[true, true, true, false, false] rfl rfl (by kernel_rfl) (by decide) (fun K hK => ?_)
     refine goes_ Try.func32 (by kernel_rfl) rfl #[.agg #[.slice A0_0 l0_0.length c0_0]] (by rfl) rfl rfl (by (try simp only [List.map_toArray, List.map_cons, List.map_nil]); first | done | rfl | (simp only [List.length_drop, List.length_take]; rfl)) ?_
     with_reducible refine (laws_toStock.calls kj17 _ _ l0_0 t791 _ ?side1 ?side2 A69.out).mono ?_
     (case side1 => exact Kd.Cq (Kd.C_below HR0_0.out HB.out))
     (case side2 => exact HC0_0.out)
     rintro e w73 ⟨v792, rfl, ho0, hb⟩
     refine ⟨_, rfl, ?_⟩
     have n0_ := Aside0.mk (Kd.R_elder' (Kd.Rq HO_778000.out) (Kd.R_base ho0) hb)
     have n1_ := Aside0.mk (Kd.R_elder' (Kd.Rq HO_782000.out) (Kd.R_base ho0) hb)
     have n2_ := Aside0.mk (Kd.R_elder' (Kd.Rq HO_790000.out) (Kd.R_base ho0) hb)
     have n3_ := Aside0.mk (Kd.R_lower (Kd.R_new' (Kd.R_new' (Kd.R_new' ho0 (Kd.R_lt (Kd.Rq HO_778000.out))) (Kd.R_lt (Kd.Rq HO_782000.out))) (Kd.R_lt (Kd.Rq HO_790000.out))) (below_size (blq HB.out)))
     have n4_ := Aside0.mk (blk_below (bkq BK764.out) hb)
     have n5_ := Aside0.mk (blk_below (bkq BK765.out) hb)
     have n6_ := Aside0.mk (blk_below (bkq BK777.out) hb)
     have n7_ := Aside0.mk (blk_below (bkq BK781.out) hb)
     have n8_ := Aside0.mk (blk_below (bkq BK789.out) hb)
     have n9_ := Aside0.mk (below_step (blq HB.out) hb)
     clear HO_778000
     clear HO_782000
     clear HO_790000
     clear BK764
     clear BK765
     clear BK777
     clear BK781
     clear BK789
     clear HB
     have HO_778000 := n0_
     have HO_782000 := n1_
     have HO_790000 := n2_
     have HO793 := n3_
     have BK764 := n4_
     have BK765 := n5_
     have BK777 := n6_
     have BK781 := n7_
     have BK789 := n8_
     have HB := n9_
     clear n0_ n1_ n2_ n3_ n4_ n5_ n6_ n7_ n8_ n9_
     (try clear hb)
     (try clear hb2)
     (try clear hk)
     (try clear hi)
     (try clear ho0)
     obtain ⟨Ao74, co74, eo74⟩ := Kd.R_slice HO793.out
     (first | subst eo74 | (injection eo74 with f1_ f2_ f3_; have f4_ := f1_.symm; have f5_ := f3_.symm; clear f1_ f2_ f3_; subst f4_; subst f5_))
     refine hK.out _ _ ⟨(blk_cell BK781.out 0).trans rfl, (blk_cell BK764.out 0).trans rfl⟩ (fun hHeld => ?_)
     clear hK K
     refine norm_ (a' := ?_) ?_ ?_
     rotate_left
     ·
      show Act.put _ (some 53) _ = _
      simp only [Act.put, List.setIfInBounds_toArray, List.set_cons_zero, List.set_cons_succ, i64_w, i32_w]
      rfl
     refine one_ (i := 3) (N := some 54) #[true, true, true, true, false] rfl rfl (by kernel_rfl) (by decide) (fun K hK => ?_)
     refine goes_ Try.func35 (by kernel_rfl) rfl #[.agg #[.slice Ao33 t778.length co33], .agg #[.slice Ao74 t791.length co74]] (by rfl) rfl rfl (by (try simp only [List.map_toArray, List.map_cons, List.map_nil]); first | done | rfl | (simp only [List.length_drop, List.length_take]; rfl)) ?_
     with_reducible refine (laws_eqStock.calls kj17 _ _ t778 _ _ t791 t794 _ ?side1 ?side2 ?side3 ?side4 A70.out).mono ?_
     (case side1 => repeat (first | exact (Kd.R_reads' HO_782000.out).2.2 | (with_reducible refine Kd.C_alloc ?_ _) | (with_reducible refine Kd.C_drewN ?_ _) | (with_reducible refine Kd.C_drew ?_)))
     (case side2 => exact (Kd.R_reads' HO_782000.out).2.1)
     (case side3 => repeat (first | exact (Kd.R_reads' HO793.out).2.2 | (with_reducible refine Kd.C_alloc ?_ _) | (with_reducible refine Kd.C_drewN ?_ _) | (with_reducible refine Kd.C_drew ?_)))
     (case side4 => exact (Kd.R_reads' HO793.out).2.1)
     rintro e w75 ⟨rfl, hb⟩
     refine ⟨_, rfl, ?_⟩
     have n0_ := Aside0.mk (Kd.R_below (Kd.Rq HO_778000.out) hb)
     have n1_ := Aside0.mk (Kd.R_below (Kd.Rq HO_782000.out) hb)
     have n2_ := Aside0.mk (Kd.R_below (Kd.Rq HO_790000.out) hb)
     have n3_ := Aside0.mk (Kd.R_below (Kd.Rq HO793.out) hb)
     have n4_ := Aside0.mk (blk_below (bkq BK764.out) hb)
     have n5_ := Aside0.mk (blk_below (bkq BK765.out) hb)
     have n6_ := Aside0.mk (blk_below (bkq BK777.out) hb)
     have n7_ := Aside0.mk (blk_below (bkq BK781.out) hb)
     have n8_ := Aside0.mk (blk_below (bkq BK789.out) hb)
     have n9_ := Aside0.mk (below_step (blq HB.out) hb)
     clear HO_778000
     clear HO_782000
     clear HO_790000
     clear HO793
     clear BK764
     clear BK765
     clear BK777
     clear BK781
     clear BK789
     clear HB
     have HO_778000 := n0_
     have HO_782000 := n1_
     have HO_790000 := n2_
     have HO793 := n3_
     have BK764 := n4_
     have BK765 := n5_
     have BK777 := n6_
     have BK781 := n7_
     have BK789 := n8_
     have HB := n9_
     clear n0_ n1_ n2_ n3_ n4_ n5_ n6_ n7_ n8_ n9_
     (try clear hb)
     (try clear hb2)
     (try clear hk)
     (try clear hi)
     refine hK.out _ _ ⟨(blk_cell BK781.out 0).trans rfl, (blk_cell BK764.out 0).trans rfl⟩ (fun hHeld => ?_)
     clear hK K
     refine norm_ (a' := ?_) ?_ ?_
     rotate_left
     ·
      show Act.put _ (some 54) _ = _
      simp only [Act.put, List.setIfInBounds_toArray, List.set_cons_zero, List.set_cons_succ, i64_w, i32_w]
      rfl
     refine pure_ (i := 4) (N := some 55) (v := ?_) (a' := ?_) #[true, true, true, true, true] rfl rfl (by kernel_rfl) (fun _ _ _ h => h) (Or.inl ⟨by rfl, ?_⟩) ?_ ?_
     rotate_left
     ·
      intro w'
      go_simp
      with_reducible rfl
     rotate_left
     ·
      simp only [Act.put, List.setIfInBounds_toArray, List.set_cons_zero, List.set_cons_succ, i64_w, i32_w]
      rfl
     refine done_ (by kernel_rfl) ?_
     go_upto_if 55 with (fail)
     have H := HF71.out
     clear HF71
     by_cases c76 : t794 = true
     ·
      subst c76
      have H1 : ((laws_markStock.f kj17 t778 1).bind fun bt795 => (if bt795.1 < 0 then (laws_FnExactTakeFor.j1 kj17 a2 t776 true l0_0 a1_0 a1_1 a1_2 t773 t785) else ((laws_eqStock.f kj17 t785 t773).bind fun t797 => (if t797 = true then (laws_FnExactTakeFor.j1 kj17 a2 t776 (t788 != t776) l0_0 a1_0 a1_1 a1_2 t773 t785) else (laws_FnExactTakeFor.j1 kj17 a2 t776 true l0_0 a1_0 a1_1 a1_2 t773 t785))))) = some r := by rw [if_pos rfl] at H; exact H
      clear H
      have H := H1
      clear H1
      replace H := Option.bind_eq_some_iff.mp H
      obtain ⟨⟨t795, t796⟩, A770, H⟩ := H
      replace H : (if t795 < 0 then (laws_FnExactTakeFor.j1 kj17 a2 t776 true l0_0 a1_0 a1_1 a1_2 t773 t785) else ((laws_eqStock.f kj17 t785 t773).bind fun t797 => (if t797 = true then (laws_FnExactTakeFor.j1 kj17 a2 t776 (t788 != t776) l0_0 a1_0 a1_1 a1_2 t773 t785) else (laws_FnExactTakeFor.j1 kj17 a2 t776 true l0_0 a1_0 a1_1 a1_2 t773 t785)))) = some r := H
      have A77 := Aside0.mk A770
      clear A770
      have HC78 := Aside0.mk H
      clear H
      have hnb79 := NB781_764.out
      have hnc79 := NB764_781.out
      have hnb80 := NB781_765.out
      have hnc80 := NB765_781.out
      have hnb81 := NB781_777.out
      have hnc81 := NB777_781.out
      have hnb82 := NB781_789.out
      have hnc82 := NB789_781.out
      have hcz83_0 : w75.cell? ⟨gb781, 0, none⟩ = some (.slice Ao33 t778.length co33) := (blk_cell BK781.out 0).trans rfl
      have hfz83_0 := blk_frozen BK781.out 0
      go_upto_region 14 with (first | ((with_reducible refine gate_callee (f := 54) rfl ?_); refine gLq (some 58) Try.func54 #[.agg #[.slice Ao33 t778.length co33], .int .i64 1] ?_; (with_reducible refine (laws_markStock.calls kj17 (fun k_ => some k_ = (.slice Ao33 t778.length co33 : Value).ownBlock) (.slice Ao33 t778.length co33) t778 1 t795 t796 w _ ?side1 ?side2 A77.out).mono ?_); (case side1 => exact blq HB.out); (case side2 => exact Kd.R_tight rfl HO_782000.out); rintro e w84 ⟨rfl, hy0, hb, hkp⟩; refine ⟨_, rfl, ?_⟩; have n0_ := Aside0.mk (Kd.R_mono (ok' := fun k_ => some k_ ≠ (.slice Ao33 t778.length co33 : Value).ownBlock ∧ some k_ ≠ (.slice Ao44 t785.length co44 : Value).ownBlock ∧ some k_ ≠ (.slice Ao74 t791.length co74 : Value).ownBlock) (Kd.R_keptB (HO_778000.out) hkp (fun k_ hk_ hs_ => (hk_.1.1) hs_)) (fun k_ hk_ => ⟨hk_.1.1.1, hk_.1.1.2, hk_.1.2⟩)); have n1_ := Aside0.mk (Kd.R_reok rfl hy0 (fun k_ e_ => HO_782000.out.1 k_ e_)); have n2_ := Aside0.mk (Kd.R_mono (ok' := fun k_ => some k_ ≠ (.slice Ao26 t773.length co26 : Value).ownBlock ∧ some k_ ≠ (.slice Ao33 t778.length co33 : Value).ownBlock ∧ some k_ ≠ (.slice Ao74 t791.length co74 : Value).ownBlock) (Kd.R_keptB (HO_790000.out) hkp (fun k_ hk_ hs_ => (hk_.1.2) hs_)) (fun k_ hk_ => ⟨hk_.1.1.1, hk_.1.1.2, hk_.1.2⟩)); have n3_ := Aside0.mk (blk_kept (bkq BK764.out) hkp (fun hs_ => (fun e_ => (Kd.R_ne HO_782000.out BK764.out (by decide)) e_) hs_)); have n4_ := Aside0.mk (blk_kept (bkq BK765.out) hkp (fun hs_ => (fun e_ => (Kd.R_ne HO_782000.out BK765.out (by decide)) e_) hs_)); have n5_ := Aside0.mk (blk_kept (bkq BK777.out) hkp (fun hs_ => (fun e_ => (Kd.R_ne HO_782000.out BK777.out (by decide)) e_) hs_)); have n6_ := Aside0.mk (blk_kept (bkq BK781.out) hkp (fun hs_ => (fun e_ => (Kd.R_ne HO_782000.out BK781.out (by decide)) e_) hs_)); have n7_ := Aside0.mk (blk_kept (bkq BK789.out) hkp (fun hs_ => (fun e_ => (Kd.R_ne HO_782000.out BK789.out (by decide)) e_) hs_)); have n8_ := Aside0.mk (Kd.R_mono (ok' := fun k_ => some k_ ≠ (.slice Ao26 t773.length co26 : Value).ownBlock ∧ some k_ ≠ (.slice Ao33 t778.length co33 : Value).ownBlock ∧ some k_ ≠ (.slice Ao44 t785.length co44 : Value).ownBlock) (Kd.R_keptB (HO793.out) hkp (fun k_ hk_ hs_ => (hk_.1.2) hs_)) (fun k_ hk_ => ⟨hk_.1.1.1.2, hk_.1.1.2, hk_.1.2⟩)); have n9_ := Aside0.mk (hb); clear HO_778000; clear HO_782000; clear HO_790000; clear BK764; clear BK765; clear BK777; clear BK781; clear BK789; clear HO793; clear HB; have HO_778000 := n0_; have HO_782000 := n1_; have HO_790000 := n2_; have BK764 := n3_; have BK765 := n4_; have BK777 := n5_; have BK781 := n6_; have BK789 := n7_; have HO793 := n8_; have HB := n9_; clear n0_ n1_ n2_ n3_ n4_ n5_ n6_ n7_ n8_ n9_; (try clear hb); (try clear hkp); (try clear hy0)))
      (try simp only [Act.put, List.setIfInBounds_toArray, List.set_cons_zero, List.set_cons_succ])
      go_cut [71] (fun v71 wc => ∃ (kq : Nat) (x71_77 : Bool), v71 = .bool x71_77 ∧ Aside0 (laws_FnExactTakeFor.j1 kq a2 t776 x71_77 l0_0 a1_0 a1_1 a1_2 t773 t785 = some r) ∧ Aside0 (kq ≤ kj17) ∧ Aside0 (Kd.R (Kd.int .i64) 3 wc w.heap.size (fun k_ => some k_ ≠ ((.slice Ao33 t778.length co33) : Value).ownBlock ∧ some k_ ≠ ((.slice Ao44 t785.length co44) : Value).ownBlock) (.slice Ao26 t773.length co26) t773) ∧ Aside0 (Kd.R (Kd.int .i64) 3 wc w.heap.size (fun k_ => some k_ ≠ ((.slice Ao26 t773.length co26) : Value).ownBlock ∧ some k_ ≠ ((.slice Ao44 t785.length co44) : Value).ownBlock) (.slice Ao33 t778.length co33) t796) ∧ Aside0 (Kd.R (Kd.int .i64) 3 wc w.heap.size (fun k_ => some k_ ≠ ((.slice Ao26 t773.length co26) : Value).ownBlock ∧ some k_ ≠ ((.slice Ao33 t778.length co33) : Value).ownBlock) (.slice Ao44 t785.length co44) t785) ∧ Aside0 (wc.heap[gb764]? = some (.cells #[(.slice A0_0 l0_0.length c0_0)] 49 (0, 0))) ∧ Aside0 (wc.heap[gb765]? = some (.cells #[.int .i64 a1_0, .int .i64 a1_1, .int .i64 a1_2] 51 (0, 0))) ∧ Aside0 (wc.heap[gb777]? = some (.cells #[(.slice Ao26 t773.length co26)] 54 (0, 0))) ∧ Aside0 (wc.heap[gb781]? = some (.cells #[(.slice Ao33 t778.length co33)] 54 (0, 0))) ∧ Aside0 (wc.heap[gb789]? = some (.cells #[(.slice Ao44 t785.length co44)] 54 (0, 0))) ∧ Aside0 (Below w.heap.size w wc))
      case first =>
       have H := HC78.out
       clear HC78
       by_cases c85 : t795 < 0
       ·
        rw [if_pos c85] at H
        have c85b0 : decide (t795 < 0) = true := decide_eq_true c85
        clear c85
        (first | rw [c85b0] | (simp only [i64_w, i32_w]; rw [c85b0]) | skip)
        have H' := Aside0.mk H
        clear H
        go_wp2
        go_meet
        case rel => exact ⟨_, (true), (by first | rfl | (simp; done) | (simp [*]; done)), H', ⟨by have := HJ17.out; first | omega | exact Nat.le_refl _⟩, ⟨Kd.Rq (Kd.R_mono HO_778000.out (fun _ hk => ⟨hk.1, hk.2.1⟩))⟩, ⟨Kd.Rq (Kd.R_mono HO_782000.out (fun _ hk => ⟨hk.1.1, hk.1.2⟩))⟩, ⟨Kd.Rq (Kd.R_mono HO_790000.out (fun _ hk => ⟨hk.1, hk.2.1⟩))⟩, ⟨bkq BK764.out⟩, ⟨bkq BK765.out⟩, ⟨bkq BK777.out⟩, ⟨bkq BK781.out⟩, ⟨bkq BK789.out⟩, ⟨blq HB.out⟩⟩
       ·
        rw [if_neg c85] at H
        have c85b0 : decide (t795 < 0) = false := decide_eq_false c85
        clear c85
        (first | rw [c85b0] | (simp only [i64_w, i32_w]; rw [c85b0]) | skip)
        replace H := Option.bind_eq_some_iff.mp H
        obtain ⟨t797, A860, H⟩ := H
        replace H : (if t797 = true then (laws_FnExactTakeFor.j1 kj17 a2 t776 (t788 != t776) l0_0 a1_0 a1_1 a1_2 t773 t785) else (laws_FnExactTakeFor.j1 kj17 a2 t776 true l0_0 a1_0 a1_1 a1_2 t773 t785)) = some r := H
        have A86 := Aside0.mk A860
        clear A860
        by_cases c87 : t797 = true
        ·
         subst c87
         have H1 : (laws_FnExactTakeFor.j1 kj17 a2 t776 (t788 != t776) l0_0 a1_0 a1_1 a1_2 t773 t785) = some r := by rw [if_pos rfl] at H; exact H
         clear H
         have H := H1
         clear H1
         have H' := Aside0.mk H
         clear H
         have hnb88 := NB789_764.out
         have hnc88 := NB764_789.out
         have hnb89 := NB789_765.out
         have hnc89 := NB765_789.out
         have hnb90 := NB789_777.out
         have hnc90 := NB777_789.out
         have hnb91 := NB789_781.out
         have hnc91 := NB781_789.out
         have hcz92_0 : w84.cell? ⟨gb789, 0, none⟩ = some (.slice Ao44 t785.length co44) := (blk_cell BK789.out 0).trans rfl
         have hfz92_0 := blk_frozen BK789.out 0
         have hnb93 := NB777_764.out
         have hnc93 := NB764_777.out
         have hnb94 := NB777_765.out
         have hnc94 := NB765_777.out
         have hnb95 := NB777_781.out
         have hnc95 := NB781_777.out
         have hcz96_0 : w84.cell? ⟨gb777, 0, none⟩ = some (.slice Ao26 t773.length co26) := (blk_cell BK777.out 0).trans rfl
         have hfz96_0 := blk_frozen BK777.out 0
         go_wp2_with (first | (go_at_call 35; (with_reducible refine (laws_eqStock.calls kj17 _ _ t785 _ _ t773 true _ ?side1 ?side2 ?side3 ?side4 A86.out).mono ?_); (case side1 => repeat (first | exact (Kd.R_reads' HO_790000.out).2.2 | (with_reducible refine Kd.C_alloc ?_ _) | (with_reducible refine Kd.C_drewN ?_ _) | (with_reducible refine Kd.C_drew ?_))); (case side2 => exact (Kd.R_reads' HO_790000.out).2.1); (case side3 => repeat (first | exact (Kd.R_reads' HO_778000.out).2.2 | (with_reducible refine Kd.C_alloc ?_ _) | (with_reducible refine Kd.C_drewN ?_ _) | (with_reducible refine Kd.C_drew ?_))); (case side4 => exact (Kd.R_reads' HO_778000.out).2.1); rintro e w97 ⟨rfl, hb⟩; have n0_ := Aside0.mk (Kd.R_below (Kd.Rq HO_778000.out) hb); have n1_ := Aside0.mk (Kd.R_below (Kd.Rq HO_782000.out) hb); have n2_ := Aside0.mk (Kd.R_below (Kd.Rq HO_790000.out) hb); have n3_ := Aside0.mk (Kd.R_below (Kd.Rq HO793.out) hb); have n4_ := Aside0.mk (blk_below (bkq BK764.out) hb); have n5_ := Aside0.mk (blk_below (bkq BK765.out) hb); have n6_ := Aside0.mk (blk_below (bkq BK777.out) hb); have n7_ := Aside0.mk (blk_below (bkq BK781.out) hb); have n8_ := Aside0.mk (blk_below (bkq BK789.out) hb); have n9_ := Aside0.mk (below_step (blq HB.out) hb); clear HO_778000; clear HO_782000; clear HO_790000; clear HO793; clear BK764; clear BK765; clear BK777; clear BK781; clear BK789; clear HB; have HO_778000 := n0_; have HO_782000 := n1_; have HO_790000 := n2_; have HO793 := n3_; have BK764 := n4_; have BK765 := n5_; have BK777 := n6_; have BK781 := n7_; have BK789 := n8_; have HB := n9_; clear n0_ n1_ n2_ n3_ n4_ n5_ n6_ n7_ n8_ n9_; (try clear hb); (try clear hb2); (try clear hk); (try clear hi)))
         go_meet
         case rel => exact ⟨_, ((t788 != t776)), (by first | rfl | (simp; done) | (simp [*]; done)), H', ⟨by have := HJ17.out; first | omega | exact Nat.le_refl _⟩, ⟨Kd.Rq (Kd.R_mono HO_778000.out (fun _ hk => ⟨hk.1, hk.2.1⟩))⟩, ⟨Kd.Rq (Kd.R_mono HO_782000.out (fun _ hk => ⟨hk.1.1, hk.1.2⟩))⟩, ⟨Kd.Rq (Kd.R_mono HO_790000.out (fun _ hk => ⟨hk.1, hk.2.1⟩))⟩, ⟨bkq BK764.out⟩, ⟨bkq BK765.out⟩, ⟨bkq BK777.out⟩, ⟨bkq BK781.out⟩, ⟨bkq BK789.out⟩, ⟨blq HB.out⟩⟩
        ·
         replace c87 := Bool.eq_false_iff.mpr c87
         subst c87
         have H1 : (laws_FnExactTakeFor.j1 kj17 a2 t776 true l0_0 a1_0 a1_1 a1_2 t773 t785) = some r := by rw [if_neg (show ¬ (false = true) by decide)] at H; exact H
         clear H
         have H := H1
         clear H1
         have H' := Aside0.mk H
         clear H
         have hnb98 := NB789_764.out
         have hnc98 := NB764_789.out
         have hnb99 := NB789_765.out
         have hnc99 := NB765_789.out
         have hnb100 := NB789_777.out
         have hnc100 := NB777_789.out
         have hnb101 := NB789_781.out
         have hnc101 := NB781_789.out
         have hcz102_0 : w84.cell? ⟨gb789, 0, none⟩ = some (.slice Ao44 t785.length co44) := (blk_cell BK789.out 0).trans rfl
         have hfz102_0 := blk_frozen BK789.out 0
         have hnb103 := NB777_764.out
         have hnc103 := NB764_777.out
         have hnb104 := NB777_765.out
         have hnc104 := NB765_777.out
         have hnb105 := NB777_781.out
         have hnc105 := NB781_777.out
         have hcz106_0 : w84.cell? ⟨gb777, 0, none⟩ = some (.slice Ao26 t773.length co26) := (blk_cell BK777.out 0).trans rfl
         have hfz106_0 := blk_frozen BK777.out 0
         go_wp2_with (first | (go_at_call 35; (with_reducible refine (laws_eqStock.calls kj17 _ _ t785 _ _ t773 false _ ?side1 ?side2 ?side3 ?side4 A86.out).mono ?_); (case side1 => repeat (first | exact (Kd.R_reads' HO_790000.out).2.2 | (with_reducible refine Kd.C_alloc ?_ _) | (with_reducible refine Kd.C_drewN ?_ _) | (with_reducible refine Kd.C_drew ?_))); (case side2 => exact (Kd.R_reads' HO_790000.out).2.1); (case side3 => repeat (first | exact (Kd.R_reads' HO_778000.out).2.2 | (with_reducible refine Kd.C_alloc ?_ _) | (with_reducible refine Kd.C_drewN ?_ _) | (with_reducible refine Kd.C_drew ?_))); (case side4 => exact (Kd.R_reads' HO_778000.out).2.1); rintro e w107 ⟨rfl, hb⟩; have n0_ := Aside0.mk (Kd.R_below (Kd.Rq HO_778000.out) hb); have n1_ := Aside0.mk (Kd.R_below (Kd.Rq HO_782000.out) hb); have n2_ := Aside0.mk (Kd.R_below (Kd.Rq HO_790000.out) hb); have n3_ := Aside0.mk (Kd.R_below (Kd.Rq HO793.out) hb); have n4_ := Aside0.mk (blk_below (bkq BK764.out) hb); have n5_ := Aside0.mk (blk_below (bkq BK765.out) hb); have n6_ := Aside0.mk (blk_below (bkq BK777.out) hb); have n7_ := Aside0.mk (blk_below (bkq BK781.out) hb); have n8_ := Aside0.mk (blk_below (bkq BK789.out) hb); have n9_ := Aside0.mk (below_step (blq HB.out) hb); clear HO_778000; clear HO_782000; clear HO_790000; clear HO793; clear BK764; clear BK765; clear BK777; clear BK781; clear BK789; clear HB; have HO_778000 := n0_; have HO_782000 := n1_; have HO_790000 := n2_; have HO793 := n3_; have BK764 := n4_; have BK765 := n5_; have BK777 := n6_; have BK781 := n7_; have BK789 := n8_; have HB := n9_; clear n0_ n1_ n2_ n3_ n4_ n5_ n6_ n7_ n8_ n9_; (try clear hb); (try clear hb2); (try clear hk); (try clear hi)))
         go_meet
         case rel => exact ⟨_, (true), (by first | rfl | (simp; done) | (simp [*]; done)), H', ⟨by have := HJ17.out; first | omega | exact Nat.le_refl _⟩, ⟨Kd.Rq (Kd.R_mono HO_778000.out (fun _ hk => ⟨hk.1, hk.2.1⟩))⟩, ⟨Kd.Rq (Kd.R_mono HO_782000.out (fun _ hk => ⟨hk.1.1, hk.1.2⟩))⟩, ⟨Kd.Rq (Kd.R_mono HO_790000.out (fun _ hk => ⟨hk.1, hk.2.1⟩))⟩, ⟨bkq BK764.out⟩, ⟨bkq BK765.out⟩, ⟨bkq BK777.out⟩, ⟨bkq BK781.out⟩, ⟨bkq BK789.out⟩, ⟨blq HB.out⟩⟩
      case rest =>
       clear HC78
       try clear c1
       try clear p2
       try clear c3
       try clear c4
       try clear c5
       try clear c6
       try clear c7
       try clear c8
       try clear c9
       try clear c10
       try clear c32
       try clear c33
       try clear c35
       try clear c43
       try clear c47
       try clear c48
       try clear c49
       try clear c50
       try clear c51
       try clear c53
       try clear c54
       try clear c55
       try clear c58
       try clear c59
       try clear c60
       try clear c61
       try clear c63
       try clear c64
       try clear c65
       try clear c68
       try clear c76
       try clear c79
       try clear c80
       try clear c81
       try clear c82
       try clear c85
       try clear c85b0
       try clear c87
       try clear c88
       try clear c89
       try clear c90
       try clear c91
       try clear c93
       try clear c94
       try clear c95
       try clear c98
       try clear c99
       try clear c100
       try clear c101
       try clear c103
       try clear c104
       try clear c105
       try clear hcz102_0
       try clear hcz106_0
       try clear hcz52_0
       try clear hcz56_0
       try clear hcz62_0
       try clear hcz66_0
       try clear hcz83_0
       try clear hcz92_0
       try clear hcz96_0
       try clear hfz102_0
       try clear hfz106_0
       try clear hfz52_0
       try clear hfz56_0
       try clear hfz62_0
       try clear hfz66_0
       try clear hfz83_0
       try clear hfz92_0
       try clear hfz96_0
       try clear p2
       obtain ⟨kq, x71_77, rfl, HA, HJ77, HO_778000, HO_782000, HO_790000, BK764, BK765, BK777, BK781, BK789, HB⟩ := hcut
       have hl782000_77 := (Kd.R_reads' HO_782000.out).1
       rw [hl782000_77] at HO_782000
       (try simp only [hl782000_77])
       (try simp only [hl782000_77] at BK764)
       (try simp only [hl782000_77] at BK765)
       (try simp only [hl782000_77] at BK777)
       (try simp only [hl782000_77] at BK781)
       (try simp only [hl782000_77] at BK789)
       (try simp only [hl782000_77] at HO_778000)
       (try simp only [hl782000_77] at HO_790000)
       cases kq with
       | zero => exact absurd HA.out (by simp [laws_FnExactTakeFor.j1])
       | succ kj77 =>
        have H := HA.out
        clear HA
        simp only [laws_FnExactTakeFor.j1] at H
        by_cases c108 : x71_77 = true
        ·
         subst c108
         have H1 : (some false) = some r := by rw [if_pos rfl] at H; exact H
         clear H
         have H := H1
         clear H1
         obtain rfl := Option.some.inj H
         go_wp2
         go_ret
         exact ⟨by first | rfl | (simp [errW_none, errW_some] <;> rfl) | (simp [*, errW_none, errW_some] <;> rfl), blq HB.out⟩
        ·
         replace c108 := Bool.eq_false_iff.mpr c108
         subst c108
         have H1 : ((laws_markStock.f kj77 t785 1).bind fun bt798 => ((laws_heldStock.f kj77 bt798.2 1).bind fun t800 => (if t800 < 0 then (some false) else (if t800 = bt798.1 then ((laws_toStock.f kj77 l0_0).bind fun t801 => ((laws_toDough.f a1_0 a1_1 a1_2).bind fun bt804 => ((impl_TakeFor.f kj77 t801 bt804.1 bt804.2.1 bt804.2.2 a2).bind fun bt807 => ((laws_eqStock.f kj77 bt807.1 t773).bind fun t812 => (if t812 = true then (laws_FnExactTakeFor.j2 kj77 bt798.1 (bt807.2 != t776) bt798.2) else (laws_FnExactTakeFor.j2 kj77 bt798.1 true bt798.2)))))) else (some false))))) = some r := by rw [if_neg (show ¬ (false = true) by decide)] at H; exact H
         clear H
         have H := H1
         clear H1
         replace H := Option.bind_eq_some_iff.mp H
         obtain ⟨⟨t798, t799⟩, A1090, H⟩ := H
         replace H : ((laws_heldStock.f kj77 t799 1).bind fun t800 => (if t800 < 0 then (some false) else (if t800 = t798 then ((laws_toStock.f kj77 l0_0).bind fun t801 => ((laws_toDough.f a1_0 a1_1 a1_2).bind fun bt804 => ((impl_TakeFor.f kj77 t801 bt804.1 bt804.2.1 bt804.2.2 a2).bind fun bt807 => ((laws_eqStock.f kj77 bt807.1 t773).bind fun t812 => (if t812 = true then (laws_FnExactTakeFor.j2 kj77 t798 (bt807.2 != t776) t799) else (laws_FnExactTakeFor.j2 kj77 t798 true t799)))))) else (some false)))) = some r := H
         have A109 := Aside0.mk A1090
         clear A1090
         replace H := Option.bind_eq_some_iff.mp H
         obtain ⟨t800, A1100, H⟩ := H
         replace H : (if t800 < 0 then (some false) else (if t800 = t798 then ((laws_toStock.f kj77 l0_0).bind fun t801 => ((laws_toDough.f a1_0 a1_1 a1_2).bind fun bt804 => ((impl_TakeFor.f kj77 t801 bt804.1 bt804.2.1 bt804.2.2 a2).bind fun bt807 => ((laws_eqStock.f kj77 bt807.1 t773).bind fun t812 => (if t812 = true then (laws_FnExactTakeFor.j2 kj77 t798 (bt807.2 != t776) t799) else (laws_FnExactTakeFor.j2 kj77 t798 true t799)))))) else (some false))) = some r := H
         have A110 := Aside0.mk A1100
         clear A1100
         have HF111 := Aside0.mk H
         clear H
         have hnb112 := NB789_764.out
         have hnc112 := NB764_789.out
         have hnb113 := NB789_765.out
         have hnc113 := NB765_789.out
         have hnb114 := NB789_777.out
         have hnc114 := NB777_789.out
         have hnb115 := NB789_781.out
         have hnc115 := NB781_789.out
         have hcz116_0 : wc.cell? ⟨gb789, 0, none⟩ = some (.slice Ao44 t785.length co44) := (blk_cell BK789.out 0).trans rfl
         have hfz116_0 := blk_frozen BK789.out 0
         go_upto_if 79 with (first | ((with_reducible refine gate_callee (f := 54) rfl ?_); refine gLq (some 74) Try.func54 #[.agg #[.slice Ao44 t785.length co44], .int .i64 1] ?_; (with_reducible refine (laws_markStock.calls kj77 (fun k_ => some k_ = (.slice Ao44 t785.length co44 : Value).ownBlock) (.slice Ao44 t785.length co44) t785 1 t798 t799 w _ ?side1 ?side2 A109.out).mono ?_); (case side1 => exact blq HB.out); (case side2 => exact Kd.R_tight rfl HO_790000.out); rintro e w117 ⟨rfl, hy0, hb, hkp⟩; refine ⟨_, rfl, ?_⟩; have n0_ := Aside0.mk (Kd.R_mono (ok' := fun k_ => some k_ ≠ (.slice Ao33 t796.length co33 : Value).ownBlock ∧ some k_ ≠ (.slice Ao44 t785.length co44 : Value).ownBlock) (Kd.R_keptB (HO_778000.out) hkp (fun k_ hk_ hs_ => (hk_.2) hs_)) (fun k_ hk_ => ⟨hk_.1.1, hk_.1.2⟩)); have n1_ := Aside0.mk (Kd.R_mono (ok' := fun k_ => some k_ ≠ (.slice Ao26 t773.length co26 : Value).ownBlock ∧ some k_ ≠ (.slice Ao44 t785.length co44 : Value).ownBlock) (Kd.R_keptB (HO_782000.out) hkp (fun k_ hk_ hs_ => (hk_.2) hs_)) (fun k_ hk_ => ⟨hk_.1.1, hk_.1.2⟩)); have n2_ := Aside0.mk (Kd.R_reok rfl hy0 (fun k_ e_ => HO_790000.out.1 k_ e_)); have n3_ := Aside0.mk (blk_kept (bkq BK764.out) hkp (fun hs_ => (fun e_ => (Kd.R_ne HO_790000.out BK764.out (by decide)) e_) hs_)); have n4_ := Aside0.mk (blk_kept (bkq BK765.out) hkp (fun hs_ => (fun e_ => (Kd.R_ne HO_790000.out BK765.out (by decide)) e_) hs_)); have n5_ := Aside0.mk (blk_kept (bkq BK777.out) hkp (fun hs_ => (fun e_ => (Kd.R_ne HO_790000.out BK777.out (by decide)) e_) hs_)); have n6_ := Aside0.mk (blk_kept (bkq BK781.out) hkp (fun hs_ => (fun e_ => (Kd.R_ne HO_790000.out BK781.out (by decide)) e_) hs_)); have n7_ := Aside0.mk (blk_kept (bkq BK789.out) hkp (fun hs_ => (fun e_ => (Kd.R_ne HO_790000.out BK789.out (by decide)) e_) hs_)); have n8_ := Aside0.mk (hb); clear HO_778000; clear HO_782000; clear HO_790000; clear BK764; clear BK765; clear BK777; clear BK781; clear BK789; clear HB; have HO_778000 := n0_; have HO_782000 := n1_; have HO_790000 := n2_; have BK764 := n3_; have BK765 := n4_; have BK777 := n5_; have BK781 := n6_; have BK789 := n7_; have HB := n8_; clear n0_ n1_ n2_ n3_ n4_ n5_ n6_ n7_ n8_; (try clear hb); (try clear hkp); (try clear hy0); have hcz118_0 : w117.cell? ⟨gb789, 0, none⟩ = some (.slice Ao44 t785.length co44) := (blk_cell BK789.out 0).trans rfl; have hfz118_0 := blk_frozen BK789.out 0) | ((with_reducible refine gate_callee (f := 55) rfl ?_); refine goesL_ (some 77) rfl rfl Try.func55 (by kernel_rfl) rfl #[.agg #[.slice Ao44 t799.length co44], .int .i64 1] rfl (by (try simp only [List.map_toArray, List.map_cons, List.map_nil]); first | done | (rw [show t799.length = t785.length from (Kd.R_reads' HO_790000.out).1.symm] <;> rfl) | rfl | (simp only [List.length_drop, List.length_take]; rfl)) ?_; (with_reducible refine (laws_heldStock.calls kj77 _ _ t799 1 t800 _ ?side1 ?side2 A110.out).mono ?_); (case side1 => repeat (first | exact (Kd.R_reads' HO_790000.out).2.2 | (with_reducible refine Kd.C_alloc ?_ _) | (with_reducible refine Kd.C_drewN ?_ _) | (with_reducible refine Kd.C_drew ?_))); (case side2 => rw [show t799.length = t785.length from (Kd.R_reads' HO_790000.out).1.symm]; exact (Kd.R_reads' HO_790000.out).2.1); rintro e w119 ⟨rfl, hb⟩; refine ⟨_, rfl, ?_⟩; have n0_ := Aside0.mk (Kd.R_below (Kd.Rq HO_778000.out) hb); have n1_ := Aside0.mk (Kd.R_below (Kd.Rq HO_782000.out) hb); have n2_ := Aside0.mk (Kd.R_below (Kd.Rq HO_790000.out) hb); have n3_ := Aside0.mk (blk_below (bkq BK764.out) hb); have n4_ := Aside0.mk (blk_below (bkq BK765.out) hb); have n5_ := Aside0.mk (blk_below (bkq BK777.out) hb); have n6_ := Aside0.mk (blk_below (bkq BK781.out) hb); have n7_ := Aside0.mk (blk_below (bkq BK789.out) hb); have n8_ := Aside0.mk (below_step (blq HB.out) hb); clear HO_778000; clear HO_782000; clear HO_790000; clear BK764; clear BK765; clear BK777; clear BK781; clear BK789; clear HB; have HO_778000 := n0_; have HO_782000 := n1_; have HO_790000 := n2_; have BK764 := n3_; have BK765 := n4_; have BK777 := n5_; have BK781 := n6_; have BK789 := n7_; have HB := n8_; clear n0_ n1_ n2_ n3_ n4_ n5_ n6_ n7_ n8_; (try clear hb); (try clear hb2); (try clear hk); (try clear hi)))
         have H := HF111.out
         clear HF111
         by_cases c120 : t800 < 0
         ·
          rw [if_pos c120] at H
          have c120b0 : decide (t800 < 0) = true := decide_eq_true c120
          clear c120
          (first | rw [c120b0] | (simp only [i64_w, i32_w]; rw [c120b0]) | skip)
          obtain rfl := Option.some.inj H
          go_wp2
          go_ret
          exact ⟨by first | rfl | (simp [errW_none, errW_some] <;> rfl) | (simp [*, errW_none, errW_some] <;> rfl), blq HB.out⟩
         ·
          rw [if_neg c120] at H
          have c120b0 : decide (t800 < 0) = false := decide_eq_false c120
          clear c120
          (first | rw [c120b0] | (simp only [i64_w, i32_w]; rw [c120b0]) | skip)
          by_cases c121 : t800 = t798
          ·
           rw [if_pos c121] at H
           have c121b0 : (t800 == t798) = true := beq_iff_eq.mpr c121
           have c121b1 : (t800 != t798) = false := bne_eq_false_iff_eq.mpr c121
           clear c121
           replace H := Option.bind_eq_some_iff.mp H
           obtain ⟨t801, A1220, H⟩ := H
           replace H : ((laws_toDough.f a1_0 a1_1 a1_2).bind fun bt804 => ((impl_TakeFor.f kj77 t801 bt804.1 bt804.2.1 bt804.2.2 a2).bind fun bt807 => ((laws_eqStock.f kj77 bt807.1 t773).bind fun t812 => (if t812 = true then (laws_FnExactTakeFor.j2 kj77 t798 (bt807.2 != t776) t799) else (laws_FnExactTakeFor.j2 kj77 t798 true t799))))) = some r := H
           have A122 := Aside0.mk A1220
           clear A1220
           replace H := Option.bind_eq_some_iff.mp H
           obtain ⟨⟨t804, t805, t806⟩, A1230, H⟩ := H
           replace H : ((impl_TakeFor.f kj77 t801 t804 t805 t806 a2).bind fun bt807 => ((laws_eqStock.f kj77 bt807.1 t773).bind fun t812 => (if t812 = true then (laws_FnExactTakeFor.j2 kj77 t798 (bt807.2 != t776) t799) else (laws_FnExactTakeFor.j2 kj77 t798 true t799)))) = some r := H
           have A123 := Aside0.mk A1230
           clear A1230
           replace H := Option.bind_eq_some_iff.mp H
           obtain ⟨⟨t807, t810⟩, A1240, H⟩ := H
           replace H : ((laws_eqStock.f kj77 t807 t773).bind fun t812 => (if t812 = true then (laws_FnExactTakeFor.j2 kj77 t798 (t810 != t776) t799) else (laws_FnExactTakeFor.j2 kj77 t798 true t799))) = some r := H
           have A124 := Aside0.mk A1240
           clear A1240
           have HC125 := Aside0.mk H
           clear H
           try go_wp2
           have n0_ := Aside0.mk (Kd.R_drew HO_778000.out)
           have n1_ := Aside0.mk (Kd.R_drew HO_782000.out)
           have n2_ := Aside0.mk (Kd.R_drew HO_790000.out)
           have n3_ := Aside0.mk (blk_drew BK764.out)
           have n4_ := Aside0.mk (blk_drew BK765.out)
           have n5_ := Aside0.mk (blk_drew BK777.out)
           have n6_ := Aside0.mk (blk_drew BK781.out)
           have n7_ := Aside0.mk (blk_drew BK789.out)
           have n8_ := Aside0.mk (below_drew1 HB.out)
           clear HO_778000
           clear HO_782000
           clear HO_790000
           clear BK764
           clear BK765
           clear BK777
           clear BK781
           clear BK789
           clear HB
           have HO_778000 := n0_
           have HO_782000 := n1_
           have HO_790000 := n2_
           have BK764 := n3_
           have BK765 := n4_
           have BK777 := n5_
           have BK781 := n6_
           have BK789 := n7_
           have HB := n8_
           clear n0_ n1_ n2_ n3_ n4_ n5_ n6_ n7_ n8_
           refine start_ (n := 12) (S := fun w' => w'.cell? ⟨gb764, 0, none⟩ = some (.slice A0_0 l0_0.length c0_0) ∧ w'.cell? ⟨gb765, 0, none⟩ = some (.int .i64 a1_0) ∧ w'.cell? ⟨gb765, 1, none⟩ = some (.int .i64 a1_1) ∧ w'.cell? ⟨gb765, 2, none⟩ = some (.int .i64 a1_2)) (ds := []) #[false, false, false, false, false, false, false, false, false, false, false, false] (by kernel_rfl) rfl rfl ⟨(blk_cell BK764.out 0).trans rfl, (blk_cell BK765.out 0).trans rfl, (blk_cell BK765.out 1).trans rfl, (blk_cell BK765.out 2).trans rfl⟩ (fun hHeld => ?_); refine with_tabW laws_FnExactTakeFor.tab24 laws_FnExactTakeFor.bits24 (fun HT_ HW_ => ?_)
           generalize w119.drew = w126 at HO_778000 HO_782000 HO_790000 BK764 BK765 BK777 BK781 BK789 HB hHeld ⊢
           refine pure_ (i := 4) (N := some 88) (v := ?_) (a' := ?_) #[false, false, false, false, true, false, false, false, false, false, false, false] rfl rfl (any_of HT_.out (by kernel_rfl)) (fun _ _ _ h => h) (Or.inl ⟨by rfl, ?_⟩) ?_ ?_
           rotate_left
           ·
            intro w'
            go_simp
            with_reducible rfl
           rotate_left
           ·
            simp only [Act.put, List.setIfInBounds_toArray, List.set_cons_zero, List.set_cons_succ, i64_w, i32_w]
            rfl
           refine take_ (i := 0) (N := some 84) (v := ?_) (a' := ?_) #[true, false, false, false, true, false, false, false, false, false, false, false] rfl rfl (take_ofW HT_.out HW_.out (by kernel_rfl)) (fun _ _ _ h => h) (Or.inl ⟨by rfl, ?_⟩) hHeld ?_ ?_
           rotate_left
           ·
            rintro w' ⟨s0, s1, s2, s3⟩
            go_simp
            with_reducible rfl
           rotate_left
           ·
            simp only [Act.put, List.setIfInBounds_toArray, List.set_cons_zero, List.set_cons_succ, i64_w, i32_w]
            rfl
           refine take_ (i := 2) (N := some 86) (v := ?_) (a' := ?_) #[true, false, true, false, true, false, false, false, false, false, false, false] rfl rfl (take_ofW HT_.out HW_.out (by kernel_rfl)) (fun _ _ _ h => h) (Or.inl ⟨by rfl, ?_⟩) hHeld ?_ ?_
           rotate_left
           ·
            rintro w' ⟨s0, s1, s2, s3⟩
            go_simp
            with_reducible rfl
           rotate_left
           ·
            simp only [Act.put, List.setIfInBounds_toArray, List.set_cons_zero, List.set_cons_succ, i64_w, i32_w]
            rfl
           refine join_ (σ := Value × Value × Nat) 2 #[true, true, true, true, true, true, true, true, true, true, false, false] (fun s_ => [(85, .agg #[s_.1]), (87, .agg #[.int .i64 t804, .int .i64 t805, .int .i64 t806]), (89, .tuple #[.agg #[s_.2.1], .bool t810]), (16, .pointer (some ⟨s_.2.2, 0, none⟩)), (83, .tuple #[.agg #[s_.2.1], .bool t810]), (90, .agg #[s_.2.1]), (91, .bool t810)]) (fun s_ w' => (w'.cell? ⟨gb764, 0, none⟩ = some (.slice A0_0 l0_0.length c0_0) ∧ w'.cell? ⟨gb765, 0, none⟩ = some (.int .i64 a1_0) ∧ w'.cell? ⟨gb765, 1, none⟩ = some (.int .i64 a1_1) ∧ w'.cell? ⟨gb765, 2, none⟩ = some (.int .i64 a1_2)) ∧ (Kd.R (Kd.int .i64) 3 w' w.heap.size (fun k_ => some k_ ≠ (s_.2.1 : Value).ownBlock ∧ some k_ ≠ (.slice Ao26 t773.length co26 : Value).ownBlock ∧ some k_ ≠ (.slice Ao33 t796.length co33 : Value).ownBlock ∧ some k_ ≠ (.slice Ao44 t785.length co44 : Value).ownBlock) s_.1 t801) ∧ (Kd.R (Kd.int .i64) 3 w' w.heap.size (fun k_ => some k_ ≠ (s_.1 : Value).ownBlock ∧ some k_ ≠ (.slice Ao26 t773.length co26 : Value).ownBlock ∧ some k_ ≠ (.slice Ao33 t796.length co33 : Value).ownBlock ∧ some k_ ≠ (.slice Ao44 t785.length co44 : Value).ownBlock) s_.2.1 t807) ∧ (Kd.R (Kd.int .i64) 3 w' w.heap.size (fun k_ => some k_ ≠ (s_.1 : Value).ownBlock ∧ some k_ ≠ (s_.2.1 : Value).ownBlock ∧ some k_ ≠ (.slice Ao33 t796.length co33 : Value).ownBlock ∧ some k_ ≠ (.slice Ao44 t785.length co44 : Value).ownBlock) (.slice Ao26 t773.length co26) t773) ∧ (Kd.R (Kd.int .i64) 3 w' w.heap.size (fun k_ => some k_ ≠ (s_.1 : Value).ownBlock ∧ some k_ ≠ (s_.2.1 : Value).ownBlock ∧ some k_ ≠ (.slice Ao26 t773.length co26 : Value).ownBlock ∧ some k_ ≠ (.slice Ao44 t785.length co44 : Value).ownBlock) (.slice Ao33 t796.length co33) t796) ∧ (Kd.R (Kd.int .i64) 3 w' w.heap.size (fun k_ => some k_ ≠ (s_.1 : Value).ownBlock ∧ some k_ ≠ (s_.2.1 : Value).ownBlock ∧ some k_ ≠ (.slice Ao26 t773.length co26 : Value).ownBlock ∧ some k_ ≠ (.slice Ao33 t796.length co33 : Value).ownBlock) (.slice Ao44 t785.length co44) t799) ∧ (w'.heap[gb764]? = some (.cells #[.slice A0_0 l0_0.length c0_0] 49 (0, 0))) ∧ (w'.heap[gb765]? = some (.cells #[.int .i64 a1_0, .int .i64 a1_1, .int .i64 a1_2] 51 (0, 0))) ∧ (w'.heap[gb777]? = some (.cells #[.slice Ao26 t773.length co26] 54 (0, 0))) ∧ (w'.heap[gb781]? = some (.cells #[.slice Ao33 t796.length co33] 54 (0, 0))) ∧ (w'.heap[gb789]? = some (.cells #[.slice Ao44 t785.length co44] 54 (0, 0))) ∧ (w'.heap[s_.2.2]? = some (.cells #[.slice none 0 0] 54 (0, 0))) ∧ (w.heap.size ≤ s_.2.2) ∧ (w.heap.size ≤ s_.2.2) ∧ (gb764 ≠ s_.2.2) ∧ (s_.2.2 ≠ gb764) ∧ (gb765 ≠ s_.2.2) ∧ (s_.2.2 ≠ gb765) ∧ (gb777 ≠ s_.2.2) ∧ (s_.2.2 ≠ gb777) ∧ (gb781 ≠ s_.2.2) ∧ (s_.2.2 ≠ gb781) ∧ (gb789 ≠ s_.2.2) ∧ (s_.2.2 ≠ gb789) ∧ (Below w.heap.size w w')) ?_ ?_
           rotate_left
           ·
            intro hCont
            refine two_ (i := 1) (j := 9) (Ni := some 85) (Nj := some 16) #[true, true, true, false, true, false, false, false, false, false, false, false] #[true, false, true, false, true, false, false, false, false, true, false, false] rfl rfl rfl rfl (two_of HT_.out (by kernel_rfl)) (by decide) (by decide) (fun K hK => ?_) (fun K hK => ?_)
            ·
             skip
             refine goes_ Try.func32 (by kernel_rfl) rfl #[.agg #[.slice A0_0 l0_0.length c0_0]] (by rfl) rfl rfl (by (try simp only [List.map_toArray, List.map_cons, List.map_nil]); first | done | rfl | (simp only [List.length_drop, List.length_take]; rfl)) ?_
             with_reducible refine (laws_toStock.calls kj77 _ _ l0_0 t801 _ ?side1 ?side2 A122.out).mono ?_
             (case side1 => exact Kd.Cq (Kd.C_below HR0_0.out HB.out))
             (case side2 => exact HC0_0.out)
             rintro e w127 ⟨v802, rfl, ho0, hb⟩
             refine ⟨_, rfl, ?_⟩
             have n0_ := Aside0.mk (Kd.R_elder' (Kd.Rq HO_778000.out) (Kd.R_base ho0) hb)
             have n1_ := Aside0.mk (Kd.R_elder' (Kd.Rq HO_782000.out) (Kd.R_base ho0) hb)
             have n2_ := Aside0.mk (Kd.R_elder' (Kd.Rq HO_790000.out) (Kd.R_base ho0) hb)
             have n3_ := Aside0.mk (Kd.R_lower (Kd.R_new' (Kd.R_new' (Kd.R_new' ho0 (Kd.R_lt (Kd.Rq HO_778000.out))) (Kd.R_lt (Kd.Rq HO_782000.out))) (Kd.R_lt (Kd.Rq HO_790000.out))) (below_size (blq HB.out)))
             have n4_ := Aside0.mk (blk_below (bkq BK764.out) hb)
             have n5_ := Aside0.mk (blk_below (bkq BK765.out) hb)
             have n6_ := Aside0.mk (blk_below (bkq BK777.out) hb)
             have n7_ := Aside0.mk (blk_below (bkq BK781.out) hb)
             have n8_ := Aside0.mk (blk_below (bkq BK789.out) hb)
             have n9_ := Aside0.mk (below_step (blq HB.out) hb)
             clear HO_778000
             clear HO_782000
             clear HO_790000
             clear BK764
             clear BK765
             clear BK777
             clear BK781
             clear BK789
             clear HB
             have HO_778000 := n0_
             have HO_782000 := n1_
             have HO_790000 := n2_
             have HO803 := n3_
             have BK764 := n4_
             have BK765 := n5_
             have BK777 := n6_
             have BK781 := n7_
             have BK789 := n8_
             have HB := n9_
             clear n0_ n1_ n2_ n3_ n4_ n5_ n6_ n7_ n8_ n9_
             (try clear hb)
             (try clear hb2)
             (try clear hk)
             (try clear hi)
             (try clear ho0)
             refine hK.out _ _ ⟨(blk_cell BK764.out 0).trans rfl, (blk_cell BK765.out 0).trans rfl, (blk_cell BK765.out 1).trans rfl, (blk_cell BK765.out 2).trans rfl⟩ (fun hHeld => ?_)
             clear hK K
             refine norm_ (a' := ?_) ?_ ?_
             rotate_left
             ·
              show Act.put _ (some 85) _ = _
              simp only [Act.put, List.setIfInBounds_toArray, List.set_cons_zero, List.set_cons_succ, i64_w, i32_w]
              rfl
             refine two_ (i := 3) (j := 9) (Ni := some 87) (Nj := some 16) #[true, true, true, true, true, false, false, false, false, false, false, false] #[true, true, true, false, true, false, false, false, false, true, false, false] rfl rfl rfl rfl (two_of HT_.out (by kernel_rfl)) (by decide) (by decide) (fun K hK => ?_) (fun K hK => ?_)
             ·
              skip
              refine goes_ Try.func33 (by kernel_rfl) rfl #[.agg #[.int .i64 a1_0, .int .i64 a1_1, .int .i64 a1_2]] (by rfl) rfl rfl (by (try simp only [List.map_toArray, List.map_cons, List.map_nil]); first | done | rfl | (simp only [List.length_drop, List.length_take]; rfl)) ?_
              with_reducible refine (laws_toDough.calls a1_0 a1_1 a1_2 t804 t805 t806 _ A123.out).mono ?_
              rintro e w128 ⟨rfl, hb⟩
              refine ⟨_, rfl, ?_⟩
              have n0_ := Aside0.mk (Kd.R_below (Kd.Rq HO_778000.out) hb)
              have n1_ := Aside0.mk (Kd.R_below (Kd.Rq HO_782000.out) hb)
              have n2_ := Aside0.mk (Kd.R_below (Kd.Rq HO_790000.out) hb)
              have n3_ := Aside0.mk (Kd.R_below (Kd.Rq HO803.out) hb)
              have n4_ := Aside0.mk (blk_below (bkq BK764.out) hb)
              have n5_ := Aside0.mk (blk_below (bkq BK765.out) hb)
              have n6_ := Aside0.mk (blk_below (bkq BK777.out) hb)
              have n7_ := Aside0.mk (blk_below (bkq BK781.out) hb)
              have n8_ := Aside0.mk (blk_below (bkq BK789.out) hb)
              have n9_ := Aside0.mk (below_step (blq HB.out) hb)
              clear HO_778000
              clear HO_782000
              clear HO_790000
              clear HO803
              clear BK764
              clear BK765
              clear BK777
              clear BK781
              clear BK789
              clear HB
              have HO_778000 := n0_
              have HO_782000 := n1_
              have HO_790000 := n2_
              have HO803 := n3_
              have BK764 := n4_
              have BK765 := n5_
              have BK777 := n6_
              have BK781 := n7_
              have BK789 := n8_
              have HB := n9_
              clear n0_ n1_ n2_ n3_ n4_ n5_ n6_ n7_ n8_ n9_
              (try clear hb)
              (try clear hb2)
              (try clear hk)
              (try clear hi)
              obtain ⟨Ao129, co129, eo129⟩ := Kd.R_slice HO803.out
              (first | subst eo129 | (injection eo129 with f1_ f2_ f3_; have f4_ := f1_.symm; have f5_ := f3_.symm; clear f1_ f2_ f3_; subst f4_; subst f5_))
              refine hK.out _ _ ⟨(blk_cell BK764.out 0).trans rfl, (blk_cell BK765.out 0).trans rfl, (blk_cell BK765.out 1).trans rfl, (blk_cell BK765.out 2).trans rfl⟩ (fun hHeld => ?_)
              clear hK K
              refine norm_ (a' := ?_) ?_ ?_
              rotate_left
              ·
               show Act.put _ (some 87) _ = _
               simp only [Act.put, List.setIfInBounds_toArray, List.set_cons_zero, List.set_cons_succ, i64_w, i32_w]
               rfl
              refine two_ (i := 5) (j := 9) (Ni := some 89) (Nj := some 16) #[true, true, true, true, true, true, false, false, false, false, false, false] #[true, true, true, true, true, false, false, false, false, true, false, false] rfl rfl rfl rfl (two_of HT_.out (by kernel_rfl)) (by decide) (by decide) (fun K hK => ?_) (fun K hK => ?_)
              ·
               skip
               refine goes_ Try.func43 (by kernel_rfl) rfl #[.agg #[.slice Ao129 t801.length co129], .agg #[.int .i64 t804, .int .i64 t805, .int .i64 t806], .int .i64 a2] (by rfl) rfl rfl (by (try simp only [List.map_toArray, List.map_cons, List.map_nil]); first | done | rfl | (simp only [List.length_drop, List.length_take]; rfl)) ?_
               with_reducible refine (impl_TakeFor.calls kj77 _ _ t801 t804 t805 t806 a2 t807 t810 _ ?side1 ?side2 A124.out).mono ?_
               (case side1 => repeat (first | exact (Kd.R_reads' HO803.out).2.2 | (with_reducible refine Kd.C_alloc ?_ _) | (with_reducible refine Kd.C_drewN ?_ _) | (with_reducible refine Kd.C_drew ?_)))
               (case side2 => exact (Kd.R_reads' HO803.out).2.1)
               rintro e w130 ⟨v808, rfl, ho0, hb⟩
               refine ⟨_, rfl, ?_⟩
               have n0_ := Aside0.mk (Kd.R_elder' (Kd.Rq HO_778000.out) (Kd.R_base ho0) hb)
               have n1_ := Aside0.mk (Kd.R_elder' (Kd.Rq HO_782000.out) (Kd.R_base ho0) hb)
               have n2_ := Aside0.mk (Kd.R_elder' (Kd.Rq HO_790000.out) (Kd.R_base ho0) hb)
               have n3_ := Aside0.mk (Kd.R_elder' (Kd.Rq HO803.out) (Kd.R_base ho0) hb)
               have n4_ := Aside0.mk (Kd.R_lower (Kd.R_new' (Kd.R_new' (Kd.R_new' (Kd.R_new' ho0 (Kd.R_lt (Kd.Rq HO_778000.out))) (Kd.R_lt (Kd.Rq HO_782000.out))) (Kd.R_lt (Kd.Rq HO_790000.out))) (Kd.R_lt (Kd.Rq HO803.out))) (below_size (blq HB.out)))
               have n5_ := Aside0.mk (blk_below (bkq BK764.out) hb)
               have n6_ := Aside0.mk (blk_below (bkq BK765.out) hb)
               have n7_ := Aside0.mk (blk_below (bkq BK777.out) hb)
               have n8_ := Aside0.mk (blk_below (bkq BK781.out) hb)
               have n9_ := Aside0.mk (blk_below (bkq BK789.out) hb)
               have n10_ := Aside0.mk (below_step (blq HB.out) hb)
               clear HO_778000
               clear HO_782000
               clear HO_790000
               clear HO803
               clear BK764
               clear BK765
               clear BK777
               clear BK781
               clear BK789
               clear HB
               have HO_778000 := n0_
               have HO_782000 := n1_
               have HO_790000 := n2_
               have HO803 := n3_
               have HO809 := n4_
               have BK764 := n5_
               have BK765 := n6_
               have BK777 := n7_
               have BK781 := n8_
               have BK789 := n9_
               have HB := n10_
               clear n0_ n1_ n2_ n3_ n4_ n5_ n6_ n7_ n8_ n9_ n10_
               (try clear hb)
               (try clear hb2)
               (try clear hk)
               (try clear hi)
               (try clear ho0)
               refine hK.out _ _ ⟨(blk_cell BK764.out 0).trans rfl, (blk_cell BK765.out 0).trans rfl, (blk_cell BK765.out 1).trans rfl, (blk_cell BK765.out 2).trans rfl⟩ (fun hHeld => ?_)
               clear hK K
               refine norm_ (a' := ?_) ?_ ?_
               rotate_left
               ·
                show Act.put _ (some 89) _ = _
                simp only [Act.put, List.setIfInBounds_toArray, List.set_cons_zero, List.set_cons_succ, i64_w, i32_w]
                rfl
               refine pure_ (i := 6) (N := some 83) (v := ?_) (a' := ?_) #[true, true, true, true, true, true, true, false, false, false, false, false] rfl rfl (any_of HT_.out (by kernel_rfl)) (fun _ _ _ h => h) (Or.inl ⟨by rfl, ?_⟩) ?_ ?_
               rotate_left
               ·
                intro w'
                go_simp
                with_reducible rfl
               rotate_left
               ·
                simp only [Act.put, List.setIfInBounds_toArray, List.set_cons_zero, List.set_cons_succ, i64_w, i32_w]
                rfl
               refine pure_ (i := 7) (N := some 90) (v := ?_) (a' := ?_) #[true, true, true, true, true, true, true, true, false, false, false, false] rfl rfl (any_of HT_.out (by kernel_rfl)) (fun _ _ _ h => h) (Or.inl ⟨by rfl, ?_⟩) ?_ ?_
               rotate_left
               ·
                intro w'
                go_simp
                with_reducible rfl
               rotate_left
               ·
                simp only [Act.put, List.setIfInBounds_toArray, List.set_cons_zero, List.set_cons_succ, i64_w, i32_w]
                rfl
               refine pure_ (i := 8) (N := some 91) (v := ?_) (a' := ?_) #[true, true, true, true, true, true, true, true, true, false, false, false] rfl rfl (any_of HT_.out (by kernel_rfl)) (fun _ _ _ h => h) (Or.inl ⟨by rfl, ?_⟩) ?_ ?_
               rotate_left
               ·
                intro w'
                go_simp
                with_reducible rfl
               rotate_left
               ·
                simp only [Act.put, List.setIfInBounds_toArray, List.set_cons_zero, List.set_cons_succ, i64_w, i32_w]
                rfl
               refine one_ (i := 9) (N := some 16) #[true, true, true, true, true, true, true, true, true, true, false, false] rfl rfl (one_of HT_.out (by kernel_rfl)) (by decide) (fun K hK => ?_)
               refine box_step ?hg (N := 16) ?hd (cs := #[.slice none 0 0]) (t := 54) ?hr ?_; (case hd => rfl); (case hg => rfl); (case hr => first | (go_simp; done) | (go_simp; rfl))
               intro gb811 hg w131 hbox hb
               have n0_ := Aside0.mk (Kd.R_below (Kd.Rq HO_778000.out) hb)
               have n1_ := Aside0.mk (Kd.R_below (Kd.Rq HO_782000.out) hb)
               have n2_ := Aside0.mk (Kd.R_below (Kd.Rq HO_790000.out) hb)
               have n3_ := Aside0.mk (Kd.R_below (Kd.Rq HO803.out) hb)
               have n4_ := Aside0.mk (Kd.R_below (Kd.Rq HO809.out) hb)
               have n5_ := Aside0.mk (blk_below (bkq BK764.out) hb)
               have n6_ := Aside0.mk (blk_below (bkq BK765.out) hb)
               have n7_ := Aside0.mk (blk_below (bkq BK777.out) hb)
               have n8_ := Aside0.mk (blk_below (bkq BK781.out) hb)
               have n9_ := Aside0.mk (blk_below (bkq BK789.out) hb)
               have n10_ := Aside0.mk (below_step (blq HB.out) hb)
               have n11_ := Aside0.mk (hbox)
               have n12_ := Aside0.mk ((sq hg HB.out))
               have n13_ := Aside0.mk ((sq hg HB.out))
               have n14_ := Aside0.mk ((by rw [hg]; exact Nat.ne_of_lt (blk_lt (bkq BK764.out)) : gb764 ≠ gb811))
               have n15_ := Aside0.mk ((by rw [hg]; exact Nat.ne_of_gt (blk_lt (bkq BK764.out)) : gb811 ≠ gb764))
               have n16_ := Aside0.mk ((by rw [hg]; exact Nat.ne_of_lt (blk_lt (bkq BK765.out)) : gb765 ≠ gb811))
               have n17_ := Aside0.mk ((by rw [hg]; exact Nat.ne_of_gt (blk_lt (bkq BK765.out)) : gb811 ≠ gb765))
               have n18_ := Aside0.mk ((by rw [hg]; exact Nat.ne_of_lt (blk_lt (bkq BK777.out)) : gb777 ≠ gb811))
               have n19_ := Aside0.mk ((by rw [hg]; exact Nat.ne_of_gt (blk_lt (bkq BK777.out)) : gb811 ≠ gb777))
               have n20_ := Aside0.mk ((by rw [hg]; exact Nat.ne_of_lt (blk_lt (bkq BK781.out)) : gb781 ≠ gb811))
               have n21_ := Aside0.mk ((by rw [hg]; exact Nat.ne_of_gt (blk_lt (bkq BK781.out)) : gb811 ≠ gb781))
               have n22_ := Aside0.mk ((by rw [hg]; exact Nat.ne_of_lt (blk_lt (bkq BK789.out)) : gb789 ≠ gb811))
               have n23_ := Aside0.mk ((by rw [hg]; exact Nat.ne_of_gt (blk_lt (bkq BK789.out)) : gb811 ≠ gb789))
               clear HO_778000
               clear HO_782000
               clear HO_790000
               clear HO803
               clear HO809
               clear BK764
               clear BK765
               clear BK777
               clear BK781
               clear BK789
               clear HB
               have HO_778000 := n0_
               have HO_782000 := n1_
               have HO_790000 := n2_
               have HO803 := n3_
               have HO809 := n4_
               have BK764 := n5_
               have BK765 := n6_
               have BK777 := n7_
               have BK781 := n8_
               have BK789 := n9_
               have HB := n10_
               have BK811 := n11_
               have GW811 := n12_
               have GE811 := n13_
               have NB764_811 := n14_
               have NB811_764 := n15_
               have NB765_811 := n16_
               have NB811_765 := n17_
               have NB777_811 := n18_
               have NB811_777 := n19_
               have NB781_811 := n20_
               have NB811_781 := n21_
               have NB789_811 := n22_
               have NB811_789 := n23_
               clear n0_ n1_ n2_ n3_ n4_ n5_ n6_ n7_ n8_ n9_ n10_ n11_ n12_ n13_ n14_ n15_ n16_ n17_ n18_ n19_ n20_ n21_ n22_ n23_
               clear hb hbox hg
               refine hK.out _ _ ⟨(blk_cell BK764.out 0).trans rfl, (blk_cell BK765.out 0).trans rfl, (blk_cell BK765.out 1).trans rfl, (blk_cell BK765.out 2).trans rfl⟩ (fun hHeld => ?_)
               clear hK K
               refine norm_ (a' := ?_) ?_ ?_
               rotate_left
               ·
                show Act.put _ (some 16) _ = _
                simp only [Act.put, List.setIfInBounds_toArray, List.set_cons_zero, List.set_cons_succ, i64_w, i32_w]
                rfl
               exact norm_ (by simp only [putAll, Act.put, List.setIfInBounds_toArray, List.set_cons_zero, List.set_cons_succ]) (hCont (.slice Ao129 t801.length co129, v808, gb811) _ ⟨hHeld, (Kd.Rq (Kd.R_mono HO803.out (fun _ hk => ⟨hk.2, ⟨hk.1.1.1.2, ⟨hk.1.1.2, hk.1.2⟩⟩⟩))), (Kd.Rq (Kd.R_mono HO809.out (fun _ hk => ⟨hk.2, ⟨hk.1.1.1.2, ⟨hk.1.1.2, hk.1.2⟩⟩⟩))), (Kd.Rq (Kd.R_mono HO_778000.out (fun _ hk => ⟨hk.1.2, ⟨hk.2, ⟨hk.1.1.1, hk.1.1.2⟩⟩⟩))), (Kd.Rq (Kd.R_mono HO_782000.out (fun _ hk => ⟨hk.1.2, ⟨hk.2, ⟨hk.1.1.1, hk.1.1.2⟩⟩⟩))), (Kd.Rq (Kd.R_mono HO_790000.out (fun _ hk => ⟨hk.1.2, ⟨hk.2, ⟨hk.1.1.1, hk.1.1.2⟩⟩⟩))), (bkq BK764.out), (bkq BK765.out), (bkq BK777.out), (bkq BK781.out), (bkq BK789.out), (bkq BK811.out), GW811.out, GE811.out, NB764_811.out, NB811_764.out, NB765_811.out, NB811_765.out, NB777_811.out, NB811_777.out, NB781_811.out, NB811_781.out, NB789_811.out, NB811_789.out, (blq HB.out)⟩)
              ·
               skip
               refine box_step ?hg (N := 16) ?hd (cs := #[.slice none 0 0]) (t := 54) ?hr ?_; (case hd => rfl); (case hg => rfl); (case hr => first | (go_simp; done) | (go_simp; rfl))
               intro gb811 hg w129 hbox hb
               have n0_ := Aside0.mk (Kd.R_below (Kd.Rq HO_778000.out) hb)
               have n1_ := Aside0.mk (Kd.R_below (Kd.Rq HO_782000.out) hb)
               have n2_ := Aside0.mk (Kd.R_below (Kd.Rq HO_790000.out) hb)
               have n3_ := Aside0.mk (Kd.R_below (Kd.Rq HO803.out) hb)
               have n4_ := Aside0.mk (blk_below (bkq BK764.out) hb)
               have n5_ := Aside0.mk (blk_below (bkq BK765.out) hb)
               have n6_ := Aside0.mk (blk_below (bkq BK777.out) hb)
               have n7_ := Aside0.mk (blk_below (bkq BK781.out) hb)
               have n8_ := Aside0.mk (blk_below (bkq BK789.out) hb)
               have n9_ := Aside0.mk (below_step (blq HB.out) hb)
               have n10_ := Aside0.mk (hbox)
               have n11_ := Aside0.mk ((sq hg HB.out))
               have n12_ := Aside0.mk ((sq hg HB.out))
               have n13_ := Aside0.mk ((by rw [hg]; exact Nat.ne_of_lt (blk_lt (bkq BK764.out)) : gb764 ≠ gb811))
               have n14_ := Aside0.mk ((by rw [hg]; exact Nat.ne_of_gt (blk_lt (bkq BK764.out)) : gb811 ≠ gb764))
               have n15_ := Aside0.mk ((by rw [hg]; exact Nat.ne_of_lt (blk_lt (bkq BK765.out)) : gb765 ≠ gb811))
               have n16_ := Aside0.mk ((by rw [hg]; exact Nat.ne_of_gt (blk_lt (bkq BK765.out)) : gb811 ≠ gb765))
               have n17_ := Aside0.mk ((by rw [hg]; exact Nat.ne_of_lt (blk_lt (bkq BK777.out)) : gb777 ≠ gb811))
               have n18_ := Aside0.mk ((by rw [hg]; exact Nat.ne_of_gt (blk_lt (bkq BK777.out)) : gb811 ≠ gb777))
               have n19_ := Aside0.mk ((by rw [hg]; exact Nat.ne_of_lt (blk_lt (bkq BK781.out)) : gb781 ≠ gb811))
               have n20_ := Aside0.mk ((by rw [hg]; exact Nat.ne_of_gt (blk_lt (bkq BK781.out)) : gb811 ≠ gb781))
               have n21_ := Aside0.mk ((by rw [hg]; exact Nat.ne_of_lt (blk_lt (bkq BK789.out)) : gb789 ≠ gb811))
               have n22_ := Aside0.mk ((by rw [hg]; exact Nat.ne_of_gt (blk_lt (bkq BK789.out)) : gb811 ≠ gb789))
               clear HO_778000
               clear HO_782000
               clear HO_790000
               clear HO803
               clear BK764
               clear BK765
               clear BK777
               clear BK781
               clear BK789
               clear HB
               have HO_778000 := n0_
               have HO_782000 := n1_
               have HO_790000 := n2_
               have HO803 := n3_
               have BK764 := n4_
               have BK765 := n5_
               have BK777 := n6_
               have BK781 := n7_
               have BK789 := n8_
               have HB := n9_
               have BK811 := n10_
               have GW811 := n11_
               have GE811 := n12_
               have NB764_811 := n13_
               have NB811_764 := n14_
               have NB765_811 := n15_
               have NB811_765 := n16_
               have NB777_811 := n17_
               have NB811_777 := n18_
               have NB781_811 := n19_
               have NB811_781 := n20_
               have NB789_811 := n21_
               have NB811_789 := n22_
               clear n0_ n1_ n2_ n3_ n4_ n5_ n6_ n7_ n8_ n9_ n10_ n11_ n12_ n13_ n14_ n15_ n16_ n17_ n18_ n19_ n20_ n21_ n22_
               clear hb hbox hg
               obtain ⟨Ao130, co130, eo130⟩ := Kd.R_slice HO803.out
               (first | subst eo130 | (injection eo130 with f1_ f2_ f3_; have f4_ := f1_.symm; have f5_ := f3_.symm; clear f1_ f2_ f3_; subst f4_; subst f5_))
               refine hK.out _ _ ⟨(blk_cell BK764.out 0).trans rfl, (blk_cell BK765.out 0).trans rfl, (blk_cell BK765.out 1).trans rfl, (blk_cell BK765.out 2).trans rfl⟩ (fun hHeld => ?_)
               clear hK K
               refine norm_ (a' := ?_) ?_ ?_
               rotate_left
               ·
                show Act.put _ (some 16) _ = _
                simp only [Act.put, List.setIfInBounds_toArray, List.set_cons_zero, List.set_cons_succ, i64_w, i32_w]
                rfl
               refine one_ (i := 5) (N := some 89) #[true, true, true, true, true, true, false, false, false, true, false, false] rfl rfl (one_of HT_.out (by kernel_rfl)) (by decide) (fun K hK => ?_)
               refine goes_ Try.func43 (by kernel_rfl) rfl #[.agg #[.slice Ao130 t801.length co130], .agg #[.int .i64 t804, .int .i64 t805, .int .i64 t806], .int .i64 a2] (by rfl) rfl rfl (by (try simp only [List.map_toArray, List.map_cons, List.map_nil]); first | done | rfl | (simp only [List.length_drop, List.length_take]; rfl)) ?_
               with_reducible refine (impl_TakeFor.calls kj77 _ _ t801 t804 t805 t806 a2 t807 t810 _ ?side1 ?side2 A124.out).mono ?_
               (case side1 => repeat (first | exact (Kd.R_reads' HO803.out).2.2 | (with_reducible refine Kd.C_alloc ?_ _) | (with_reducible refine Kd.C_drewN ?_ _) | (with_reducible refine Kd.C_drew ?_)))
               (case side2 => exact (Kd.R_reads' HO803.out).2.1)
               rintro e w131 ⟨v808, rfl, ho0, hb⟩
               refine ⟨_, rfl, ?_⟩
               have n0_ := Aside0.mk (Kd.R_elder' (Kd.Rq HO_778000.out) (Kd.R_base ho0) hb)
               have n1_ := Aside0.mk (Kd.R_elder' (Kd.Rq HO_782000.out) (Kd.R_base ho0) hb)
               have n2_ := Aside0.mk (Kd.R_elder' (Kd.Rq HO_790000.out) (Kd.R_base ho0) hb)
               have n3_ := Aside0.mk (Kd.R_elder' (Kd.Rq HO803.out) (Kd.R_base ho0) hb)
               have n4_ := Aside0.mk (Kd.R_lower (Kd.R_new' (Kd.R_new' (Kd.R_new' (Kd.R_new' ho0 (Kd.R_lt (Kd.Rq HO_778000.out))) (Kd.R_lt (Kd.Rq HO_782000.out))) (Kd.R_lt (Kd.Rq HO_790000.out))) (Kd.R_lt (Kd.Rq HO803.out))) (below_size (blq HB.out)))
               have n5_ := Aside0.mk (blk_below (bkq BK764.out) hb)
               have n6_ := Aside0.mk (blk_below (bkq BK765.out) hb)
               have n7_ := Aside0.mk (blk_below (bkq BK777.out) hb)
               have n8_ := Aside0.mk (blk_below (bkq BK781.out) hb)
               have n9_ := Aside0.mk (blk_below (bkq BK789.out) hb)
               have n10_ := Aside0.mk (blk_below (bkq BK811.out) hb)
               have n11_ := Aside0.mk (below_step (blq HB.out) hb)
               clear HO_778000
               clear HO_782000
               clear HO_790000
               clear HO803
               clear BK764
               clear BK765
               clear BK777
               clear BK781
               clear BK789
               clear BK811
               clear HB
               have HO_778000 := n0_
               have HO_782000 := n1_
               have HO_790000 := n2_
               have HO803 := n3_
               have HO809 := n4_
               have BK764 := n5_
               have BK765 := n6_
               have BK777 := n7_
               have BK781 := n8_
               have BK789 := n9_
               have BK811 := n10_
               have HB := n11_
               clear n0_ n1_ n2_ n3_ n4_ n5_ n6_ n7_ n8_ n9_ n10_ n11_
               (try clear hb)
               (try clear hb2)
               (try clear hk)
               (try clear hi)
               (try clear ho0)
               refine hK.out _ _ ⟨(blk_cell BK764.out 0).trans rfl, (blk_cell BK765.out 0).trans rfl, (blk_cell BK765.out 1).trans rfl, (blk_cell BK765.out 2).trans rfl⟩ (fun hHeld => ?_)
               clear hK K
               refine norm_ (a' := ?_) ?_ ?_
               rotate_left
               ·
                show Act.put _ (some 89) _ = _
                simp only [Act.put, List.setIfInBounds_toArray, List.set_cons_zero, List.set_cons_succ, i64_w, i32_w]
                rfl
               refine pure_ (i := 6) (N := some 83) (v := ?_) (a' := ?_) #[true, true, true, true, true, true, true, false, false, true, false, false] rfl rfl (any_of HT_.out (by kernel_rfl)) (fun _ _ _ h => h) (Or.inl ⟨by rfl, ?_⟩) ?_ ?_
               rotate_left
               ·
                intro w'
                go_simp
                with_reducible rfl
               rotate_left
               ·
                simp only [Act.put, List.setIfInBounds_toArray, List.set_cons_zero, List.set_cons_succ, i64_w, i32_w]
                rfl
               refine pure_ (i := 7) (N := some 90) (v := ?_) (a' := ?_) #[true, true, true, true, true, true, true, true, false, true, false, false] rfl rfl (any_of HT_.out (by kernel_rfl)) (fun _ _ _ h => h) (Or.inl ⟨by rfl, ?_⟩) ?_ ?_
               rotate_left
               ·
                intro w'
                go_simp
                with_reducible rfl
               rotate_left
               ·
                simp only [Act.put, List.setIfInBounds_toArray, List.set_cons_zero, List.set_cons_succ, i64_w, i32_w]
                rfl
               refine pure_ (i := 8) (N := some 91) (v := ?_) (a' := ?_) #[true, true, true, true, true, true, true, true, true, true, false, false] rfl rfl (any_of HT_.out (by kernel_rfl)) (fun _ _ _ h => h) (Or.inl ⟨by rfl, ?_⟩) ?_ ?_
               rotate_left
               ·
                intro w'
                go_simp
                with_reducible rfl
               rotate_left
               ·
                simp only [Act.put, List.setIfInBounds_toArray, List.set_cons_zero, List.set_cons_succ, i64_w, i32_w]
                rfl
               exact norm_ (by simp only [putAll, Act.put, List.setIfInBounds_toArray, List.set_cons_zero, List.set_cons_succ]) (hCont (.slice Ao130 t801.length co130, v808, gb811) _ ⟨hHeld, (Kd.Rq (Kd.R_mono HO803.out (fun _ hk => ⟨hk.2, ⟨hk.1.1.1.2, ⟨hk.1.1.2, hk.1.2⟩⟩⟩))), (Kd.Rq (Kd.R_mono HO809.out (fun _ hk => ⟨hk.2, ⟨hk.1.1.1.2, ⟨hk.1.1.2, hk.1.2⟩⟩⟩))), (Kd.Rq (Kd.R_mono HO_778000.out (fun _ hk => ⟨hk.1.2, ⟨hk.2, ⟨hk.1.1.1, hk.1.1.2⟩⟩⟩))), (Kd.Rq (Kd.R_mono HO_782000.out (fun _ hk => ⟨hk.1.2, ⟨hk.2, ⟨hk.1.1.1, hk.1.1.2⟩⟩⟩))), (Kd.Rq (Kd.R_mono HO_790000.out (fun _ hk => ⟨hk.1.2, ⟨hk.2, ⟨hk.1.1.1, hk.1.1.2⟩⟩⟩))), (bkq BK764.out), (bkq BK765.out), (bkq BK777.out), (bkq BK781.out), (bkq BK789.out), (bkq BK811.out), GW811.out, GE811.out, NB764_811.out, NB811_764.out, NB765_811.out, NB811_765.out, NB777_811.out, NB811_777.out, NB781_811.out, NB811_781.out, NB789_811.out, NB811_789.out, (blq HB.out)⟩)
             ·
              skip
              refine box_step ?hg (N := 16) ?hd (cs := #[.slice none 0 0]) (t := 54) ?hr ?_; (case hd => rfl); (case hg => rfl); (case hr => first | (go_simp; done) | (go_simp; rfl))
              intro gb811 hg w128 hbox hb
              have n0_ := Aside0.mk (Kd.R_below (Kd.Rq HO_778000.out) hb)
              have n1_ := Aside0.mk (Kd.R_below (Kd.Rq HO_782000.out) hb)
              have n2_ := Aside0.mk (Kd.R_below (Kd.Rq HO_790000.out) hb)
              have n3_ := Aside0.mk (Kd.R_below (Kd.Rq HO803.out) hb)
              have n4_ := Aside0.mk (blk_below (bkq BK764.out) hb)
              have n5_ := Aside0.mk (blk_below (bkq BK765.out) hb)
              have n6_ := Aside0.mk (blk_below (bkq BK777.out) hb)
              have n7_ := Aside0.mk (blk_below (bkq BK781.out) hb)
              have n8_ := Aside0.mk (blk_below (bkq BK789.out) hb)
              have n9_ := Aside0.mk (below_step (blq HB.out) hb)
              have n10_ := Aside0.mk (hbox)
              have n11_ := Aside0.mk ((sq hg HB.out))
              have n12_ := Aside0.mk ((sq hg HB.out))
              have n13_ := Aside0.mk ((by rw [hg]; exact Nat.ne_of_lt (blk_lt (bkq BK764.out)) : gb764 ≠ gb811))
              have n14_ := Aside0.mk ((by rw [hg]; exact Nat.ne_of_gt (blk_lt (bkq BK764.out)) : gb811 ≠ gb764))
              have n15_ := Aside0.mk ((by rw [hg]; exact Nat.ne_of_lt (blk_lt (bkq BK765.out)) : gb765 ≠ gb811))
              have n16_ := Aside0.mk ((by rw [hg]; exact Nat.ne_of_gt (blk_lt (bkq BK765.out)) : gb811 ≠ gb765))
              have n17_ := Aside0.mk ((by rw [hg]; exact Nat.ne_of_lt (blk_lt (bkq BK777.out)) : gb777 ≠ gb811))
              have n18_ := Aside0.mk ((by rw [hg]; exact Nat.ne_of_gt (blk_lt (bkq BK777.out)) : gb811 ≠ gb777))
              have n19_ := Aside0.mk ((by rw [hg]; exact Nat.ne_of_lt (blk_lt (bkq BK781.out)) : gb781 ≠ gb811))
              have n20_ := Aside0.mk ((by rw [hg]; exact Nat.ne_of_gt (blk_lt (bkq BK781.out)) : gb811 ≠ gb781))
              have n21_ := Aside0.mk ((by rw [hg]; exact Nat.ne_of_lt (blk_lt (bkq BK789.out)) : gb789 ≠ gb811))
              have n22_ := Aside0.mk ((by rw [hg]; exact Nat.ne_of_gt (blk_lt (bkq BK789.out)) : gb811 ≠ gb789))
              clear HO_778000
              clear HO_782000
              clear HO_790000
              clear HO803
              clear BK764
              clear BK765
              clear BK777
              clear BK781
              clear BK789
              clear HB
              have HO_778000 := n0_
              have HO_782000 := n1_
              have HO_790000 := n2_
              have HO803 := n3_
              have BK764 := n4_
              have BK765 := n5_
              have BK777 := n6_
              have BK781 := n7_
              have BK789 := n8_
              have HB := n9_
              have BK811 := n10_
              have GW811 := n11_
              have GE811 := n12_
              have NB764_811 := n13_
              have NB811_764 := n14_
              have NB765_811 := n15_
              have NB811_765 := n16_
              have NB777_811 := n17_
              have NB811_777 := n18_
              have NB781_811 := n19_
              have NB811_781 := n20_
              have NB789_811 := n21_
              have NB811_789 := n22_
              clear n0_ n1_ n2_ n3_ n4_ n5_ n6_ n7_ n8_ n9_ n10_ n11_ n12_ n13_ n14_ n15_ n16_ n17_ n18_ n19_ n20_ n21_ n22_
              clear hb hbox hg
              refine hK.out _ _ ⟨(blk_cell BK764.out 0).trans rfl, (blk_cell BK765.out 0).trans rfl, (blk_cell BK765.out 1).trans rfl, (blk_cell BK765.out 2).trans rfl⟩ (fun hHeld => ?_)
              clear hK K
              refine norm_ (a' := ?_) ?_ ?_
              rotate_left
              ·
               show Act.put _ (some 16) _ = _
               simp only [Act.put, List.setIfInBounds_toArray, List.set_cons_zero, List.set_cons_succ, i64_w, i32_w]
               rfl
              refine one_ (i := 3) (N := some 87) #[true, true, true, true, true, false, false, false, false, true, false, false] rfl rfl (one_of HT_.out (by kernel_rfl)) (by decide) (fun K hK => ?_)
              refine goes_ Try.func33 (by kernel_rfl) rfl #[.agg #[.int .i64 a1_0, .int .i64 a1_1, .int .i64 a1_2]] (by rfl) rfl rfl (by (try simp only [List.map_toArray, List.map_cons, List.map_nil]); first | done | rfl | (simp only [List.length_drop, List.length_take]; rfl)) ?_
              with_reducible refine (laws_toDough.calls a1_0 a1_1 a1_2 t804 t805 t806 _ A123.out).mono ?_
              rintro e w129 ⟨rfl, hb⟩
              refine ⟨_, rfl, ?_⟩
              have n0_ := Aside0.mk (Kd.R_below (Kd.Rq HO_778000.out) hb)
              have n1_ := Aside0.mk (Kd.R_below (Kd.Rq HO_782000.out) hb)
              have n2_ := Aside0.mk (Kd.R_below (Kd.Rq HO_790000.out) hb)
              have n3_ := Aside0.mk (Kd.R_below (Kd.Rq HO803.out) hb)
              have n4_ := Aside0.mk (blk_below (bkq BK764.out) hb)
              have n5_ := Aside0.mk (blk_below (bkq BK765.out) hb)
              have n6_ := Aside0.mk (blk_below (bkq BK777.out) hb)
              have n7_ := Aside0.mk (blk_below (bkq BK781.out) hb)
              have n8_ := Aside0.mk (blk_below (bkq BK789.out) hb)
              have n9_ := Aside0.mk (blk_below (bkq BK811.out) hb)
              have n10_ := Aside0.mk (below_step (blq HB.out) hb)
              clear HO_778000
              clear HO_782000
              clear HO_790000
              clear HO803
              clear BK764
              clear BK765
              clear BK777
              clear BK781
              clear BK789
              clear BK811
              clear HB
              have HO_778000 := n0_
              have HO_782000 := n1_
              have HO_790000 := n2_
              have HO803 := n3_
              have BK764 := n4_
              have BK765 := n5_
              have BK777 := n6_
              have BK781 := n7_
              have BK789 := n8_
              have BK811 := n9_
              have HB := n10_
              clear n0_ n1_ n2_ n3_ n4_ n5_ n6_ n7_ n8_ n9_ n10_
              (try clear hb)
              (try clear hb2)
              (try clear hk)
              (try clear hi)
              obtain ⟨Ao130, co130, eo130⟩ := Kd.R_slice HO803.out
              (first | subst eo130 | (injection eo130 with f1_ f2_ f3_; have f4_ := f1_.symm; have f5_ := f3_.symm; clear f1_ f2_ f3_; subst f4_; subst f5_))
              refine hK.out _ _ ⟨(blk_cell BK764.out 0).trans rfl, (blk_cell BK765.out 0).trans rfl, (blk_cell BK765.out 1).trans rfl, (blk_cell BK765.out 2).trans rfl⟩ (fun hHeld => ?_)
              clear hK K
              refine norm_ (a' := ?_) ?_ ?_
              rotate_left
              ·
               show Act.put _ (some 87) _ = _
               simp only [Act.put, List.setIfInBounds_toArray, List.set_cons_zero, List.set_cons_succ, i64_w, i32_w]
               rfl
              refine one_ (i := 5) (N := some 89) #[true, true, true, true, true, true, false, false, false, true, false, false] rfl rfl (one_of HT_.out (by kernel_rfl)) (by decide) (fun K hK => ?_)
              refine goes_ Try.func43 (by kernel_rfl) rfl #[.agg #[.slice Ao130 t801.length co130], .agg #[.int .i64 t804, .int .i64 t805, .int .i64 t806], .int .i64 a2] (by rfl) rfl rfl (by (try simp only [List.map_toArray, List.map_cons, List.map_nil]); first | done | rfl | (simp only [List.length_drop, List.length_take]; rfl)) ?_
              with_reducible refine (impl_TakeFor.calls kj77 _ _ t801 t804 t805 t806 a2 t807 t810 _ ?side1 ?side2 A124.out).mono ?_
              (case side1 => repeat (first | exact (Kd.R_reads' HO803.out).2.2 | (with_reducible refine Kd.C_alloc ?_ _) | (with_reducible refine Kd.C_drewN ?_ _) | (with_reducible refine Kd.C_drew ?_)))
              (case side2 => exact (Kd.R_reads' HO803.out).2.1)
              rintro e w131 ⟨v808, rfl, ho0, hb⟩
              refine ⟨_, rfl, ?_⟩
              have n0_ := Aside0.mk (Kd.R_elder' (Kd.Rq HO_778000.out) (Kd.R_base ho0) hb)
              have n1_ := Aside0.mk (Kd.R_elder' (Kd.Rq HO_782000.out) (Kd.R_base ho0) hb)
              have n2_ := Aside0.mk (Kd.R_elder' (Kd.Rq HO_790000.out) (Kd.R_base ho0) hb)
              have n3_ := Aside0.mk (Kd.R_elder' (Kd.Rq HO803.out) (Kd.R_base ho0) hb)
              have n4_ := Aside0.mk (Kd.R_lower (Kd.R_new' (Kd.R_new' (Kd.R_new' (Kd.R_new' ho0 (Kd.R_lt (Kd.Rq HO_778000.out))) (Kd.R_lt (Kd.Rq HO_782000.out))) (Kd.R_lt (Kd.Rq HO_790000.out))) (Kd.R_lt (Kd.Rq HO803.out))) (below_size (blq HB.out)))
              have n5_ := Aside0.mk (blk_below (bkq BK764.out) hb)
              have n6_ := Aside0.mk (blk_below (bkq BK765.out) hb)
              have n7_ := Aside0.mk (blk_below (bkq BK777.out) hb)
              have n8_ := Aside0.mk (blk_below (bkq BK781.out) hb)
              have n9_ := Aside0.mk (blk_below (bkq BK789.out) hb)
              have n10_ := Aside0.mk (blk_below (bkq BK811.out) hb)
              have n11_ := Aside0.mk (below_step (blq HB.out) hb)
              clear HO_778000
              clear HO_782000
              clear HO_790000
              clear HO803
              clear BK764
              clear BK765
              clear BK777
              clear BK781
              clear BK789
              clear BK811
              clear HB
              have HO_778000 := n0_
              have HO_782000 := n1_
              have HO_790000 := n2_
              have HO803 := n3_
              have HO809 := n4_
              have BK764 := n5_
              have BK765 := n6_
              have BK777 := n7_
              have BK781 := n8_
              have BK789 := n9_
              have BK811 := n10_
              have HB := n11_
              clear n0_ n1_ n2_ n3_ n4_ n5_ n6_ n7_ n8_ n9_ n10_ n11_
              (try clear hb)
              (try clear hb2)
              (try clear hk)
              (try clear hi)
              (try clear ho0)
              refine hK.out _ _ ⟨(blk_cell BK764.out 0).trans rfl, (blk_cell BK765.out 0).trans rfl, (blk_cell BK765.out 1).trans rfl, (blk_cell BK765.out 2).trans rfl⟩ (fun hHeld => ?_)
              clear hK K
              refine norm_ (a' := ?_) ?_ ?_
              rotate_left
              ·
               show Act.put _ (some 89) _ = _
               simp only [Act.put, List.setIfInBounds_toArray, List.set_cons_zero, List.set_cons_succ, i64_w, i32_w]
               rfl
              refine pure_ (i := 6) (N := some 83) (v := ?_) (a' := ?_) #[true, true, true, true, true, true, true, false, false, true, false, false] rfl rfl (any_of HT_.out (by kernel_rfl)) (fun _ _ _ h => h) (Or.inl ⟨by rfl, ?_⟩) ?_ ?_
              rotate_left
              ·
               intro w'
               go_simp
               with_reducible rfl
              rotate_left
              ·
               simp only [Act.put, List.setIfInBounds_toArray, List.set_cons_zero, List.set_cons_succ, i64_w, i32_w]
               rfl
              refine pure_ (i := 7) (N := some 90) (v := ?_) (a' := ?_) #[true, true, true, true, true, true, true, true, false, true, false, false] rfl rfl (any_of HT_.out (by kernel_rfl)) (fun _ _ _ h => h) (Or.inl ⟨by rfl, ?_⟩) ?_ ?_
              rotate_left
              ·
               intro w'
               go_simp
               with_reducible rfl
              rotate_left
              ·
               simp only [Act.put, List.setIfInBounds_toArray, List.set_cons_zero, List.set_cons_succ, i64_w, i32_w]
               rfl
              refine pure_ (i := 8) (N := some 91) (v := ?_) (a' := ?_) #[true, true, true, true, true, true, true, true, true, true, false, false] rfl rfl (any_of HT_.out (by kernel_rfl)) (fun _ _ _ h => h) (Or.inl ⟨by rfl, ?_⟩) ?_ ?_
              rotate_left
              ·
               intro w'
               go_simp
               with_reducible rfl
              rotate_left
              ·
               simp only [Act.put, List.setIfInBounds_toArray, List.set_cons_zero, List.set_cons_succ, i64_w, i32_w]
               rfl
              exact norm_ (by simp only [putAll, Act.put, List.setIfInBounds_toArray, List.set_cons_zero, List.set_cons_succ]) (hCont (.slice Ao130 t801.length co130, v808, gb811) _ ⟨hHeld, (Kd.Rq (Kd.R_mono HO803.out (fun _ hk => ⟨hk.2, ⟨hk.1.1.1.2, ⟨hk.1.1.2, hk.1.2⟩⟩⟩))), (Kd.Rq (Kd.R_mono HO809.out (fun _ hk => ⟨hk.2, ⟨hk.1.1.1.2, ⟨hk.1.1.2, hk.1.2⟩⟩⟩))), (Kd.Rq (Kd.R_mono HO_778000.out (fun _ hk => ⟨hk.1.2, ⟨hk.2, ⟨hk.1.1.1, hk.1.1.2⟩⟩⟩))), (Kd.Rq (Kd.R_mono HO_782000.out (fun _ hk => ⟨hk.1.2, ⟨hk.2, ⟨hk.1.1.1, hk.1.1.2⟩⟩⟩))), (Kd.Rq (Kd.R_mono HO_790000.out (fun _ hk => ⟨hk.1.2, ⟨hk.2, ⟨hk.1.1.1, hk.1.1.2⟩⟩⟩))), (bkq BK764.out), (bkq BK765.out), (bkq BK777.out), (bkq BK781.out), (bkq BK789.out), (bkq BK811.out), GW811.out, GE811.out, NB764_811.out, NB811_764.out, NB765_811.out, NB811_765.out, NB777_811.out, NB811_777.out, NB781_811.out, NB811_781.out, NB789_811.out, NB811_789.out, (blq HB.out)⟩)
            ·
             skip
             refine box_step ?hg (N := 16) ?hd (cs := #[.slice none 0 0]) (t := 54) ?hr ?_; (case hd => rfl); (case hg => rfl); (case hr => first | (go_simp; done) | (go_simp; rfl))
             intro gb811 hg w127 hbox hb
             have n0_ := Aside0.mk (Kd.R_below (Kd.Rq HO_778000.out) hb)
             have n1_ := Aside0.mk (Kd.R_below (Kd.Rq HO_782000.out) hb)
             have n2_ := Aside0.mk (Kd.R_below (Kd.Rq HO_790000.out) hb)
             have n3_ := Aside0.mk (blk_below (bkq BK764.out) hb)
             have n4_ := Aside0.mk (blk_below (bkq BK765.out) hb)
             have n5_ := Aside0.mk (blk_below (bkq BK777.out) hb)
             have n6_ := Aside0.mk (blk_below (bkq BK781.out) hb)
             have n7_ := Aside0.mk (blk_below (bkq BK789.out) hb)
             have n8_ := Aside0.mk (below_step (blq HB.out) hb)
             have n9_ := Aside0.mk (hbox)
             have n10_ := Aside0.mk ((sq hg HB.out))
             have n11_ := Aside0.mk ((sq hg HB.out))
             have n12_ := Aside0.mk ((by rw [hg]; exact Nat.ne_of_lt (blk_lt (bkq BK764.out)) : gb764 ≠ gb811))
             have n13_ := Aside0.mk ((by rw [hg]; exact Nat.ne_of_gt (blk_lt (bkq BK764.out)) : gb811 ≠ gb764))
             have n14_ := Aside0.mk ((by rw [hg]; exact Nat.ne_of_lt (blk_lt (bkq BK765.out)) : gb765 ≠ gb811))
             have n15_ := Aside0.mk ((by rw [hg]; exact Nat.ne_of_gt (blk_lt (bkq BK765.out)) : gb811 ≠ gb765))
             have n16_ := Aside0.mk ((by rw [hg]; exact Nat.ne_of_lt (blk_lt (bkq BK777.out)) : gb777 ≠ gb811))
             have n17_ := Aside0.mk ((by rw [hg]; exact Nat.ne_of_gt (blk_lt (bkq BK777.out)) : gb811 ≠ gb777))
             have n18_ := Aside0.mk ((by rw [hg]; exact Nat.ne_of_lt (blk_lt (bkq BK781.out)) : gb781 ≠ gb811))
             have n19_ := Aside0.mk ((by rw [hg]; exact Nat.ne_of_gt (blk_lt (bkq BK781.out)) : gb811 ≠ gb781))
             have n20_ := Aside0.mk ((by rw [hg]; exact Nat.ne_of_lt (blk_lt (bkq BK789.out)) : gb789 ≠ gb811))
             have n21_ := Aside0.mk ((by rw [hg]; exact Nat.ne_of_gt (blk_lt (bkq BK789.out)) : gb811 ≠ gb789))
             clear HO_778000
             clear HO_782000
             clear HO_790000
             clear BK764
             clear BK765
             clear BK777
             clear BK781
             clear BK789
             clear HB
             have HO_778000 := n0_
             have HO_782000 := n1_
             have HO_790000 := n2_
             have BK764 := n3_
             have BK765 := n4_
             have BK777 := n5_
             have BK781 := n6_
             have BK789 := n7_
             have HB := n8_
             have BK811 := n9_
             have GW811 := n10_
             have GE811 := n11_
             have NB764_811 := n12_
             have NB811_764 := n13_
             have NB765_811 := n14_
             have NB811_765 := n15_
             have NB777_811 := n16_
             have NB811_777 := n17_
             have NB781_811 := n18_
             have NB811_781 := n19_
             have NB789_811 := n20_
             have NB811_789 := n21_
             clear n0_ n1_ n2_ n3_ n4_ n5_ n6_ n7_ n8_ n9_ n10_ n11_ n12_ n13_ n14_ n15_ n16_ n17_ n18_ n19_ n20_ n21_
             clear hb hbox hg
             refine hK.out _ _ ⟨(blk_cell BK764.out 0).trans rfl, (blk_cell BK765.out 0).trans rfl, (blk_cell BK765.out 1).trans rfl, (blk_cell BK765.out 2).trans rfl⟩ (fun hHeld => ?_)
             clear hK K
             refine norm_ (a' := ?_) ?_ ?_
             rotate_left
             ·
              show Act.put _ (some 16) _ = _
              simp only [Act.put, List.setIfInBounds_toArray, List.set_cons_zero, List.set_cons_succ, i64_w, i32_w]
              rfl
             refine one_ (i := 1) (N := some 85) #[true, true, true, false, true, false, false, false, false, true, false, false] rfl rfl (one_of HT_.out (by kernel_rfl)) (by decide) (fun K hK => ?_)
             refine goes_ Try.func32 (by kernel_rfl) rfl #[.agg #[.slice A0_0 l0_0.length c0_0]] (by rfl) rfl rfl (by (try simp only [List.map_toArray, List.map_cons, List.map_nil]); first | done | rfl | (simp only [List.length_drop, List.length_take]; rfl)) ?_
             with_reducible refine (laws_toStock.calls kj77 _ _ l0_0 t801 _ ?side1 ?side2 A122.out).mono ?_
             (case side1 => exact Kd.Cq (Kd.C_below HR0_0.out HB.out))
             (case side2 => exact HC0_0.out)
             rintro e w128 ⟨v802, rfl, ho0, hb⟩
             refine ⟨_, rfl, ?_⟩
             have n0_ := Aside0.mk (Kd.R_elder' (Kd.Rq HO_778000.out) (Kd.R_base ho0) hb)
             have n1_ := Aside0.mk (Kd.R_elder' (Kd.Rq HO_782000.out) (Kd.R_base ho0) hb)
             have n2_ := Aside0.mk (Kd.R_elder' (Kd.Rq HO_790000.out) (Kd.R_base ho0) hb)
             have n3_ := Aside0.mk (Kd.R_lower (Kd.R_new' (Kd.R_new' (Kd.R_new' ho0 (Kd.R_lt (Kd.Rq HO_778000.out))) (Kd.R_lt (Kd.Rq HO_782000.out))) (Kd.R_lt (Kd.Rq HO_790000.out))) (below_size (blq HB.out)))
             have n4_ := Aside0.mk (blk_below (bkq BK764.out) hb)
             have n5_ := Aside0.mk (blk_below (bkq BK765.out) hb)
             have n6_ := Aside0.mk (blk_below (bkq BK777.out) hb)
             have n7_ := Aside0.mk (blk_below (bkq BK781.out) hb)
             have n8_ := Aside0.mk (blk_below (bkq BK789.out) hb)
             have n9_ := Aside0.mk (blk_below (bkq BK811.out) hb)
             have n10_ := Aside0.mk (below_step (blq HB.out) hb)
             clear HO_778000
             clear HO_782000
             clear HO_790000
             clear BK764
             clear BK765
             clear BK777
             clear BK781
             clear BK789
             clear BK811
             clear HB
             have HO_778000 := n0_
             have HO_782000 := n1_
             have HO_790000 := n2_
             have HO803 := n3_
             have BK764 := n4_
             have BK765 := n5_
             have BK777 := n6_
             have BK781 := n7_
             have BK789 := n8_
             have BK811 := n9_
             have HB := n10_
             clear n0_ n1_ n2_ n3_ n4_ n5_ n6_ n7_ n8_ n9_ n10_
             (try clear hb)
             (try clear hb2)
             (try clear hk)
             (try clear hi)
             (try clear ho0)
             refine hK.out _ _ ⟨(blk_cell BK764.out 0).trans rfl, (blk_cell BK765.out 0).trans rfl, (blk_cell BK765.out 1).trans rfl, (blk_cell BK765.out 2).trans rfl⟩ (fun hHeld => ?_)
             clear hK K
             refine norm_ (a' := ?_) ?_ ?_
             rotate_left
             ·
              show Act.put _ (some 85) _ = _
              simp only [Act.put, List.setIfInBounds_toArray, List.set_cons_zero, List.set_cons_succ, i64_w, i32_w]
              rfl
             refine one_ (i := 3) (N := some 87) #[true, true, true, true, true, false, false, false, false, true, false, false] rfl rfl (one_of HT_.out (by kernel_rfl)) (by decide) (fun K hK => ?_)
             refine goes_ Try.func33 (by kernel_rfl) rfl #[.agg #[.int .i64 a1_0, .int .i64 a1_1, .int .i64 a1_2]] (by rfl) rfl rfl (by (try simp only [List.map_toArray, List.map_cons, List.map_nil]); first | done | rfl | (simp only [List.length_drop, List.length_take]; rfl)) ?_
             with_reducible refine (laws_toDough.calls a1_0 a1_1 a1_2 t804 t805 t806 _ A123.out).mono ?_
             rintro e w129 ⟨rfl, hb⟩
             refine ⟨_, rfl, ?_⟩
             have n0_ := Aside0.mk (Kd.R_below (Kd.Rq HO_778000.out) hb)
             have n1_ := Aside0.mk (Kd.R_below (Kd.Rq HO_782000.out) hb)
             have n2_ := Aside0.mk (Kd.R_below (Kd.Rq HO_790000.out) hb)
             have n3_ := Aside0.mk (Kd.R_below (Kd.Rq HO803.out) hb)
             have n4_ := Aside0.mk (blk_below (bkq BK764.out) hb)
             have n5_ := Aside0.mk (blk_below (bkq BK765.out) hb)
             have n6_ := Aside0.mk (blk_below (bkq BK777.out) hb)
             have n7_ := Aside0.mk (blk_below (bkq BK781.out) hb)
             have n8_ := Aside0.mk (blk_below (bkq BK789.out) hb)
             have n9_ := Aside0.mk (blk_below (bkq BK811.out) hb)
             have n10_ := Aside0.mk (below_step (blq HB.out) hb)
             clear HO_778000
             clear HO_782000
             clear HO_790000
             clear HO803
             clear BK764
             clear BK765
             clear BK777
             clear BK781
             clear BK789
             clear BK811
             clear HB
             have HO_778000 := n0_
             have HO_782000 := n1_
             have HO_790000 := n2_
             have HO803 := n3_
             have BK764 := n4_
             have BK765 := n5_
             have BK777 := n6_
             have BK781 := n7_
             have BK789 := n8_
             have BK811 := n9_
             have HB := n10_
             clear n0_ n1_ n2_ n3_ n4_ n5_ n6_ n7_ n8_ n9_ n10_
             (try clear hb)
             (try clear hb2)
             (try clear hk)
             (try clear hi)
             obtain ⟨Ao130, co130, eo130⟩ := Kd.R_slice HO803.out
             (first | subst eo130 | (injection eo130 with f1_ f2_ f3_; have f4_ := f1_.symm; have f5_ := f3_.symm; clear f1_ f2_ f3_; subst f4_; subst f5_))
             refine hK.out _ _ ⟨(blk_cell BK764.out 0).trans rfl, (blk_cell BK765.out 0).trans rfl, (blk_cell BK765.out 1).trans rfl, (blk_cell BK765.out 2).trans rfl⟩ (fun hHeld => ?_)
             clear hK K
             refine norm_ (a' := ?_) ?_ ?_
             rotate_left
             ·
              show Act.put _ (some 87) _ = _
              simp only [Act.put, List.setIfInBounds_toArray, List.set_cons_zero, List.set_cons_succ, i64_w, i32_w]
              rfl
             refine one_ (i := 5) (N := some 89) #[true, true, true, true, true, true, false, false, false, true, false, false] rfl rfl (one_of HT_.out (by kernel_rfl)) (by decide) (fun K hK => ?_)
             refine goes_ Try.func43 (by kernel_rfl) rfl #[.agg #[.slice Ao130 t801.length co130], .agg #[.int .i64 t804, .int .i64 t805, .int .i64 t806], .int .i64 a2] (by rfl) rfl rfl (by (try simp only [List.map_toArray, List.map_cons, List.map_nil]); first | done | rfl | (simp only [List.length_drop, List.length_take]; rfl)) ?_
             with_reducible refine (impl_TakeFor.calls kj77 _ _ t801 t804 t805 t806 a2 t807 t810 _ ?side1 ?side2 A124.out).mono ?_
             (case side1 => repeat (first | exact (Kd.R_reads' HO803.out).2.2 | (with_reducible refine Kd.C_alloc ?_ _) | (with_reducible refine Kd.C_drewN ?_ _) | (with_reducible refine Kd.C_drew ?_)))
             (case side2 => exact (Kd.R_reads' HO803.out).2.1)
             rintro e w131 ⟨v808, rfl, ho0, hb⟩
             refine ⟨_, rfl, ?_⟩
             have n0_ := Aside0.mk (Kd.R_elder' (Kd.Rq HO_778000.out) (Kd.R_base ho0) hb)
             have n1_ := Aside0.mk (Kd.R_elder' (Kd.Rq HO_782000.out) (Kd.R_base ho0) hb)
             have n2_ := Aside0.mk (Kd.R_elder' (Kd.Rq HO_790000.out) (Kd.R_base ho0) hb)
             have n3_ := Aside0.mk (Kd.R_elder' (Kd.Rq HO803.out) (Kd.R_base ho0) hb)
             have n4_ := Aside0.mk (Kd.R_lower (Kd.R_new' (Kd.R_new' (Kd.R_new' (Kd.R_new' ho0 (Kd.R_lt (Kd.Rq HO_778000.out))) (Kd.R_lt (Kd.Rq HO_782000.out))) (Kd.R_lt (Kd.Rq HO_790000.out))) (Kd.R_lt (Kd.Rq HO803.out))) (below_size (blq HB.out)))
             have n5_ := Aside0.mk (blk_below (bkq BK764.out) hb)
             have n6_ := Aside0.mk (blk_below (bkq BK765.out) hb)
             have n7_ := Aside0.mk (blk_below (bkq BK777.out) hb)
             have n8_ := Aside0.mk (blk_below (bkq BK781.out) hb)
             have n9_ := Aside0.mk (blk_below (bkq BK789.out) hb)
             have n10_ := Aside0.mk (blk_below (bkq BK811.out) hb)
             have n11_ := Aside0.mk (below_step (blq HB.out) hb)
             clear HO_778000
             clear HO_782000
             clear HO_790000
             clear HO803
             clear BK764
             clear BK765
             clear BK777
             clear BK781
             clear BK789
             clear BK811
             clear HB
             have HO_778000 := n0_
             have HO_782000 := n1_
             have HO_790000 := n2_
             have HO803 := n3_
             have HO809 := n4_
             have BK764 := n5_
             have BK765 := n6_
             have BK777 := n7_
             have BK781 := n8_
             have BK789 := n9_
             have BK811 := n10_
             have HB := n11_
             clear n0_ n1_ n2_ n3_ n4_ n5_ n6_ n7_ n8_ n9_ n10_ n11_
             (try clear hb)
             (try clear hb2)
             (try clear hk)
             (try clear hi)
             (try clear ho0)
             refine hK.out _ _ ⟨(blk_cell BK764.out 0).trans rfl, (blk_cell BK765.out 0).trans rfl, (blk_cell BK765.out 1).trans rfl, (blk_cell BK765.out 2).trans rfl⟩ (fun hHeld => ?_)
             clear hK K
             refine norm_ (a' := ?_) ?_ ?_
             rotate_left
             ·
              show Act.put _ (some 89) _ = _
              simp only [Act.put, List.setIfInBounds_toArray, List.set_cons_zero, List.set_cons_succ, i64_w, i32_w]
              rfl
             refine pure_ (i := 6) (N := some 83) (v := ?_) (a' := ?_) #[true, true, true, true, true, true, true, false, false, true, false, false] rfl rfl (any_of HT_.out (by kernel_rfl)) (fun _ _ _ h => h) (Or.inl ⟨by rfl, ?_⟩) ?_ ?_
             rotate_left
             ·
              intro w'
              go_simp
              with_reducible rfl
             rotate_left
             ·
              simp only [Act.put, List.setIfInBounds_toArray, List.set_cons_zero, List.set_cons_succ, i64_w, i32_w]
              rfl
             refine pure_ (i := 7) (N := some 90) (v := ?_) (a' := ?_) #[true, true, true, true, true, true, true, true, false, true, false, false] rfl rfl (any_of HT_.out (by kernel_rfl)) (fun _ _ _ h => h) (Or.inl ⟨by rfl, ?_⟩) ?_ ?_
             rotate_left
             ·
              intro w'
              go_simp
              with_reducible rfl
             rotate_left
             ·
              simp only [Act.put, List.setIfInBounds_toArray, List.set_cons_zero, List.set_cons_succ, i64_w, i32_w]
              rfl
             refine pure_ (i := 8) (N := some 91) (v := ?_) (a' := ?_) #[true, true, true, true, true, true, true, true, true, true, false, false] rfl rfl (any_of HT_.out (by kernel_rfl)) (fun _ _ _ h => h) (Or.inl ⟨by rfl, ?_⟩) ?_ ?_
             rotate_left
             ·
              intro w'
              go_simp
              with_reducible rfl
             rotate_left
             ·
              simp only [Act.put, List.setIfInBounds_toArray, List.set_cons_zero, List.set_cons_succ, i64_w, i32_w]
              rfl
             exact norm_ (by simp only [putAll, Act.put, List.setIfInBounds_toArray, List.set_cons_zero, List.set_cons_succ]) (hCont (.slice Ao130 t801.length co130, v808, gb811) _ ⟨hHeld, (Kd.Rq (Kd.R_mono HO803.out (fun _ hk => ⟨hk.2, ⟨hk.1.1.1.2, ⟨hk.1.1.2, hk.1.2⟩⟩⟩))), (Kd.Rq (Kd.R_mono HO809.out (fun _ hk => ⟨hk.2, ⟨hk.1.1.1.2, ⟨hk.1.1.2, hk.1.2⟩⟩⟩))), (Kd.Rq (Kd.R_mono HO_778000.out (fun _ hk => ⟨hk.1.2, ⟨hk.2, ⟨hk.1.1.1, hk.1.1.2⟩⟩⟩))), (Kd.Rq (Kd.R_mono HO_782000.out (fun _ hk => ⟨hk.1.2, ⟨hk.2, ⟨hk.1.1.1, hk.1.1.2⟩⟩⟩))), (Kd.Rq (Kd.R_mono HO_790000.out (fun _ hk => ⟨hk.1.2, ⟨hk.2, ⟨hk.1.1.1, hk.1.1.2⟩⟩⟩))), (bkq BK764.out), (bkq BK765.out), (bkq BK777.out), (bkq BK781.out), (bkq BK789.out), (bkq BK811.out), GW811.out, GE811.out, NB764_811.out, NB811_764.out, NB765_811.out, NB811_765.out, NB777_811.out, NB811_777.out, NB781_811.out, NB811_781.out, NB789_811.out, NB811_789.out, (blq HB.out)⟩)
           rintro ⟨v802, v808, gb811⟩ w132 ⟨hS_, h0_, h1_, h2_, h3_, h4_, h5_, h6_, h7_, h8_, h9_, h10_, h11_, h12_, h13_, h14_, h15_, h16_, h17_, h18_, h19_, h20_, h21_, h22_, h23_⟩
           have n0_ : Aside0 (Kd.R (Kd.int .i64) 3 w132 w.heap.size (fun k_ => some k_ ≠ (v808 : Value).ownBlock ∧ some k_ ≠ (.slice Ao26 t773.length co26 : Value).ownBlock ∧ some k_ ≠ (.slice Ao33 t796.length co33 : Value).ownBlock ∧ some k_ ≠ (.slice Ao44 t785.length co44 : Value).ownBlock) v802 t801) := ⟨h0_⟩
           have n1_ : Aside0 (Kd.R (Kd.int .i64) 3 w132 w.heap.size (fun k_ => some k_ ≠ (v802 : Value).ownBlock ∧ some k_ ≠ (.slice Ao26 t773.length co26 : Value).ownBlock ∧ some k_ ≠ (.slice Ao33 t796.length co33 : Value).ownBlock ∧ some k_ ≠ (.slice Ao44 t785.length co44 : Value).ownBlock) v808 t807) := ⟨h1_⟩
           have n2_ : Aside0 (Kd.R (Kd.int .i64) 3 w132 w.heap.size (fun k_ => some k_ ≠ (v802 : Value).ownBlock ∧ some k_ ≠ (v808 : Value).ownBlock ∧ some k_ ≠ (.slice Ao33 t796.length co33 : Value).ownBlock ∧ some k_ ≠ (.slice Ao44 t785.length co44 : Value).ownBlock) (.slice Ao26 t773.length co26) t773) := ⟨h2_⟩
           have n3_ : Aside0 (Kd.R (Kd.int .i64) 3 w132 w.heap.size (fun k_ => some k_ ≠ (v802 : Value).ownBlock ∧ some k_ ≠ (v808 : Value).ownBlock ∧ some k_ ≠ (.slice Ao26 t773.length co26 : Value).ownBlock ∧ some k_ ≠ (.slice Ao44 t785.length co44 : Value).ownBlock) (.slice Ao33 t796.length co33) t796) := ⟨h3_⟩
           have n4_ : Aside0 (Kd.R (Kd.int .i64) 3 w132 w.heap.size (fun k_ => some k_ ≠ (v802 : Value).ownBlock ∧ some k_ ≠ (v808 : Value).ownBlock ∧ some k_ ≠ (.slice Ao26 t773.length co26 : Value).ownBlock ∧ some k_ ≠ (.slice Ao33 t796.length co33 : Value).ownBlock) (.slice Ao44 t785.length co44) t799) := ⟨h4_⟩
           have n5_ : Aside0 (w132.heap[gb764]? = some (.cells #[.slice A0_0 l0_0.length c0_0] 49 (0, 0))) := ⟨h5_⟩
           have n6_ : Aside0 (w132.heap[gb765]? = some (.cells #[.int .i64 a1_0, .int .i64 a1_1, .int .i64 a1_2] 51 (0, 0))) := ⟨h6_⟩
           have n7_ : Aside0 (w132.heap[gb777]? = some (.cells #[.slice Ao26 t773.length co26] 54 (0, 0))) := ⟨h7_⟩
           have n8_ : Aside0 (w132.heap[gb781]? = some (.cells #[.slice Ao33 t796.length co33] 54 (0, 0))) := ⟨h8_⟩
           have n9_ : Aside0 (w132.heap[gb789]? = some (.cells #[.slice Ao44 t785.length co44] 54 (0, 0))) := ⟨h9_⟩
           have n10_ : Aside0 (w132.heap[gb811]? = some (.cells #[.slice none 0 0] 54 (0, 0))) := ⟨h10_⟩
           have n11_ : Aside0 (w.heap.size ≤ gb811) := ⟨h11_⟩
           have n12_ : Aside0 (w.heap.size ≤ gb811) := ⟨h12_⟩
           have n13_ : Aside0 (gb764 ≠ gb811) := ⟨h13_⟩
           have n14_ : Aside0 (gb811 ≠ gb764) := ⟨h14_⟩
           have n15_ : Aside0 (gb765 ≠ gb811) := ⟨h15_⟩
           have n16_ : Aside0 (gb811 ≠ gb765) := ⟨h16_⟩
           have n17_ : Aside0 (gb777 ≠ gb811) := ⟨h17_⟩
           have n18_ : Aside0 (gb811 ≠ gb777) := ⟨h18_⟩
           have n19_ : Aside0 (gb781 ≠ gb811) := ⟨h19_⟩
           have n20_ : Aside0 (gb811 ≠ gb781) := ⟨h20_⟩
           have n21_ : Aside0 (gb789 ≠ gb811) := ⟨h21_⟩
           have n22_ : Aside0 (gb811 ≠ gb789) := ⟨h22_⟩
           have n23_ : Aside0 (Below w.heap.size w w132) := ⟨h23_⟩
           clear HO_778000
           clear HO_782000
           clear HO_790000
           clear BK764
           clear BK765
           clear BK777
           clear BK781
           clear BK789
           clear HB
           clear h0_ h1_ h2_ h3_ h4_ h5_ h6_ h7_ h8_ h9_ h10_ h11_ h12_ h13_ h14_ h15_ h16_ h17_ h18_ h19_ h20_ h21_ h22_ h23_
           have HO803 := n0_
           have HO809 := n1_
           have HO_778000 := n2_
           have HO_782000 := n3_
           have HO_790000 := n4_
           have BK764 := n5_
           have BK765 := n6_
           have BK777 := n7_
           have BK781 := n8_
           have BK789 := n9_
           have BK811 := n10_
           have GW811 := n11_
           have GE811 := n12_
           have NB764_811 := n13_
           have NB811_764 := n14_
           have NB765_811 := n15_
           have NB811_765 := n16_
           have NB777_811 := n17_
           have NB811_777 := n18_
           have NB781_811 := n19_
           have NB811_781 := n20_
           have NB789_811 := n21_
           have NB811_789 := n22_
           have HB := n23_
           clear n0_ n1_ n2_ n3_ n4_ n5_ n6_ n7_ n8_ n9_ n10_ n11_ n12_ n13_ n14_ n15_ n16_ n17_ n18_ n19_ n20_ n21_ n22_ n23_
           have hHeld : w132.cell? ⟨gb764, 0, none⟩ = some (.slice A0_0 l0_0.length c0_0) ∧ w132.cell? ⟨gb765, 0, none⟩ = some (.int .i64 a1_0) ∧ w132.cell? ⟨gb765, 1, none⟩ = some (.int .i64 a1_1) ∧ w132.cell? ⟨gb765, 2, none⟩ = some (.int .i64 a1_2) := hS_
           obtain ⟨Ao133, co133, eo133⟩ := Kd.R_slice HO809.out
           (first | subst eo133 | (injection eo133 with f1_ f2_ f3_; have f4_ := f1_.symm; have f5_ := f3_.symm; clear f1_ f2_ f3_; subst f4_; subst f5_))
           refine norm_ (a' := ?_) ?_ ?_
           rotate_left
           ·
            simp only [putAll, Act.put, List.setIfInBounds_toArray, List.set_cons_zero, List.set_cons_succ]
            rfl
           refine one_ (i := 10) (N := none) #[true, true, true, true, true, true, true, true, true, true, true, false] rfl rfl (one_of HT_.out (by kernel_rfl)) (by decide) (fun K hK => ?_)
           have hs134 : w132.cell? ⟨gb811, 0, none⟩ = some (.slice none 0 0) := (blk_cell BK811.out 0).trans rfl
           have hfs134 := blk_frozen BK811.out 0
           have hns134_0 := NB764_811.out
           have hns134_1 := NB765_811.out
           have hns134_2 := NB777_811.out
           have hns134_3 := NB781_811.out
           have hns134_4 := NB789_811.out
           have hms134_0 := NB811_764.out
           have hms134_1 := NB811_765.out
           have hms134_2 := NB811_777.out
           have hms134_3 := NB811_781.out
           have hms134_4 := NB811_789.out
           refine skip_ (w1 := ?_) (by rfl) rfl ?_ ?_
           rotate_left
           ·
            go_simp
            rfl
           refine hK.out _ _ ⟨((cell_far (p := ⟨gb811, _, none⟩) NB764_811.out _).trans (hHeld.1)), ((cell_far (p := ⟨gb811, _, none⟩) NB765_811.out _).trans (hHeld.2.1)), ((cell_far (p := ⟨gb811, _, none⟩) NB765_811.out _).trans (hHeld.2.2.1)), ((cell_far (p := ⟨gb811, _, none⟩) NB765_811.out _).trans (hHeld.2.2.2))⟩ (fun hHeld => ?_)
           clear hK K
           refine pure_ (i := 11) (N := some 17) (v := ?_) (a' := ?_) #[true, true, true, true, true, true, true, true, true, true, true, true] rfl rfl (any_of HT_.out (by kernel_rfl)) (fun _ _ _ h => h) (Or.inl ⟨by rfl, ?_⟩) ?_ ?_
           rotate_left
           ·
            intro w'
            go_simp
            with_reducible rfl
           rotate_left
           ·
            simp only [Act.put, List.setIfInBounds_toArray, List.set_cons_zero, List.set_cons_succ, i64_w, i32_w]
            rfl
           refine done_ (done_of HT_.out (by kernel_rfl)) ?_
           go_upto_region 25 with (fail)
           go_cut [100] (fun v100 wc => ∃ (kq : Nat) (x100_124 : Bool), v100 = .bool x100_124 ∧ Aside0 (laws_FnExactTakeFor.j2 kq t798 x100_124 t799 = some r) ∧ Aside0 (kq ≤ kj77) ∧ Aside0 (Kd.R (Kd.int .i64) 3 wc w.heap.size (fun k_ => some k_ ≠ ((.slice Ao33 t796.length co33) : Value).ownBlock ∧ some k_ ≠ ((.slice Ao44 t785.length co44) : Value).ownBlock ∧ some k_ ≠ ((.slice Ao133 t807.length co133) : Value).ownBlock) (.slice Ao26 t773.length co26) t773) ∧ Aside0 (Kd.R (Kd.int .i64) 3 wc w.heap.size (fun k_ => some k_ ≠ ((.slice Ao26 t773.length co26) : Value).ownBlock ∧ some k_ ≠ ((.slice Ao44 t785.length co44) : Value).ownBlock ∧ some k_ ≠ ((.slice Ao133 t807.length co133) : Value).ownBlock) (.slice Ao33 t796.length co33) t796) ∧ Aside0 (Kd.R (Kd.int .i64) 3 wc w.heap.size (fun k_ => some k_ ≠ ((.slice Ao26 t773.length co26) : Value).ownBlock ∧ some k_ ≠ ((.slice Ao33 t796.length co33) : Value).ownBlock ∧ some k_ ≠ ((.slice Ao133 t807.length co133) : Value).ownBlock) (.slice Ao44 t785.length co44) t799) ∧ Aside0 (Kd.R (Kd.int .i64) 3 wc w.heap.size (fun k_ => some k_ ≠ ((.slice Ao26 t773.length co26) : Value).ownBlock ∧ some k_ ≠ ((.slice Ao33 t796.length co33) : Value).ownBlock ∧ some k_ ≠ ((.slice Ao44 t785.length co44) : Value).ownBlock) (.slice Ao133 t807.length co133) t807) ∧ Aside0 (wc.heap[gb764]? = some (.cells #[(.slice A0_0 l0_0.length c0_0)] 49 (0, 0))) ∧ Aside0 (wc.heap[gb765]? = some (.cells #[.int .i64 a1_0, .int .i64 a1_1, .int .i64 a1_2] 51 (0, 0))) ∧ Aside0 (wc.heap[gb777]? = some (.cells #[(.slice Ao26 t773.length co26)] 54 (0, 0))) ∧ Aside0 (wc.heap[gb781]? = some (.cells #[(.slice Ao33 t796.length co33)] 54 (0, 0))) ∧ Aside0 (wc.heap[gb789]? = some (.cells #[(.slice Ao44 t785.length co44)] 54 (0, 0))) ∧ Aside0 (wc.heap[gb811]? = some (.cells #[(.slice Ao133 t807.length co133)] 54 (0, 0))) ∧ Aside0 (Below w.heap.size w wc))
           case first =>
            have H := HC125.out
            clear HC125
            replace H := Option.bind_eq_some_iff.mp H
            obtain ⟨t812, A1350, H⟩ := H
            replace H : (if t812 = true then (laws_FnExactTakeFor.j2 kj77 t798 (t810 != t776) t799) else (laws_FnExactTakeFor.j2 kj77 t798 true t799)) = some r := H
            have A135 := Aside0.mk A1350
            clear A1350
            by_cases c136 : t812 = true
            ·
             subst c136
             have H1 : (laws_FnExactTakeFor.j2 kj77 t798 (t810 != t776) t799) = some r := by rw [if_pos rfl] at H; exact H
             clear H
             have H := H1
             clear H1
             have H' := Aside0.mk H
             clear H
             have hnb137 := NB811_764.out
             have hnc137 := NB764_811.out
             have hnb138 := NB811_765.out
             have hnc138 := NB765_811.out
             have hnb139 := NB811_777.out
             have hnc139 := NB777_811.out
             have hnb140 := NB811_781.out
             have hnc140 := NB781_811.out
             have hnb141 := NB811_789.out
             have hnc141 := NB789_811.out
             have hcz142_0 : w132.cell? ⟨gb811, 0, none⟩ = some (.slice none 0 0) := (blk_cell BK811.out 0).trans rfl
             have hfz142_0 := blk_frozen BK811.out 0
             have hnb143 := NB777_764.out
             have hnc143 := NB764_777.out
             have hnb144 := NB777_765.out
             have hnc144 := NB765_777.out
             have hnb145 := NB777_781.out
             have hnc145 := NB781_777.out
             have hnb146 := NB777_789.out
             have hnc146 := NB789_777.out
             have hcz147_0 : w132.cell? ⟨gb777, 0, none⟩ = some (.slice Ao26 t773.length co26) := (blk_cell BK777.out 0).trans rfl
             have hfz147_0 := blk_frozen BK777.out 0
             go_wp2_with (first | ((with_reducible refine gate_callee (f := 35) rfl ?_); refine gLq (some 94) Try.func35 #[.agg #[.slice Ao133 t807.length co133], .agg #[.slice Ao26 t773.length co26]] ?_; (with_reducible refine (laws_eqStock.calls kj77 _ _ t807 _ _ t773 true _ ?side1 ?side2 ?side3 ?side4 A135.out).mono ?_); (case side1 => refine (Kd.R_reads' (e := 3) (base := w.heap.size) (ok := fun k_ => (some k_ ≠ (v802 : Value).ownBlock ∧ (some k_ ≠ (.slice Ao26 t773.length co26 : Value).ownBlock ∧ (some k_ ≠ (.slice Ao33 t796.length co33 : Value).ownBlock ∧ some k_ ≠ (.slice Ao44 t785.length co44 : Value).ownBlock)))) (n := t807.length) (c := co133) ?_).2.2; exact (Kd.Rq (Kd.R_mono (Kd.R_far (p := ⟨gb811, 0, none⟩) (Kd.R_types HO809.out BK811.out (by decide)) (fun _ hk => hk.2) (.slice Ao133 t807.length co133)) (fun _ h_ => h_.1)))); (case side2 => exact (Kd.R_reads' HO809.out).2.1); (case side3 => refine (Kd.R_reads' (e := 3) (base := w.heap.size) (ok := fun k_ => (some k_ ≠ (v802 : Value).ownBlock ∧ (some k_ ≠ (.slice Ao133 t807.length co133 : Value).ownBlock ∧ (some k_ ≠ (.slice Ao33 t796.length co33 : Value).ownBlock ∧ some k_ ≠ (.slice Ao44 t785.length co44 : Value).ownBlock)))) (n := t773.length) (c := co26) ?_).2.2; exact (Kd.Rq (Kd.R_mono (Kd.R_far (p := ⟨gb811, 0, none⟩) (Kd.R_types HO_778000.out BK811.out (by decide)) (fun _ hk => hk.2) (.slice Ao133 t807.length co133)) (fun _ h_ => h_.1)))); (case side4 => exact (Kd.R_reads' HO_778000.out).2.1); rintro e w148 ⟨rfl, hb⟩; refine ⟨_, rfl, ?_⟩; have n0_ := Aside0.mk (Kd.R_below (Kd.Rq (Kd.R_mono (Kd.R_far (p := ⟨gb811, 0, none⟩) (Kd.R_types HO_778000.out BK811.out (by decide)) (fun _ hk => hk.2) (.slice Ao133 t807.length co133)) (fun _ h_ => h_.1))) hb); have n1_ := Aside0.mk (Kd.R_below (Kd.Rq (Kd.R_mono (Kd.R_far (p := ⟨gb811, 0, none⟩) (Kd.R_types HO_782000.out BK811.out (by decide)) (fun _ hk => hk.2) (.slice Ao133 t807.length co133)) (fun _ h_ => h_.1))) hb); have n2_ := Aside0.mk (Kd.R_below (Kd.Rq (Kd.R_mono (Kd.R_far (p := ⟨gb811, 0, none⟩) (Kd.R_types HO_790000.out BK811.out (by decide)) (fun _ hk => hk.2) (.slice Ao133 t807.length co133)) (fun _ h_ => h_.1))) hb); have n3_ := Aside0.mk (Kd.R_below (Kd.Rq (Kd.R_mono (Kd.R_far (p := ⟨gb811, 0, none⟩) (Kd.R_types HO803.out BK811.out (by decide)) (fun _ hk => hk.2) (.slice Ao133 t807.length co133)) (fun _ h_ => h_.1))) hb); have n4_ := Aside0.mk (Kd.R_below (Kd.Rq (Kd.R_mono (Kd.R_far (p := ⟨gb811, 0, none⟩) (Kd.R_types HO809.out BK811.out (by decide)) (fun _ hk => hk.2) (.slice Ao133 t807.length co133)) (fun _ h_ => h_.1))) hb); have n5_ := Aside0.mk (blk_below (g := gb764) (o := .cells #[.slice A0_0 l0_0.length c0_0] 49 (0, 0)) (by (with_reducible repeat (first | refine blk_drewN ?_ _ | refine blk_drew ?_ | refine blk_alloc ?_ _)); refine blk_far ?_ NB764_811.out _; (with_reducible repeat (first | refine blk_drewN ?_ _ | refine blk_drew ?_ | refine blk_alloc ?_ _)); exact BK764.out) hb); have n6_ := Aside0.mk (blk_below (g := gb765) (o := .cells #[.int .i64 a1_0, .int .i64 a1_1, .int .i64 a1_2] 51 (0, 0)) (by (with_reducible repeat (first | refine blk_drewN ?_ _ | refine blk_drew ?_ | refine blk_alloc ?_ _)); refine blk_far ?_ NB765_811.out _; (with_reducible repeat (first | refine blk_drewN ?_ _ | refine blk_drew ?_ | refine blk_alloc ?_ _)); exact BK765.out) hb); have n7_ := Aside0.mk (blk_below (g := gb777) (o := .cells #[.slice Ao26 t773.length co26] 54 (0, 0)) (by (with_reducible repeat (first | refine blk_drewN ?_ _ | refine blk_drew ?_ | refine blk_alloc ?_ _)); refine blk_far ?_ NB777_811.out _; (with_reducible repeat (first | refine blk_drewN ?_ _ | refine blk_drew ?_ | refine blk_alloc ?_ _)); exact BK777.out) hb); have n8_ := Aside0.mk (blk_below (g := gb781) (o := .cells #[.slice Ao33 t796.length co33] 54 (0, 0)) (by (with_reducible repeat (first | refine blk_drewN ?_ _ | refine blk_drew ?_ | refine blk_alloc ?_ _)); refine blk_far ?_ NB781_811.out _; (with_reducible repeat (first | refine blk_drewN ?_ _ | refine blk_drew ?_ | refine blk_alloc ?_ _)); exact BK781.out) hb); have n9_ := Aside0.mk (blk_below (g := gb789) (o := .cells #[.slice Ao44 t785.length co44] 54 (0, 0)) (by (with_reducible repeat (first | refine blk_drewN ?_ _ | refine blk_drew ?_ | refine blk_alloc ?_ _)); refine blk_far ?_ NB789_811.out _; (with_reducible repeat (first | refine blk_drewN ?_ _ | refine blk_drew ?_ | refine blk_alloc ?_ _)); exact BK789.out) hb); have n10_ := Aside0.mk (blk_below (g := gb811) (o := .cells #[.slice Ao133 t807.length co133] 54 (0, 0)) (by (with_reducible repeat (first | refine blk_drewN ?_ _ | refine blk_drew ?_ | refine blk_alloc ?_ _)); refine blk_put (cs := #[.slice none 0 0]) ?_ 0 _ rfl; (with_reducible repeat (first | refine blk_drewN ?_ _ | refine blk_drew ?_ | refine blk_alloc ?_ _)); exact BK811.out) hb); have n11_ := Aside0.mk (below_step (blq HB.out) hb); clear HO_778000; clear HO_782000; clear HO_790000; clear HO803; clear HO809; clear BK764; clear BK765; clear BK777; clear BK781; clear BK789; clear BK811; clear HB; have HO_778000 := n0_; have HO_782000 := n1_; have HO_790000 := n2_; have HO803 := n3_; have HO809 := n4_; have BK764 := n5_; have BK765 := n6_; have BK777 := n7_; have BK781 := n8_; have BK789 := n9_; have BK811 := n10_; have HB := n11_; clear n0_ n1_ n2_ n3_ n4_ n5_ n6_ n7_ n8_ n9_ n10_ n11_; (try clear hb); (try clear hb2); (try clear hk); (try clear hi)))
             go_meet
             case rel => exact ⟨_, ((t810 != t776)), (by first | rfl | (simp; done) | (simp [*]; done)), H', ⟨by have := HJ17.out; have := HJ77.out; first | omega | exact Nat.le_refl _⟩, ⟨by (try simp only [hl782000_77]); (with_reducible repeat (first | apply Kd.R_alloc | apply Kd.R_drewN | apply Kd.R_drew)); exact Kd.R_mono HO_778000.out (fun _ hk => ⟨hk.2.2.1, ⟨hk.2.2.2, hk.2.1⟩⟩)⟩, ⟨by (try simp only [hl782000_77]); (with_reducible repeat (first | apply Kd.R_alloc | apply Kd.R_drewN | apply Kd.R_drew)); exact Kd.R_mono HO_782000.out (fun _ hk => ⟨hk.2.2.1, ⟨hk.2.2.2, hk.2.1⟩⟩)⟩, ⟨by (try simp only [hl782000_77]); (with_reducible repeat (first | apply Kd.R_alloc | apply Kd.R_drewN | apply Kd.R_drew)); exact Kd.R_mono HO_790000.out (fun _ hk => ⟨hk.2.2.1, ⟨hk.2.2.2, hk.2.1⟩⟩)⟩, ⟨by (try simp only [hl782000_77]); (with_reducible repeat (first | apply Kd.R_alloc | apply Kd.R_drewN | apply Kd.R_drew)); exact Kd.R_mono HO809.out (fun _ hk => ⟨hk.2.1, ⟨hk.2.2.1, hk.2.2.2⟩⟩)⟩, ⟨by (try simp only [hl782000_77]); (with_reducible repeat (first | refine blk_drewN ?_ _ | refine blk_drew ?_ | refine blk_alloc ?_ _)); exact BK764.out⟩, ⟨by (try simp only [hl782000_77]); (with_reducible repeat (first | refine blk_drewN ?_ _ | refine blk_drew ?_ | refine blk_alloc ?_ _)); exact BK765.out⟩, ⟨by (try simp only [hl782000_77]); (with_reducible repeat (first | refine blk_drewN ?_ _ | refine blk_drew ?_ | refine blk_alloc ?_ _)); exact BK777.out⟩, ⟨by (try simp only [hl782000_77]); (with_reducible repeat (first | refine blk_drewN ?_ _ | refine blk_drew ?_ | refine blk_alloc ?_ _)); exact BK781.out⟩, ⟨by (try simp only [hl782000_77]); (with_reducible repeat (first | refine blk_drewN ?_ _ | refine blk_drew ?_ | refine blk_alloc ?_ _)); exact BK789.out⟩, ⟨by (try simp only [hl782000_77]); (with_reducible repeat (first | refine blk_drewN ?_ _ | refine blk_drew ?_ | refine blk_alloc ?_ _)); exact BK811.out⟩, ⟨blq HB.out⟩⟩
            ·
             replace c136 := Bool.eq_false_iff.mpr c136
             subst c136
             have H1 : (laws_FnExactTakeFor.j2 kj77 t798 true t799) = some r := by rw [if_neg (show ¬ (false = true) by decide)] at H; exact H
             clear H
             have H := H1
             clear H1
             have H' := Aside0.mk H
             clear H
             have hnb149 := NB811_764.out
             have hnc149 := NB764_811.out
             have hnb150 := NB811_765.out
             have hnc150 := NB765_811.out
             have hnb151 := NB811_777.out
             have hnc151 := NB777_811.out
             have hnb152 := NB811_781.out
             have hnc152 := NB781_811.out
             have hnb153 := NB811_789.out
             have hnc153 := NB789_811.out
             have hcz154_0 : w132.cell? ⟨gb811, 0, none⟩ = some (.slice none 0 0) := (blk_cell BK811.out 0).trans rfl
             have hfz154_0 := blk_frozen BK811.out 0
             have hnb155 := NB777_764.out
             have hnc155 := NB764_777.out
             have hnb156 := NB777_765.out
             have hnc156 := NB765_777.out
             have hnb157 := NB777_781.out
             have hnc157 := NB781_777.out
             have hnb158 := NB777_789.out
             have hnc158 := NB789_777.out
             have hcz159_0 : w132.cell? ⟨gb777, 0, none⟩ = some (.slice Ao26 t773.length co26) := (blk_cell BK777.out 0).trans rfl
             have hfz159_0 := blk_frozen BK777.out 0
             go_wp2_with (first | ((with_reducible refine gate_callee (f := 35) rfl ?_); refine gLq (some 94) Try.func35 #[.agg #[.slice Ao133 t807.length co133], .agg #[.slice Ao26 t773.length co26]] ?_; (with_reducible refine (laws_eqStock.calls kj77 _ _ t807 _ _ t773 false _ ?side1 ?side2 ?side3 ?side4 A135.out).mono ?_); (case side1 => refine (Kd.R_reads' (e := 3) (base := w.heap.size) (ok := fun k_ => (some k_ ≠ (v802 : Value).ownBlock ∧ (some k_ ≠ (.slice Ao26 t773.length co26 : Value).ownBlock ∧ (some k_ ≠ (.slice Ao33 t796.length co33 : Value).ownBlock ∧ some k_ ≠ (.slice Ao44 t785.length co44 : Value).ownBlock)))) (n := t807.length) (c := co133) ?_).2.2; exact (Kd.Rq (Kd.R_mono (Kd.R_far (p := ⟨gb811, 0, none⟩) (Kd.R_types HO809.out BK811.out (by decide)) (fun _ hk => hk.2) (.slice Ao133 t807.length co133)) (fun _ h_ => h_.1)))); (case side2 => exact (Kd.R_reads' HO809.out).2.1); (case side3 => refine (Kd.R_reads' (e := 3) (base := w.heap.size) (ok := fun k_ => (some k_ ≠ (v802 : Value).ownBlock ∧ (some k_ ≠ (.slice Ao133 t807.length co133 : Value).ownBlock ∧ (some k_ ≠ (.slice Ao33 t796.length co33 : Value).ownBlock ∧ some k_ ≠ (.slice Ao44 t785.length co44 : Value).ownBlock)))) (n := t773.length) (c := co26) ?_).2.2; exact (Kd.Rq (Kd.R_mono (Kd.R_far (p := ⟨gb811, 0, none⟩) (Kd.R_types HO_778000.out BK811.out (by decide)) (fun _ hk => hk.2) (.slice Ao133 t807.length co133)) (fun _ h_ => h_.1)))); (case side4 => exact (Kd.R_reads' HO_778000.out).2.1); rintro e w160 ⟨rfl, hb⟩; refine ⟨_, rfl, ?_⟩; have n0_ := Aside0.mk (Kd.R_below (Kd.Rq (Kd.R_mono (Kd.R_far (p := ⟨gb811, 0, none⟩) (Kd.R_types HO_778000.out BK811.out (by decide)) (fun _ hk => hk.2) (.slice Ao133 t807.length co133)) (fun _ h_ => h_.1))) hb); have n1_ := Aside0.mk (Kd.R_below (Kd.Rq (Kd.R_mono (Kd.R_far (p := ⟨gb811, 0, none⟩) (Kd.R_types HO_782000.out BK811.out (by decide)) (fun _ hk => hk.2) (.slice Ao133 t807.length co133)) (fun _ h_ => h_.1))) hb); have n2_ := Aside0.mk (Kd.R_below (Kd.Rq (Kd.R_mono (Kd.R_far (p := ⟨gb811, 0, none⟩) (Kd.R_types HO_790000.out BK811.out (by decide)) (fun _ hk => hk.2) (.slice Ao133 t807.length co133)) (fun _ h_ => h_.1))) hb); have n3_ := Aside0.mk (Kd.R_below (Kd.Rq (Kd.R_mono (Kd.R_far (p := ⟨gb811, 0, none⟩) (Kd.R_types HO803.out BK811.out (by decide)) (fun _ hk => hk.2) (.slice Ao133 t807.length co133)) (fun _ h_ => h_.1))) hb); have n4_ := Aside0.mk (Kd.R_below (Kd.Rq (Kd.R_mono (Kd.R_far (p := ⟨gb811, 0, none⟩) (Kd.R_types HO809.out BK811.out (by decide)) (fun _ hk => hk.2) (.slice Ao133 t807.length co133)) (fun _ h_ => h_.1))) hb); have n5_ := Aside0.mk (blk_below (g := gb764) (o := .cells #[.slice A0_0 l0_0.length c0_0] 49 (0, 0)) (by (with_reducible repeat (first | refine blk_drewN ?_ _ | refine blk_drew ?_ | refine blk_alloc ?_ _)); refine blk_far ?_ NB764_811.out _; (with_reducible repeat (first | refine blk_drewN ?_ _ | refine blk_drew ?_ | refine blk_alloc ?_ _)); exact BK764.out) hb); have n6_ := Aside0.mk (blk_below (g := gb765) (o := .cells #[.int .i64 a1_0, .int .i64 a1_1, .int .i64 a1_2] 51 (0, 0)) (by (with_reducible repeat (first | refine blk_drewN ?_ _ | refine blk_drew ?_ | refine blk_alloc ?_ _)); refine blk_far ?_ NB765_811.out _; (with_reducible repeat (first | refine blk_drewN ?_ _ | refine blk_drew ?_ | refine blk_alloc ?_ _)); exact BK765.out) hb); have n7_ := Aside0.mk (blk_below (g := gb777) (o := .cells #[.slice Ao26 t773.length co26] 54 (0, 0)) (by (with_reducible repeat (first | refine blk_drewN ?_ _ | refine blk_drew ?_ | refine blk_alloc ?_ _)); refine blk_far ?_ NB777_811.out _; (with_reducible repeat (first | refine blk_drewN ?_ _ | refine blk_drew ?_ | refine blk_alloc ?_ _)); exact BK777.out) hb); have n8_ := Aside0.mk (blk_below (g := gb781) (o := .cells #[.slice Ao33 t796.length co33] 54 (0, 0)) (by (with_reducible repeat (first | refine blk_drewN ?_ _ | refine blk_drew ?_ | refine blk_alloc ?_ _)); refine blk_far ?_ NB781_811.out _; (with_reducible repeat (first | refine blk_drewN ?_ _ | refine blk_drew ?_ | refine blk_alloc ?_ _)); exact BK781.out) hb); have n9_ := Aside0.mk (blk_below (g := gb789) (o := .cells #[.slice Ao44 t785.length co44] 54 (0, 0)) (by (with_reducible repeat (first | refine blk_drewN ?_ _ | refine blk_drew ?_ | refine blk_alloc ?_ _)); refine blk_far ?_ NB789_811.out _; (with_reducible repeat (first | refine blk_drewN ?_ _ | refine blk_drew ?_ | refine blk_alloc ?_ _)); exact BK789.out) hb); have n10_ := Aside0.mk (blk_below (g := gb811) (o := .cells #[.slice Ao133 t807.length co133] 54 (0, 0)) (by (with_reducible repeat (first | refine blk_drewN ?_ _ | refine blk_drew ?_ | refine blk_alloc ?_ _)); refine blk_put (cs := #[.slice none 0 0]) ?_ 0 _ rfl; (with_reducible repeat (first | refine blk_drewN ?_ _ | refine blk_drew ?_ | refine blk_alloc ?_ _)); exact BK811.out) hb); have n11_ := Aside0.mk (below_step (blq HB.out) hb); clear HO_778000; clear HO_782000; clear HO_790000; clear HO803; clear HO809; clear BK764; clear BK765; clear BK777; clear BK781; clear BK789; clear BK811; clear HB; have HO_778000 := n0_; have HO_782000 := n1_; have HO_790000 := n2_; have HO803 := n3_; have HO809 := n4_; have BK764 := n5_; have BK765 := n6_; have BK777 := n7_; have BK781 := n8_; have BK789 := n9_; have BK811 := n10_; have HB := n11_; clear n0_ n1_ n2_ n3_ n4_ n5_ n6_ n7_ n8_ n9_ n10_ n11_; (try clear hb); (try clear hb2); (try clear hk); (try clear hi)))
             go_meet
             case rel => exact ⟨_, (true), (by first | rfl | (simp; done) | (simp [*]; done)), H', ⟨by have := HJ17.out; have := HJ77.out; first | omega | exact Nat.le_refl _⟩, ⟨by (try simp only [hl782000_77]); (with_reducible repeat (first | apply Kd.R_alloc | apply Kd.R_drewN | apply Kd.R_drew)); exact Kd.R_mono HO_778000.out (fun _ hk => ⟨hk.2.2.1, ⟨hk.2.2.2, hk.2.1⟩⟩)⟩, ⟨by (try simp only [hl782000_77]); (with_reducible repeat (first | apply Kd.R_alloc | apply Kd.R_drewN | apply Kd.R_drew)); exact Kd.R_mono HO_782000.out (fun _ hk => ⟨hk.2.2.1, ⟨hk.2.2.2, hk.2.1⟩⟩)⟩, ⟨by (try simp only [hl782000_77]); (with_reducible repeat (first | apply Kd.R_alloc | apply Kd.R_drewN | apply Kd.R_drew)); exact Kd.R_mono HO_790000.out (fun _ hk => ⟨hk.2.2.1, ⟨hk.2.2.2, hk.2.1⟩⟩)⟩, ⟨by (try simp only [hl782000_77]); (with_reducible repeat (first | apply Kd.R_alloc | apply Kd.R_drewN | apply Kd.R_drew)); exact Kd.R_mono HO809.out (fun _ hk => ⟨hk.2.1, ⟨hk.2.2.1, hk.2.2.2⟩⟩)⟩, ⟨by (try simp only [hl782000_77]); (with_reducible repeat (first | refine blk_drewN ?_ _ | refine blk_drew ?_ | refine blk_alloc ?_ _)); exact BK764.out⟩, ⟨by (try simp only [hl782000_77]); (with_reducible repeat (first | refine blk_drewN ?_ _ | refine blk_drew ?_ | refine blk_alloc ?_ _)); exact BK765.out⟩, ⟨by (try simp only [hl782000_77]); (with_reducible repeat (first | refine blk_drewN ?_ _ | refine blk_drew ?_ | refine blk_alloc ?_ _)); exact BK777.out⟩, ⟨by (try simp only [hl782000_77]); (with_reducible repeat (first | refine blk_drewN ?_ _ | refine blk_drew ?_ | refine blk_alloc ?_ _)); exact BK781.out⟩, ⟨by (try simp only [hl782000_77]); (with_reducible repeat (first | refine blk_drewN ?_ _ | refine blk_drew ?_ | refine blk_alloc ?_ _)); exact BK789.out⟩, ⟨by (try simp only [hl782000_77]); (with_reducible repeat (first | refine blk_drewN ?_ _ | refine blk_drew ?_ | refine blk_alloc ?_ _)); exact BK811.out⟩, ⟨blq HB.out⟩⟩
           case rest =>
            clear HC125
            try clear c1
            try clear p2
            try clear c3
            try clear c4
            try clear c13
            try clear c14
            try clear c15
            try clear c32
            try clear c33
            try clear c35
            try clear c43
            try clear c136
            try clear c137
            try clear c138
            try clear c139
            try clear c140
            try clear c141
            try clear c143
            try clear c144
            try clear c145
            try clear c146
            try clear c149
            try clear c150
            try clear c151
            try clear c152
            try clear c153
            try clear c155
            try clear c156
            try clear c157
            try clear c158
            try clear hcz142_0
            try clear hcz147_0
            try clear hcz154_0
            try clear hcz159_0
            try clear hfz142_0
            try clear hfz147_0
            try clear hfz154_0
            try clear hfz159_0
            obtain ⟨kq, x100_124, rfl, HA, HJ124, HO_778000, HO_782000, HO_790000, HO_812000, BK764, BK765, BK777, BK781, BK789, BK811, HB⟩ := hcut
            have hl790000_124 := (Kd.R_reads' HO_790000.out).1
            rw [hl790000_124] at HO_790000
            (try simp only [hl790000_124])
            (try simp only [hl790000_124] at BK764)
            (try simp only [hl790000_124] at BK765)
            (try simp only [hl790000_124] at BK777)
            (try simp only [hl790000_124] at BK781)
            (try simp only [hl790000_124] at BK789)
            (try simp only [hl790000_124] at BK811)
            (try simp only [hl790000_124] at HO_778000)
            (try simp only [hl790000_124] at HO_782000)
            (try simp only [hl790000_124] at HO_812000)
            cases kq with
            | zero => exact absurd HA.out (by simp [laws_FnExactTakeFor.j2])
            | succ kj124 =>
             have H := HA.out
             clear HA
             simp only [laws_FnExactTakeFor.j2] at H
             by_cases c161 : x100_124 = true
             ·
              subst c161
              have H1 : (some false) = some r := by rw [if_pos rfl] at H; exact H
              clear H
              have H := H1
              clear H1
              obtain rfl := Option.some.inj H
              go_wp2
              go_ret
              exact ⟨by first | rfl | (simp [errW_none, errW_some] <;> rfl) | (simp [*, errW_none, errW_some] <;> rfl), blq HB.out⟩
             ·
              replace c161 := Bool.eq_false_iff.mpr c161
              subst c161
              have H1 : ((laws_heldStock.f kj124 t799 1).bind fun t813 => (if t813 < 0 then (some false) else (if t813 = t798 then (some true) else (some false)))) = some r := by rw [if_neg (show ¬ (false = true) by decide)] at H; exact H
              clear H
              have H := H1
              clear H1
              replace H := Option.bind_eq_some_iff.mp H
              obtain ⟨t813, A1620, H⟩ := H
              replace H : (if t813 < 0 then (some false) else (if t813 = t798 then (some true) else (some false))) = some r := H
              have A162 := Aside0.mk A1620
              clear A1620
              have HF163 := Aside0.mk H
              clear H
              have hnb164 := NB789_764.out
              have hnc164 := NB764_789.out
              have hnb165 := NB789_765.out
              have hnc165 := NB765_789.out
              have hnb166 := NB789_777.out
              have hnc166 := NB777_789.out
              have hnb167 := NB789_781.out
              have hnc167 := NB781_789.out
              have hnb168 := NB789_811.out
              have hnc168 := NB811_789.out
              have hcz169_0 : wc.cell? ⟨gb789, 0, none⟩ = some (.slice Ao44 t799.length co44) := (blk_cell BK789.out 0).trans rfl
              have hfz169_0 := blk_frozen BK789.out 0
              go_upto_if 105 with (first | ((with_reducible refine gate_callee (f := 55) rfl ?_); refine gLq (some 103) Try.func55 #[.agg #[.slice Ao44 t799.length co44], .int .i64 1] ?_; (with_reducible refine (laws_heldStock.calls kj124 _ _ t799 1 t813 _ ?side1 ?side2 A162.out).mono ?_); (case side1 => repeat (first | exact (Kd.R_reads' HO_790000.out).2.2 | (with_reducible refine Kd.C_alloc ?_ _) | (with_reducible refine Kd.C_drewN ?_ _) | (with_reducible refine Kd.C_drew ?_))); (case side2 => exact (Kd.R_reads' HO_790000.out).2.1); rintro e w170 ⟨rfl, hb⟩; refine ⟨_, rfl, ?_⟩; have n0_ := Aside0.mk (Kd.R_below (Kd.Rq HO_778000.out) hb); have n1_ := Aside0.mk (Kd.R_below (Kd.Rq HO_782000.out) hb); have n2_ := Aside0.mk (Kd.R_below (Kd.Rq HO_790000.out) hb); have n3_ := Aside0.mk (Kd.R_below (Kd.Rq HO_812000.out) hb); have n4_ := Aside0.mk (blk_below (bkq BK764.out) hb); have n5_ := Aside0.mk (blk_below (bkq BK765.out) hb); have n6_ := Aside0.mk (blk_below (bkq BK777.out) hb); have n7_ := Aside0.mk (blk_below (bkq BK781.out) hb); have n8_ := Aside0.mk (blk_below (bkq BK789.out) hb); have n9_ := Aside0.mk (blk_below (bkq BK811.out) hb); have n10_ := Aside0.mk (below_step (blq HB.out) hb); clear HO_778000; clear HO_782000; clear HO_790000; clear HO_812000; clear BK764; clear BK765; clear BK777; clear BK781; clear BK789; clear BK811; clear HB; have HO_778000 := n0_; have HO_782000 := n1_; have HO_790000 := n2_; have HO_812000 := n3_; have BK764 := n4_; have BK765 := n5_; have BK777 := n6_; have BK781 := n7_; have BK789 := n8_; have BK811 := n9_; have HB := n10_; clear n0_ n1_ n2_ n3_ n4_ n5_ n6_ n7_ n8_ n9_ n10_; (try clear hb); (try clear hb2); (try clear hk); (try clear hi)))
              have H := HF163.out
              clear HF163
              by_cases c171 : t813 < 0
              ·
               rw [if_pos c171] at H
               have c171b0 : decide (t813 < 0) = true := decide_eq_true c171
               clear c171
               (first | rw [c171b0] | (simp only [i64_w, i32_w]; rw [c171b0]) | skip)
               obtain rfl := Option.some.inj H
               go_wp2
               go_ret
               exact ⟨by first | rfl | (simp [errW_none, errW_some] <;> rfl) | (simp [*, errW_none, errW_some] <;> rfl), blq HB.out⟩
              ·
               rw [if_neg c171] at H
               have c171b0 : decide (t813 < 0) = false := decide_eq_false c171
               clear c171
               (first | rw [c171b0] | (simp only [i64_w, i32_w]; rw [c171b0]) | skip)
               by_cases c172 : t813 = t798
               ·
                rw [if_pos c172] at H
                have c172b0 : (t813 == t798) = true := beq_iff_eq.mpr c172
                have c172b1 : (t813 != t798) = false := bne_eq_false_iff_eq.mpr c172
                clear c172
                obtain rfl := Option.some.inj H
                go_wp2
                go_ret
                exact ⟨by first | rfl | (simp [errW_none, errW_some] <;> rfl) | (simp [*, errW_none, errW_some] <;> rfl), blq HB.out⟩
               ·
                rw [if_neg c172] at H
                have c172b0 : (t813 == t798) = false := beq_eq_false_iff_ne.mpr c172
                have c172b1 : (t813 != t798) = true := bne_iff_ne.mpr c172
                obtain rfl := Option.some.inj H
                go_wp2
                go_ret
                exact ⟨by first | rfl | (simp [errW_none, errW_some] <;> rfl) | (simp [*, errW_none, errW_some] <;> rfl), blq HB.out⟩
          ·
           rw [if_neg c121] at H
           have c121b0 : (t800 == t798) = false := beq_eq_false_iff_ne.mpr c121
           have c121b1 : (t800 != t798) = true := bne_iff_ne.mpr c121
           obtain rfl := Option.some.inj H
           go_wp2
           go_ret
           exact ⟨by first | rfl | (simp [errW_none, errW_some] <;> rfl) | (simp [*, errW_none, errW_some] <;> rfl), blq HB.out⟩
     ·
      replace c76 := Bool.eq_false_iff.mpr c76
      subst c76
      have H1 : (some false) = some r := by rw [if_neg (show ¬ (false = true) by decide)] at H; exact H
      clear H
      have H := H1
      clear H1
      obtain rfl := Option.some.inj H
      go_wp2
      go_ret
      exact ⟨by first | rfl | (simp [errW_none, errW_some] <;> rfl) | (simp [*, errW_none, errW_some] <;> rfl), blq HB.out⟩

end Go.Proofs.Ytnlioefgpgamdaa.Q
