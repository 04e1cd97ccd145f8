-- Written for this claim by wip/xprint.py of this repository (by way of the kit's print); Lean checks every line.
import Derived.Test.YtnlioefgpgamdaaQ0
import Derived.Test.YtnlioefgpgamdaaQ17
import Derived.Test.YtnlioefgpgamdaaQ18
import Derived.Test.YtnlioefgpgamdaaQ20
import Derived.Test.YtnlioefgpgamdaaQ42
namespace Go.Proofs.Ytnlioefgpgamdaa.Q
open Go.RowKit Go.Proofs.YtnlioefgpgamdaaW.PrintWords Go.Proofs.YtnlioefgpgamdaaW.PrintLast Go.Proofs.YtnlioefgpgamdaaW.PrintMore
attribute [local go_sem] max2_int min2_int max_two min_two max_three min_three max_four min_four   -- for this text's walks alone
set_option linter.unusedVariables false
set_option linter.unusedSimpArgs false

/-! ### spec_l36Copy: function 116 -/
def spec_l36Copy.f (l0_0 : List Int) : Option (List Int) := (some (([] : List Int) : List Int)).bind fun y736 => (if y736.length + l0_0.length < 17592186044416 then (some (y736 ++ l0_0)) else (none))
set_option maxHeartbeats 8000000 in
set_option maxRecDepth 100000 in
theorem spec_l36Copy.calls (A0_0 : Option Addr) (c0_0 : Nat) (l0_0 : List Int) (r : List Int) (w : World) (hr0_0 : Kd.C (Kd.int .i64) w A0_0 l0_0.length l0_0) (hc0_0 : l0_0.length ≤ c0_0) (h : spec_l36Copy.f l0_0 = some r) :
  Calls Try.prog 116 #[.agg #[.slice A0_0 l0_0.length c0_0]] w fun e w' => ∃ v0_ : Value, e = .returned (.agg #[v0_]) ∧ Kd.R (Kd.int .i64) 3 w' w.heap.size (fun _ => True) v0_ r ∧ Below w.heap.size w w' := by
 have hu54 := Try.underlying54
 have HR0_0 := Aside0.mk hr0_0
 have HC0_0 := Aside0.mk hc0_0
 clear hr0_0 hc0_0
 have HB := Aside0.mk (Below.refl w.heap.size w)
 have H : ((some (([] : List Int) : List Int)).bind fun y736 => (if y736.length + l0_0.length < 17592186044416 then (some (y736 ++ l0_0)) else (none))) = some r := h
 clear h
 obtain ⟨y736, hy736⟩ : ∃ y_ : List Int, y_ = (([] : List Int)) := ⟨_, rfl⟩
 replace H : (if y736.length + l0_0.length < 17592186044416 then (some (y736 ++ l0_0)) else (none)) = some r := by first | (rw [hy736]; with_reducible exact H) | (have H2_ := (Option.bind_some _ _).symm.trans H; rw [hy736]; with_reducible exact H2_) | (have H2_ := (Option.bind_some _ _).symm.trans H; with_reducible exact H2_) | with_reducible exact H | (rw [hy736]; exact H) | exact H
 have Ny736 := Aside0.mk hy736
 clear hy736
 by_cases c2 : y736.length + l0_0.length < 17592186044416
 ·
  rw [if_pos c2] at H
  have LMc2 := Aside0.mk c2
  clear c2
  obtain ⟨y739, hy739⟩ : ∃ y_ : List Int, y_ = (y736 ++ l0_0) := ⟨_, rfl⟩
  replace H : (some y739) = some r := by first | (rw [hy739]; with_reducible exact H) | (have H2_ := (Option.bind_some _ _).symm.trans H; rw [hy739]; with_reducible exact H2_) | (have H2_ := (Option.bind_some _ _).symm.trans H; with_reducible exact H2_) | with_reducible exact H | (rw [hy739]; exact H) | exact H
  have Ny739 := Aside0.mk hy739
  clear hy739
  obtain rfl := Option.some.inj H
  go_enter Try.func116, Try.ntmps116
  go_wp2_with (first | ((with_reducible refine gate_dst (N := 1) rfl ?_); refine box_event ?hg (N := 1) ?hd (cs := #[.slice A0_0 l0_0.length c0_0]) (t := 54) ?hr ?_; (case hd => rfl); (case hg => rfl); (case hr => first | (go_simp; done) | (go_simp; rfl)); intro gb734 hg w3 hbox hb; have n0_ := Aside0.mk (below_step (blq HB.out) hb); have n1_ := Aside0.mk (hbox); have n2_ := Aside0.mk ((sq hg HB.out)); have n3_ := Aside0.mk ((sq hg HB.out)); clear HB; have HB := n0_; have BK734 := n1_; have GW734 := n2_; have GE734 := n3_; clear n0_ n1_ n2_ n3_; clear hb hbox hg) | ((with_reducible refine gate_dst (N := 2) rfl ?_); refine box_event ?hg (N := 2) ?hd (cs := #[.slice none 0 0]) (t := 54) ?hr ?_; (case hd => rfl); (case hg => rfl); (case hr => first | (go_simp; done) | (go_simp; rfl)); intro gb735 hg w4 hbox hb; have n0_ := Aside0.mk (blk_below (bkq BK734.out) hb); have n1_ := Aside0.mk (below_step (blq HB.out) hb); have n2_ := Aside0.mk (hbox); have n3_ := Aside0.mk ((sq hg HB.out)); have n4_ := Aside0.mk ((sq hg HB.out)); have n5_ := Aside0.mk ((by rw [hg]; exact Nat.ne_of_lt (blk_lt (bkq BK734.out)) : gb734 ≠ gb735)); have n6_ := Aside0.mk ((by rw [hg]; exact Nat.ne_of_gt (blk_lt (bkq BK734.out)) : gb735 ≠ gb734)); clear BK734; clear HB; have BK734 := n0_; have HB := n1_; have BK735 := n2_; have GW735 := n3_; have GE735 := n4_; have NB734_735 := n5_; have NB735_734 := n6_; clear n0_ n1_ n2_ n3_ n4_ n5_ n6_; clear hb hbox hg) | ((with_reducible refine gate_dst (N := 3) rfl ?_); refine Kd.R_lit (Kd.int .i64) _ 3 ?hg (N := 3) ?hd (xs := ([] : List Int)) (inner := []) (ok := fun _ => True) (okp := fun _ => True) ?hr ?hp (fun _ hk => hk) trivial (Below.refl _ _) (Nat.le_refl _) (by simp) ?_; (case hd => rfl); (case hg => rfl); (case hr => first | (go_simp; done) | (go_simp; rfl)); (case hp => exact (Reps.none _ _)); intro v737 w5 ho6 hb hg_ hnew_; clear hg_ hnew_; (first | rw [← Ny736.out] at ho6 | (simp only [Int.reduceToNat] at ho6; rw [← Ny736.out] at ho6)); have n0_ := Aside0.mk (Kd.R_lower ho6 (below_size (blq HB.out))); have n1_ := Aside0.mk (blk_below (bkq BK734.out) hb); have n2_ := Aside0.mk (blk_below (bkq BK735.out) hb); have n3_ := Aside0.mk (below_step (blq HB.out) hb); clear BK734; clear BK735; clear HB; have HO738 := n0_; have BK734 := n1_; have BK735 := n2_; have HB := n3_; clear n0_ n1_ n2_ n3_; clear hb ho6; have hnb7 := NB734_735.out; have hnc7 := NB735_734.out; have hcz8_0 : w5.cell? ⟨gb734, 0, none⟩ = some (.slice A0_0 l0_0.length c0_0) := (blk_cell BK734.out 0).trans rfl; have hfz8_0 := blk_frozen BK734.out 0) | ((with_reducible refine gate_builtin (b := .append) (xs := #[.tmp 3, .tmp 5]) rfl ?_); at_builtin; refine Kd.R_append_rows (Kd.int .i64) (w0 := w) w.heap.size rfl (.tmp 3) (.tmp 5) 27 3 (.int .i64 0) 8 rfl Try.underlying27 info3 rfl (by decide) (by omega) v737 y736 l0_0 _ _ _ (fun _ => True) (fun _ => False) rfl rfl ?aO ?aR (fun _ _ h => h) (fun _ h => h.elim) ?aF ?aB ?aS ?aL ?_; (case aR => repeat (first | exact (Kd.C_below HR0_0.out HB.out) | (with_reducible refine Kd.C_alloc ?_ _) | (with_reducible refine Kd.C_drewN ?_ _) | (with_reducible refine Kd.C_drew ?_))); (case aB => exact (blq HB.out)); (case aF => exact (fun _ _ => trivial)); (case aO => exact (Kd.Rq HO738.out)); (case aS => exact (below_size (blq HB.out))); (case aL => have := LMc2.out; omega); intro v740 w9 ho hb hg hat; rw [← Ny739.out] at ho; have n0_ := Aside0.mk (blk_grown (bkq BK734.out) hg (Kd.R_ne HO738.out BK734.out (by decide))); have n1_ := Aside0.mk (blk_grown (bkq BK735.out) hg (Kd.R_ne HO738.out BK735.out (by decide))); have n2_ := Aside0.mk (hb); have n3_ := Aside0.mk (ho); clear BK734; clear BK735; clear HB; clear HO738; have BK734 := n0_; have BK735 := n1_; have HB := n2_; have HO741 := n3_; clear n0_ n1_ n2_ n3_; clear ho hb hg hat; obtain ⟨Ao10, co10, eo10⟩ := Kd.R_slice HO741.out; subst eo10; have hcz11_0 : w9.cell? ⟨gb735, 0, none⟩ = some (.slice none 0 0) := (blk_cell BK735.out 0).trans rfl; have hfz11_0 := blk_frozen BK735.out 0))
  refine bodyPost_ret (results_cell_row rfl _ _ gb735 54 #[.slice Ao10 y739.length co10] (0, 0) _ rfl (by (with_reducible repeat (first | refine blk_drewN ?_ _ | refine blk_drew ?_ | refine blk_alloc ?_ _)); refine blk_put (cs := #[.slice none 0 0]) ?_ 0 _ rfl; (with_reducible repeat (first | refine blk_drewN ?_ _ | refine blk_drew ?_ | refine blk_alloc ?_ _)); exact BK735.out) Try.underlying54 rfl (by kernel_rfl)) rfl ?_
  exact ⟨_, by first | rfl | (simp [errW_none, errW_some] <;> rfl) | (simp [*, errW_none, errW_some] <;> rfl), Kd.Rq (Kd.R_mono (Kd.R_far (p := ⟨gb735, 0, none⟩) (Kd.R_types HO741.out BK735.out (by decide)) (fun _ hk => hk.2) (.slice Ao10 y739.length co10)) (fun _ hk => trivial)), blq HB.out⟩
 ·
  rw [if_neg c2] at H
  exact absurd H (by simp)

/-! ### spec_TakeFor: function 53 -/
mutual
def spec_TakeFor.j0 : Nat → List Int → Bool → List Int → List Int → Option (List Int × Bool)
 | 0, _, _, _, _ => none
 | k + 1, x9, x30, x743000, x749000 => if x30 = true then (some (x749000, false)) else (spec_TakeFor.l0 k x9 0 x743000 x749000)
def spec_TakeFor.l0 : Nat → List Int → Int → List Int → List Int → Option (List Int × Bool)
 | 0, _, _, _, _ => none
 | k + 1, x9, x10, x743000, x749000 => if x10 < 4 then (if 0 ≤ x10 then (if x10 < (x743000.length : Int) then (if x10 < (x9.length : Int) then (if x10 < (x749000.length : Int) then (spec_TakeFor.l0 k x9 (wrap64 (x10 + 1)) x743000 (x749000.set (x10 : Int).toNat (wrap64 ((rd x743000 x10) - (rd x9 x10))))) else (none)) else (none)) else (none)) else (none)) else (some (x749000, true))
end
def spec_TakeFor.f (k : Nat) (l0_0 : List Int) (a1_0 : Int) (a1_1 : Int) (a1_2 : Int) (a2 : Int) : Option (List Int × Bool) := (spec_l36Copy.f l0_0).bind fun t745 => ((spec_Amounts.f k a1_0 a1_1 a1_2 a2).bind fun t749 => ((spec_StoreOk.f k l0_0).bind fun t752 => (if t752 = true then (if (t749.length : Int) = 0 then (spec_TakeFor.j0 k t749 true l0_0 t745) else ((spec_FirstMissing.f k l0_0 a1_0 a1_1 a1_2 a2).bind fun t753 => (spec_TakeFor.j0 k t749 (decide (t753 ≥ 0)) l0_0 t745))) else (spec_TakeFor.j0 k t749 true l0_0 t745))))
theorem spec_TakeFor.mono_l : ∀ k, (∀ y0 y1 y2 y3, LeO (spec_TakeFor.j0 k y0 y1 y2 y3) (spec_TakeFor.j0 (k + 1) y0 y1 y2 y3)) ∧ (∀ y0 y1 y2 y3, LeO (spec_TakeFor.l0 k y0 y1 y2 y3) (spec_TakeFor.l0 (k + 1) y0 y1 y2 y3))
 | 0 => ⟨fun _ _ _ _ r h => by simp [spec_TakeFor.j0] at h, fun _ _ _ _ r h => by simp [spec_TakeFor.l0] at h⟩
 | k + 1 => by
  obtain ⟨ih0, ih1⟩ := spec_TakeFor.mono_l k
  refine ⟨?_, ?_⟩
  ·
   intro y0 y1 y2 y3
   unfold spec_TakeFor.j0
   repeat' first
   | (with_reducible exact ih0 _ _ _ _)
   | (with_reducible exact ih1 _ _ _ _)
   | (with_reducible exact spec_Amounts.mono _ _ _ _ _)
   | (with_reducible exact spec_FirstMissing.mono _ _ _ _ _ _)
   | (with_reducible exact spec_StoreOk.mono _ _)
   | (with_reducible exact LeO.refl _)
   | (with_reducible exact LeO.none _)
   | (with_reducible refine LeO.ite ?_ ?_)
   | (with_reducible refine LeO.bind ?_ (fun _ => ?_))
   | exact ih0 _ _ _ _
   | exact ih1 _ _ _ _
   | exact spec_Amounts.mono _ _ _ _ _
   | exact spec_FirstMissing.mono _ _ _ _ _ _
   | exact spec_StoreOk.mono _ _
   | exact LeO.none _
   | refine LeO.ite ?_ ?_
   | refine LeO.bind ?_ (fun _ => ?_)
  ·
   intro y0 y1 y2 y3
   unfold spec_TakeFor.l0
   repeat' first
   | (with_reducible exact ih0 _ _ _ _)
   | (with_reducible exact ih1 _ _ _ _)
   | (with_reducible exact spec_Amounts.mono _ _ _ _ _)
   | (with_reducible exact spec_FirstMissing.mono _ _ _ _ _ _)
   | (with_reducible exact spec_StoreOk.mono _ _)
   | (with_reducible exact LeO.refl _)
   | (with_reducible exact LeO.none _)
   | (with_reducible refine LeO.ite ?_ ?_)
   | (with_reducible refine LeO.bind ?_ (fun _ => ?_))
   | exact ih0 _ _ _ _
   | exact ih1 _ _ _ _
   | exact spec_Amounts.mono _ _ _ _ _
   | exact spec_FirstMissing.mono _ _ _ _ _ _
   | exact spec_StoreOk.mono _ _
   | exact LeO.none _
   | refine LeO.ite ?_ ?_
   | refine LeO.bind ?_ (fun _ => ?_)
theorem spec_TakeFor.mono : ∀ a0 a1 a2 a3 a4 k, LeO (spec_TakeFor.f k a0 a1 a2 a3 a4) (spec_TakeFor.f (k + 1) a0 a1 a2 a3 a4) := by
 intro a0 a1 a2 a3 a4 k
 obtain ⟨ih0, ih1⟩ := spec_TakeFor.mono_l k
 unfold spec_TakeFor.f
 repeat' first
   | (with_reducible exact ih0 _ _ _ _)
   | (with_reducible exact ih1 _ _ _ _)
   | (with_reducible exact spec_Amounts.mono _ _ _ _ _)
   | (with_reducible exact spec_FirstMissing.mono _ _ _ _ _ _)
   | (with_reducible exact spec_StoreOk.mono _ _)
   | (with_reducible exact LeO.refl _)
   | (with_reducible exact LeO.none _)
   | (with_reducible refine LeO.ite ?_ ?_)
   | (with_reducible refine LeO.bind ?_ (fun _ => ?_))
   | exact ih0 _ _ _ _
   | exact ih1 _ _ _ _
   | exact spec_Amounts.mono _ _ _ _ _
   | exact spec_FirstMissing.mono _ _ _ _ _ _
   | exact spec_StoreOk.mono _ _
   | exact LeO.none _
   | refine LeO.ite ?_ ?_
   | refine LeO.bind ?_ (fun _ => ?_)
def spec_TakeFor.T8 : Bool × List (List Nat × List Nat) := (true, [([], []), ([0], [0]), ([], []), ([], []), ([3], [3]), ([], []), ([4, 5], [4, 5]), ([6], [6]), ([], []), ([], []), ([8, 9], [8, 9]), ([10], [10]), ([7, 11], [7, 11]), ([1, 2, 0, 1, 2, 3, 4, 5, 6, 7, 8, 9, 10, 11, 12], [1, 2]), ([13, 12, 0, 1, 2, 3, 4, 5, 6, 7, 8, 9, 10, 11, 12], [12, 13])])
def spec_TakeFor.B8 : List Nat := [0, 1, 0, 0, 8, 0, 56, 120, 0, 0, 768, 1792, 4088, 8191, 16383]
theorem spec_TakeFor.tab8 : rtab .any (opsOf Try.f53 8) = spec_TakeFor.T8 := by kernel_rfl
theorem spec_TakeFor.bits8 : waitsOk spec_TakeFor.T8.2 spec_TakeFor.B8 = true := by kernel_rfl
set_option maxHeartbeats 8000000 in
set_option maxRecDepth 100000 in
theorem spec_TakeFor.calls (k : Nat) (A0_0 : Option Addr) (c0_0 : Nat) (l0_0 : List Int) (a1_0 : Int) (a1_1 : Int) (a1_2 : Int) (a2 : Int) (r1 : List Int) (r2 : Bool) (w : World) (hr0_0 : Kd.C (Kd.int .i64) w A0_0 l0_0.length l0_0) (hc0_0 : l0_0.length ≤ c0_0) (h : spec_TakeFor.f k l0_0 a1_0 a1_1 a1_2 a2 = some (r1, r2)) :
  Calls Try.prog 53 #[.agg #[.slice A0_0 l0_0.length c0_0], .agg #[.int .i64 a1_0, .int .i64 a1_1, .int .i64 a1_2], .int .i64 a2] w fun e w' => ∃ v0_ : Value, e = .returned (.tuple #[.agg #[v0_], .bool r2]) ∧ Kd.R (Kd.int .i64) 3 w' w.heap.size (fun _ => True) v0_ r1 ∧ Below w.heap.size w w' := by
 have hu54 := Try.underlying54
 have hu56 := Try.underlying56
 have HR0_0 := Aside0.mk hr0_0
 have HC0_0 := Aside0.mk hc0_0
 clear hr0_0 hc0_0
 have HB := Aside0.mk (Below.refl w.heap.size w)
 have H : ((spec_l36Copy.f l0_0).bind fun t745 => ((spec_Amounts.f k a1_0 a1_1 a1_2 a2).bind fun t749 => ((spec_StoreOk.f k l0_0).bind fun t752 => (if t752 = true then (if (t749.length : Int) = 0 then (spec_TakeFor.j0 k t749 true l0_0 t745) else ((spec_FirstMissing.f k l0_0 a1_0 a1_1 a1_2 a2).bind fun t753 => (spec_TakeFor.j0 k t749 (decide (t753 ≥ 0)) l0_0 t745))) else (spec_TakeFor.j0 k t749 true l0_0 t745))))) = some (r1, r2) := h
 clear h
 replace H := Option.bind_eq_some_iff.mp H
 obtain ⟨t745, A40, H⟩ := H
 replace H : ((spec_Amounts.f k a1_0 a1_1 a1_2 a2).bind fun t749 => ((spec_StoreOk.f k l0_0).bind fun t752 => (if t752 = true then (if (t749.length : Int) = 0 then (spec_TakeFor.j0 k t749 true l0_0 t745) else ((spec_FirstMissing.f k l0_0 a1_0 a1_1 a1_2 a2).bind fun t753 => (spec_TakeFor.j0 k t749 (decide (t753 ≥ 0)) l0_0 t745))) else (spec_TakeFor.j0 k t749 true l0_0 t745)))) = some (r1, r2) := H
 have A4 := Aside0.mk A40
 clear A40
 replace H := Option.bind_eq_some_iff.mp H
 obtain ⟨t749, A50, H⟩ := H
 replace H : ((spec_StoreOk.f k l0_0).bind fun t752 => (if t752 = true then (if (t749.length : Int) = 0 then (spec_TakeFor.j0 k t749 true l0_0 t745) else ((spec_FirstMissing.f k l0_0 a1_0 a1_1 a1_2 a2).bind fun t753 => (spec_TakeFor.j0 k t749 (decide (t753 ≥ 0)) l0_0 t745))) else (spec_TakeFor.j0 k t749 true l0_0 t745))) = some (r1, r2) := H
 have A5 := Aside0.mk A50
 clear A50
 have HC6 := Aside0.mk H
 clear H
 go_enter Try.func53, Try.ntmps53
 go_upto_region 3 with (first | ((with_reducible refine gate_dst (N := 3) rfl ?_); (try (refine gate_guard (by rfl) ?_; dsimp only)); refine box_event ?hg (N := 3) ?hd (cs := #[.slice A0_0 l0_0.length c0_0]) (t := 54) ?hr ?_; (case hd => rfl); (case hg => rfl); (case hr => first | (go_simp; done) | (go_simp; rfl)); intro gb742 hg w7 hbox hb; have n0_ := Aside0.mk (below_step (blq HB.out) hb); have n1_ := Aside0.mk (hbox); have n2_ := Aside0.mk ((sq hg HB.out)); have n3_ := Aside0.mk ((sq hg HB.out)); clear HB; have HB := n0_; have BK742 := n1_; have GW742 := n2_; have GE742 := n3_; clear n0_ n1_ n2_ n3_; clear hb hbox hg) | ((with_reducible refine gate_dst (N := 4) rfl ?_); (try (refine gate_guard (by rfl) ?_; dsimp only)); refine box_event ?hg (N := 4) ?hd (cs := #[.int .i64 a1_0, .int .i64 a1_1, .int .i64 a1_2]) (t := 56) ?hr ?_; (case hd => rfl); (case hg => rfl); (case hr => first | (go_simp; done) | (go_simp; rfl)); intro gb743 hg w8 hbox hb; have n0_ := Aside0.mk (blk_below (bkq BK742.out) hb); have n1_ := Aside0.mk (below_step (blq HB.out) hb); have n2_ := Aside0.mk (hbox); have n3_ := Aside0.mk ((sq hg HB.out)); have n4_ := Aside0.mk ((sq hg HB.out)); have n5_ := Aside0.mk ((by rw [hg]; exact Nat.ne_of_lt (blk_lt (bkq BK742.out)) : gb742 ≠ gb743)); have n6_ := Aside0.mk ((by rw [hg]; exact Nat.ne_of_gt (blk_lt (bkq BK742.out)) : gb743 ≠ gb742)); clear BK742; clear HB; have BK742 := n0_; have HB := n1_; have BK743 := n2_; have GW743 := n3_; have GE743 := n4_; have NB742_743 := n5_; have NB743_742 := n6_; clear n0_ n1_ n2_ n3_ n4_ n5_ n6_; clear hb hbox hg) | ((with_reducible refine gate_dst (N := 6) rfl ?_); (try (refine gate_guard (by rfl) ?_; dsimp only)); refine box_event ?hg (N := 6) ?hd (cs := #[.slice none 0 0]) (t := 54) ?hr ?_; (case hd => rfl); (case hg => rfl); (case hr => first | (go_simp; done) | (go_simp; rfl)); intro gb744 hg w9 hbox hb; have n0_ := Aside0.mk (blk_below (bkq BK742.out) hb); have n1_ := Aside0.mk (blk_below (bkq BK743.out) hb); have n2_ := Aside0.mk (below_step (blq HB.out) hb); have n3_ := Aside0.mk (hbox); have n4_ := Aside0.mk ((sq hg HB.out)); have n5_ := Aside0.mk ((sq hg HB.out)); have n6_ := Aside0.mk ((by rw [hg]; exact Nat.ne_of_lt (blk_lt (bkq BK742.out)) : gb742 ≠ gb744)); have n7_ := Aside0.mk ((by rw [hg]; exact Nat.ne_of_gt (blk_lt (bkq BK742.out)) : gb744 ≠ gb742)); have n8_ := Aside0.mk ((by rw [hg]; exact Nat.ne_of_lt (blk_lt (bkq BK743.out)) : gb743 ≠ gb744)); have n9_ := Aside0.mk ((by rw [hg]; exact Nat.ne_of_gt (blk_lt (bkq BK743.out)) : gb744 ≠ gb743)); clear BK742; clear BK743; clear HB; have BK742 := n0_; have BK743 := n1_; have HB := n2_; have BK744 := n3_; have GW744 := n4_; have GE744 := n5_; have NB742_744 := n6_; have NB744_742 := n7_; have NB743_744 := n8_; have NB744_743 := n9_; clear n0_ n1_ n2_ n3_ n4_ n5_ n6_ n7_ n8_ n9_; clear hb hbox hg; have hnb10 := NB742_743.out; have hnc10 := NB743_742.out; have hnb11 := NB742_744.out; have hnc11 := NB744_742.out; have hcz12_0 : w9.cell? ⟨gb742, 0, none⟩ = some (.slice A0_0 l0_0.length c0_0) := (blk_cell BK742.out 0).trans rfl; have hfz12_0 := blk_frozen BK742.out 0) | ((with_reducible refine gate_callee (f := 116) rfl ?_); refine gLq (some 12) Try.func116 #[.agg #[.slice A0_0 l0_0.length c0_0]] ?_; (with_reducible refine (spec_l36Copy.calls _ _ l0_0 t745 _ ?side1 ?side2 A4.out).mono ?_); (case side1 => exact Kd.Cq (Kd.C_below HR0_0.out HB.out)); (case side2 => exact HC0_0.out); rintro e w13 ⟨v746, rfl, ho0, hb⟩; refine ⟨_, rfl, ?_⟩; have n0_ := Aside0.mk (Kd.R_lower ho0 (below_size (blq HB.out))); have n1_ := Aside0.mk (blk_below (bkq BK742.out) hb); have n2_ := Aside0.mk (blk_below (bkq BK743.out) hb); have n3_ := Aside0.mk (blk_below (bkq BK744.out) hb); have n4_ := Aside0.mk (below_step (blq HB.out) hb); clear BK742; clear BK743; clear BK744; clear HB; have HO747 := n0_; have BK742 := n1_; have BK743 := n2_; have BK744 := n3_; have HB := n4_; clear n0_ n1_ n2_ n3_ n4_; (try clear hb); (try clear hb2); (try clear hk); (try clear hi); (try clear ho0)) | ((with_reducible refine gate_dst (N := 8) rfl ?_); (try (refine gate_guard (by rfl) ?_; dsimp only)); refine box_event ?hg (N := 8) ?hd (cs := #[.slice none 0 0]) (t := 54) ?hr ?_; (case hd => rfl); (case hg => rfl); (case hr => first | (go_simp; done) | (go_simp; rfl)); intro gb748 hg w14 hbox hb; have n0_ := Aside0.mk (Kd.R_below (Kd.Rq HO747.out) hb); have n1_ := Aside0.mk (blk_below (bkq BK742.out) hb); have n2_ := Aside0.mk (blk_below (bkq BK743.out) hb); have n3_ := Aside0.mk (blk_below (bkq BK744.out) hb); have n4_ := Aside0.mk (below_step (blq HB.out) hb); have n5_ := Aside0.mk (hbox); have n6_ := Aside0.mk ((sq hg HB.out)); have n7_ := Aside0.mk ((sq hg HB.out)); have n8_ := Aside0.mk ((by rw [hg]; exact Nat.ne_of_lt (blk_lt (bkq BK742.out)) : gb742 ≠ gb748)); have n9_ := Aside0.mk ((by rw [hg]; exact Nat.ne_of_gt (blk_lt (bkq BK742.out)) : gb748 ≠ gb742)); have n10_ := Aside0.mk ((by rw [hg]; exact Nat.ne_of_lt (blk_lt (bkq BK743.out)) : gb743 ≠ gb748)); have n11_ := Aside0.mk ((by rw [hg]; exact Nat.ne_of_gt (blk_lt (bkq BK743.out)) : gb748 ≠ gb743)); have n12_ := Aside0.mk ((by rw [hg]; exact Nat.ne_of_lt (blk_lt (bkq BK744.out)) : gb744 ≠ gb748)); have n13_ := Aside0.mk ((by rw [hg]; exact Nat.ne_of_gt (blk_lt (bkq BK744.out)) : gb748 ≠ gb744)); clear HO747; clear BK742; clear BK743; clear BK744; clear HB; have HO747 := n0_; have BK742 := n1_; have BK743 := n2_; have BK744 := n3_; have HB := n4_; have BK748 := n5_; have GW748 := n6_; have GE748 := n7_; have NB742_748 := n8_; have NB748_742 := n9_; have NB743_748 := n10_; have NB748_743 := n11_; have NB744_748 := n12_; have NB748_744 := n13_; clear n0_ n1_ n2_ n3_ n4_ n5_ n6_ n7_ n8_ n9_ n10_ n11_ n12_ n13_; clear hb hbox hg; obtain ⟨Ao15, co15, eo15⟩ := Kd.R_slice HO747.out; subst eo15; have hnb16 := NB748_742.out; have hnc16 := NB742_748.out; have hnb17 := NB748_743.out; have hnc17 := NB743_748.out; have hnb18 := NB748_744.out; have hnc18 := NB744_748.out; have hcz19_0 : w14.cell? ⟨gb748, 0, none⟩ = some (.slice none 0 0) := (blk_cell BK748.out 0).trans rfl; have hfz19_0 := blk_frozen BK748.out 0; have hnb20 := NB743_744.out; have hnc20 := NB744_743.out; obtain ⟨hcz21_0, hcz21_1, hcz21_2, hfz21_0, hfz21_1, hfz21_2⟩ := bq3 BK743.out) | ((with_reducible refine gate_callee (f := 46) rfl ?_); refine gLq (some 15) Try.func46 #[.agg #[.int .i64 a1_0, .int .i64 a1_1, .int .i64 a1_2], .int .i64 a2] ?_; (with_reducible refine (spec_Amounts.calls k a1_0 a1_1 a1_2 a2 t749 _ A5.out).mono ?_); rintro e w22 ⟨v750, rfl, ho0, hb⟩; refine ⟨_, rfl, ?_⟩; have n0_ := Aside0.mk (Kd.R_elder' (Kd.Rq (Kd.R_mono (Kd.R_far (p := ⟨gb748, 0, none⟩) (Kd.R_types HO747.out BK748.out (by decide)) (fun _ hk => hk.2) (.slice Ao15 t745.length co15)) (fun _ h_ => h_.1))) (Kd.R_base ho0) hb); have n1_ := Aside0.mk (Kd.R_lower (Kd.R_new' ho0 (Kd.R_lt (Kd.Rq (Kd.R_mono (Kd.R_far (p := ⟨gb748, 0, none⟩) (Kd.R_types HO747.out BK748.out (by decide)) (fun _ hk => hk.2) (.slice Ao15 t745.length co15)) (fun _ h_ => h_.1))))) (below_size (blq HB.out))); have n2_ := Aside0.mk (blk_below (g := gb742) (o := .cells #[.slice A0_0 l0_0.length c0_0] 54 (0, 0)) (by (with_reducible repeat (first | refine blk_drewN ?_ _ | refine blk_drew ?_ | refine blk_alloc ?_ _)); refine blk_far ?_ NB742_748.out _; (with_reducible repeat (first | refine blk_drewN ?_ _ | refine blk_drew ?_ | refine blk_alloc ?_ _)); exact BK742.out) hb); have n3_ := Aside0.mk (blk_below (g := gb743) (o := .cells #[.int .i64 a1_0, .int .i64 a1_1, .int .i64 a1_2] 56 (0, 0)) (by (with_reducible repeat (first | refine blk_drewN ?_ _ | refine blk_drew ?_ | refine blk_alloc ?_ _)); refine blk_far ?_ NB743_748.out _; (with_reducible repeat (first | refine blk_drewN ?_ _ | refine blk_drew ?_ | refine blk_alloc ?_ _)); exact BK743.out) hb); have n4_ := Aside0.mk (blk_below (g := gb744) (o := .cells #[.slice none 0 0] 54 (0, 0)) (by (with_reducible repeat (first | refine blk_drewN ?_ _ | refine blk_drew ?_ | refine blk_alloc ?_ _)); refine blk_far ?_ NB744_748.out _; (with_reducible repeat (first | refine blk_drewN ?_ _ | refine blk_drew ?_ | refine blk_alloc ?_ _)); exact BK744.out) hb); have n5_ := Aside0.mk (blk_below (g := gb748) (o := .cells #[.slice Ao15 t745.length co15] 54 (0, 0)) (by (with_reducible repeat (first | refine blk_drewN ?_ _ | refine blk_drew ?_ | refine blk_alloc ?_ _)); refine blk_put (cs := #[.slice none 0 0]) ?_ 0 _ rfl; (with_reducible repeat (first | refine blk_drewN ?_ _ | refine blk_drew ?_ | refine blk_alloc ?_ _)); exact BK748.out) hb); have n6_ := Aside0.mk (below_step (blq HB.out) hb); clear HO747; clear BK742; clear BK743; clear BK744; clear BK748; clear HB; have HO747 := n0_; have HO751 := n1_; have BK742 := n2_; have BK743 := n3_; have BK744 := n4_; have BK748 := n5_; have HB := n6_; clear n0_ n1_ n2_ n3_ n4_ n5_ n6_; (try clear hb); (try clear hb2); (try clear hk); (try clear hi); (try clear ho0)))
 (try simp only [Act.put, List.setIfInBounds_toArray, List.set_cons_zero, List.set_cons_succ])
 go_cut [30] (fun v30 wc => ∃ (kq : Nat) (x30_5 : Bool), v30 = .bool x30_5 ∧ Aside0 (spec_TakeFor.j0 kq t749 x30_5 l0_0 t745 = some (r1, r2)) ∧ Aside0 (kq ≤ k) ∧ Aside0 (Kd.R (Kd.int .i64) 3 wc w.heap.size (fun k_ => some k_ ≠ ((.slice Ao15 t745.length co15) : Value).ownBlock) v750 t749) ∧ Aside0 (Kd.R (Kd.int .i64) 3 wc w.heap.size (fun k_ => some k_ ≠ (v750 : Value).ownBlock) (.slice Ao15 t745.length co15) t745) ∧ Aside0 (wc.heap[gb742]? = some (.cells #[(.slice A0_0 l0_0.length c0_0)] 54 (0, 0))) ∧ Aside0 (wc.heap[gb743]? = some (.cells #[.int .i64 a1_0, .int .i64 a1_1, .int .i64 a1_2] 56 (0, 0))) ∧ Aside0 (wc.heap[gb744]? = some (.cells #[(.slice none 0 0)] 54 (0, 0))) ∧ Aside0 (wc.heap[gb748]? = some (.cells #[(.slice Ao15 t745.length co15)] 54 (0, 0))) ∧ Aside0 (Below w.heap.size w wc))
 case first =>
  have H := HC6.out
  clear HC6
  replace H := Option.bind_eq_some_iff.mp H
  obtain ⟨t752, A230, H⟩ := H
  replace H : (if t752 = true then (if (t749.length : Int) = 0 then (spec_TakeFor.j0 k t749 true l0_0 t745) else ((spec_FirstMissing.f k l0_0 a1_0 a1_1 a1_2 a2).bind fun t753 => (spec_TakeFor.j0 k t749 (decide (t753 ≥ 0)) l0_0 t745))) else (spec_TakeFor.j0 k t749 true l0_0 t745)) = some (r1, r2) := H
  have A23 := Aside0.mk A230
  clear A230
  by_cases c24 : t752 = true
  ·
   subst c24
   have H1 : (if (t749.length : Int) = 0 then (spec_TakeFor.j0 k t749 true l0_0 t745) else ((spec_FirstMissing.f k l0_0 a1_0 a1_1 a1_2 a2).bind fun t753 => (spec_TakeFor.j0 k t749 (decide (t753 ≥ 0)) l0_0 t745))) = some (r1, r2) := by rw [if_pos rfl] at H; exact H
   clear H
   have H := H1
   clear H1
   by_cases c25 : (t749.length : Int) = 0
   ·
    rw [if_pos c25] at H
    have c25b0 : ((t749.length : Int) == 0) = true := beq_iff_eq.mpr c25
    have c25b1 : ((t749.length : Int) != 0) = false := bne_eq_false_iff_eq.mpr c25
    clear c25
    (first | rw [c25b0] | (simp only [i64_w, i32_w]; rw [c25b0]) | skip)
    have H' := Aside0.mk H
    clear H
    have hnb26 := NB742_743.out
    have hnc26 := NB743_742.out
    have hnb27 := NB742_744.out
    have hnc27 := NB744_742.out
    have hnb28 := NB742_748.out
    have hnc28 := NB748_742.out
    have hcz29_0 : w22.cell? ⟨gb742, 0, none⟩ = some (.slice A0_0 l0_0.length c0_0) := (blk_cell BK742.out 0).trans rfl
    have hfz29_0 := blk_frozen BK742.out 0
    go_wp2_with (first | ((with_reducible refine gate_callee (f := 92) rfl ?_); refine gLq (some 17) Try.func92 #[.agg #[.slice A0_0 l0_0.length c0_0]] ?_; (with_reducible refine (spec_StoreOk.calls k _ _ l0_0 true _ ?side1 ?side2 A23.out).mono ?_); (case side1 => exact Kd.Cq (Kd.C_below HR0_0.out HB.out)); (case side2 => exact HC0_0.out); rintro e w30 ⟨rfl, hb⟩; refine ⟨_, rfl, ?_⟩; have n0_ := Aside0.mk (Kd.R_below (Kd.Rq HO747.out) hb); have n1_ := Aside0.mk (Kd.R_below (Kd.Rq HO751.out) hb); have n2_ := Aside0.mk (blk_below (bkq BK742.out) hb); have n3_ := Aside0.mk (blk_below (bkq BK743.out) hb); have n4_ := Aside0.mk (blk_below (bkq BK744.out) hb); have n5_ := Aside0.mk (blk_below (bkq BK748.out) hb); have n6_ := Aside0.mk (below_step (blq HB.out) hb); clear HO747; clear HO751; clear BK742; clear BK743; clear BK744; clear BK748; clear HB; have HO747 := n0_; have HO751 := n1_; have BK742 := n2_; have BK743 := n3_; have BK744 := n4_; have BK748 := n5_; have HB := n6_; clear n0_ n1_ n2_ n3_ n4_ n5_ n6_; (try clear hb); (try clear hb2); (try clear hk); (try clear hi); obtain ⟨Ao31, co31, eo31⟩ := Kd.R_slice HO751.out; subst eo31))
    go_meet
    case rel => exact ⟨_, (true), (by first | rfl | (simp; done) | (simp [*]; done)), H', ⟨by first | omega | exact Nat.le_refl _⟩, ⟨Kd.Rq (Kd.R_mono HO751.out (fun _ hk => hk.2))⟩, ⟨Kd.Rq (Kd.R_mono HO747.out (fun _ hk => hk.2))⟩, ⟨bkq BK742.out⟩, ⟨bkq BK743.out⟩, ⟨bkq BK744.out⟩, ⟨bkq BK748.out⟩, ⟨blq HB.out⟩⟩
   ·
    rw [if_neg c25] at H
    have c25b0 : ((t749.length : Int) == 0) = false := beq_eq_false_iff_ne.mpr c25
    have c25b1 : ((t749.length : Int) != 0) = true := bne_iff_ne.mpr c25
    have c25b2 : ¬ (t749 = []) := fun h_ => c25 (by rw [h_]; rfl)
    (first | rw [c25b0] | (simp only [i64_w, i32_w]; rw [c25b0]) | skip)
    replace H := Option.bind_eq_some_iff.mp H
    obtain ⟨t753, A320, H⟩ := H
    replace H : (spec_TakeFor.j0 k t749 (decide (t753 ≥ 0)) l0_0 t745) = some (r1, r2) := H
    have A32 := Aside0.mk A320
    clear A320
    have H' := Aside0.mk H
    clear H
    have hnb33 := NB742_743.out
    have hnc33 := NB743_742.out
    have hnb34 := NB742_744.out
    have hnc34 := NB744_742.out
    have hnb35 := NB742_748.out
    have hnc35 := NB748_742.out
    have hcz36_0 : w22.cell? ⟨gb742, 0, none⟩ = some (.slice A0_0 l0_0.length c0_0) := (blk_cell BK742.out 0).trans rfl
    have hfz36_0 := blk_frozen BK742.out 0
    go_wp2_with (first | ((with_reducible refine gate_callee (f := 92) rfl ?_); refine gLq (some 17) Try.func92 #[.agg #[.slice A0_0 l0_0.length c0_0]] ?_; (with_reducible refine (spec_StoreOk.calls k _ _ l0_0 true _ ?side1 ?side2 A23.out).mono ?_); (case side1 => exact Kd.Cq (Kd.C_below HR0_0.out HB.out)); (case side2 => exact HC0_0.out); rintro e w37 ⟨rfl, hb⟩; refine ⟨_, rfl, ?_⟩; have n0_ := Aside0.mk (Kd.R_below (Kd.Rq HO747.out) hb); have n1_ := Aside0.mk (Kd.R_below (Kd.Rq HO751.out) hb); have n2_ := Aside0.mk (blk_below (bkq BK742.out) hb); have n3_ := Aside0.mk (blk_below (bkq BK743.out) hb); have n4_ := Aside0.mk (blk_below (bkq BK744.out) hb); have n5_ := Aside0.mk (blk_below (bkq BK748.out) hb); have n6_ := Aside0.mk (below_step (blq HB.out) hb); clear HO747; clear HO751; clear BK742; clear BK743; clear BK744; clear BK748; clear HB; have HO747 := n0_; have HO751 := n1_; have BK742 := n2_; have BK743 := n3_; have BK744 := n4_; have BK748 := n5_; have HB := n6_; clear n0_ n1_ n2_ n3_ n4_ n5_ n6_; (try clear hb); (try clear hb2); (try clear hk); (try clear hi); obtain ⟨Ao38, co38, eo38⟩ := Kd.R_slice HO751.out; subst eo38; have hcz39_0 : w37.cell? ⟨gb742, 0, none⟩ = some (.slice A0_0 l0_0.length c0_0) := (blk_cell BK742.out 0).trans rfl; have hfz39_0 := blk_frozen BK742.out 0; have hnb40 := NB743_744.out; have hnc40 := NB744_743.out; have hnb41 := NB743_748.out; have hnc41 := NB748_743.out; obtain ⟨hcz42_0, hcz42_1, hcz42_2, hfz42_0, hfz42_1, hfz42_2⟩ := bq3 BK743.out) | (go_at_call 94; (with_reducible refine (spec_FirstMissing.calls k _ _ l0_0 a1_0 a1_1 a1_2 a2 t753 _ ?side1 ?side2 A32.out).mono ?_); (case side1 => exact Kd.Cq (Kd.C_below HR0_0.out HB.out)); (case side2 => exact HC0_0.out); rintro e w43 ⟨rfl, hb⟩; have n0_ := Aside0.mk (Kd.R_below (Kd.Rq HO747.out) hb); have n1_ := Aside0.mk (Kd.R_below (Kd.Rq HO751.out) hb); have n2_ := Aside0.mk (blk_below (bkq BK742.out) hb); have n3_ := Aside0.mk (blk_below (bkq BK743.out) hb); have n4_ := Aside0.mk (blk_below (bkq BK744.out) hb); have n5_ := Aside0.mk (blk_below (bkq BK748.out) hb); have n6_ := Aside0.mk (below_step (blq HB.out) hb); clear HO747; clear HO751; clear BK742; clear BK743; clear BK744; clear BK748; clear HB; have HO747 := n0_; have HO751 := n1_; have BK742 := n2_; have BK743 := n3_; have BK744 := n4_; have BK748 := n5_; have HB := n6_; clear n0_ n1_ n2_ n3_ n4_ n5_ n6_; (try clear hb); (try clear hb2); (try clear hk); (try clear hi)))
    go_meet
    case rel => exact ⟨_, (decide (t753 ≥ 0)), (by first | rfl | (simp; done) | (simp [*]; done)), H', ⟨by first | omega | exact Nat.le_refl _⟩, ⟨Kd.Rq (Kd.R_mono HO751.out (fun _ hk => hk.2))⟩, ⟨Kd.Rq (Kd.R_mono HO747.out (fun _ hk => hk.2))⟩, ⟨bkq BK742.out⟩, ⟨bkq BK743.out⟩, ⟨bkq BK744.out⟩, ⟨bkq BK748.out⟩, ⟨blq HB.out⟩⟩
  ·
   replace c24 := Bool.eq_false_iff.mpr c24
   subst c24
   have H1 : (spec_TakeFor.j0 k t749 true l0_0 t745) = some (r1, r2) := by rw [if_neg (show ¬ (false = true) by decide)] at H; exact H
   clear H
   have H := H1
   clear H1
   have H' := Aside0.mk H
   clear H
   have hnb44 := NB742_743.out
   have hnc44 := NB743_742.out
   have hnb45 := NB742_744.out
   have hnc45 := NB744_742.out
   have hnb46 := NB742_748.out
   have hnc46 := NB748_742.out
   have hcz47_0 : w22.cell? ⟨gb742, 0, none⟩ = some (.slice A0_0 l0_0.length c0_0) := (blk_cell BK742.out 0).trans rfl
   have hfz47_0 := blk_frozen BK742.out 0
   go_wp2_with (first | ((with_reducible refine gate_callee (f := 92) rfl ?_); refine gLq (some 17) Try.func92 #[.agg #[.slice A0_0 l0_0.length c0_0]] ?_; (with_reducible refine (spec_StoreOk.calls k _ _ l0_0 false _ ?side1 ?side2 A23.out).mono ?_); (case side1 => exact Kd.Cq (Kd.C_below HR0_0.out HB.out)); (case side2 => exact HC0_0.out); rintro e w48 ⟨rfl, hb⟩; refine ⟨_, rfl, ?_⟩; have n0_ := Aside0.mk (Kd.R_below (Kd.Rq HO747.out) hb); have n1_ := Aside0.mk (Kd.R_below (Kd.Rq HO751.out) hb); have n2_ := Aside0.mk (blk_below (bkq BK742.out) hb); have n3_ := Aside0.mk (blk_below (bkq BK743.out) hb); have n4_ := Aside0.mk (blk_below (bkq BK744.out) hb); have n5_ := Aside0.mk (blk_below (bkq BK748.out) hb); have n6_ := Aside0.mk (below_step (blq HB.out) hb); clear HO747; clear HO751; clear BK742; clear BK743; clear BK744; clear BK748; clear HB; have HO747 := n0_; have HO751 := n1_; have BK742 := n2_; have BK743 := n3_; have BK744 := n4_; have BK748 := n5_; have HB := n6_; clear n0_ n1_ n2_ n3_ n4_ n5_ n6_; (try clear hb); (try clear hb2); (try clear hk); (try clear hi)))
   go_meet
   case rel => exact ⟨_, (true), (by first | rfl | (simp; done) | (simp [*]; done)), H', ⟨by first | omega | exact Nat.le_refl _⟩, ⟨Kd.Rq (Kd.R_mono HO751.out (fun _ hk => hk.2))⟩, ⟨Kd.Rq (Kd.R_mono HO747.out (fun _ hk => hk.2))⟩, ⟨bkq BK742.out⟩, ⟨bkq BK743.out⟩, ⟨bkq BK744.out⟩, ⟨bkq BK748.out⟩, ⟨blq HB.out⟩⟩
 case rest =>
  clear HC6
  try clear c1
  try clear c2
  try clear p2
  try clear c3
  try clear c4
  try clear c5
  try clear c9
  try clear c10
  try clear c11
  try clear c16
  try clear c17
  try clear c18
  try clear c20
  try clear c24
  try clear c25
  try clear c25b0
  try clear c25b1
  try clear c25b2
  try clear c26
  try clear c27
  try clear c28
  try clear c33
  try clear c34
  try clear c35
  try clear c40
  try clear c41
  try clear c44
  try clear c45
  try clear c46
  try clear hcz12_0
  try clear hcz19_0
  try clear hcz21_0
  try clear hcz21_1
  try clear hcz21_2
  try clear hcz29_0
  try clear hcz36_0
  try clear hcz39_0
  try clear hcz42_0
  try clear hcz42_1
  try clear hcz42_2
  try clear hcz47_0
  try clear hfz12_0
  try clear hfz19_0
  try clear hfz21_0
  try clear hfz21_1
  try clear hfz21_2
  try clear hfz29_0
  try clear hfz36_0
  try clear hfz39_0
  try clear hfz42_0
  try clear hfz42_1
  try clear hfz42_2
  try clear hfz47_0
  obtain ⟨kq, x30_5, rfl, HA, HJ5, HO_9, HO_749000, BK742, BK743, BK744, BK748, HB⟩ := hcut
  cases kq with
  | zero => exact absurd HA.out (by simp [spec_TakeFor.j0])
  | succ kj5 =>
   have H := HA.out
   clear HA
   simp only [spec_TakeFor.j0] at H
   by_cases c49 : x30_5 = true
   ·
    subst c49
    have H1 : (some (t745, false)) = some (r1, r2) := by rw [if_pos rfl] at H; exact H
    clear H
    have H := H1
    clear H1
    simp only [Option.some.injEq, Prod.mk.injEq] at H
    obtain ⟨rfl, rfl⟩ := H
    have hnb50 := NB748_742.out
    have hnc50 := NB742_748.out
    have hnb51 := NB748_743.out
    have hnc51 := NB743_748.out
    have hnb52 := NB748_744.out
    have hnc52 := NB744_748.out
    have hcz53_0 : wc.cell? ⟨gb748, 0, none⟩ = some (.slice Ao15 t745.length co15) := (blk_cell BK748.out 0).trans rfl
    have hfz53_0 := blk_frozen BK748.out 0
    have hnb54 := NB744_742.out
    have hnc54 := NB742_744.out
    have hnb55 := NB744_743.out
    have hnc55 := NB743_744.out
    have hcz56_0 : wc.cell? ⟨gb744, 0, none⟩ = some (.slice none 0 0) := (blk_cell BK744.out 0).trans rfl
    have hfz56_0 := blk_frozen BK744.out 0
    go_wp2
    refine bodyPost_ret (results_ct rfl _ _ gb744 54 #[.slice Ao15 t745.length co15] (0, 0) _ rfl (by (with_reducible repeat (first | refine blk_drewN ?_ _ | refine blk_drew ?_ | refine blk_alloc ?_ _)); refine blk_put (cs := #[.slice none 0 0]) ?_ 0 _ rfl; (with_reducible repeat (first | refine blk_drewN ?_ _ | refine blk_drew ?_ | refine blk_alloc ?_ _)); exact BK744.out) Try.underlying54 rfl (by kernel_rfl)) rfl ?_
    exact ⟨_, by first | rfl | (simp [errW_none, errW_some] <;> rfl) | (simp [*, errW_none, errW_some] <;> rfl), Kd.Rq (Kd.R_mono (Kd.R_far (p := ⟨gb744, 0, none⟩) (Kd.R_types HO_749000.out BK744.out (by decide)) (fun _ hk => hk.2) (.slice Ao15 t745.length co15)) (fun _ hk => trivial)), blq HB.out⟩
   ·
    replace c49 := Bool.eq_false_iff.mpr c49
    subst c49
    have H1 : (spec_TakeFor.l0 kj5 t749 0 l0_0 t745) = some (r1, r2) := by rw [if_neg (show ¬ (false = true) by decide)] at H; exact H
    clear H
    have H := H1
    clear H1
    have H' := Aside0.mk H
    clear H
    go_wp2
    go_loopg [10] kj5 (fun kq v10 w' => ∃ (x9_2 : List Int) (x10_2 : Int) (x749000_2 : List Int) (u749000 : Value), v10 = .int .i64 x10_2 ∧ Aside0 (spec_TakeFor.l0 kq x9_2 x10_2 l0_0 x749000_2 = some (r1, r2)) ∧ Aside0 (kq ≤ kj5) ∧ Aside0 (Kd.R (Kd.int .i64) 3 w' w.heap.size (fun k_ => some k_ ≠ (u749000 : Value).ownBlock) v750 x9_2) ∧ Aside0 (Kd.R (Kd.int .i64) 3 w' w.heap.size (fun k_ => some k_ ≠ (v750 : Value).ownBlock) u749000 x749000_2) ∧ Aside0 (w'.heap[gb742]? = some (.cells #[(.slice A0_0 l0_0.length c0_0)] 54 (0, 0))) ∧ Aside0 (w'.heap[gb743]? = some (.cells #[.int .i64 a1_0, .int .i64 a1_1, .int .i64 a1_2] 56 (0, 0))) ∧ Aside0 (w'.heap[gb744]? = some (.cells #[(.slice none 0 0)] 54 (0, 0))) ∧ Aside0 (w'.heap[gb748]? = some (.cells #[u749000] 54 (0, 0))) ∧ Aside0 (Below w.heap.size w w'))
    case atStart => exact ⟨(t749), (0), (t745), (.slice Ao15 t745.length co15), (by first | rfl | (simp; done) | (simp [*]; done)), H', ⟨Nat.le_refl _⟩, ⟨Kd.Rq HO_9.out⟩, ⟨Kd.Rq HO_749000.out⟩, ⟨bkq BK742.out⟩, ⟨bkq BK743.out⟩, ⟨bkq BK744.out⟩, ⟨bkq BK748.out⟩, ⟨blq HB.out⟩⟩
    case round =>
     clear H'
     try clear c1
     try clear c2
     try clear p2
     try clear c3
     try clear c4
     try clear c5
     try clear c9
     try clear c10
     try clear c11
     try clear c16
     try clear c17
     try clear c18
     try clear c20
     try clear c24
     try clear c25
     try clear c25b0
     try clear c25b1
     try clear c25b2
     try clear c26
     try clear c27
     try clear c28
     try clear c33
     try clear c34
     try clear c35
     try clear c40
     try clear c41
     try clear c44
     try clear c45
     try clear c46
     try clear c49
     try clear c50
     try clear c51
     try clear c52
     try clear c53
     try clear c54
     try clear c55
     try clear hcz12_0
     try clear hcz19_0
     try clear hcz21_0
     try clear hcz21_1
     try clear hcz21_2
     try clear hcz29_0
     try clear hcz36_0
     try clear hcz39_0
     try clear hcz42_0
     try clear hcz42_1
     try clear hcz42_2
     try clear hcz47_0
     try clear hcz53_0
     try clear hcz56_0
     try clear hfz12_0
     try clear hfz19_0
     try clear hfz21_0
     try clear hfz21_1
     try clear hfz21_2
     try clear hfz29_0
     try clear hfz36_0
     try clear hfz39_0
     try clear hfz42_0
     try clear hfz42_1
     try clear hfz42_2
     try clear hfz47_0
     try clear hfz53_0
     try clear hfz56_0
     try clear p2
     obtain ⟨x9_2, x10_2, x749000_2, u749000, rfl, HA, HK2, HO_9, HO_749000, BK742, BK743, BK744, BK748, HB⟩ := hrel
     cases gk with
     | zero => exact absurd HA.out (by simp [spec_TakeFor.l0])
     | succ k2 =>
      have H := HA.out
      clear HA
      simp only [spec_TakeFor.l0] at H
      by_cases c57 : x10_2 < 4
      ·
       rw [if_pos c57] at H
       have c57b0 : decide (x10_2 < 4) = true := decide_eq_true c57
       clear c57
       by_cases c58 : 0 ≤ x10_2
       ·
        rw [if_pos c58] at H
        have c58b0 : decide (0 ≤ x10_2) = true := decide_eq_true c58
        clear c58
        by_cases c59 : x10_2 < (l0_0.length : Int)
        ·
         rw [if_pos c59] at H
         have c59b0 : decide (x10_2 < (l0_0.length : Int)) = true := decide_eq_true c59
         clear c59
         by_cases c60 : x10_2 < (x9_2.length : Int)
         ·
          rw [if_pos c60] at H
          have c60b0 : decide (x10_2 < (x9_2.length : Int)) = true := decide_eq_true c60
          clear c60
          by_cases c61 : x10_2 < (x749000_2.length : Int)
          ·
           rw [if_pos c61] at H
           have c61b0 : decide (x10_2 < (x749000_2.length : Int)) = true := decide_eq_true c61
           clear c61
           obtain ⟨y756, hy756⟩ : ∃ y_ : List Int, y_ = (x749000_2.set (x10_2 : Int).toNat (wrap64 ((rd l0_0 x10_2) - (rd x9_2 x10_2)))) := ⟨_, rfl⟩
           replace H : (spec_TakeFor.l0 k2 x9_2 (wrap64 (x10_2 + 1)) l0_0 y756) = some (r1, r2) := by first | (rw [hy756]; with_reducible exact H) | (have H2_ := (Option.bind_some _ _).symm.trans H; rw [hy756]; with_reducible exact H2_) | (have H2_ := (Option.bind_some _ _).symm.trans H; with_reducible exact H2_) | with_reducible exact H | (rw [hy756]; exact H) | exact H
           have Ny756 := Aside0.mk hy756
           clear hy756
           have H' := Aside0.mk H
           clear H
           try go_wp2
           have n0_ := Aside0.mk (Kd.R_drew HO_9.out)
           have n1_ := Aside0.mk (Kd.R_drew HO_749000.out)
           have n2_ := Aside0.mk (blk_drew BK742.out)
           have n3_ := Aside0.mk (blk_drew BK743.out)
           have n4_ := Aside0.mk (blk_drew BK744.out)
           have n5_ := Aside0.mk (blk_drew BK748.out)
           have n6_ := Aside0.mk (below_drew1 HB.out)
           clear HO_9
           clear HO_749000
           clear BK742
           clear BK743
           clear BK744
           clear BK748
           clear HB
           have HO_9 := n0_
           have HO_749000 := n1_
           have BK742 := n2_
           have BK743 := n3_
           have BK744 := n4_
           have BK748 := n5_
           have HB := n6_
           clear n0_ n1_ n2_ n3_ n4_ n5_ n6_
           have p754 : 0 ≤ (x10_2 : Int) := of_decide_eq_true (by first | (with_reducible assumption) | assumption)
           have q754 : x10_2 < (l0_0.length : Int) := of_decide_eq_true (by first | (with_reducible assumption) | assumption)
           obtain ⟨ad754, e754, hx754_0⟩ := Kd.at_int HR0_0.out x10_2 p754 q754
           have hw754_0 := hx754_0
           cases e754
           replace hx754_0 := (HB.out.cell (World.block_lt_of_cell? w _ hx754_0)).trans hx754_0
           replace p754 := eq_true p754
           replace q754 := eq_true q754
           obtain ⟨Ao64, co64, eo64⟩ := Kd.R_slice HO_9.out
           (first | subst eo64 | (injection eo64 with f1_ f2_ f3_; have f4_ := f1_.symm; have f5_ := f3_.symm; clear f1_ f2_ f3_; subst f4_; subst f5_))
           have p755 : 0 ≤ (x10_2 : Int) := of_decide_eq_true (by first | (with_reducible assumption) | assumption)
           have q755 : x10_2 < (x9_2.length : Int) := of_decide_eq_true (by first | (with_reducible assumption) | assumption)
           obtain ⟨ad755, e755, hx755_0⟩ := Kd.at_int (Kd.R_reads' HO_9.out).2.2 x10_2 p755 q755
           cases e755
           replace p755 := eq_true p755
           replace q755 := eq_true q755
           have p62 : 0 ≤ (x10_2 : Int) := of_decide_eq_true (by first | (with_reducible assumption) | assumption)
           have q62 : (x10_2 : Int) < ((x749000_2.length : Int) : Int) := of_decide_eq_true (by first | (with_reducible assumption) | assumption)
           obtain ⟨go62, co62, eo62, gb62, gl62, cl62, HG62⟩ := Kd.R_form HO_749000.out (by omega)
           (first | cases eo62 | (injection eo62 with ea_ en_ ec_; (first | subst ea_ | (injection ea_ with ea_; subst ea_)); subst ec_; clear en_))
           have GB62 := Aside0.mk gb62
           have GG62 := Aside0.mk HG62
           clear gb62 gl62 HG62
           obtain ⟨hx62_0, hf62_0⟩ := Kd.R_celln 0 HO_749000.out (x10_2 : Int) p62 q62
           replace p62 := eq_true p62
           replace q62 := eq_true q62
           have HP65 := Kd.R_putn HO_749000.out (x10_2 : Int) (wrap64 ((rd l0_0 x10_2) - (rd x9_2 x10_2)))
           rw [← Ny756.out] at HP65
           have HQ65 := Aside0.mk HP65
           clear HP65
           refine start_ (n := 15) (S := fun w' => w'.cell? ⟨gb748, 0, none⟩ = some (.slice (some ⟨go62, 0, none⟩) x749000_2.length co62) ∧ w'.cell? ⟨gb742, 0, none⟩ = some (.slice (some ad754) l0_0.length c0_0) ∧ w'.cell? (ad754.add (x10_2).toNat) = some (.int .i64 (rd l0_0 x10_2)) ∧ w'.cell? (ad755.add (x10_2).toNat) = some (.int .i64 (rd x9_2 x10_2))) (ds := [14]) #[false, false, false, false, false, false, false, false, false, false, false, false, false, false, false] (by kernel_rfl) rfl rfl ⟨(blk_cell BK748.out 0).trans rfl, (blk_cell BK742.out 0).trans rfl, ((HB.out.cell (World.block_lt_of_cell? w _ hw754_0)).trans hw754_0), hx755_0⟩ (fun hHeld => ?_); refine with_tabW spec_TakeFor.tab8 spec_TakeFor.bits8 (fun HT_ HW_ => ?_)
           generalize wr.drew = w63 at HO_9 HO_749000 BK742 BK743 BK744 BK748 HB GG62 HQ65 hf62_0 hx62_0 hx754_0 hx755_0 hHeld ⊢
           refine pure_ (i := 0) (N := some 36) (v := ?_) (a' := ?_) #[true, false, false, false, false, false, false, false, false, false, false, false, false, false, false] rfl rfl (any_of HT_.out (by kernel_rfl)) (fun _ _ _ h => h) (Or.inl ⟨by rfl, ?_⟩) ?_ ?_
           rotate_left
           ·
            intro w'
            go_simp
            with_reducible rfl
           rotate_left
           ·
            simp only [Act.put, List.setIfInBounds_toArray, List.set_cons_zero, List.set_cons_succ, i64_w, i32_w]
            rfl
           refine pure_ (i := 2) (N := some 38) (v := ?_) (a' := ?_) #[true, false, true, false, false, false, false, false, false, false, false, false, false, false, false] rfl rfl (any_of HT_.out (by kernel_rfl)) (fun _ _ _ h => h) (Or.inl ⟨by rfl, ?_⟩) ?_ ?_
           rotate_left
           ·
            intro w'
            go_simp
            with_reducible rfl
           rotate_left
           ·
            simp only [Act.put, List.setIfInBounds_toArray, List.set_cons_zero, List.set_cons_succ, i64_w, i32_w]
            rfl
           refine pure_ (i := 3) (N := some 39) (v := ?_) (a' := ?_) #[true, false, true, true, false, false, false, false, false, false, false, false, false, false, false] rfl rfl (any_of HT_.out (by kernel_rfl)) (fun _ _ _ h => h) (Or.inl ⟨by rfl, ?_⟩) ?_ ?_
           rotate_left
           ·
            intro w'
            go_simp
            with_reducible rfl
           rotate_left
           ·
            simp only [Act.put, List.setIfInBounds_toArray, List.set_cons_zero, List.set_cons_succ, i64_w, i32_w]
            rfl
           refine pure_ (i := 5) (N := some 41) (v := ?_) (a' := ?_) #[true, false, true, true, false, true, false, false, false, false, false, false, false, false, false] rfl rfl (any_of HT_.out (by kernel_rfl)) (fun _ _ _ h => h) (Or.inl ⟨by rfl, ?_⟩) ?_ ?_
           rotate_left
           ·
            intro w'
            go_simp
            with_reducible rfl
           rotate_left
           ·
            simp only [Act.put, List.setIfInBounds_toArray, List.set_cons_zero, List.set_cons_succ, i64_w, i32_w]
            rfl
           refine pure_ (i := 8) (N := some 44) (v := ?_) (a' := ?_) #[true, false, true, true, false, true, false, false, true, false, false, false, false, false, false] rfl rfl (any_of HT_.out (by kernel_rfl)) (fun _ _ _ h => h) (Or.inl ⟨by rfl, ?_⟩) ?_ ?_
           rotate_left
           ·
            intro w'
            go_simp
            with_reducible rfl
           rotate_left
           ·
            simp only [Act.put, List.setIfInBounds_toArray, List.set_cons_zero, List.set_cons_succ, i64_w, i32_w]
            rfl
           refine pure_ (i := 9) (N := some 45) (v := ?_) (a' := ?_) #[true, false, true, true, false, true, false, false, true, true, false, false, false, false, false] rfl rfl (any_of HT_.out (by kernel_rfl)) (fun _ _ _ h => h) (Or.inl ⟨by rfl, ?_⟩) ?_ ?_
           rotate_left
           ·
            intro w'
            go_simp
            with_reducible rfl
           rotate_left
           ·
            simp only [Act.put, List.setIfInBounds_toArray, List.set_cons_zero, List.set_cons_succ, i64_w, i32_w]
            rfl
           refine pure_ (i := 10) (N := some 46) (v := ?_) (a' := ?_) #[true, false, true, true, false, true, false, false, true, true, true, false, false, false, false] rfl rfl (any_of HT_.out (by kernel_rfl)) (fun _ _ _ h => h) (Or.inl ⟨by rfl, ?_⟩) ?_ ?_
           rotate_left
           ·
            intro w'
            go_simp
            with_reducible rfl
           rotate_left
           ·
            simp only [Act.put, List.setIfInBounds_toArray, List.set_cons_zero, List.set_cons_succ, i64_w, i32_w]
            rfl
           refine take_ (i := 1) (N := some 37) (v := ?_) (a' := ?_) #[true, true, true, true, false, true, false, false, true, true, true, false, false, false, false] rfl rfl (take_ofW HT_.out HW_.out (by kernel_rfl)) (fun _ _ _ h => h) (Or.inl ⟨by rfl, ?_⟩) hHeld ?_ ?_
           rotate_left
           ·
            rintro w' ⟨s0, s1, s2, s3⟩
            go_simp
            with_reducible rfl
           rotate_left
           ·
            simp only [Act.put, List.setIfInBounds_toArray, List.set_cons_zero, List.set_cons_succ, i64_w, i32_w]
            rfl
           refine take_ (i := 4) (N := some 40) (v := ?_) (a' := ?_) #[true, true, true, true, true, true, false, false, true, true, true, false, false, false, false] rfl rfl (take_ofW HT_.out HW_.out (by kernel_rfl)) (fun _ _ _ h => h) (Or.inl ⟨by rfl, ?_⟩) hHeld ?_ ?_
           rotate_left
           ·
            rintro w' ⟨s0, s1, s2, s3⟩
            go_simp
            with_reducible rfl
           rotate_left
           ·
            simp only [Act.put, List.setIfInBounds_toArray, List.set_cons_zero, List.set_cons_succ, i64_w, i32_w]
            rfl
           refine pure_ (i := 6) (N := some 42) (v := ?_) (a' := ?_) #[true, true, true, true, true, true, true, false, true, true, true, false, false, false, false] rfl rfl (any_of HT_.out (by kernel_rfl)) (fun _ _ _ h => h) (Or.inl ⟨by rfl, ?_⟩) ?_ ?_
           rotate_left
           ·
            intro w'
            go_simp
            with_reducible rfl
           rotate_left
           ·
            simp only [Act.put, List.setIfInBounds_toArray, List.set_cons_zero, List.set_cons_succ, i64_w, i32_w]
            rfl
           refine take_ (i := 7) (N := some 43) (v := ?_) (a' := ?_) #[true, true, true, true, true, true, true, true, true, true, true, false, false, false, false] rfl rfl (take_ofW HT_.out HW_.out (by kernel_rfl)) (fun _ _ _ h => h) (Or.inl ⟨by rfl, ?_⟩) hHeld ?_ ?_
           rotate_left
           ·
            rintro w' ⟨s0, s1, s2, s3⟩
            go_simp
            with_reducible rfl
           rotate_left
           ·
            simp only [Act.put, List.setIfInBounds_toArray, List.set_cons_zero, List.set_cons_succ, i64_w, i32_w]
            rfl
           refine take_ (i := 11) (N := some 47) (v := ?_) (a' := ?_) #[true, true, true, true, true, true, true, true, true, true, true, true, false, false, false] rfl rfl (take_ofW HT_.out HW_.out (by kernel_rfl)) (fun _ _ _ h => h) (Or.inl ⟨by rfl, ?_⟩) hHeld ?_ ?_
           rotate_left
           ·
            rintro w' ⟨s0, s1, s2, s3⟩
            go_simp
            with_reducible rfl
           rotate_left
           ·
            simp only [Act.put, List.setIfInBounds_toArray, List.set_cons_zero, List.set_cons_succ, i64_w, i32_w]
            rfl
           refine pure_ (i := 12) (N := some 48) (v := ?_) (a' := ?_) #[true, true, true, true, true, true, true, true, true, true, true, true, true, false, false] rfl rfl (any_of HT_.out (by kernel_rfl)) (fun _ _ _ h => h) (Or.inl ⟨by rfl, ?_⟩) ?_ ?_
           rotate_left
           ·
            intro w'
            go_simp
            with_reducible rfl
           rotate_left
           ·
            simp only [Act.put, List.setIfInBounds_toArray, List.set_cons_zero, List.set_cons_succ, i64_w, i32_w]
            rfl
           refine pure_ (i := 13) (N := some 49) (v := ?_) (a' := ?_) #[true, true, true, true, true, true, true, true, true, true, true, true, true, true, false] rfl rfl (any_of HT_.out (by kernel_rfl)) (fun _ _ _ h => h) (Or.inl ⟨by rfl, ?_⟩) ?_ ?_
           rotate_left
           ·
            intro w'
            go_simp
            with_reducible rfl
           rotate_left
           ·
            simp only [Act.put, List.setIfInBounds_toArray, List.set_cons_zero, List.set_cons_succ, i64_w, i32_w]
            rfl
           refine last_ (i := 14) (N := none) #[true, true, true, true, true, true, true, true, true, true, true, true, true, true, true] rfl rfl (one_of HT_.out (by kernel_rfl)) (by decide) (fun K hK => ?_)
           refine skip_ (w1 := ?_) (by rfl) rfl ?_ ?_
           rotate_left
           ·
            go_simp
            rfl
           refine hK.out _ _ ?_
           clear hK K
           refine done_ (done_of HT_.out (by kernel_rfl)) ?_
           try go_wp2
           go_roundg k2
           case measure => have := HJ5.out; have := HK2.out; omega
           case rel => exact ⟨(x9_2), (wrap64 (x10_2 + 1)), (y756), (.slice (some ⟨go62, 0, none⟩) x749000_2.length co62), (by first | rfl | (simp; done) | (simp [*]; done)), H', ⟨by have := HJ5.out; have := HK2.out; omega⟩, ⟨Kd.Rq (Kd.R_mono (Kd.R_far (p := ⟨go62, (x10_2 : Int).toNat, none⟩) (Kd.R_mono HO_9.out (fun k_ hk => (⟨hk, fun e_ => hk (by rw [e_]; rfl)⟩ : _ ∧ k_ ≠ go62))) (fun _ hk => hk.2) (.int .i64 (wrap64 ((rd l0_0 x10_2) - (rd x9_2 x10_2))))) (fun _ hk => hk.1))⟩, ⟨Kd.Rq HQ65.out⟩, ⟨by (with_reducible repeat (first | refine blk_drewN ?_ _ | refine blk_drew ?_ | refine blk_alloc ?_ _)); refine blk_far ?_ (by have h_ := Kd.R_ne HO_749000.out BK742.out (by decide); intro e_; exact h_ (by rw [e_]; rfl)) _; (with_reducible repeat (first | refine blk_drewN ?_ _ | refine blk_drew ?_ | refine blk_alloc ?_ _)); exact BK742.out⟩, ⟨by (with_reducible repeat (first | refine blk_drewN ?_ _ | refine blk_drew ?_ | refine blk_alloc ?_ _)); refine blk_far ?_ (by have h_ := Kd.R_ne HO_749000.out BK743.out (by decide); intro e_; exact h_ (by rw [e_]; rfl)) _; (with_reducible repeat (first | refine blk_drewN ?_ _ | refine blk_drew ?_ | refine blk_alloc ?_ _)); exact BK743.out⟩, ⟨by (with_reducible repeat (first | refine blk_drewN ?_ _ | refine blk_drew ?_ | refine blk_alloc ?_ _)); refine blk_far ?_ (by have h_ := Kd.R_ne HO_749000.out BK744.out (by decide); intro e_; exact h_ (by rw [e_]; rfl)) _; (with_reducible repeat (first | refine blk_drewN ?_ _ | refine blk_drew ?_ | refine blk_alloc ?_ _)); exact BK744.out⟩, ⟨by (with_reducible repeat (first | refine blk_drewN ?_ _ | refine blk_drew ?_ | refine blk_alloc ?_ _)); refine blk_far ?_ (by have h_ := Kd.R_ne HO_749000.out BK748.out (by decide); intro e_; exact h_ (by rw [e_]; rfl)) _; (with_reducible repeat (first | refine blk_drewN ?_ _ | refine blk_drew ?_ | refine blk_alloc ?_ _)); exact BK748.out⟩, ⟨blq HB.out⟩⟩
          ·
           rw [if_neg c61] at H
           exact absurd H (by simp)
         ·
          rw [if_neg c60] at H
          exact absurd H (by simp)
        ·
         rw [if_neg c59] at H
         exact absurd H (by simp)
       ·
        rw [if_neg c58] at H
        exact absurd H (by simp)
      ·
       rw [if_neg c57] at H
       have c57b0 : decide (x10_2 < 4) = false := decide_eq_false c57
       clear c57
       simp only [Option.some.injEq, Prod.mk.injEq] at H
       obtain ⟨rfl, rfl⟩ := H
       have hnb66 := NB748_742.out
       have hnc66 := NB742_748.out
       have hnb67 := NB748_743.out
       have hnc67 := NB743_748.out
       have hnb68 := NB748_744.out
       have hnc68 := NB744_748.out
       have hcz69_0 : wr.cell? ⟨gb748, 0, none⟩ = some (u749000) := (blk_cell BK748.out 0).trans rfl
       have hfz69_0 := blk_frozen BK748.out 0
       obtain ⟨Ao70, co70, eo70⟩ := Kd.R_slice HO_749000.out
       subst eo70
       have hnb71 := NB744_742.out
       have hnc71 := NB742_744.out
       have hnb72 := NB744_743.out
       have hnc72 := NB743_744.out
       have hcz73_0 : wr.cell? ⟨gb744, 0, none⟩ = some (.slice none 0 0) := (blk_cell BK744.out 0).trans rfl
       have hfz73_0 := blk_frozen BK744.out 0
       go_wp2
       refine bodyPost_ret (results_ct rfl _ _ gb744 54 #[.slice Ao70 x749000_2.length co70] (0, 0) _ rfl (by (with_reducible repeat (first | refine blk_drewN ?_ _ | refine blk_drew ?_ | refine blk_alloc ?_ _)); refine blk_put (cs := #[.slice none 0 0]) ?_ 0 _ rfl; (with_reducible repeat (first | refine blk_drewN ?_ _ | refine blk_drew ?_ | refine blk_alloc ?_ _)); exact BK744.out) Try.underlying54 rfl (by kernel_rfl)) rfl ?_
       exact ⟨_, by first | rfl | (simp [errW_none, errW_some] <;> rfl) | (simp [*, errW_none, errW_some] <;> rfl), Kd.Rq (Kd.R_mono (Kd.R_far (p := ⟨gb744, 0, none⟩) (Kd.R_types HO_749000.out BK744.out (by decide)) (fun _ hk => hk.2) (.slice Ao70 x749000_2.length co70)) (fun _ hk => trivial)), blq HB.out⟩

/-! ### laws_heldStock: function 55 -/
def laws_heldStock.f (k : Nat) (l0_0 : List Int) (a1 : Int) : Option (Int) := (laws_heldIntS.f k l0_0 a1).bind fun t763 => (if t763 < 0 then (some (-1)) else (some t763))
theorem laws_heldStock.mono : ∀ a0 a1 k, LeO (laws_heldStock.f k a0 a1) (laws_heldStock.f (k + 1) a0 a1) := by
 intro a0 a1 k
 unfold laws_heldStock.f
 repeat' first
   | (with_reducible exact laws_heldIntS.mono _ _ _)
   | (with_reducible exact LeO.refl _)
   | (with_reducible exact LeO.none _)
   | (with_reducible refine LeO.ite ?_ ?_)
   | (with_reducible refine LeO.bind ?_ (fun _ => ?_))
   | exact laws_heldIntS.mono _ _ _
   | exact LeO.none _
   | refine LeO.ite ?_ ?_
   | refine LeO.bind ?_ (fun _ => ?_)
set_option maxHeartbeats 8000000 in
set_option maxRecDepth 100000 in
theorem laws_heldStock.calls (k : Nat) (A0_0 : Option Addr) (c0_0 : Nat) (l0_0 : List Int) (a1 : Int) (r : Int) (w : World) (hr0_0 : Kd.C (Kd.int .i64) w A0_0 l0_0.length l0_0) (hc0_0 : l0_0.length ≤ c0_0) (h : laws_heldStock.f k l0_0 a1 = some r) :
  Calls Try.prog 55 #[.agg #[.slice A0_0 l0_0.length c0_0], .int .i64 a1] w fun e w' => e = .returned (.int .i64 r) ∧ Below w.heap.size w w' := by
 have hu54 := Try.underlying54
 have HR0_0 := Aside0.mk hr0_0
 have HC0_0 := Aside0.mk hc0_0
 clear hr0_0 hc0_0
 have HB := Aside0.mk (Below.refl w.heap.size w)
 have H : ((laws_heldIntS.f k l0_0 a1).bind fun t763 => (if t763 < 0 then (some (-1)) else (some t763))) = some r := h
 clear h
 replace H := Option.bind_eq_some_iff.mp H
 obtain ⟨t763, A30, H⟩ := H
 replace H : (if t763 < 0 then (some (-1)) else (some t763)) = some r := H
 have A3 := Aside0.mk A30
 clear A30
 by_cases c4 : t763 < 0
 ·
  rw [if_pos c4] at H
  have c4b0 : decide (t763 < 0) = true := decide_eq_true c4
  clear c4
  obtain rfl := Option.some.inj H
  go_enter Try.func55, Try.ntmps55
  go_wp2_with (first | ((with_reducible refine gate_dst (N := 2) rfl ?_); refine box_event ?hg (N := 2) ?hd (cs := #[.slice A0_0 l0_0.length c0_0]) (t := 54) ?hr ?_; (case hd => rfl); (case hg => rfl); (case hr => first | (go_simp; done) | (go_simp; rfl)); intro gb762 hg w5 hbox hb; have n0_ := Aside0.mk (below_step (blq HB.out) hb); have n1_ := Aside0.mk (hbox); have n2_ := Aside0.mk ((sq hg HB.out)); have n3_ := Aside0.mk ((sq hg HB.out)); clear HB; have HB := n0_; have BK762 := n1_; have GW762 := n2_; have GE762 := n3_; clear n0_ n1_ n2_ n3_; clear hb hbox hg; have hcz6_0 : w5.cell? ⟨gb762, 0, none⟩ = some (.slice A0_0 l0_0.length c0_0) := (blk_cell BK762.out 0).trans rfl; have hfz6_0 := blk_frozen BK762.out 0) | ((with_reducible refine gate_callee (f := 64) rfl ?_); refine gLq (some 8) Try.func64 #[.slice A0_0 l0_0.length c0_0, .int .i64 a1] ?_; (with_reducible refine (laws_heldIntS.calls k _ _ l0_0 a1 t763 _ ?side1 ?side2 A3.out).mono ?_); (case side1 => exact Kd.Cq (Kd.C_below HR0_0.out HB.out)); (case side2 => exact HC0_0.out); rintro e w' ⟨rfl, ⟨nd, rfl⟩⟩; refine ⟨_, rfl, ?_⟩))
  go_ret
  exact ⟨by first | rfl | (simp [errW_none, errW_some] <;> rfl) | (simp [*, errW_none, errW_some] <;> rfl), blq HB.out⟩
 ·
  rw [if_neg c4] at H
  have c4b0 : decide (t763 < 0) = false := decide_eq_false c4
  clear c4
  obtain rfl := Option.some.inj H
  go_enter Try.func55, Try.ntmps55
  go_wp2_with (first | ((with_reducible refine gate_dst (N := 2) rfl ?_); refine box_event ?hg (N := 2) ?hd (cs := #[.slice A0_0 l0_0.length c0_0]) (t := 54) ?hr ?_; (case hd => rfl); (case hg => rfl); (case hr => first | (go_simp; done) | (go_simp; rfl)); intro gb762 hg w7 hbox hb; have n0_ := Aside0.mk (below_step (blq HB.out) hb); have n1_ := Aside0.mk (hbox); have n2_ := Aside0.mk ((sq hg HB.out)); have n3_ := Aside0.mk ((sq hg HB.out)); clear HB; have HB := n0_; have BK762 := n1_; have GW762 := n2_; have GE762 := n3_; clear n0_ n1_ n2_ n3_; clear hb hbox hg; have hcz8_0 : w7.cell? ⟨gb762, 0, none⟩ = some (.slice A0_0 l0_0.length c0_0) := (blk_cell BK762.out 0).trans rfl; have hfz8_0 := blk_frozen BK762.out 0) | ((with_reducible refine gate_callee (f := 64) rfl ?_); refine gLq (some 8) Try.func64 #[.slice A0_0 l0_0.length c0_0, .int .i64 a1] ?_; (with_reducible refine (laws_heldIntS.calls k _ _ l0_0 a1 t763 _ ?side1 ?side2 A3.out).mono ?_); (case side1 => exact Kd.Cq (Kd.C_below HR0_0.out HB.out)); (case side2 => exact HC0_0.out); rintro e w' ⟨rfl, ⟨nd, rfl⟩⟩; refine ⟨_, rfl, ?_⟩))
  go_ret
  exact ⟨by first | rfl | (simp [errW_none, errW_some] <;> rfl) | (simp [*, errW_none, errW_some] <;> rfl), blq HB.out⟩

end Go.Proofs.Ytnlioefgpgamdaa.Q
