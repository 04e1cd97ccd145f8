-- Written for this claim by wip/xprint.py of this repository (by way of the kit's print); Lean checks every line.
import Derived.Test.YtnlioefgpgamdaaQ0
import Derived.Test.YtnlioefgpgamdaaQ11
namespace Go.Proofs.Ytnlioefgpgamdaa.Q
open Go.RowKit Go.Proofs.YtnlioefgpgamdaaW.PrintWords Go.Proofs.YtnlioefgpgamdaaW.PrintLast Go.Proofs.YtnlioefgpgamdaaW.PrintMore
attribute [local go_sem] max2_int min2_int max_two min_two max_three min_three max_four min_four   -- for this text's walks alone
set_option linter.unusedVariables false
set_option linter.unusedSimpArgs false

/-! ### spec_l37Count: function 119 -/
def spec_l37Count.l0 : Nat → List (S44) → Int → List (S44) → Int → Int → Int → Int → Int → Int → Option ((List (S44)) × Int × Int × Int × Int × Int × Int × Bool)
 | 0, _, _, _, _, _, _, _, _, _ => none
 | k + 1, x0, x5, x920000, x920001, x920002, x920003, x920004, x920005, x920006 => if x5 < (x0.length : Int) then (if 0 ≤ x5 then ((spec_EventOn.f k x920001 x920002 x920003 ((rd_T44 x0 x5).f0) ((rd_T44 x0 x5).f1)).bind fun bt921 => (if bt921.2.2.2.2.2.2 = true then (spec_l37Count.l0 k x0 (wrap64 (x5 + 1)) x920000 bt921.1 bt921.2.1 bt921.2.2.1 (wrap64 (x920004 + bt921.2.2.2.1)) (wrap64 (x920005 + bt921.2.2.2.2.1)) (wrap64 (x920006 + bt921.2.2.2.2.2.1))) else (some (x920000, x920001, x920002, x920003, x920004, x920005, x920006, false)))) else (none)) else (some (x920000, x920001, x920002, x920003, x920004, x920005, x920006, true))
def spec_l37Count.f (k : Nat) (l0 : List (S44)) : Option ((List (S44)) × Int × Int × Int × Int × Int × Int × Bool) := (some (([] : List (S44)) : List (S44))).bind fun y913 => (if y913.length + l0.length < 8796093022208 then ((some (y913 ++ l0 : List (S44))).bind fun y916 => (if (l0.length : Int) > 40 then (some (y916, 0, 0, 0, 0, 0, 0, false)) else (spec_l37Count.l0 k l0 0 y916 0 0 0 0 0 0))) else (none))
theorem spec_l37Count.mono_l : ∀ k, (∀ y0 y1 y2 y3 y4 y5 y6 y7 y8, LeO (spec_l37Count.l0 k y0 y1 y2 y3 y4 y5 y6 y7 y8) (spec_l37Count.l0 (k + 1) y0 y1 y2 y3 y4 y5 y6 y7 y8))
 | 0 => fun _ _ _ _ _ _ _ _ _ r h => by simp [spec_l37Count.l0] at h
 | k + 1 => by
  have ih0 := spec_l37Count.mono_l k
  ·
   intro y0 y1 y2 y3 y4 y5 y6 y7 y8
   unfold spec_l37Count.l0
   repeat' first
   | (with_reducible exact ih0 _ _ _ _ _ _ _ _ _)
   | (with_reducible exact spec_EventOn.mono _ _ _ _ _ _)
   | (with_reducible exact LeO.refl _)
   | (with_reducible exact LeO.none _)
   | (with_reducible refine LeO.ite ?_ ?_)
   | (with_reducible refine LeO.bind ?_ (fun _ => ?_))
   | exact ih0 _ _ _ _ _ _ _ _ _
   | exact spec_EventOn.mono _ _ _ _ _ _
   | exact LeO.none _
   | refine LeO.ite ?_ ?_
   | refine LeO.bind ?_ (fun _ => ?_)
theorem spec_l37Count.mono : ∀ a0 k, LeO (spec_l37Count.f k a0) (spec_l37Count.f (k + 1) a0) := by
 intro a0 k
 have ih0 := spec_l37Count.mono_l k
 unfold spec_l37Count.f
 repeat' first
   | (with_reducible exact ih0 _ _ _ _ _ _ _ _ _)
   | (with_reducible exact spec_EventOn.mono _ _ _ _ _ _)
   | (with_reducible exact LeO.refl _)
   | (with_reducible exact LeO.none _)
   | (with_reducible refine LeO.ite ?_ ?_)
   | (with_reducible refine LeO.bind ?_ (fun _ => ?_))
   | exact ih0 _ _ _ _ _ _ _ _ _
   | exact spec_EventOn.mono _ _ _ _ _ _
   | exact LeO.none _
   | refine LeO.ite ?_ ?_
   | refine LeO.bind ?_ (fun _ => ?_)
def spec_l37Count.T7 : Bool × List (List Nat × List Nat) := (true, [([], []), ([0], [0]), ([], []), ([], []), ([2, 3], [2, 3]), ([4], [4]), ([1, 5], [1, 5]), ([6], [6]), ([7], [7]), ([7], [7]), ([7], [7]), ([7], [7]), ([7], [7]), ([], []), ([13, 8, 6, 0, 1, 2, 3, 4, 5, 6, 7, 8, 13], [8, 13]), ([9, 14, 0, 1, 2, 3, 4, 5, 6, 7, 8, 9, 13, 14], [9]), ([10, 15, 0, 1, 2, 3, 4, 5, 6, 7, 8, 9, 10, 13, 14, 15], [10]), ([11, 16, 0, 1, 2, 3, 4, 5, 6, 7, 8, 9, 10, 11, 13, 14, 15, 16], [11]), ([12, 17, 0, 1, 2, 3, 4, 5, 6, 7, 8, 9, 10, 11, 12, 13, 14, 15, 16, 17], [12])])
def spec_l37Count.B7 : List Nat := [0, 1, 0, 0, 12, 28, 63, 127, 255, 255, 255, 255, 255, 0, 8703, 25599, 59391, 126975, 262143]
theorem spec_l37Count.tab7 : rtab .any (opsOf Try.f119 7) = spec_l37Count.T7 := by kernel_rfl
theorem spec_l37Count.bits7 : waitsOk spec_l37Count.T7.2 spec_l37Count.B7 = true := by kernel_rfl
set_option maxHeartbeats 8000000 in
set_option maxRecDepth 100000 in
theorem spec_l37Count.calls (k : Nat) (A0 : Option Addr) (c0 : Nat) (l0 : List (S44)) (r1 : List (S44)) (r2 : Int) (r3 : Int) (r4 : Int) (r5 : Int) (r6 : Int) (r7 : Int) (r8 : Bool) (w : World) (hr0 : Kd.C k44 w A0 l0.length l0) (hc0 : l0.length ≤ c0) (h : spec_l37Count.f k l0 = some (r1, r2, r3, r4, r5, r6, r7, r8)) :
  Calls Try.prog 119 #[.slice A0 l0.length c0] w fun e w' => ∃ v0_ : Value, e = .returned (.tuple #[.agg #[v0_, .int .i64 r2, .int .i64 r3, .int .i64 r4, .int .i64 r5, .int .i64 r6, .int .i64 r7], .bool r8]) ∧ Kd.R k44 44 w' w.heap.size (fun _ => True) v0_ r1 ∧ Below w.heap.size w w' := by
 have hu93 := Try.underlying93
 have hu40 := Try.underlying40
 have hu44 := Try.underlying44
 have HR0 := Aside0.mk hr0
 have HC0 := Aside0.mk hc0
 clear hr0 hc0
 have HB := Aside0.mk (Below.refl w.heap.size w)
 have H : ((some (([] : List (S44)) : List (S44))).bind fun y913 => (if y913.length + l0.length < 8796093022208 then ((some (y913 ++ l0 : List (S44))).bind fun y916 => (if (l0.length : Int) > 40 then (some (y916, 0, 0, 0, 0, 0, 0, false)) else (spec_l37Count.l0 k l0 0 y916 0 0 0 0 0 0))) else (none))) = some (r1, r2, r3, r4, r5, r6, r7, r8) := h
 clear h
 obtain ⟨y913, hy913⟩ : ∃ y_ : List (S44), y_ = (([] : List (S44))) := ⟨_, rfl⟩
 replace H : (if y913.length + l0.length < 8796093022208 then ((some (y913 ++ l0 : List (S44))).bind fun y916 => (if (l0.length : Int) > 40 then (some (y916, 0, 0, 0, 0, 0, 0, false)) else (spec_l37Count.l0 k l0 0 y916 0 0 0 0 0 0))) else (none)) = some (r1, r2, r3, r4, r5, r6, r7, r8) := by first | (rw [hy913]; with_reducible exact H) | (have H2_ := (Option.bind_some _ _).symm.trans H; rw [hy913]; with_reducible exact H2_) | (have H2_ := (Option.bind_some _ _).symm.trans H; with_reducible exact H2_) | with_reducible exact H | (rw [hy913]; exact H) | exact H
 have Ny913 := Aside0.mk hy913
 clear hy913
 by_cases c2 : y913.length + l0.length < 8796093022208
 ·
  rw [if_pos c2] at H
  have LMc2 := Aside0.mk c2
  clear c2
  obtain ⟨y916, hy916⟩ : ∃ y_ : List (S44), y_ = (y913 ++ l0) := ⟨_, rfl⟩
  replace H : (if (l0.length : Int) > 40 then (some (y916, 0, 0, 0, 0, 0, 0, false)) else (spec_l37Count.l0 k l0 0 y916 0 0 0 0 0 0)) = some (r1, r2, r3, r4, r5, r6, r7, r8) := by first | (rw [hy916]; with_reducible exact H) | (have H2_ := (Option.bind_some _ _).symm.trans H; rw [hy916]; with_reducible exact H2_) | (have H2_ := (Option.bind_some _ _).symm.trans H; with_reducible exact H2_) | with_reducible exact H | (rw [hy916]; exact H) | exact H
  have Ny916 := Aside0.mk hy916
  clear hy916
  by_cases c3 : (l0.length : Int) > 40
  ·
   rw [if_pos c3] at H
   have c3b0 : decide (40 < (l0.length : Int)) = true := decide_eq_true c3
   have c3b1 : decide (40 < l0.length) = true := decide_eq_true (by omega)
   clear c3
   simp only [Option.some.injEq, Prod.mk.injEq] at H
   obtain ⟨rfl, rfl, rfl, rfl, rfl, rfl, rfl, rfl⟩ := H
   go_enter Try.func119, Try.ntmps119
   go_wp2_with (first | ((with_reducible refine gate_dst (N := 2) rfl ?_); refine box_event ?hg (N := 2) ?hd (cs := #[.slice none 0 0, .int .i64 0, .int .i64 0, .int .i64 0, .int .i64 0, .int .i64 0, .int .i64 0]) (t := 93) ?hr ?_; (case hd => rfl); (case hg => rfl); (case hr => first | (go_simp; done) | (go_simp; rfl)); intro gb912 hg w4 hbox hb; have n0_ := Aside0.mk (below_step (blq HB.out) hb); have n1_ := Aside0.mk (hbox); have n2_ := Aside0.mk ((sq hg HB.out)); have n3_ := Aside0.mk ((sq hg HB.out)); clear HB; have HB := n0_; have BK912 := n1_; have GW912 := n2_; have GE912 := n3_; clear n0_ n1_ n2_ n3_; clear hb hbox hg) | ((with_reducible refine gate_dst (N := 11) rfl ?_); refine Kd.R_lit k44 _ 44 ?hg (N := 11) ?hd (xs := ([] : List (S44))) (inner := []) (ok := fun _ => True) (okp := fun _ => True) ?hr ?hp (fun _ hk => hk) trivial (Below.refl _ _) (Nat.le_refl _) (by simp) ?_; (case hd => rfl); (case hg => rfl); (case hr => first | (go_simp; done) | (go_simp; rfl)); (case hp => exact (Reps.none _ _)); intro v914 w5 ho6 hb hg_ hnew_; clear hg_ hnew_; (first | rw [← Ny913.out] at ho6 | (simp only [Int.reduceToNat] at ho6; rw [← Ny913.out] at ho6)); have n0_ := Aside0.mk (Kd.R_lower ho6 (below_size (blq HB.out))); have n1_ := Aside0.mk (blk_below (bkq BK912.out) hb); have n2_ := Aside0.mk (below_step (blq HB.out) hb); clear BK912; clear HB; have HO915 := n0_; have BK912 := n1_; have HB := n2_; clear n0_ n1_ n2_; clear hb ho6) | ((with_reducible refine gate_builtin (b := .append) (xs := #[.tmp 11, .tmp 12]) rfl ?_); at_builtin; refine Kd.R_append_rows k44 (w0 := w) w.heap.size rfl (.tmp 11) (.tmp 12) 91 44 (.agg #[(.int .i64 0), (.int .i64 0)]) 16 rfl Try.underlying91 info44 rfl (by decide) (by omega) v914 y913 l0 _ _ _ (fun _ => True) (fun _ => False) rfl rfl ?aO ?aR (fun _ _ h => h) (fun _ h => h.elim) ?aF ?aB ?aS ?aL ?_; (case aR => repeat (first | exact (Kd.C_below HR0.out HB.out) | (with_reducible refine Kd.C_alloc ?_ _) | (with_reducible refine Kd.C_drewN ?_ _) | (with_reducible refine Kd.C_drew ?_))); (case aB => exact (blq HB.out)); (case aF => exact (fun _ _ => trivial)); (case aO => exact (Kd.Rq HO915.out)); (case aS => exact (below_size (blq HB.out))); (case aL => have := LMc2.out; omega); intro v917 w7 ho hb hg hat; rw [← Ny916.out] at ho; have n0_ := Aside0.mk (blk_grown (bkq BK912.out) hg (Kd.R_ne HO915.out BK912.out (by decide))); have n1_ := Aside0.mk (hb); have n2_ := Aside0.mk (ho); clear BK912; clear HB; clear HO915; have BK912 := n0_; have HB := n1_; have HO918 := n2_; clear n0_ n1_ n2_; clear ho hb hg hat; obtain ⟨Ao8, co8, eo8⟩ := Kd.R_slice HO918.out; subst eo8) | ((with_reducible refine gate_dst (N := 4) rfl ?_); refine box_event ?hg (N := 4) ?hd (cs := #[.slice none 0 0, .int .i64 0, .int .i64 0, .int .i64 0, .int .i64 0, .int .i64 0, .int .i64 0]) (t := 93) ?hr ?_; (case hd => rfl); (case hg => rfl); (case hr => first | (go_simp; done) | (go_simp; rfl)); intro gb919 hg w9 hbox hb; have n0_ := Aside0.mk (Kd.R_below (Kd.Rq HO918.out) hb); have n1_ := Aside0.mk (blk_below (bkq BK912.out) hb); have n2_ := Aside0.mk (below_step (blq HB.out) hb); have n3_ := Aside0.mk (hbox); have n4_ := Aside0.mk ((sq hg HB.out)); have n5_ := Aside0.mk ((sq hg HB.out)); have n6_ := Aside0.mk ((by rw [hg]; exact Nat.ne_of_lt (blk_lt (bkq BK912.out)) : gb912 ≠ gb919)); have n7_ := Aside0.mk ((by rw [hg]; exact Nat.ne_of_gt (blk_lt (bkq BK912.out)) : gb919 ≠ gb912)); clear HO918; clear BK912; clear HB; have HO918 := n0_; have BK912 := n1_; have HB := n2_; have BK919 := n3_; have GW919 := n4_; have GE919 := n5_; have NB912_919 := n6_; have NB919_912 := n7_; clear n0_ n1_ n2_ n3_ n4_ n5_ n6_ n7_; clear hb hbox hg; have hnb10 := NB919_912.out; have hnc10 := NB912_919.out; obtain ⟨hcz11_0, hcz11_1, hcz11_2, hcz11_3, hcz11_4, hcz11_5, hcz11_6, hfz11_0, hfz11_1, hfz11_2, hfz11_3, hfz11_4, hfz11_5, hfz11_6⟩ := bq7 BK919.out; obtain ⟨hcz12_0, hcz12_1, hcz12_2, hcz12_3, hcz12_4, hcz12_5, hcz12_6, hfz12_0, hfz12_1, hfz12_2, hfz12_3, hfz12_4, hfz12_5, hfz12_6⟩ := bq7 BK912.out))
   refine bodyPost_ret (results_ct rfl _ _ gb912 93 #[.slice Ao8 y916.length co8, .int .i64 0, .int .i64 0, .int .i64 0, .int .i64 0, .int .i64 0, .int .i64 0] (0, 0) _ rfl (by (with_reducible repeat (first | refine blk_drewN ?_ _ | refine blk_drew ?_ | refine blk_alloc ?_ _)); refine blk_put (cs := #[.slice Ao8 y916.length co8, .int .i64 0, .int .i64 0, .int .i64 0, .int .i64 0, .int .i64 0, .int .i64 0]) ?_ 6 _ rfl; (with_reducible repeat (first | refine blk_drewN ?_ _ | refine blk_drew ?_ | refine blk_alloc ?_ _)); refine blk_put (cs := #[.slice Ao8 y916.length co8, .int .i64 0, .int .i64 0, .int .i64 0, .int .i64 0, .int .i64 0, .int .i64 0]) ?_ 5 _ rfl; (with_reducible repeat (first | refine blk_drewN ?_ _ | refine blk_drew ?_ | refine blk_alloc ?_ _)); refine blk_put (cs := #[.slice Ao8 y916.length co8, .int .i64 0, .int .i64 0, .int .i64 0, .int .i64 0, .int .i64 0, .int .i64 0]) ?_ 4 _ rfl; (with_reducible repeat (first | refine blk_drewN ?_ _ | refine blk_drew ?_ | refine blk_alloc ?_ _)); refine blk_put (cs := #[.slice Ao8 y916.length co8, .int .i64 0, .int .i64 0, .int .i64 0, .int .i64 0, .int .i64 0, .int .i64 0]) ?_ 3 _ rfl; (with_reducible repeat (first | refine blk_drewN ?_ _ | refine blk_drew ?_ | refine blk_alloc ?_ _)); refine blk_put (cs := #[.slice Ao8 y916.length co8, .int .i64 0, .int .i64 0, .int .i64 0, .int .i64 0, .int .i64 0, .int .i64 0]) ?_ 2 _ rfl; (with_reducible repeat (first | refine blk_drewN ?_ _ | refine blk_drew ?_ | refine blk_alloc ?_ _)); refine blk_put (cs := #[.slice Ao8 y916.length co8, .int .i64 0, .int .i64 0, .int .i64 0, .int .i64 0, .int .i64 0, .int .i64 0]) ?_ 1 _ rfl; (with_reducible repeat (first | refine blk_drewN ?_ _ | refine blk_drew ?_ | refine blk_alloc ?_ _)); refine blk_put (cs := #[.slice none 0 0, .int .i64 0, .int .i64 0, .int .i64 0, .int .i64 0, .int .i64 0, .int .i64 0]) ?_ 0 _ rfl; (with_reducible repeat (first | refine blk_drewN ?_ _ | refine blk_drew ?_ | refine blk_alloc ?_ _)); refine blk_far ?_ NB912_919.out _; (with_reducible repeat (first | refine blk_drewN ?_ _ | refine blk_drew ?_ | refine blk_alloc ?_ _)); refine blk_far ?_ NB912_919.out _; (with_reducible repeat (first | refine blk_drewN ?_ _ | refine blk_drew ?_ | refine blk_alloc ?_ _)); refine blk_far ?_ NB912_919.out _; (with_reducible repeat (first | refine blk_drewN ?_ _ | refine blk_drew ?_ | refine blk_alloc ?_ _)); refine blk_far ?_ NB912_919.out _; (with_reducible repeat (first | refine blk_drewN ?_ _ | refine blk_drew ?_ | refine blk_alloc ?_ _)); refine blk_far ?_ NB912_919.out _; (with_reducible repeat (first | refine blk_drewN ?_ _ | refine blk_drew ?_ | refine blk_alloc ?_ _)); refine blk_far ?_ NB912_919.out _; (with_reducible repeat (first | refine blk_drewN ?_ _ | refine blk_drew ?_ | refine blk_alloc ?_ _)); refine blk_far ?_ NB912_919.out _; (with_reducible repeat (first | refine blk_drewN ?_ _ | refine blk_drew ?_ | refine blk_alloc ?_ _)); exact BK912.out) Try.underlying93 rfl (by kernel_rfl)) rfl ?_
   exact ⟨_, by first | rfl | (simp [errW_none, errW_some] <;> rfl) | (simp [*, errW_none, errW_some] <;> rfl), Kd.Rq (Kd.R_mono (Kd.R_far (p := ⟨gb912, 6, none⟩) (Kd.R_far (p := ⟨gb912, 5, none⟩) (Kd.R_far (p := ⟨gb912, 4, none⟩) (Kd.R_far (p := ⟨gb912, 3, none⟩) (Kd.R_far (p := ⟨gb912, 2, none⟩) (Kd.R_far (p := ⟨gb912, 1, none⟩) (Kd.R_far (p := ⟨gb912, 0, none⟩) (Kd.R_far (p := ⟨gb919, 6, none⟩) (Kd.R_far (p := ⟨gb919, 5, none⟩) (Kd.R_far (p := ⟨gb919, 4, none⟩) (Kd.R_far (p := ⟨gb919, 3, none⟩) (Kd.R_far (p := ⟨gb919, 2, none⟩) (Kd.R_far (p := ⟨gb919, 1, none⟩) (Kd.R_far (p := ⟨gb919, 0, none⟩) (Kd.R_types (Kd.R_types HO918.out BK919.out (by decide)) BK912.out (by decide)) (fun _ hk => hk.1.2) (.slice Ao8 y916.length co8)) (fun _ hk => hk.1.2) (.int .i64 0)) (fun _ hk => hk.1.2) (.int .i64 0)) (fun _ hk => hk.1.2) (.int .i64 0)) (fun _ hk => hk.1.2) (.int .i64 0)) (fun _ hk => hk.1.2) (.int .i64 0)) (fun _ hk => hk.1.2) (.int .i64 0)) (fun _ hk => hk.2) (.slice Ao8 y916.length co8)) (fun _ hk => hk.2) (.int .i64 0)) (fun _ hk => hk.2) (.int .i64 0)) (fun _ hk => hk.2) (.int .i64 0)) (fun _ hk => hk.2) (.int .i64 0)) (fun _ hk => hk.2) (.int .i64 0)) (fun _ hk => hk.2) (.int .i64 0)) (fun _ hk => trivial)), blq HB.out⟩
  ·
   rw [if_neg c3] at H
   have c3b0 : decide (40 < (l0.length : Int)) = false := decide_eq_false c3
   have c3b1 : decide (40 < l0.length) = false := decide_eq_false (by omega)
   clear c3
   have H' := Aside0.mk H
   clear H
   go_enter Try.func119, Try.ntmps119
   go_wp2_with (first | ((with_reducible refine gate_dst (N := 2) rfl ?_); refine box_event ?hg (N := 2) ?hd (cs := #[.slice none 0 0, .int .i64 0, .int .i64 0, .int .i64 0, .int .i64 0, .int .i64 0, .int .i64 0]) (t := 93) ?hr ?_; (case hd => rfl); (case hg => rfl); (case hr => first | (go_simp; done) | (go_simp; rfl)); intro gb912 hg w13 hbox hb; have n0_ := Aside0.mk (below_step (blq HB.out) hb); have n1_ := Aside0.mk (hbox); have n2_ := Aside0.mk ((sq hg HB.out)); have n3_ := Aside0.mk ((sq hg HB.out)); clear HB; have HB := n0_; have BK912 := n1_; have GW912 := n2_; have GE912 := n3_; clear n0_ n1_ n2_ n3_; clear hb hbox hg) | ((with_reducible refine gate_dst (N := 11) rfl ?_); refine Kd.R_lit k44 _ 44 ?hg (N := 11) ?hd (xs := ([] : List (S44))) (inner := []) (ok := fun _ => True) (okp := fun _ => True) ?hr ?hp (fun _ hk => hk) trivial (Below.refl _ _) (Nat.le_refl _) (by simp) ?_; (case hd => rfl); (case hg => rfl); (case hr => first | (go_simp; done) | (go_simp; rfl)); (case hp => exact (Reps.none _ _)); intro v914 w14 ho15 hb hg_ hnew_; clear hg_ hnew_; (first | rw [← Ny913.out] at ho15 | (simp only [Int.reduceToNat] at ho15; rw [← Ny913.out] at ho15)); have n0_ := Aside0.mk (Kd.R_lower ho15 (below_size (blq HB.out))); have n1_ := Aside0.mk (blk_below (bkq BK912.out) hb); have n2_ := Aside0.mk (below_step (blq HB.out) hb); clear BK912; clear HB; have HO915 := n0_; have BK912 := n1_; have HB := n2_; clear n0_ n1_ n2_; clear hb ho15) | ((with_reducible refine gate_builtin (b := .append) (xs := #[.tmp 11, .tmp 12]) rfl ?_); at_builtin; refine Kd.R_append_rows k44 (w0 := w) w.heap.size rfl (.tmp 11) (.tmp 12) 91 44 (.agg #[(.int .i64 0), (.int .i64 0)]) 16 rfl Try.underlying91 info44 rfl (by decide) (by omega) v914 y913 l0 _ _ _ (fun _ => True) (fun _ => False) rfl rfl ?aO ?aR (fun _ _ h => h) (fun _ h => h.elim) ?aF ?aB ?aS ?aL ?_; (case aR => repeat (first | exact (Kd.C_below HR0.out HB.out) | (with_reducible refine Kd.C_alloc ?_ _) | (with_reducible refine Kd.C_drewN ?_ _) | (with_reducible refine Kd.C_drew ?_))); (case aB => exact (blq HB.out)); (case aF => exact (fun _ _ => trivial)); (case aO => exact (Kd.Rq HO915.out)); (case aS => exact (below_size (blq HB.out))); (case aL => have := LMc2.out; omega); intro v917 w16 ho hb hg hat; rw [← Ny916.out] at ho; have n0_ := Aside0.mk (blk_grown (bkq BK912.out) hg (Kd.R_ne HO915.out BK912.out (by decide))); have n1_ := Aside0.mk (hb); have n2_ := Aside0.mk (ho); clear BK912; clear HB; clear HO915; have BK912 := n0_; have HB := n1_; have HO918 := n2_; clear n0_ n1_ n2_; clear ho hb hg hat; obtain ⟨Ao17, co17, eo17⟩ := Kd.R_slice HO918.out; subst eo17) | ((with_reducible refine gate_dst (N := 4) rfl ?_); refine box_event ?hg (N := 4) ?hd (cs := #[.slice none 0 0, .int .i64 0, .int .i64 0, .int .i64 0, .int .i64 0, .int .i64 0, .int .i64 0]) (t := 93) ?hr ?_; (case hd => rfl); (case hg => rfl); (case hr => first | (go_simp; done) | (go_simp; rfl)); intro gb919 hg w18 hbox hb; have n0_ := Aside0.mk (Kd.R_below (Kd.Rq HO918.out) hb); have n1_ := Aside0.mk (blk_below (bkq BK912.out) hb); have n2_ := Aside0.mk (below_step (blq HB.out) hb); have n3_ := Aside0.mk (hbox); have n4_ := Aside0.mk ((sq hg HB.out)); have n5_ := Aside0.mk ((sq hg HB.out)); have n6_ := Aside0.mk ((by rw [hg]; exact Nat.ne_of_lt (blk_lt (bkq BK912.out)) : gb912 ≠ gb919)); have n7_ := Aside0.mk ((by rw [hg]; exact Nat.ne_of_gt (blk_lt (bkq BK912.out)) : gb919 ≠ gb912)); clear HO918; clear BK912; clear HB; have HO918 := n0_; have BK912 := n1_; have HB := n2_; have BK919 := n3_; have GW919 := n4_; have GE919 := n5_; have NB912_919 := n6_; have NB919_912 := n7_; clear n0_ n1_ n2_ n3_ n4_ n5_ n6_ n7_; clear hb hbox hg; have hnb19 := NB919_912.out; have hnc19 := NB912_919.out; obtain ⟨hcz20_0, hcz20_1, hcz20_2, hcz20_3, hcz20_4, hcz20_5, hcz20_6, hfz20_0, hfz20_1, hfz20_2, hfz20_3, hfz20_4, hfz20_5, hfz20_6⟩ := bq7 BK919.out))
   go_loopg [5] k (fun kq v5 w' => ∃ (x5_1 : Int) (x913001_1 : Int) (x913002_1 : Int) (x913003_1 : Int) (x913004_1 : Int) (x913005_1 : Int) (x913006_1 : Int) (x920001_1 : Int) (x920002_1 : Int) (x920003_1 : Int) (x920004_1 : Int) (x920005_1 : Int) (x920006_1 : Int), v5 = .int .i64 x5_1 ∧ Aside0 (spec_l37Count.l0 kq l0 x5_1 y916 x920001_1 x920002_1 x920003_1 x920004_1 x920005_1 x920006_1 = some (r1, r2, r3, r4, r5, r6, r7, r8)) ∧ Aside0 (kq ≤ k) ∧ Aside0 (Kd.R k44 44 w' w.heap.size (fun _ => True) (.slice Ao17 y916.length co17) y916) ∧ Aside0 (w'.heap[gb912]? = some (.cells #[(.slice none 0 0), .int .i64 x913001_1, .int .i64 x913002_1, .int .i64 x913003_1, .int .i64 x913004_1, .int .i64 x913005_1, .int .i64 x913006_1] 93 (0, 0))) ∧ Aside0 (w'.heap[gb919]? = some (.cells #[(.slice Ao17 y916.length co17), .int .i64 x920001_1, .int .i64 x920002_1, .int .i64 x920003_1, .int .i64 x920004_1, .int .i64 x920005_1, .int .i64 x920006_1] 93 (0, 0))) ∧ Aside0 (Below w.heap.size w w'))
   case atStart => exact ⟨(0), (0), (0), (0), (0), (0), (0), (0), (0), (0), (0), (0), (0), (by first | rfl | (simp; done) | (simp [*]; done)), H', ⟨Nat.le_refl _⟩, ⟨Kd.Rq (Kd.R_mono (Kd.R_far (p := ⟨gb919, 6, none⟩) (Kd.R_far (p := ⟨gb919, 5, none⟩) (Kd.R_far (p := ⟨gb919, 4, none⟩) (Kd.R_far (p := ⟨gb919, 3, none⟩) (Kd.R_far (p := ⟨gb919, 2, none⟩) (Kd.R_far (p := ⟨gb919, 1, none⟩) (Kd.R_far (p := ⟨gb919, 0, none⟩) (Kd.R_types HO918.out BK919.out (by decide)) (fun _ hk => hk.2) (.slice Ao17 y916.length co17)) (fun _ hk => hk.2) (.int .i64 0)) (fun _ hk => hk.2) (.int .i64 0)) (fun _ hk => hk.2) (.int .i64 0)) (fun _ hk => hk.2) (.int .i64 0)) (fun _ hk => hk.2) (.int .i64 0)) (fun _ hk => hk.2) (.int .i64 0)) (fun _ hk => trivial))⟩, ⟨by (with_reducible repeat (first | refine blk_drewN ?_ _ | refine blk_drew ?_ | refine blk_alloc ?_ _)); refine blk_far ?_ NB912_919.out _; (with_reducible repeat (first | refine blk_drewN ?_ _ | refine blk_drew ?_ | refine blk_alloc ?_ _)); refine blk_far ?_ NB912_919.out _; (with_reducible repeat (first | refine blk_drewN ?_ _ | refine blk_drew ?_ | refine blk_alloc ?_ _)); refine blk_far ?_ NB912_919.out _; (with_reducible repeat (first | refine blk_drewN ?_ _ | refine blk_drew ?_ | refine blk_alloc ?_ _)); refine blk_far ?_ NB912_919.out _; (with_reducible repeat (first | refine blk_drewN ?_ _ | refine blk_drew ?_ | refine blk_alloc ?_ _)); refine blk_far ?_ NB912_919.out _; (with_reducible repeat (first | refine blk_drewN ?_ _ | refine blk_drew ?_ | refine blk_alloc ?_ _)); refine blk_far ?_ NB912_919.out _; (with_reducible repeat (first | refine blk_drewN ?_ _ | refine blk_drew ?_ | refine blk_alloc ?_ _)); refine blk_far ?_ NB912_919.out _; (with_reducible repeat (first | refine blk_drewN ?_ _ | refine blk_drew ?_ | refine blk_alloc ?_ _)); exact BK912.out⟩, ⟨by (with_reducible repeat (first | refine blk_drewN ?_ _ | refine blk_drew ?_ | refine blk_alloc ?_ _)); refine blk_put (cs := #[.slice Ao17 y916.length co17, .int .i64 0, .int .i64 0, .int .i64 0, .int .i64 0, .int .i64 0, .int .i64 0]) ?_ 6 _ rfl; (with_reducible repeat (first | refine blk_drewN ?_ _ | refine blk_drew ?_ | refine blk_alloc ?_ _)); refine blk_put (cs := #[.slice Ao17 y916.length co17, .int .i64 0, .int .i64 0, .int .i64 0, .int .i64 0, .int .i64 0, .int .i64 0]) ?_ 5 _ rfl; (with_reducible repeat (first | refine blk_drewN ?_ _ | refine blk_drew ?_ | refine blk_alloc ?_ _)); refine blk_put (cs := #[.slice Ao17 y916.length co17, .int .i64 0, .int .i64 0, .int .i64 0, .int .i64 0, .int .i64 0, .int .i64 0]) ?_ 4 _ rfl; (with_reducible repeat (first | refine blk_drewN ?_ _ | refine blk_drew ?_ | refine blk_alloc ?_ _)); refine blk_put (cs := #[.slice Ao17 y916.length co17, .int .i64 0, .int .i64 0, .int .i64 0, .int .i64 0, .int .i64 0, .int .i64 0]) ?_ 3 _ rfl; (with_reducible repeat (first | refine blk_drewN ?_ _ | refine blk_drew ?_ | refine blk_alloc ?_ _)); refine blk_put (cs := #[.slice Ao17 y916.length co17, .int .i64 0, .int .i64 0, .int .i64 0, .int .i64 0, .int .i64 0, .int .i64 0]) ?_ 2 _ rfl; (with_reducible repeat (first | refine blk_drewN ?_ _ | refine blk_drew ?_ | refine blk_alloc ?_ _)); refine blk_put (cs := #[.slice Ao17 y916.length co17, .int .i64 0, .int .i64 0, .int .i64 0, .int .i64 0, .int .i64 0, .int .i64 0]) ?_ 1 _ rfl; (with_reducible repeat (first | refine blk_drewN ?_ _ | refine blk_drew ?_ | refine blk_alloc ?_ _)); refine blk_put (cs := #[.slice none 0 0, .int .i64 0, .int .i64 0, .int .i64 0, .int .i64 0, .int .i64 0, .int .i64 0]) ?_ 0 _ rfl; (with_reducible repeat (first | refine blk_drewN ?_ _ | refine blk_drew ?_ | refine blk_alloc ?_ _)); exact BK919.out⟩, ⟨blq HB.out⟩⟩
   case round =>
    clear H'
    try clear c1
    try clear c2
    try clear p2
    try clear c3
    try clear c3b0
    try clear c3b1
    try clear c10
    try clear c11
    try clear c19
    try clear hcz11_0
    try clear hcz11_1
    try clear hcz11_2
    try clear hcz11_3
    try clear hcz11_4
    try clear hcz11_5
    try clear hcz11_6
    try clear hcz12_0
    try clear hcz12_1
    try clear hcz12_2
    try clear hcz12_3
    try clear hcz12_4
    try clear hcz12_5
    try clear hcz12_6
    try clear hcz20_0
    try clear hcz20_1
    try clear hcz20_2
    try clear hcz20_3
    try clear hcz20_4
    try clear hcz20_5
    try clear hcz20_6
    try clear hfz11_0
    try clear hfz11_1
    try clear hfz11_2
    try clear hfz11_3
    try clear hfz11_4
    try clear hfz11_5
    try clear hfz11_6
    try clear hfz12_0
    try clear hfz12_1
    try clear hfz12_2
    try clear hfz12_3
    try clear hfz12_4
    try clear hfz12_5
    try clear hfz12_6
    try clear hfz20_0
    try clear hfz20_1
    try clear hfz20_2
    try clear hfz20_3
    try clear hfz20_4
    try clear hfz20_5
    try clear hfz20_6
    obtain ⟨x5_1, x913001_1, x913002_1, x913003_1, x913004_1, x913005_1, x913006_1, x920001_1, x920002_1, x920003_1, x920004_1, x920005_1, x920006_1, rfl, HA, HK1, HO_920000, BK912, BK919, HB⟩ := hrel
    cases gk with
    | zero => exact absurd HA.out (by simp [spec_l37Count.l0])
    | succ k1 =>
     have H := HA.out
     clear HA
     simp only [spec_l37Count.l0] at H
     by_cases c21 : x5_1 < (l0.length : Int)
     ·
      rw [if_pos c21] at H
      have c21b0 : decide (x5_1 < (l0.length : Int)) = true := decide_eq_true c21
      clear c21
      by_cases c22 : 0 ≤ x5_1
      ·
       rw [if_pos c22] at H
       have c22b0 : decide (0 ≤ x5_1) = true := decide_eq_true c22
       clear c22
       replace H := Option.bind_eq_some_iff.mp H
       obtain ⟨⟨t921, t922, t923, t924, t925, t926, t927⟩, A230, H⟩ := H
       replace H : (if t927 = true then (spec_l37Count.l0 k1 l0 (wrap64 (x5_1 + 1)) y916 t921 t922 t923 (wrap64 (x920004_1 + t924)) (wrap64 (x920005_1 + t925)) (wrap64 (x920006_1 + t926))) else (some (y916, x920001_1, x920002_1, x920003_1, x920004_1, x920005_1, x920006_1, false))) = some (r1, r2, r3, r4, r5, r6, r7, r8) := H
       have A23 := Aside0.mk A230
       clear A230
       by_cases c24 : t927 = true
       ·
        subst c24
        have H1 : (spec_l37Count.l0 k1 l0 (wrap64 (x5_1 + 1)) y916 t921 t922 t923 (wrap64 (x920004_1 + t924)) (wrap64 (x920005_1 + t925)) (wrap64 (x920006_1 + t926))) = some (r1, r2, r3, r4, r5, r6, r7, r8) := by rw [if_pos rfl] at H; exact H
        clear H
        have H := H1
        clear H1
        have H' := Aside0.mk H
        clear H
        try go_wp2
        have n0_ := Aside0.mk (Kd.R_drew HO_920000.out)
        have n1_ := Aside0.mk (blk_drew BK912.out)
        have n2_ := Aside0.mk (blk_drew BK919.out)
        have n3_ := Aside0.mk (below_drew1 HB.out)
        clear HO_920000
        clear BK912
        clear BK919
        clear HB
        have HO_920000 := n0_
        have BK912 := n1_
        have BK919 := n2_
        have HB := n3_
        clear n0_ n1_ n2_ n3_
        have p920 : 0 ≤ (x5_1 : Int) := of_decide_eq_true (by first | (with_reducible assumption) | assumption)
        have q920 : x5_1 < (l0.length : Int) := of_decide_eq_true (by first | (with_reducible assumption) | assumption)
        obtain ⟨ad920, e920, hx920_0, hx920_1⟩ := at_T44 HR0.out x5_1 p920 q920
        have hw920_1 := hx920_1
        have hw920_0 := hx920_0
        cases e920
        replace hx920_0 := (HB.out.cell (World.block_lt_of_cell? w _ hx920_0)).trans hx920_0
        replace hx920_1 := (HB.out.cell (World.block_lt_of_cell? w _ hx920_1)).trans hx920_1
        replace p920 := eq_true p920
        replace q920 := eq_true q920
        refine start_ (n := 19) (S := fun w' => w'.cell? ⟨gb919, 0, none⟩ = some (.slice Ao17 y916.length co17) ∧ w'.cell? ⟨gb919, 1, none⟩ = some (.int .i64 x920001_1) ∧ w'.cell? ⟨gb919, 2, none⟩ = some (.int .i64 x920002_1) ∧ w'.cell? ⟨gb919, 3, none⟩ = some (.int .i64 x920003_1) ∧ w'.cell? ⟨gb919, 4, none⟩ = some (.int .i64 x920004_1) ∧ w'.cell? ⟨gb919, 5, none⟩ = some (.int .i64 x920005_1) ∧ w'.cell? ⟨gb919, 6, none⟩ = some (.int .i64 x920006_1) ∧ w'.cell? (ad920.add ((x5_1).toNat * 2)) = some (.int .i64 ((rd_T44 l0 x5_1).f0)) ∧ w'.cell? ⟨(ad920.add ((x5_1).toNat * 2)).block, (ad920.add ((x5_1).toNat * 2)).off + 1, none⟩ = some (.int .i64 ((rd_T44 l0 x5_1).f1))) (ds := []) #[false, false, false, false, false, false, false, false, false, false, false, false, false, false, false, false, false, false, false] (by kernel_rfl) rfl rfl ⟨(blk_cell BK919.out 0).trans rfl, (blk_cell BK919.out 1).trans rfl, (blk_cell BK919.out 2).trans rfl, (blk_cell BK919.out 3).trans rfl, (blk_cell BK919.out 4).trans rfl, (blk_cell BK919.out 5).trans rfl, (blk_cell BK919.out 6).trans rfl, ((HB.out.cell (World.block_lt_of_cell? w _ hw920_0)).trans hw920_0), ((HB.out.cell (World.block_lt_of_cell? w _ hw920_1)).trans hw920_1)⟩ (fun hHeld => ?_); refine with_tabW spec_l37Count.tab7 spec_l37Count.bits7 (fun HT_ HW_ => ?_)
        generalize wr.drew = w25 at HO_920000 BK912 BK919 HB hx920_0 hx920_1 hHeld ⊢
        refine pure_ (i := 0) (N := some 26) (v := ?_) (a' := ?_) #[true, false, false, false, false, false, false, false, false, false, false, false, false, false, false, false, false, false, false] rfl rfl (any_of HT_.out (by kernel_rfl)) (fun _ _ _ h => h) (Or.inl ⟨by rfl, ?_⟩) ?_ ?_
        rotate_left
        ·
         intro w'
         go_simp
         with_reducible rfl
        rotate_left
        ·
         simp only [Act.put, List.setIfInBounds_toArray, List.set_cons_zero, List.set_cons_succ, i64_w, i32_w]
         rfl
        refine pure_ (i := 2) (N := some 28) (v := ?_) (a' := ?_) #[true, false, true, false, false, false, false, false, false, false, false, false, false, false, false, false, false, false, false] rfl rfl (any_of HT_.out (by kernel_rfl)) (fun _ _ _ h => h) (Or.inl ⟨by rfl, ?_⟩) ?_ ?_
        rotate_left
        ·
         intro w'
         go_simp
         with_reducible rfl
        rotate_left
        ·
         simp only [Act.put, List.setIfInBounds_toArray, List.set_cons_zero, List.set_cons_succ, i64_w, i32_w]
         rfl
        refine pure_ (i := 3) (N := some 29) (v := ?_) (a' := ?_) #[true, false, true, true, false, false, false, false, false, false, false, false, false, false, false, false, false, false, false] rfl rfl (any_of HT_.out (by kernel_rfl)) (fun _ _ _ h => h) (Or.inl ⟨by rfl, ?_⟩) ?_ ?_
        rotate_left
        ·
         intro w'
         go_simp
         with_reducible rfl
        rotate_left
        ·
         simp only [Act.put, List.setIfInBounds_toArray, List.set_cons_zero, List.set_cons_succ, i64_w, i32_w]
         rfl
        refine pure_ (i := 4) (N := some 30) (v := ?_) (a' := ?_) #[true, false, true, true, true, false, false, false, false, false, false, false, false, false, false, false, false, false, false] rfl rfl (any_of HT_.out (by kernel_rfl)) (fun _ _ _ h => h) (Or.inl ⟨by rfl, ?_⟩) ?_ ?_
        rotate_left
        ·
         intro w'
         go_simp
         with_reducible rfl
        rotate_left
        ·
         simp only [Act.put, List.setIfInBounds_toArray, List.set_cons_zero, List.set_cons_succ, i64_w, i32_w]
         rfl
        refine take_ (i := 1) (N := some 27) (v := ?_) (a' := ?_) #[true, true, true, true, true, false, false, false, false, false, false, false, false, false, false, false, false, false, false] rfl rfl (take_ofW HT_.out HW_.out (by kernel_rfl)) (fun _ _ _ h => h) (Or.inl ⟨by rfl, ?_⟩) hHeld ?_ ?_
        rotate_left
        ·
         rintro w' ⟨s0, s1, s2, s3, s4, s5, s6, s7, s8⟩
         go_simp
         with_reducible rfl
        rotate_left
        ·
         simp only [Act.put, List.setIfInBounds_toArray, List.set_cons_zero, List.set_cons_succ, i64_w, i32_w]
         rfl
        refine take_ (i := 5) (N := some 31) (v := ?_) (a' := ?_) #[true, true, true, true, true, true, false, false, false, false, false, false, false, false, false, false, false, false, false] rfl rfl (take_ofW HT_.out HW_.out (by kernel_rfl)) (fun _ _ _ h => h) (Or.inl ⟨by rfl, ?_⟩) hHeld ?_ ?_
        rotate_left
        ·
         rintro w' ⟨s0, s1, s2, s3, s4, s5, s6, s7, s8⟩
         go_simp
         with_reducible rfl
        rotate_left
        ·
         simp only [Act.put, List.setIfInBounds_toArray, List.set_cons_zero, List.set_cons_succ, i64_w, i32_w]
         rfl
        refine join_ (σ := Nat) 5 #[true, true, true, true, true, true, true, true, true, true, true, true, true, true, false, false, false, false, false] (fun s_ => [(32, .tuple #[.agg #[.int .i64 t921, .int .i64 t922, .int .i64 t923], .int .i64 t924, .int .i64 t925, .int .i64 t926, .bool true]), (6, .pointer (some ⟨s_, 0, none⟩)), (25, .tuple #[.agg #[.int .i64 t921, .int .i64 t922, .int .i64 t923], .int .i64 t924, .int .i64 t925, .int .i64 t926, .bool true]), (33, .agg #[.int .i64 t921, .int .i64 t922, .int .i64 t923]), (34, .int .i64 t924), (35, .int .i64 t925), (36, .int .i64 t926), (37, .bool true)]) (fun s_ w' => (w'.cell? ⟨gb919, 0, none⟩ = some (.slice Ao17 y916.length co17) ∧ w'.cell? ⟨gb919, 1, none⟩ = some (.int .i64 x920001_1) ∧ w'.cell? ⟨gb919, 2, none⟩ = some (.int .i64 x920002_1) ∧ w'.cell? ⟨gb919, 3, none⟩ = some (.int .i64 x920003_1) ∧ w'.cell? ⟨gb919, 4, none⟩ = some (.int .i64 x920004_1) ∧ w'.cell? ⟨gb919, 5, none⟩ = some (.int .i64 x920005_1) ∧ w'.cell? ⟨gb919, 6, none⟩ = some (.int .i64 x920006_1) ∧ w'.cell? (ad920.add ((x5_1).toNat * 2)) = some (.int .i64 ((rd_T44 l0 x5_1).f0)) ∧ w'.cell? ⟨(ad920.add ((x5_1).toNat * 2)).block, (ad920.add ((x5_1).toNat * 2)).off + 1, none⟩ = some (.int .i64 ((rd_T44 l0 x5_1).f1))) ∧ (Kd.R k44 44 w' w.heap.size (fun _ => True) (.slice Ao17 y916.length co17) y916) ∧ (w'.heap[gb912]? = some (.cells #[.slice none 0 0, .int .i64 x913001_1, .int .i64 x913002_1, .int .i64 x913003_1, .int .i64 x913004_1, .int .i64 x913005_1, .int .i64 x913006_1] 93 (0, 0))) ∧ (w'.heap[gb919]? = some (.cells #[.slice Ao17 y916.length co17, .int .i64 x920001_1, .int .i64 x920002_1, .int .i64 x920003_1, .int .i64 x920004_1, .int .i64 x920005_1, .int .i64 x920006_1] 93 (0, 0))) ∧ (w'.heap[s_]? = some (.cells #[.int .i64 0, .int .i64 0, .int .i64 0] 40 (0, 0))) ∧ (w.heap.size ≤ s_) ∧ (w.heap.size ≤ s_) ∧ (gb912 ≠ s_) ∧ (s_ ≠ gb912) ∧ (gb919 ≠ s_) ∧ (s_ ≠ gb919) ∧ (Below w.heap.size w w')) ?_ ?_
        rotate_left
        ·
         intro hCont
         refine two_ (i := 6) (j := 13) (Ni := some 32) (Nj := some 6) #[true, true, true, true, true, true, true, false, false, false, false, false, false, false, false, false, false, false, false] #[true, true, true, true, true, true, false, false, false, false, false, false, false, true, false, false, false, false, false] rfl rfl rfl rfl (two_of HT_.out (by kernel_rfl)) (by decide) (by decide) (fun K hK => ?_) (fun K hK => ?_)
         ·
          skip
          refine goes_ Try.func25 (by kernel_rfl) rfl #[.agg #[.int .i64 x920001_1, .int .i64 x920002_1, .int .i64 x920003_1], .agg #[.int .i64 ((rd_T44 l0 x5_1).f0), .int .i64 ((rd_T44 l0 x5_1).f1)]] (by rfl) rfl rfl (by (try simp only [List.map_toArray, List.map_cons, List.map_nil]); first | done | rfl | (simp only [List.length_drop, List.length_take]; rfl)) ?_
          with_reducible refine (spec_EventOn.calls k1 x920001_1 x920002_1 x920003_1 ((rd_T44 l0 x5_1).f0) ((rd_T44 l0 x5_1).f1) t921 t922 t923 t924 t925 t926 true _ A23.out).mono ?_
          rintro e w26 ⟨rfl, hb⟩
          refine ⟨_, rfl, ?_⟩
          have n0_ := Aside0.mk (Kd.R_below (Kd.Rq HO_920000.out) hb)
          have n1_ := Aside0.mk (blk_below (bkq BK912.out) hb)
          have n2_ := Aside0.mk (blk_below (bkq BK919.out) hb)
          have n3_ := Aside0.mk (below_step (blq HB.out) hb)
          clear HO_920000
          clear BK912
          clear BK919
          clear HB
          have HO_920000 := n0_
          have BK912 := n1_
          have BK919 := n2_
          have HB := n3_
          clear n0_ n1_ n2_ n3_
          (try clear hb)
          (try clear hb2)
          (try clear hk)
          (try clear hi)
          refine hK.out _ _ ⟨(blk_cell BK919.out 0).trans rfl, (blk_cell BK919.out 1).trans rfl, (blk_cell BK919.out 2).trans rfl, (blk_cell BK919.out 3).trans rfl, (blk_cell BK919.out 4).trans rfl, (blk_cell BK919.out 5).trans rfl, (blk_cell BK919.out 6).trans rfl, ((HB.out.cell (World.block_lt_of_cell? w _ hw920_0)).trans hw920_0), ((HB.out.cell (World.block_lt_of_cell? w _ hw920_1)).trans hw920_1)⟩ (fun hHeld => ?_)
          clear hK K
          refine norm_ (a' := ?_) ?_ ?_
          rotate_left
          ·
           show Act.put _ (some 32) _ = _
           simp only [Act.put, List.setIfInBounds_toArray, List.set_cons_zero, List.set_cons_succ, i64_w, i32_w]
           rfl
          refine pure_ (i := 7) (N := some 25) (v := ?_) (a' := ?_) #[true, true, true, true, true, true, true, true, false, false, false, false, false, false, false, false, false, false, false] rfl rfl (any_of HT_.out (by kernel_rfl)) (fun _ _ _ h => h) (Or.inl ⟨by rfl, ?_⟩) ?_ ?_
          rotate_left
          ·
           intro w'
           go_simp
           with_reducible rfl
          rotate_left
          ·
           simp only [Act.put, List.setIfInBounds_toArray, List.set_cons_zero, List.set_cons_succ, i64_w, i32_w]
           rfl
          refine pure_ (i := 8) (N := some 33) (v := ?_) (a' := ?_) #[true, true, true, true, true, true, true, true, true, false, false, false, false, false, false, false, false, false, false] rfl rfl (any_of HT_.out (by kernel_rfl)) (fun _ _ _ h => h) (Or.inl ⟨by rfl, ?_⟩) ?_ ?_
          rotate_left
          ·
           intro w'
           go_simp
           with_reducible rfl
          rotate_left
          ·
           simp only [Act.put, List.setIfInBounds_toArray, List.set_cons_zero, List.set_cons_succ, i64_w, i32_w]
           rfl
          refine pure_ (i := 9) (N := some 34) (v := ?_) (a' := ?_) #[true, true, true, true, true, true, true, true, true, true, false, false, false, false, false, false, false, false, false] rfl rfl (any_of HT_.out (by kernel_rfl)) (fun _ _ _ h => h) (Or.inl ⟨by rfl, ?_⟩) ?_ ?_
          rotate_left
          ·
           intro w'
           go_simp
           with_reducible rfl
          rotate_left
          ·
           simp only [Act.put, List.setIfInBounds_toArray, List.set_cons_zero, List.set_cons_succ, i64_w, i32_w]
           rfl
          refine pure_ (i := 10) (N := some 35) (v := ?_) (a' := ?_) #[true, true, true, true, true, true, true, true, true, true, true, false, false, false, false, false, false, false, false] rfl rfl (any_of HT_.out (by kernel_rfl)) (fun _ _ _ h => h) (Or.inl ⟨by rfl, ?_⟩) ?_ ?_
          rotate_left
          ·
           intro w'
           go_simp
           with_reducible rfl
          rotate_left
          ·
           simp only [Act.put, List.setIfInBounds_toArray, List.set_cons_zero, List.set_cons_succ, i64_w, i32_w]
           rfl
          refine pure_ (i := 11) (N := some 36) (v := ?_) (a' := ?_) #[true, true, true, true, true, true, true, true, true, true, true, true, false, false, false, false, false, false, false] rfl rfl (any_of HT_.out (by kernel_rfl)) (fun _ _ _ h => h) (Or.inl ⟨by rfl, ?_⟩) ?_ ?_
          rotate_left
          ·
           intro w'
           go_simp
           with_reducible rfl
          rotate_left
          ·
           simp only [Act.put, List.setIfInBounds_toArray, List.set_cons_zero, List.set_cons_succ, i64_w, i32_w]
           rfl
          refine pure_ (i := 12) (N := some 37) (v := ?_) (a' := ?_) #[true, true, true, true, true, true, true, true, true, true, true, true, true, false, false, false, false, false, false] rfl rfl (any_of HT_.out (by kernel_rfl)) (fun _ _ _ h => h) (Or.inl ⟨by rfl, ?_⟩) ?_ ?_
          rotate_left
          ·
           intro w'
           go_simp
           with_reducible rfl
          rotate_left
          ·
           simp only [Act.put, List.setIfInBounds_toArray, List.set_cons_zero, List.set_cons_succ, i64_w, i32_w]
           rfl
          refine one_ (i := 13) (N := some 6) #[true, true, true, true, true, true, true, true, true, true, true, true, true, true, false, false, false, false, false] rfl rfl (one_of HT_.out (by kernel_rfl)) (by decide) (fun K hK => ?_)
          refine box_step ?hg (N := 6) ?hd (cs := #[.int .i64 0, .int .i64 0, .int .i64 0]) (t := 40) ?hr ?_; (case hd => rfl); (case hg => rfl); (case hr => first | (go_simp; done) | (go_simp; rfl))
          intro gb928 hg w27 hbox hb
          have n0_ := Aside0.mk (Kd.R_below (Kd.Rq HO_920000.out) hb)
          have n1_ := Aside0.mk (blk_below (bkq BK912.out) hb)
          have n2_ := Aside0.mk (blk_below (bkq BK919.out) hb)
          have n3_ := Aside0.mk (below_step (blq HB.out) hb)
          have n4_ := Aside0.mk (hbox)
          have n5_ := Aside0.mk ((sq hg HB.out))
          have n6_ := Aside0.mk ((sq hg HB.out))
          have n7_ := Aside0.mk ((by rw [hg]; exact Nat.ne_of_lt (blk_lt (bkq BK912.out)) : gb912 ≠ gb928))
          have n8_ := Aside0.mk ((by rw [hg]; exact Nat.ne_of_gt (blk_lt (bkq BK912.out)) : gb928 ≠ gb912))
          have n9_ := Aside0.mk ((by rw [hg]; exact Nat.ne_of_lt (blk_lt (bkq BK919.out)) : gb919 ≠ gb928))
          have n10_ := Aside0.mk ((by rw [hg]; exact Nat.ne_of_gt (blk_lt (bkq BK919.out)) : gb928 ≠ gb919))
          clear HO_920000
          clear BK912
          clear BK919
          clear HB
          have HO_920000 := n0_
          have BK912 := n1_
          have BK919 := n2_
          have HB := n3_
          have BK928 := n4_
          have GW928 := n5_
          have GE928 := n6_
          have NB912_928 := n7_
          have NB928_912 := n8_
          have NB919_928 := n9_
          have NB928_919 := n10_
          clear n0_ n1_ n2_ n3_ n4_ n5_ n6_ n7_ n8_ n9_ n10_
          clear hb hbox hg
          refine hK.out _ _ ⟨(blk_cell BK919.out 0).trans rfl, (blk_cell BK919.out 1).trans rfl, (blk_cell BK919.out 2).trans rfl, (blk_cell BK919.out 3).trans rfl, (blk_cell BK919.out 4).trans rfl, (blk_cell BK919.out 5).trans rfl, (blk_cell BK919.out 6).trans rfl, ((HB.out.cell (World.block_lt_of_cell? w _ hw920_0)).trans hw920_0), ((HB.out.cell (World.block_lt_of_cell? w _ hw920_1)).trans hw920_1)⟩ (fun hHeld => ?_)
          clear hK K
          refine norm_ (a' := ?_) ?_ ?_
          rotate_left
          ·
           show Act.put _ (some 6) _ = _
           simp only [Act.put, List.setIfInBounds_toArray, List.set_cons_zero, List.set_cons_succ, i64_w, i32_w]
           rfl
          exact norm_ (by simp only [putAll, Act.put, List.setIfInBounds_toArray, List.set_cons_zero, List.set_cons_succ]) (hCont (gb928) _ ⟨hHeld, (Kd.Rq HO_920000.out), (bkq BK912.out), (bkq BK919.out), (bkq BK928.out), GW928.out, GE928.out, NB912_928.out, NB928_912.out, NB919_928.out, NB928_919.out, (blq HB.out)⟩)
         ·
          skip
          refine box_step ?hg (N := 6) ?hd (cs := #[.int .i64 0, .int .i64 0, .int .i64 0]) (t := 40) ?hr ?_; (case hd => rfl); (case hg => rfl); (case hr => first | (go_simp; done) | (go_simp; rfl))
          intro gb928 hg w26 hbox hb
          have n0_ := Aside0.mk (Kd.R_below (Kd.Rq HO_920000.out) hb)
          have n1_ := Aside0.mk (blk_below (bkq BK912.out) hb)
          have n2_ := Aside0.mk (blk_below (bkq BK919.out) hb)
          have n3_ := Aside0.mk (below_step (blq HB.out) hb)
          have n4_ := Aside0.mk (hbox)
          have n5_ := Aside0.mk ((sq hg HB.out))
          have n6_ := Aside0.mk ((sq hg HB.out))
          have n7_ := Aside0.mk ((by rw [hg]; exact Nat.ne_of_lt (blk_lt (bkq BK912.out)) : gb912 ≠ gb928))
          have n8_ := Aside0.mk ((by rw [hg]; exact Nat.ne_of_gt (blk_lt (bkq BK912.out)) : gb928 ≠ gb912))
          have n9_ := Aside0.mk ((by rw [hg]; exact Nat.ne_of_lt (blk_lt (bkq BK919.out)) : gb919 ≠ gb928))
          have n10_ := Aside0.mk ((by rw [hg]; exact Nat.ne_of_gt (blk_lt (bkq BK919.out)) : gb928 ≠ gb919))
          clear HO_920000
          clear BK912
          clear BK919
          clear HB
          have HO_920000 := n0_
          have BK912 := n1_
          have BK919 := n2_
          have HB := n3_
          have BK928 := n4_
          have GW928 := n5_
          have GE928 := n6_
          have NB912_928 := n7_
          have NB928_912 := n8_
          have NB919_928 := n9_
          have NB928_919 := n10_
          clear n0_ n1_ n2_ n3_ n4_ n5_ n6_ n7_ n8_ n9_ n10_
          clear hb hbox hg
          refine hK.out _ _ ⟨(blk_cell BK919.out 0).trans rfl, (blk_cell BK919.out 1).trans rfl, (blk_cell BK919.out 2).trans rfl, (blk_cell BK919.out 3).trans rfl, (blk_cell BK919.out 4).trans rfl, (blk_cell BK919.out 5).trans rfl, (blk_cell BK919.out 6).trans rfl, ((HB.out.cell (World.block_lt_of_cell? w _ hw920_0)).trans hw920_0), ((HB.out.cell (World.block_lt_of_cell? w _ hw920_1)).trans hw920_1)⟩ (fun hHeld => ?_)
          clear hK K
          refine norm_ (a' := ?_) ?_ ?_
          rotate_left
          ·
           show Act.put _ (some 6) _ = _
           simp only [Act.put, List.setIfInBounds_toArray, List.set_cons_zero, List.set_cons_succ, i64_w, i32_w]
           rfl
          refine one_ (i := 6) (N := some 32) #[true, true, true, true, true, true, true, false, false, false, false, false, false, true, false, false, false, false, false] rfl rfl (one_of HT_.out (by kernel_rfl)) (by decide) (fun K hK => ?_)
          refine goes_ Try.func25 (by kernel_rfl) rfl #[.agg #[.int .i64 x920001_1, .int .i64 x920002_1, .int .i64 x920003_1], .agg #[.int .i64 ((rd_T44 l0 x5_1).f0), .int .i64 ((rd_T44 l0 x5_1).f1)]] (by rfl) rfl rfl (by (try simp only [List.map_toArray, List.map_cons, List.map_nil]); first | done | rfl | (simp only [List.length_drop, List.length_take]; rfl)) ?_
          with_reducible refine (spec_EventOn.calls k1 x920001_1 x920002_1 x920003_1 ((rd_T44 l0 x5_1).f0) ((rd_T44 l0 x5_1).f1) t921 t922 t923 t924 t925 t926 true _ A23.out).mono ?_
          rintro e w27 ⟨rfl, hb⟩
          refine ⟨_, rfl, ?_⟩
          have n0_ := Aside0.mk (Kd.R_below (Kd.Rq HO_920000.out) hb)
          have n1_ := Aside0.mk (blk_below (bkq BK912.out) hb)
          have n2_ := Aside0.mk (blk_below (bkq BK919.out) hb)
          have n3_ := Aside0.mk (blk_below (bkq BK928.out) hb)
          have n4_ := Aside0.mk (below_step (blq HB.out) hb)
          clear HO_920000
          clear BK912
          clear BK919
          clear BK928
          clear HB
          have HO_920000 := n0_
          have BK912 := n1_
          have BK919 := n2_
          have BK928 := n3_
          have HB := n4_
          clear n0_ n1_ n2_ n3_ n4_
          (try clear hb)
          (try clear hb2)
          (try clear hk)
          (try clear hi)
          refine hK.out _ _ ⟨(blk_cell BK919.out 0).trans rfl, (blk_cell BK919.out 1).trans rfl, (blk_cell BK919.out 2).trans rfl, (blk_cell BK919.out 3).trans rfl, (blk_cell BK919.out 4).trans rfl, (blk_cell BK919.out 5).trans rfl, (blk_cell BK919.out 6).trans rfl, ((HB.out.cell (World.block_lt_of_cell? w _ hw920_0)).trans hw920_0), ((HB.out.cell (World.block_lt_of_cell? w _ hw920_1)).trans hw920_1)⟩ (fun hHeld => ?_)
          clear hK K
          refine norm_ (a' := ?_) ?_ ?_
          rotate_left
          ·
           show Act.put _ (some 32) _ = _
           simp only [Act.put, List.setIfInBounds_toArray, List.set_cons_zero, List.set_cons_succ, i64_w, i32_w]
           rfl
          refine pure_ (i := 7) (N := some 25) (v := ?_) (a' := ?_) #[true, true, true, true, true, true, true, true, false, false, false, false, false, true, false, false, false, false, false] rfl rfl (any_of HT_.out (by kernel_rfl)) (fun _ _ _ h => h) (Or.inl ⟨by rfl, ?_⟩) ?_ ?_
          rotate_left
          ·
           intro w'
           go_simp
           with_reducible rfl
          rotate_left
          ·
           simp only [Act.put, List.setIfInBounds_toArray, List.set_cons_zero, List.set_cons_succ, i64_w, i32_w]
           rfl
          refine pure_ (i := 8) (N := some 33) (v := ?_) (a' := ?_) #[true, true, true, true, true, true, true, true, true, false, false, false, false, true, false, false, false, false, false] rfl rfl (any_of HT_.out (by kernel_rfl)) (fun _ _ _ h => h) (Or.inl ⟨by rfl, ?_⟩) ?_ ?_
          rotate_left
          ·
           intro w'
           go_simp
           with_reducible rfl
          rotate_left
          ·
           simp only [Act.put, List.setIfInBounds_toArray, List.set_cons_zero, List.set_cons_succ, i64_w, i32_w]
           rfl
          refine pure_ (i := 9) (N := some 34) (v := ?_) (a' := ?_) #[true, true, true, true, true, true, true, true, true, true, false, false, false, true, false, false, false, false, false] rfl rfl (any_of HT_.out (by kernel_rfl)) (fun _ _ _ h => h) (Or.inl ⟨by rfl, ?_⟩) ?_ ?_
          rotate_left
          ·
           intro w'
           go_simp
           with_reducible rfl
          rotate_left
          ·
           simp only [Act.put, List.setIfInBounds_toArray, List.set_cons_zero, List.set_cons_succ, i64_w, i32_w]
           rfl
          refine pure_ (i := 10) (N := some 35) (v := ?_) (a' := ?_) #[true, true, true, true, true, true, true, true, true, true, true, false, false, true, false, false, false, false, false] rfl rfl (any_of HT_.out (by kernel_rfl)) (fun _ _ _ h => h) (Or.inl ⟨by rfl, ?_⟩) ?_ ?_
          rotate_left
          ·
           intro w'
           go_simp
           with_reducible rfl
          rotate_left
          ·
           simp only [Act.put, List.setIfInBounds_toArray, List.set_cons_zero, List.set_cons_succ, i64_w, i32_w]
           rfl
          refine pure_ (i := 11) (N := some 36) (v := ?_) (a' := ?_) #[true, true, true, true, true, true, true, true, true, true, true, true, false, true, false, false, false, false, false] rfl rfl (any_of HT_.out (by kernel_rfl)) (fun _ _ _ h => h) (Or.inl ⟨by rfl, ?_⟩) ?_ ?_
          rotate_left
          ·
           intro w'
           go_simp
           with_reducible rfl
          rotate_left
          ·
           simp only [Act.put, List.setIfInBounds_toArray, List.set_cons_zero, List.set_cons_succ, i64_w, i32_w]
           rfl
          refine pure_ (i := 12) (N := some 37) (v := ?_) (a' := ?_) #[true, true, true, true, true, true, true, true, true, true, true, true, true, true, false, false, false, false, false] rfl rfl (any_of HT_.out (by kernel_rfl)) (fun _ _ _ h => h) (Or.inl ⟨by rfl, ?_⟩) ?_ ?_
          rotate_left
          ·
           intro w'
           go_simp
           with_reducible rfl
          rotate_left
          ·
           simp only [Act.put, List.setIfInBounds_toArray, List.set_cons_zero, List.set_cons_succ, i64_w, i32_w]
           rfl
          exact norm_ (by simp only [putAll, Act.put, List.setIfInBounds_toArray, List.set_cons_zero, List.set_cons_succ]) (hCont (gb928) _ ⟨hHeld, (Kd.Rq HO_920000.out), (bkq BK912.out), (bkq BK919.out), (bkq BK928.out), GW928.out, GE928.out, NB912_928.out, NB928_912.out, NB919_928.out, NB928_919.out, (blq HB.out)⟩)
        rintro gb928 w28 ⟨hS_, h0_, h1_, h2_, h3_, h4_, h5_, h6_, h7_, h8_, h9_, h10_⟩
        have n0_ : Aside0 (Kd.R k44 44 w28 w.heap.size (fun _ => True) (.slice Ao17 y916.length co17) y916) := ⟨h0_⟩
        have n1_ : Aside0 (w28.heap[gb912]? = some (.cells #[.slice none 0 0, .int .i64 x913001_1, .int .i64 x913002_1, .int .i64 x913003_1, .int .i64 x913004_1, .int .i64 x913005_1, .int .i64 x913006_1] 93 (0, 0))) := ⟨h1_⟩
        have n2_ : Aside0 (w28.heap[gb919]? = some (.cells #[.slice Ao17 y916.length co17, .int .i64 x920001_1, .int .i64 x920002_1, .int .i64 x920003_1, .int .i64 x920004_1, .int .i64 x920005_1, .int .i64 x920006_1] 93 (0, 0))) := ⟨h2_⟩
        have n3_ : Aside0 (w28.heap[gb928]? = some (.cells #[.int .i64 0, .int .i64 0, .int .i64 0] 40 (0, 0))) := ⟨h3_⟩
        have n4_ : Aside0 (w.heap.size ≤ gb928) := ⟨h4_⟩
        have n5_ : Aside0 (w.heap.size ≤ gb928) := ⟨h5_⟩
        have n6_ : Aside0 (gb912 ≠ gb928) := ⟨h6_⟩
        have n7_ : Aside0 (gb928 ≠ gb912) := ⟨h7_⟩
        have n8_ : Aside0 (gb919 ≠ gb928) := ⟨h8_⟩
        have n9_ : Aside0 (gb928 ≠ gb919) := ⟨h9_⟩
        have n10_ : Aside0 (Below w.heap.size w w28) := ⟨h10_⟩
        clear HO_920000
        clear BK912
        clear BK919
        clear HB
        clear h0_ h1_ h2_ h3_ h4_ h5_ h6_ h7_ h8_ h9_ h10_
        have HO_920000 := n0_
        have BK912 := n1_
        have BK919 := n2_
        have BK928 := n3_
        have GW928 := n4_
        have GE928 := n5_
        have NB912_928 := n6_
        have NB928_912 := n7_
        have NB919_928 := n8_
        have NB928_919 := n9_
        have HB := n10_
        clear n0_ n1_ n2_ n3_ n4_ n5_ n6_ n7_ n8_ n9_ n10_
        have hHeld : w28.cell? ⟨gb919, 0, none⟩ = some (.slice Ao17 y916.length co17) ∧ w28.cell? ⟨gb919, 1, none⟩ = some (.int .i64 x920001_1) ∧ w28.cell? ⟨gb919, 2, none⟩ = some (.int .i64 x920002_1) ∧ w28.cell? ⟨gb919, 3, none⟩ = some (.int .i64 x920003_1) ∧ w28.cell? ⟨gb919, 4, none⟩ = some (.int .i64 x920004_1) ∧ w28.cell? ⟨gb919, 5, none⟩ = some (.int .i64 x920005_1) ∧ w28.cell? ⟨gb919, 6, none⟩ = some (.int .i64 x920006_1) ∧ w28.cell? (ad920.add ((x5_1).toNat * 2)) = some (.int .i64 ((rd_T44 l0 x5_1).f0)) ∧ w28.cell? ⟨(ad920.add ((x5_1).toNat * 2)).block, (ad920.add ((x5_1).toNat * 2)).off + 1, none⟩ = some (.int .i64 ((rd_T44 l0 x5_1).f1)) := hS_
        refine norm_ (a' := ?_) ?_ ?_
        rotate_left
        ·
         simp only [putAll, Act.put, List.setIfInBounds_toArray, List.set_cons_zero, List.set_cons_succ]
         rfl
        refine one_ (i := 14) (N := none) #[true, true, true, true, true, true, true, true, true, true, true, true, true, true, true, false, false, false, false] rfl rfl (one_of HT_.out (by kernel_rfl)) (by decide) (fun K hK => ?_)
        have hs29 : w28.cell? ⟨gb928, 0, none⟩ = some (.int .i64 0) := (blk_cell BK928.out 0).trans rfl
        have hfs29 := blk_frozen BK928.out 0
        have hns29_0 := NB912_928.out
        have hns29_1 := NB919_928.out
        have hms29_0 := NB928_912.out
        have hms29_1 := NB928_919.out
        have hs30 : w28.cell? ⟨gb928, 1, none⟩ = some (.int .i64 0) := (blk_cell BK928.out 1).trans rfl
        have hfs30 := blk_frozen BK928.out 1
        have hns30_0 := NB912_928.out
        have hns30_1 := NB919_928.out
        have hms30_0 := NB928_912.out
        have hms30_1 := NB928_919.out
        have hs31 : w28.cell? ⟨gb928, 2, none⟩ = some (.int .i64 0) := (blk_cell BK928.out 2).trans rfl
        have hfs31 := blk_frozen BK928.out 2
        have hns31_0 := NB912_928.out
        have hns31_1 := NB919_928.out
        have hms31_0 := NB928_912.out
        have hms31_1 := NB928_919.out
        refine skip_ (w1 := ?_) (by rfl) rfl ?_ ?_
        rotate_left
        ·
         go_simp
         rfl
        refine hK.out _ _ ⟨((cell_far (p := ⟨gb928, _, none⟩) NB919_928.out _).trans (((cell_far (p := ⟨gb928, _, none⟩) NB919_928.out _).trans (((cell_far (p := ⟨gb928, _, none⟩) NB919_928.out _).trans (hHeld.1)))))), ((cell_far (p := ⟨gb928, _, none⟩) NB919_928.out _).trans (((cell_far (p := ⟨gb928, _, none⟩) NB919_928.out _).trans (((cell_far (p := ⟨gb928, _, none⟩) NB919_928.out _).trans (hHeld.2.1)))))), ((cell_far (p := ⟨gb928, _, none⟩) NB919_928.out _).trans (((cell_far (p := ⟨gb928, _, none⟩) NB919_928.out _).trans (((cell_far (p := ⟨gb928, _, none⟩) NB919_928.out _).trans (hHeld.2.2.1)))))), ((cell_far (p := ⟨gb928, _, none⟩) NB919_928.out _).trans (((cell_far (p := ⟨gb928, _, none⟩) NB919_928.out _).trans (((cell_far (p := ⟨gb928, _, none⟩) NB919_928.out _).trans (hHeld.2.2.2.1)))))), ((cell_far (p := ⟨gb928, _, none⟩) NB919_928.out _).trans (((cell_far (p := ⟨gb928, _, none⟩) NB919_928.out _).trans (((cell_far (p := ⟨gb928, _, none⟩) NB919_928.out _).trans (hHeld.2.2.2.2.1)))))), ((cell_far (p := ⟨gb928, _, none⟩) NB919_928.out _).trans (((cell_far (p := ⟨gb928, _, none⟩) NB919_928.out _).trans (((cell_far (p := ⟨gb928, _, none⟩) NB919_928.out _).trans (hHeld.2.2.2.2.2.1)))))), ((cell_far (p := ⟨gb928, _, none⟩) NB919_928.out _).trans (((cell_far (p := ⟨gb928, _, none⟩) NB919_928.out _).trans (((cell_far (p := ⟨gb928, _, none⟩) NB919_928.out _).trans (hHeld.2.2.2.2.2.2.1)))))), ((cell_far (p := ⟨gb928, _, none⟩) (by first | exact Nat.ne_of_lt (Nat.lt_of_lt_of_le (by have := World.block_lt_of_cell? _ _ hw920_0; first | rwa [add_block] at this | exact this) GW928.out) | (rw [add_block]; exact Nat.ne_of_lt (Nat.lt_of_lt_of_le (by have := World.block_lt_of_cell? _ _ hw920_0; first | rwa [add_block] at this | exact this) GW928.out)) | (show (Addr.add _ _).block ≠ _; rw [add_block]; exact Nat.ne_of_lt (Nat.lt_of_lt_of_le (by have := World.block_lt_of_cell? _ _ hw920_0; first | rwa [add_block] at this | exact this) GW928.out)) | (dsimp only; exact Nat.ne_of_lt (Nat.lt_of_lt_of_le (by have := World.block_lt_of_cell? _ _ hw920_0; first | rwa [add_block] at this | exact this) GW928.out))) _).trans (((cell_far (p := ⟨gb928, _, none⟩) (by first | exact Nat.ne_of_lt (Nat.lt_of_lt_of_le (by have := World.block_lt_of_cell? _ _ hw920_0; first | rwa [add_block] at this | exact this) GW928.out) | (rw [add_block]; exact Nat.ne_of_lt (Nat.lt_of_lt_of_le (by have := World.block_lt_of_cell? _ _ hw920_0; first | rwa [add_block] at this | exact this) GW928.out)) | (show (Addr.add _ _).block ≠ _; rw [add_block]; exact Nat.ne_of_lt (Nat.lt_of_lt_of_le (by have := World.block_lt_of_cell? _ _ hw920_0; first | rwa [add_block] at this | exact this) GW928.out)) | (dsimp only; exact Nat.ne_of_lt (Nat.lt_of_lt_of_le (by have := World.block_lt_of_cell? _ _ hw920_0; first | rwa [add_block] at this | exact this) GW928.out))) _).trans (((cell_far (p := ⟨gb928, _, none⟩) (by first | exact Nat.ne_of_lt (Nat.lt_of_lt_of_le (by have := World.block_lt_of_cell? _ _ hw920_0; first | rwa [add_block] at this | exact this) GW928.out) | (rw [add_block]; exact Nat.ne_of_lt (Nat.lt_of_lt_of_le (by have := World.block_lt_of_cell? _ _ hw920_0; first | rwa [add_block] at this | exact this) GW928.out)) | (show (Addr.add _ _).block ≠ _; rw [add_block]; exact Nat.ne_of_lt (Nat.lt_of_lt_of_le (by have := World.block_lt_of_cell? _ _ hw920_0; first | rwa [add_block] at this | exact this) GW928.out)) | (dsimp only; exact Nat.ne_of_lt (Nat.lt_of_lt_of_le (by have := World.block_lt_of_cell? _ _ hw920_0; first | rwa [add_block] at this | exact this) GW928.out))) _).trans (hHeld.2.2.2.2.2.2.2.1)))))), ((cell_far (p := ⟨gb928, _, none⟩) (by first | exact Nat.ne_of_lt (Nat.lt_of_lt_of_le (by have := World.block_lt_of_cell? _ _ hw920_1; first | rwa [add_block] at this | exact this) GW928.out) | (rw [add_block]; exact Nat.ne_of_lt (Nat.lt_of_lt_of_le (by have := World.block_lt_of_cell? _ _ hw920_1; first | rwa [add_block] at this | exact this) GW928.out)) | (show (Addr.add _ _).block ≠ _; rw [add_block]; exact Nat.ne_of_lt (Nat.lt_of_lt_of_le (by have := World.block_lt_of_cell? _ _ hw920_1; first | rwa [add_block] at this | exact this) GW928.out)) | (dsimp only; exact Nat.ne_of_lt (Nat.lt_of_lt_of_le (by have := World.block_lt_of_cell? _ _ hw920_1; first | rwa [add_block] at this | exact this) GW928.out))) _).trans (((cell_far (p := ⟨gb928, _, none⟩) (by first | exact Nat.ne_of_lt (Nat.lt_of_lt_of_le (by have := World.block_lt_of_cell? _ _ hw920_1; first | rwa [add_block] at this | exact this) GW928.out) | (rw [add_block]; exact Nat.ne_of_lt (Nat.lt_of_lt_of_le (by have := World.block_lt_of_cell? _ _ hw920_1; first | rwa [add_block] at this | exact this) GW928.out)) | (show (Addr.add _ _).block ≠ _; rw [add_block]; exact Nat.ne_of_lt (Nat.lt_of_lt_of_le (by have := World.block_lt_of_cell? _ _ hw920_1; first | rwa [add_block] at this | exact this) GW928.out)) | (dsimp only; exact Nat.ne_of_lt (Nat.lt_of_lt_of_le (by have := World.block_lt_of_cell? _ _ hw920_1; first | rwa [add_block] at this | exact this) GW928.out))) _).trans (((cell_far (p := ⟨gb928, _, none⟩) (by first | exact Nat.ne_of_lt (Nat.lt_of_lt_of_le (by have := World.block_lt_of_cell? _ _ hw920_1; first | rwa [add_block] at this | exact this) GW928.out) | (rw [add_block]; exact Nat.ne_of_lt (Nat.lt_of_lt_of_le (by have := World.block_lt_of_cell? _ _ hw920_1; first | rwa [add_block] at this | exact this) GW928.out)) | (show (Addr.add _ _).block ≠ _; rw [add_block]; exact Nat.ne_of_lt (Nat.lt_of_lt_of_le (by have := World.block_lt_of_cell? _ _ hw920_1; first | rwa [add_block] at this | exact this) GW928.out)) | (dsimp only; exact Nat.ne_of_lt (Nat.lt_of_lt_of_le (by have := World.block_lt_of_cell? _ _ hw920_1; first | rwa [add_block] at this | exact this) GW928.out))) _).trans (hHeld.2.2.2.2.2.2.2.2))))))⟩ (fun hHeld => ?_)
        clear hK K
        refine pure_ (i := 15) (N := some 7) (v := ?_) (a' := ?_) #[true, true, true, true, true, true, true, true, true, true, true, true, true, true, true, true, false, false, false] rfl rfl (any_of HT_.out (by kernel_rfl)) (fun _ _ _ h => h) (Or.inl ⟨by rfl, ?_⟩) ?_ ?_
        rotate_left
        ·
         intro w'
         go_simp
         with_reducible rfl
        rotate_left
        ·
         simp only [Act.put, List.setIfInBounds_toArray, List.set_cons_zero, List.set_cons_succ, i64_w, i32_w]
         rfl
        refine pure_ (i := 16) (N := some 8) (v := ?_) (a' := ?_) #[true, true, true, true, true, true, true, true, true, true, true, true, true, true, true, true, true, false, false] rfl rfl (any_of HT_.out (by kernel_rfl)) (fun _ _ _ h => h) (Or.inl ⟨by rfl, ?_⟩) ?_ ?_
        rotate_left
        ·
         intro w'
         go_simp
         with_reducible rfl
        rotate_left
        ·
         simp only [Act.put, List.setIfInBounds_toArray, List.set_cons_zero, List.set_cons_succ, i64_w, i32_w]
         rfl
        refine pure_ (i := 17) (N := some 9) (v := ?_) (a' := ?_) #[true, true, true, true, true, true, true, true, true, true, true, true, true, true, true, true, true, true, false] rfl rfl (any_of HT_.out (by kernel_rfl)) (fun _ _ _ h => h) (Or.inl ⟨by rfl, ?_⟩) ?_ ?_
        rotate_left
        ·
         intro w'
         go_simp
         with_reducible rfl
        rotate_left
        ·
         simp only [Act.put, List.setIfInBounds_toArray, List.set_cons_zero, List.set_cons_succ, i64_w, i32_w]
         rfl
        refine pure_ (i := 18) (N := some 10) (v := ?_) (a' := ?_) #[true, true, true, true, true, true, true, true, true, true, true, true, true, true, true, true, true, true, true] rfl rfl (any_of HT_.out (by kernel_rfl)) (fun _ _ _ h => h) (Or.inl ⟨by rfl, ?_⟩) ?_ ?_
        rotate_left
        ·
         intro w'
         go_simp
         with_reducible rfl
        rotate_left
        ·
         simp only [Act.put, List.setIfInBounds_toArray, List.set_cons_zero, List.set_cons_succ, i64_w, i32_w]
         rfl
        refine done_ (done_of HT_.out (by kernel_rfl)) ?_
        have hnb32 := NB928_912.out
        have hnc32 := NB912_928.out
        have hnb33 := NB928_919.out
        have hnc33 := NB919_928.out
        have hcz34_0 : w28.cell? ⟨gb928, 0, none⟩ = some (.int .i64 0) := (blk_cell BK928.out 0).trans rfl
        have hcz34_1 : w28.cell? ⟨gb928, 1, none⟩ = some (.int .i64 0) := (blk_cell BK928.out 1).trans rfl
        have hcz34_2 : w28.cell? ⟨gb928, 2, none⟩ = some (.int .i64 0) := (blk_cell BK928.out 2).trans rfl
        have hfz34_0 := blk_frozen BK928.out 0
        have hfz34_1 := blk_frozen BK928.out 1
        have hfz34_2 := blk_frozen BK928.out 2
        have hnb35 := NB919_912.out
        have hnc35 := NB912_919.out
        obtain ⟨hcz36_0, hcz36_1, hcz36_2, hcz36_3, hcz36_4, hcz36_5, hcz36_6, hfz36_0, hfz36_1, hfz36_2, hfz36_3, hfz36_4, hfz36_5, hfz36_6⟩ := bq7 BK919.out
        try go_wp2
        go_roundg k1
        case measure => have := HK1.out; omega
        case rel => exact ⟨(wrap64 (x5_1 + 1)), (x913001_1), (x913002_1), (x913003_1), (x913004_1), (x913005_1), (x913006_1), (t921), (t922), (t923), (wrap64 (x920004_1 + t924)), (wrap64 (x920005_1 + t925)), (wrap64 (x920006_1 + t926)), (by first | rfl | (simp; done) | (simp [*]; done)), H', ⟨by have := HK1.out; omega⟩, ⟨Kd.Rq (Kd.R_mono (Kd.R_far (p := ⟨gb919, 6, none⟩) (Kd.R_far (p := ⟨gb919, 5, none⟩) (Kd.R_far (p := ⟨gb919, 4, none⟩) (Kd.R_far (p := ⟨gb919, 3, none⟩) (Kd.R_far (p := ⟨gb919, 2, none⟩) (Kd.R_far (p := ⟨gb919, 1, none⟩) (Kd.R_far (p := ⟨gb928, 2, none⟩) (Kd.R_far (p := ⟨gb928, 1, none⟩) (Kd.R_far (p := ⟨gb928, 0, none⟩) (Kd.R_types (Kd.R_types HO_920000.out BK928.out (by decide)) BK919.out (by decide)) (fun _ hk => hk.1.2) (.int .i64 t921)) (fun _ hk => hk.1.2) (.int .i64 t922)) (fun _ hk => hk.1.2) (.int .i64 t923)) (fun _ hk => hk.2) (.int .i64 t921)) (fun _ hk => hk.2) (.int .i64 t922)) (fun _ hk => hk.2) (.int .i64 t923)) (fun _ hk => hk.2) (.int .i64 (wrap64 (x920004_1 + t924)))) (fun _ hk => hk.2) (.int .i64 (wrap64 (x920005_1 + t925)))) (fun _ hk => hk.2) (.int .i64 (wrap64 (x920006_1 + t926)))) (fun _ hk => trivial))⟩, ⟨by (with_reducible repeat (first | refine blk_drewN ?_ _ | refine blk_drew ?_ | refine blk_alloc ?_ _)); refine blk_far ?_ NB912_919.out _; (with_reducible repeat (first | refine blk_drewN ?_ _ | refine blk_drew ?_ | refine blk_alloc ?_ _)); refine blk_far ?_ NB912_919.out _; (with_reducible repeat (first | refine blk_drewN ?_ _ | refine blk_drew ?_ | refine blk_alloc ?_ _)); refine blk_far ?_ NB912_919.out _; (with_reducible repeat (first | refine blk_drewN ?_ _ | refine blk_drew ?_ | refine blk_alloc ?_ _)); refine blk_far ?_ NB912_919.out _; (with_reducible repeat (first | refine blk_drewN ?_ _ | refine blk_drew ?_ | refine blk_alloc ?_ _)); refine blk_far ?_ NB912_919.out _; (with_reducible repeat (first | refine blk_drewN ?_ _ | refine blk_drew ?_ | refine blk_alloc ?_ _)); refine blk_far ?_ NB912_919.out _; (with_reducible repeat (first | refine blk_drewN ?_ _ | refine blk_drew ?_ | refine blk_alloc ?_ _)); refine blk_far ?_ NB912_928.out _; (with_reducible repeat (first | refine blk_drewN ?_ _ | refine blk_drew ?_ | refine blk_alloc ?_ _)); refine blk_far ?_ NB912_928.out _; (with_reducible repeat (first | refine blk_drewN ?_ _ | refine blk_drew ?_ | refine blk_alloc ?_ _)); refine blk_far ?_ NB912_928.out _; (with_reducible repeat (first | refine blk_drewN ?_ _ | refine blk_drew ?_ | refine blk_alloc ?_ _)); exact BK912.out⟩, ⟨by (with_reducible repeat (first | refine blk_drewN ?_ _ | refine blk_drew ?_ | refine blk_alloc ?_ _)); refine blk_put (cs := #[.slice Ao17 y916.length co17, .int .i64 t921, .int .i64 t922, .int .i64 t923, .int .i64 (wrap64 (x920004_1 + t924)), .int .i64 (wrap64 (x920005_1 + t925)), .int .i64 x920006_1]) ?_ 6 _ rfl; (with_reducible repeat (first | refine blk_drewN ?_ _ | refine blk_drew ?_ | refine blk_alloc ?_ _)); refine blk_put (cs := #[.slice Ao17 y916.length co17, .int .i64 t921, .int .i64 t922, .int .i64 t923, .int .i64 (wrap64 (x920004_1 + t924)), .int .i64 x920005_1, .int .i64 x920006_1]) ?_ 5 _ rfl; (with_reducible repeat (first | refine blk_drewN ?_ _ | refine blk_drew ?_ | refine blk_alloc ?_ _)); refine blk_put (cs := #[.slice Ao17 y916.length co17, .int .i64 t921, .int .i64 t922, .int .i64 t923, .int .i64 x920004_1, .int .i64 x920005_1, .int .i64 x920006_1]) ?_ 4 _ rfl; (with_reducible repeat (first | refine blk_drewN ?_ _ | refine blk_drew ?_ | refine blk_alloc ?_ _)); refine blk_put (cs := #[.slice Ao17 y916.length co17, .int .i64 t921, .int .i64 t922, .int .i64 x920003_1, .int .i64 x920004_1, .int .i64 x920005_1, .int .i64 x920006_1]) ?_ 3 _ rfl; (with_reducible repeat (first | refine blk_drewN ?_ _ | refine blk_drew ?_ | refine blk_alloc ?_ _)); refine blk_put (cs := #[.slice Ao17 y916.length co17, .int .i64 t921, .int .i64 x920002_1, .int .i64 x920003_1, .int .i64 x920004_1, .int .i64 x920005_1, .int .i64 x920006_1]) ?_ 2 _ rfl; (with_reducible repeat (first | refine blk_drewN ?_ _ | refine blk_drew ?_ | refine blk_alloc ?_ _)); refine blk_put (cs := #[.slice Ao17 y916.length co17, .int .i64 x920001_1, .int .i64 x920002_1, .int .i64 x920003_1, .int .i64 x920004_1, .int .i64 x920005_1, .int .i64 x920006_1]) ?_ 1 _ rfl; (with_reducible repeat (first | refine blk_drewN ?_ _ | refine blk_drew ?_ | refine blk_alloc ?_ _)); refine blk_far ?_ NB919_928.out _; (with_reducible repeat (first | refine blk_drewN ?_ _ | refine blk_drew ?_ | refine blk_alloc ?_ _)); refine blk_far ?_ NB919_928.out _; (with_reducible repeat (first | refine blk_drewN ?_ _ | refine blk_drew ?_ | refine blk_alloc ?_ _)); refine blk_far ?_ NB919_928.out _; (with_reducible repeat (first | refine blk_drewN ?_ _ | refine blk_drew ?_ | refine blk_alloc ?_ _)); exact BK919.out⟩, ⟨blq HB.out⟩⟩
       ·
        replace c24 := Bool.eq_false_iff.mpr c24
        subst c24
        have H1 : (some (y916, x920001_1, x920002_1, x920003_1, x920004_1, x920005_1, x920006_1, false)) = some (r1, r2, r3, r4, r5, r6, r7, r8) := by rw [if_neg (show ¬ (false = true) by decide)] at H; exact H
        clear H
        have H := H1
        clear H1
        simp only [Option.some.injEq, Prod.mk.injEq] at H
        obtain ⟨rfl, rfl, rfl, rfl, rfl, rfl, rfl, rfl⟩ := H
        try go_wp2
        have n0_ := Aside0.mk (Kd.R_drew HO_920000.out)
        have n1_ := Aside0.mk (blk_drew BK912.out)
        have n2_ := Aside0.mk (blk_drew BK919.out)
        have n3_ := Aside0.mk (below_drew1 HB.out)
        clear HO_920000
        clear BK912
        clear BK919
        clear HB
        have HO_920000 := n0_
        have BK912 := n1_
        have BK919 := n2_
        have HB := n3_
        clear n0_ n1_ n2_ n3_
        have p920 : 0 ≤ (x5_1 : Int) := of_decide_eq_true (by first | (with_reducible assumption) | assumption)
        have q920 : x5_1 < (l0.length : Int) := of_decide_eq_true (by first | (with_reducible assumption) | assumption)
        obtain ⟨ad920, e920, hx920_0, hx920_1⟩ := at_T44 HR0.out x5_1 p920 q920
        have hw920_1 := hx920_1
        have hw920_0 := hx920_0
        cases e920
        replace hx920_0 := (HB.out.cell (World.block_lt_of_cell? w _ hx920_0)).trans hx920_0
        replace hx920_1 := (HB.out.cell (World.block_lt_of_cell? w _ hx920_1)).trans hx920_1
        replace p920 := eq_true p920
        replace q920 := eq_true q920
        refine start_ (n := 19) (S := fun w' => w'.cell? ⟨gb919, 0, none⟩ = some (.slice Ao17 y916.length co17) ∧ w'.cell? ⟨gb919, 1, none⟩ = some (.int .i64 x920001_1) ∧ w'.cell? ⟨gb919, 2, none⟩ = some (.int .i64 x920002_1) ∧ w'.cell? ⟨gb919, 3, none⟩ = some (.int .i64 x920003_1) ∧ w'.cell? ⟨gb919, 4, none⟩ = some (.int .i64 x920004_1) ∧ w'.cell? ⟨gb919, 5, none⟩ = some (.int .i64 x920005_1) ∧ w'.cell? ⟨gb919, 6, none⟩ = some (.int .i64 x920006_1) ∧ w'.cell? (ad920.add ((x5_1).toNat * 2)) = some (.int .i64 ((rd_T44 l0 x5_1).f0)) ∧ w'.cell? ⟨(ad920.add ((x5_1).toNat * 2)).block, (ad920.add ((x5_1).toNat * 2)).off + 1, none⟩ = some (.int .i64 ((rd_T44 l0 x5_1).f1))) (ds := []) #[false, false, false, false, false, false, false, false, false, false, false, false, false, false, false, false, false, false, false] (by kernel_rfl) rfl rfl ⟨(blk_cell BK919.out 0).trans rfl, (blk_cell BK919.out 1).trans rfl, (blk_cell BK919.out 2).trans rfl, (blk_cell BK919.out 3).trans rfl, (blk_cell BK919.out 4).trans rfl, (blk_cell BK919.out 5).trans rfl, (blk_cell BK919.out 6).trans rfl, ((HB.out.cell (World.block_lt_of_cell? w _ hw920_0)).trans hw920_0), ((HB.out.cell (World.block_lt_of_cell? w _ hw920_1)).trans hw920_1)⟩ (fun hHeld => ?_); refine with_tabW spec_l37Count.tab7 spec_l37Count.bits7 (fun HT_ HW_ => ?_)
        generalize wr.drew = w37 at HO_920000 BK912 BK919 HB hx920_0 hx920_1 hHeld ⊢
        refine pure_ (i := 0) (N := some 26) (v := ?_) (a' := ?_) #[true, false, false, false, false, false, false, false, false, false, false, false, false, false, false, false, false, false, false] rfl rfl (any_of HT_.out (by kernel_rfl)) (fun _ _ _ h => h) (Or.inl ⟨by rfl, ?_⟩) ?_ ?_
        rotate_left
        ·
         intro w'
         go_simp
         with_reducible rfl
        rotate_left
        ·
         simp only [Act.put, List.setIfInBounds_toArray, List.set_cons_zero, List.set_cons_succ, i64_w, i32_w]
         rfl
        refine pure_ (i := 2) (N := some 28) (v := ?_) (a' := ?_) #[true, false, true, false, false, false, false, false, false, false, false, false, false, false, false, false, false, false, false] rfl rfl (any_of HT_.out (by kernel_rfl)) (fun _ _ _ h => h) (Or.inl ⟨by rfl, ?_⟩) ?_ ?_
        rotate_left
        ·
         intro w'
         go_simp
         with_reducible rfl
        rotate_left
        ·
         simp only [Act.put, List.setIfInBounds_toArray, List.set_cons_zero, List.set_cons_succ, i64_w, i32_w]
         rfl
        refine pure_ (i := 3) (N := some 29) (v := ?_) (a' := ?_) #[true, false, true, true, false, false, false, false, false, false, false, false, false, false, false, false, false, false, false] rfl rfl (any_of HT_.out (by kernel_rfl)) (fun _ _ _ h => h) (Or.inl ⟨by rfl, ?_⟩) ?_ ?_
        rotate_left
        ·
         intro w'
         go_simp
         with_reducible rfl
        rotate_left
        ·
         simp only [Act.put, List.setIfInBounds_toArray, List.set_cons_zero, List.set_cons_succ, i64_w, i32_w]
         rfl
        refine pure_ (i := 4) (N := some 30) (v := ?_) (a' := ?_) #[true, false, true, true, true, false, false, false, false, false, false, false, false, false, false, false, false, false, false] rfl rfl (any_of HT_.out (by kernel_rfl)) (fun _ _ _ h => h) (Or.inl ⟨by rfl, ?_⟩) ?_ ?_
        rotate_left
        ·
         intro w'
         go_simp
         with_reducible rfl
        rotate_left
        ·
         simp only [Act.put, List.setIfInBounds_toArray, List.set_cons_zero, List.set_cons_succ, i64_w, i32_w]
         rfl
        refine take_ (i := 1) (N := some 27) (v := ?_) (a' := ?_) #[true, true, true, true, true, false, false, false, false, false, false, false, false, false, false, false, false, false, false] rfl rfl (take_ofW HT_.out HW_.out (by kernel_rfl)) (fun _ _ _ h => h) (Or.inl ⟨by rfl, ?_⟩) hHeld ?_ ?_
        rotate_left
        ·
         rintro w' ⟨s0, s1, s2, s3, s4, s5, s6, s7, s8⟩
         go_simp
         with_reducible rfl
        rotate_left
        ·
         simp only [Act.put, List.setIfInBounds_toArray, List.set_cons_zero, List.set_cons_succ, i64_w, i32_w]
         rfl
        refine take_ (i := 5) (N := some 31) (v := ?_) (a' := ?_) #[true, true, true, true, true, true, false, false, false, false, false, false, false, false, false, false, false, false, false] rfl rfl (take_ofW HT_.out HW_.out (by kernel_rfl)) (fun _ _ _ h => h) (Or.inl ⟨by rfl, ?_⟩) hHeld ?_ ?_
        rotate_left
        ·
         rintro w' ⟨s0, s1, s2, s3, s4, s5, s6, s7, s8⟩
         go_simp
         with_reducible rfl
        rotate_left
        ·
         simp only [Act.put, List.setIfInBounds_toArray, List.set_cons_zero, List.set_cons_succ, i64_w, i32_w]
         rfl
        refine join_ (σ := Nat) 5 #[true, true, true, true, true, true, true, true, true, true, true, true, true, true, false, false, false, false, false] (fun s_ => [(32, .tuple #[.agg #[.int .i64 t921, .int .i64 t922, .int .i64 t923], .int .i64 t924, .int .i64 t925, .int .i64 t926, .bool false]), (6, .pointer (some ⟨s_, 0, none⟩)), (25, .tuple #[.agg #[.int .i64 t921, .int .i64 t922, .int .i64 t923], .int .i64 t924, .int .i64 t925, .int .i64 t926, .bool false]), (33, .agg #[.int .i64 t921, .int .i64 t922, .int .i64 t923]), (34, .int .i64 t924), (35, .int .i64 t925), (36, .int .i64 t926), (37, .bool false)]) (fun s_ w' => (w'.cell? ⟨gb919, 0, none⟩ = some (.slice Ao17 y916.length co17) ∧ w'.cell? ⟨gb919, 1, none⟩ = some (.int .i64 x920001_1) ∧ w'.cell? ⟨gb919, 2, none⟩ = some (.int .i64 x920002_1) ∧ w'.cell? ⟨gb919, 3, none⟩ = some (.int .i64 x920003_1) ∧ w'.cell? ⟨gb919, 4, none⟩ = some (.int .i64 x920004_1) ∧ w'.cell? ⟨gb919, 5, none⟩ = some (.int .i64 x920005_1) ∧ w'.cell? ⟨gb919, 6, none⟩ = some (.int .i64 x920006_1) ∧ w'.cell? (ad920.add ((x5_1).toNat * 2)) = some (.int .i64 ((rd_T44 l0 x5_1).f0)) ∧ w'.cell? ⟨(ad920.add ((x5_1).toNat * 2)).block, (ad920.add ((x5_1).toNat * 2)).off + 1, none⟩ = some (.int .i64 ((rd_T44 l0 x5_1).f1))) ∧ (Kd.R k44 44 w' w.heap.size (fun _ => True) (.slice Ao17 y916.length co17) y916) ∧ (w'.heap[gb912]? = some (.cells #[.slice none 0 0, .int .i64 x913001_1, .int .i64 x913002_1, .int .i64 x913003_1, .int .i64 x913004_1, .int .i64 x913005_1, .int .i64 x913006_1] 93 (0, 0))) ∧ (w'.heap[gb919]? = some (.cells #[.slice Ao17 y916.length co17, .int .i64 x920001_1, .int .i64 x920002_1, .int .i64 x920003_1, .int .i64 x920004_1, .int .i64 x920005_1, .int .i64 x920006_1] 93 (0, 0))) ∧ (w'.heap[s_]? = some (.cells #[.int .i64 0, .int .i64 0, .int .i64 0] 40 (0, 0))) ∧ (w.heap.size ≤ s_) ∧ (w.heap.size ≤ s_) ∧ (gb912 ≠ s_) ∧ (s_ ≠ gb912) ∧ (gb919 ≠ s_) ∧ (s_ ≠ gb919) ∧ (Below w.heap.size w w')) ?_ ?_
        rotate_left
        ·
         intro hCont
         refine two_ (i := 6) (j := 13) (Ni := some 32) (Nj := some 6) #[true, true, true, true, true, true, true, false, false, false, false, false, false, false, false, false, false, false, false] #[true, true, true, true, true, true, false, false, false, false, false, false, false, true, false, false, false, false, false] rfl rfl rfl rfl (two_of HT_.out (by kernel_rfl)) (by decide) (by decide) (fun K hK => ?_) (fun K hK => ?_)
         ·
          skip
          refine goes_ Try.func25 (by kernel_rfl) rfl #[.agg #[.int .i64 x920001_1, .int .i64 x920002_1, .int .i64 x920003_1], .agg #[.int .i64 ((rd_T44 l0 x5_1).f0), .int .i64 ((rd_T44 l0 x5_1).f1)]] (by rfl) rfl rfl (by (try simp only [List.map_toArray, List.map_cons, List.map_nil]); first | done | rfl | (simp only [List.length_drop, List.length_take]; rfl)) ?_
          with_reducible refine (spec_EventOn.calls k1 x920001_1 x920002_1 x920003_1 ((rd_T44 l0 x5_1).f0) ((rd_T44 l0 x5_1).f1) t921 t922 t923 t924 t925 t926 false _ A23.out).mono ?_
          rintro e w38 ⟨rfl, hb⟩
          refine ⟨_, rfl, ?_⟩
          have n0_ := Aside0.mk (Kd.R_below (Kd.Rq HO_920000.out) hb)
          have n1_ := Aside0.mk (blk_below (bkq BK912.out) hb)
          have n2_ := Aside0.mk (blk_below (bkq BK919.out) hb)
          have n3_ := Aside0.mk (below_step (blq HB.out) hb)
          clear HO_920000
          clear BK912
          clear BK919
          clear HB
          have HO_920000 := n0_
          have BK912 := n1_
          have BK919 := n2_
          have HB := n3_
          clear n0_ n1_ n2_ n3_
          (try clear hb)
          (try clear hb2)
          (try clear hk)
          (try clear hi)
          refine hK.out _ _ ⟨(blk_cell BK919.out 0).trans rfl, (blk_cell BK919.out 1).trans rfl, (blk_cell BK919.out 2).trans rfl, (blk_cell BK919.out 3).trans rfl, (blk_cell BK919.out 4).trans rfl, (blk_cell BK919.out 5).trans rfl, (blk_cell BK919.out 6).trans rfl, ((HB.out.cell (World.block_lt_of_cell? w _ hw920_0)).trans hw920_0), ((HB.out.cell (World.block_lt_of_cell? w _ hw920_1)).trans hw920_1)⟩ (fun hHeld => ?_)
          clear hK K
          refine norm_ (a' := ?_) ?_ ?_
          rotate_left
          ·
           show Act.put _ (some 32) _ = _
           simp only [Act.put, List.setIfInBounds_toArray, List.set_cons_zero, List.set_cons_succ, i64_w, i32_w]
           rfl
          refine pure_ (i := 7) (N := some 25) (v := ?_) (a' := ?_) #[true, true, true, true, true, true, true, true, false, false, false, false, false, false, false, false, false, false, false] rfl rfl (any_of HT_.out (by kernel_rfl)) (fun _ _ _ h => h) (Or.inl ⟨by rfl, ?_⟩) ?_ ?_
          rotate_left
          ·
           intro w'
           go_simp
           with_reducible rfl
          rotate_left
          ·
           simp only [Act.put, List.setIfInBounds_toArray, List.set_cons_zero, List.set_cons_succ, i64_w, i32_w]
           rfl
          refine pure_ (i := 8) (N := some 33) (v := ?_) (a' := ?_) #[true, true, true, true, true, true, true, true, true, false, false, false, false, false, false, false, false, false, false] rfl rfl (any_of HT_.out (by kernel_rfl)) (fun _ _ _ h => h) (Or.inl ⟨by rfl, ?_⟩) ?_ ?_
          rotate_left
          ·
           intro w'
           go_simp
           with_reducible rfl
          rotate_left
          ·
           simp only [Act.put, List.setIfInBounds_toArray, List.set_cons_zero, List.set_cons_succ, i64_w, i32_w]
           rfl
          refine pure_ (i := 9) (N := some 34) (v := ?_) (a' := ?_) #[true, true, true, true, true, true, true, true, true, true, false, false, false, false, false, false, false, false, false] rfl rfl (any_of HT_.out (by kernel_rfl)) (fun _ _ _ h => h) (Or.inl ⟨by rfl, ?_⟩) ?_ ?_
          rotate_left
          ·
           intro w'
           go_simp
           with_reducible rfl
          rotate_left
          ·
           simp only [Act.put, List.setIfInBounds_toArray, List.set_cons_zero, List.set_cons_succ, i64_w, i32_w]
           rfl
          refine pure_ (i := 10) (N := some 35) (v := ?_) (a' := ?_) #[true, true, true, true, true, true, true, true, true, true, true, false, false, false, false, false, false, false, false] rfl rfl (any_of HT_.out (by kernel_rfl)) (fun _ _ _ h => h) (Or.inl ⟨by rfl, ?_⟩) ?_ ?_
          rotate_left
          ·
           intro w'
           go_simp
           with_reducible rfl
          rotate_left
          ·
           simp only [Act.put, List.setIfInBounds_toArray, List.set_cons_zero, List.set_cons_succ, i64_w, i32_w]
           rfl
          refine pure_ (i := 11) (N := some 36) (v := ?_) (a' := ?_) #[true, true, true, true, true, true, true, true, true, true, true, true, false, false, false, false, false, false, false] rfl rfl (any_of HT_.out (by kernel_rfl)) (fun _ _ _ h => h) (Or.inl ⟨by rfl, ?_⟩) ?_ ?_
          rotate_left
          ·
           intro w'
           go_simp
           with_reducible rfl
          rotate_left
          ·
           simp only [Act.put, List.setIfInBounds_toArray, List.set_cons_zero, List.set_cons_succ, i64_w, i32_w]
           rfl
          refine pure_ (i := 12) (N := some 37) (v := ?_) (a' := ?_) #[true, true, true, true, true, true, true, true, true, true, true, true, true, false, false, false, false, false, false] rfl rfl (any_of HT_.out (by kernel_rfl)) (fun _ _ _ h => h) (Or.inl ⟨by rfl, ?_⟩) ?_ ?_
          rotate_left
          ·
           intro w'
           go_simp
           with_reducible rfl
          rotate_left
          ·
           simp only [Act.put, List.setIfInBounds_toArray, List.set_cons_zero, List.set_cons_succ, i64_w, i32_w]
           rfl
          refine one_ (i := 13) (N := some 6) #[true, true, true, true, true, true, true, true, true, true, true, true, true, true, false, false, false, false, false] rfl rfl (one_of HT_.out (by kernel_rfl)) (by decide) (fun K hK => ?_)
          refine box_step ?hg (N := 6) ?hd (cs := #[.int .i64 0, .int .i64 0, .int .i64 0]) (t := 40) ?hr ?_; (case hd => rfl); (case hg => rfl); (case hr => first | (go_simp; done) | (go_simp; rfl))
          intro gb928 hg w39 hbox hb
          have n0_ := Aside0.mk (Kd.R_below (Kd.Rq HO_920000.out) hb)
          have n1_ := Aside0.mk (blk_below (bkq BK912.out) hb)
          have n2_ := Aside0.mk (blk_below (bkq BK919.out) hb)
          have n3_ := Aside0.mk (below_step (blq HB.out) hb)
          have n4_ := Aside0.mk (hbox)
          have n5_ := Aside0.mk ((sq hg HB.out))
          have n6_ := Aside0.mk ((sq hg HB.out))
          have n7_ := Aside0.mk ((by rw [hg]; exact Nat.ne_of_lt (blk_lt (bkq BK912.out)) : gb912 ≠ gb928))
          have n8_ := Aside0.mk ((by rw [hg]; exact Nat.ne_of_gt (blk_lt (bkq BK912.out)) : gb928 ≠ gb912))
          have n9_ := Aside0.mk ((by rw [hg]; exact Nat.ne_of_lt (blk_lt (bkq BK919.out)) : gb919 ≠ gb928))
          have n10_ := Aside0.mk ((by rw [hg]; exact Nat.ne_of_gt (blk_lt (bkq BK919.out)) : gb928 ≠ gb919))
          clear HO_920000
          clear BK912
          clear BK919
          clear HB
          have HO_920000 := n0_
          have BK912 := n1_
          have BK919 := n2_
          have HB := n3_
          have BK928 := n4_
          have GW928 := n5_
          have GE928 := n6_
          have NB912_928 := n7_
          have NB928_912 := n8_
          have NB919_928 := n9_
          have NB928_919 := n10_
          clear n0_ n1_ n2_ n3_ n4_ n5_ n6_ n7_ n8_ n9_ n10_
          clear hb hbox hg
          refine hK.out _ _ ⟨(blk_cell BK919.out 0).trans rfl, (blk_cell BK919.out 1).trans rfl, (blk_cell BK919.out 2).trans rfl, (blk_cell BK919.out 3).trans rfl, (blk_cell BK919.out 4).trans rfl, (blk_cell BK919.out 5).trans rfl, (blk_cell BK919.out 6).trans rfl, ((HB.out.cell (World.block_lt_of_cell? w _ hw920_0)).trans hw920_0), ((HB.out.cell (World.block_lt_of_cell? w _ hw920_1)).trans hw920_1)⟩ (fun hHeld => ?_)
          clear hK K
          refine norm_ (a' := ?_) ?_ ?_
          rotate_left
          ·
           show Act.put _ (some 6) _ = _
           simp only [Act.put, List.setIfInBounds_toArray, List.set_cons_zero, List.set_cons_succ, i64_w, i32_w]
           rfl
          exact norm_ (by simp only [putAll, Act.put, List.setIfInBounds_toArray, List.set_cons_zero, List.set_cons_succ]) (hCont (gb928) _ ⟨hHeld, (Kd.Rq HO_920000.out), (bkq BK912.out), (bkq BK919.out), (bkq BK928.out), GW928.out, GE928.out, NB912_928.out, NB928_912.out, NB919_928.out, NB928_919.out, (blq HB.out)⟩)
         ·
          skip
          refine box_step ?hg (N := 6) ?hd (cs := #[.int .i64 0, .int .i64 0, .int .i64 0]) (t := 40) ?hr ?_; (case hd => rfl); (case hg => rfl); (case hr => first | (go_simp; done) | (go_simp; rfl))
          intro gb928 hg w38 hbox hb
          have n0_ := Aside0.mk (Kd.R_below (Kd.Rq HO_920000.out) hb)
          have n1_ := Aside0.mk (blk_below (bkq BK912.out) hb)
          have n2_ := Aside0.mk (blk_below (bkq BK919.out) hb)
          have n3_ := Aside0.mk (below_step (blq HB.out) hb)
          have n4_ := Aside0.mk (hbox)
          have n5_ := Aside0.mk ((sq hg HB.out))
          have n6_ := Aside0.mk ((sq hg HB.out))
          have n7_ := Aside0.mk ((by rw [hg]; exact Nat.ne_of_lt (blk_lt (bkq BK912.out)) : gb912 ≠ gb928))
          have n8_ := Aside0.mk ((by rw [hg]; exact Nat.ne_of_gt (blk_lt (bkq BK912.out)) : gb928 ≠ gb912))
          have n9_ := Aside0.mk ((by rw [hg]; exact Nat.ne_of_lt (blk_lt (bkq BK919.out)) : gb919 ≠ gb928))
          have n10_ := Aside0.mk ((by rw [hg]; exact Nat.ne_of_gt (blk_lt (bkq BK919.out)) : gb928 ≠ gb919))
          clear HO_920000
          clear BK912
          clear BK919
          clear HB
          have HO_920000 := n0_
          have BK912 := n1_
          have BK919 := n2_
          have HB := n3_
          have BK928 := n4_
          have GW928 := n5_
          have GE928 := n6_
          have NB912_928 := n7_
          have NB928_912 := n8_
          have NB919_928 := n9_
          have NB928_919 := n10_
          clear n0_ n1_ n2_ n3_ n4_ n5_ n6_ n7_ n8_ n9_ n10_
          clear hb hbox hg
          refine hK.out _ _ ⟨(blk_cell BK919.out 0).trans rfl, (blk_cell BK919.out 1).trans rfl, (blk_cell BK919.out 2).trans rfl, (blk_cell BK919.out 3).trans rfl, (blk_cell BK919.out 4).trans rfl, (blk_cell BK919.out 5).trans rfl, (blk_cell BK919.out 6).trans rfl, ((HB.out.cell (World.block_lt_of_cell? w _ hw920_0)).trans hw920_0), ((HB.out.cell (World.block_lt_of_cell? w _ hw920_1)).trans hw920_1)⟩ (fun hHeld => ?_)
          clear hK K
          refine norm_ (a' := ?_) ?_ ?_
          rotate_left
          ·
           show Act.put _ (some 6) _ = _
           simp only [Act.put, List.setIfInBounds_toArray, List.set_cons_zero, List.set_cons_succ, i64_w, i32_w]
           rfl
          refine one_ (i := 6) (N := some 32) #[true, true, true, true, true, true, true, false, false, false, false, false, false, true, false, false, false, false, false] rfl rfl (one_of HT_.out (by kernel_rfl)) (by decide) (fun K hK => ?_)
          refine goes_ Try.func25 (by kernel_rfl) rfl #[.agg #[.int .i64 x920001_1, .int .i64 x920002_1, .int .i64 x920003_1], .agg #[.int .i64 ((rd_T44 l0 x5_1).f0), .int .i64 ((rd_T44 l0 x5_1).f1)]] (by rfl) rfl rfl (by (try simp only [List.map_toArray, List.map_cons, List.map_nil]); first | done | rfl | (simp only [List.length_drop, List.length_take]; rfl)) ?_
          with_reducible refine (spec_EventOn.calls k1 x920001_1 x920002_1 x920003_1 ((rd_T44 l0 x5_1).f0) ((rd_T44 l0 x5_1).f1) t921 t922 t923 t924 t925 t926 false _ A23.out).mono ?_
          rintro e w39 ⟨rfl, hb⟩
          refine ⟨_, rfl, ?_⟩
          have n0_ := Aside0.mk (Kd.R_below (Kd.Rq HO_920000.out) hb)
          have n1_ := Aside0.mk (blk_below (bkq BK912.out) hb)
          have n2_ := Aside0.mk (blk_below (bkq BK919.out) hb)
          have n3_ := Aside0.mk (blk_below (bkq BK928.out) hb)
          have n4_ := Aside0.mk (below_step (blq HB.out) hb)
          clear HO_920000
          clear BK912
          clear BK919
          clear BK928
          clear HB
          have HO_920000 := n0_
          have BK912 := n1_
          have BK919 := n2_
          have BK928 := n3_
          have HB := n4_
          clear n0_ n1_ n2_ n3_ n4_
          (try clear hb)
          (try clear hb2)
          (try clear hk)
          (try clear hi)
          refine hK.out _ _ ⟨(blk_cell BK919.out 0).trans rfl, (blk_cell BK919.out 1).trans rfl, (blk_cell BK919.out 2).trans rfl, (blk_cell BK919.out 3).trans rfl, (blk_cell BK919.out 4).trans rfl, (blk_cell BK919.out 5).trans rfl, (blk_cell BK919.out 6).trans rfl, ((HB.out.cell (World.block_lt_of_cell? w _ hw920_0)).trans hw920_0), ((HB.out.cell (World.block_lt_of_cell? w _ hw920_1)).trans hw920_1)⟩ (fun hHeld => ?_)
          clear hK K
          refine norm_ (a' := ?_) ?_ ?_
          rotate_left
          ·
           show Act.put _ (some 32) _ = _
           simp only [Act.put, List.setIfInBounds_toArray, List.set_cons_zero, List.set_cons_succ, i64_w, i32_w]
           rfl
          refine pure_ (i := 7) (N := some 25) (v := ?_) (a' := ?_) #[true, true, true, true, true, true, true, true, false, false, false, false, false, true, false, false, false, false, false] rfl rfl (any_of HT_.out (by kernel_rfl)) (fun _ _ _ h => h) (Or.inl ⟨by rfl, ?_⟩) ?_ ?_
          rotate_left
          ·
           intro w'
           go_simp
           with_reducible rfl
          rotate_left
          ·
           simp only [Act.put, List.setIfInBounds_toArray, List.set_cons_zero, List.set_cons_succ, i64_w, i32_w]
           rfl
          refine pure_ (i := 8) (N := some 33) (v := ?_) (a' := ?_) #[true, true, true, true, true, true, true, true, true, false, false, false, false, true, false, false, false, false, false] rfl rfl (any_of HT_.out (by kernel_rfl)) (fun _ _ _ h => h) (Or.inl ⟨by rfl, ?_⟩) ?_ ?_
          rotate_left
          ·
           intro w'
           go_simp
           with_reducible rfl
          rotate_left
          ·
           simp only [Act.put, List.setIfInBounds_toArray, List.set_cons_zero, List.set_cons_succ, i64_w, i32_w]
           rfl
          refine pure_ (i := 9) (N := some 34) (v := ?_) (a' := ?_) #[true, true, true, true, true, true, true, true, true, true, false, false, false, true, false, false, false, false, false] rfl rfl (any_of HT_.out (by kernel_rfl)) (fun _ _ _ h => h) (Or.inl ⟨by rfl, ?_⟩) ?_ ?_
          rotate_left
          ·
           intro w'
           go_simp
           with_reducible rfl
          rotate_left
          ·
           simp only [Act.put, List.setIfInBounds_toArray, List.set_cons_zero, List.set_cons_succ, i64_w, i32_w]
           rfl
          refine pure_ (i := 10) (N := some 35) (v := ?_) (a' := ?_) #[true, true, true, true, true, true, true, true, true, true, true, false, false, true, false, false, false, false, false] rfl rfl (any_of HT_.out (by kernel_rfl)) (fun _ _ _ h => h) (Or.inl ⟨by rfl, ?_⟩) ?_ ?_
          rotate_left
          ·
           intro w'
           go_simp
           with_reducible rfl
          rotate_left
          ·
           simp only [Act.put, List.setIfInBounds_toArray, List.set_cons_zero, List.set_cons_succ, i64_w, i32_w]
           rfl
          refine pure_ (i := 11) (N := some 36) (v := ?_) (a' := ?_) #[true, true, true, true, true, true, true, true, true, true, true, true, false, true, false, false, false, false, false] rfl rfl (any_of HT_.out (by kernel_rfl)) (fun _ _ _ h => h) (Or.inl ⟨by rfl, ?_⟩) ?_ ?_
          rotate_left
          ·
           intro w'
           go_simp
           with_reducible rfl
          rotate_left
          ·
           simp only [Act.put, List.setIfInBounds_toArray, List.set_cons_zero, List.set_cons_succ, i64_w, i32_w]
           rfl
          refine pure_ (i := 12) (N := some 37) (v := ?_) (a' := ?_) #[true, true, true, true, true, true, true, true, true, true, true, true, true, true, false, false, false, false, false] rfl rfl (any_of HT_.out (by kernel_rfl)) (fun _ _ _ h => h) (Or.inl ⟨by rfl, ?_⟩) ?_ ?_
          rotate_left
          ·
           intro w'
           go_simp
           with_reducible rfl
          rotate_left
          ·
           simp only [Act.put, List.setIfInBounds_toArray, List.set_cons_zero, List.set_cons_succ, i64_w, i32_w]
           rfl
          exact norm_ (by simp only [putAll, Act.put, List.setIfInBounds_toArray, List.set_cons_zero, List.set_cons_succ]) (hCont (gb928) _ ⟨hHeld, (Kd.Rq HO_920000.out), (bkq BK912.out), (bkq BK919.out), (bkq BK928.out), GW928.out, GE928.out, NB912_928.out, NB928_912.out, NB919_928.out, NB928_919.out, (blq HB.out)⟩)
        rintro gb928 w40 ⟨hS_, h0_, h1_, h2_, h3_, h4_, h5_, h6_, h7_, h8_, h9_, h10_⟩
        have n0_ : Aside0 (Kd.R k44 44 w40 w.heap.size (fun _ => True) (.slice Ao17 y916.length co17) y916) := ⟨h0_⟩
        have n1_ : Aside0 (w40.heap[gb912]? = some (.cells #[.slice none 0 0, .int .i64 x913001_1, .int .i64 x913002_1, .int .i64 x913003_1, .int .i64 x913004_1, .int .i64 x913005_1, .int .i64 x913006_1] 93 (0, 0))) := ⟨h1_⟩
        have n2_ : Aside0 (w40.heap[gb919]? = some (.cells #[.slice Ao17 y916.length co17, .int .i64 x920001_1, .int .i64 x920002_1, .int .i64 x920003_1, .int .i64 x920004_1, .int .i64 x920005_1, .int .i64 x920006_1] 93 (0, 0))) := ⟨h2_⟩
        have n3_ : Aside0 (w40.heap[gb928]? = some (.cells #[.int .i64 0, .int .i64 0, .int .i64 0] 40 (0, 0))) := ⟨h3_⟩
        have n4_ : Aside0 (w.heap.size ≤ gb928) := ⟨h4_⟩
        have n5_ : Aside0 (w.heap.size ≤ gb928) := ⟨h5_⟩
        have n6_ : Aside0 (gb912 ≠ gb928) := ⟨h6_⟩
        have n7_ : Aside0 (gb928 ≠ gb912) := ⟨h7_⟩
        have n8_ : Aside0 (gb919 ≠ gb928) := ⟨h8_⟩
        have n9_ : Aside0 (gb928 ≠ gb919) := ⟨h9_⟩
        have n10_ : Aside0 (Below w.heap.size w w40) := ⟨h10_⟩
        clear HO_920000
        clear BK912
        clear BK919
        clear HB
        clear h0_ h1_ h2_ h3_ h4_ h5_ h6_ h7_ h8_ h9_ h10_
        have HO_920000 := n0_
        have BK912 := n1_
        have BK919 := n2_
        have BK928 := n3_
        have GW928 := n4_
        have GE928 := n5_
        have NB912_928 := n6_
        have NB928_912 := n7_
        have NB919_928 := n8_
        have NB928_919 := n9_
        have HB := n10_
        clear n0_ n1_ n2_ n3_ n4_ n5_ n6_ n7_ n8_ n9_ n10_
        have hHeld : w40.cell? ⟨gb919, 0, none⟩ = some (.slice Ao17 y916.length co17) ∧ w40.cell? ⟨gb919, 1, none⟩ = some (.int .i64 x920001_1) ∧ w40.cell? ⟨gb919, 2, none⟩ = some (.int .i64 x920002_1) ∧ w40.cell? ⟨gb919, 3, none⟩ = some (.int .i64 x920003_1) ∧ w40.cell? ⟨gb919, 4, none⟩ = some (.int .i64 x920004_1) ∧ w40.cell? ⟨gb919, 5, none⟩ = some (.int .i64 x920005_1) ∧ w40.cell? ⟨gb919, 6, none⟩ = some (.int .i64 x920006_1) ∧ w40.cell? (ad920.add ((x5_1).toNat * 2)) = some (.int .i64 ((rd_T44 l0 x5_1).f0)) ∧ w40.cell? ⟨(ad920.add ((x5_1).toNat * 2)).block, (ad920.add ((x5_1).toNat * 2)).off + 1, none⟩ = some (.int .i64 ((rd_T44 l0 x5_1).f1)) := hS_
        refine norm_ (a' := ?_) ?_ ?_
        rotate_left
        ·
         simp only [putAll, Act.put, List.setIfInBounds_toArray, List.set_cons_zero, List.set_cons_succ]
         rfl
        refine one_ (i := 14) (N := none) #[true, true, true, true, true, true, true, true, true, true, true, true, true, true, true, false, false, false, false] rfl rfl (one_of HT_.out (by kernel_rfl)) (by decide) (fun K hK => ?_)
        have hs41 : w40.cell? ⟨gb928, 0, none⟩ = some (.int .i64 0) := (blk_cell BK928.out 0).trans rfl
        have hfs41 := blk_frozen BK928.out 0
        have hns41_0 := NB912_928.out
        have hns41_1 := NB919_928.out
        have hms41_0 := NB928_912.out
        have hms41_1 := NB928_919.out
        have hs42 : w40.cell? ⟨gb928, 1, none⟩ = some (.int .i64 0) := (blk_cell BK928.out 1).trans rfl
        have hfs42 := blk_frozen BK928.out 1
        have hns42_0 := NB912_928.out
        have hns42_1 := NB919_928.out
        have hms42_0 := NB928_912.out
        have hms42_1 := NB928_919.out
        have hs43 : w40.cell? ⟨gb928, 2, none⟩ = some (.int .i64 0) := (blk_cell BK928.out 2).trans rfl
        have hfs43 := blk_frozen BK928.out 2
        have hns43_0 := NB912_928.out
        have hns43_1 := NB919_928.out
        have hms43_0 := NB928_912.out
        have hms43_1 := NB928_919.out
        refine skip_ (w1 := ?_) (by rfl) rfl ?_ ?_
        rotate_left
        ·
         go_simp
         rfl
        refine hK.out _ _ ⟨((cell_far (p := ⟨gb928, _, none⟩) NB919_928.out _).trans (((cell_far (p := ⟨gb928, _, none⟩) NB919_928.out _).trans (((cell_far (p := ⟨gb928, _, none⟩) NB919_928.out _).trans (hHeld.1)))))), ((cell_far (p := ⟨gb928, _, none⟩) NB919_928.out _).trans (((cell_far (p := ⟨gb928, _, none⟩) NB919_928.out _).trans (((cell_far (p := ⟨gb928, _, none⟩) NB919_928.out _).trans (hHeld.2.1)))))), ((cell_far (p := ⟨gb928, _, none⟩) NB919_928.out _).trans (((cell_far (p := ⟨gb928, _, none⟩) NB919_928.out _).trans (((cell_far (p := ⟨gb928, _, none⟩) NB919_928.out _).trans (hHeld.2.2.1)))))), ((cell_far (p := ⟨gb928, _, none⟩) NB919_928.out _).trans (((cell_far (p := ⟨gb928, _, none⟩) NB919_928.out _).trans (((cell_far (p := ⟨gb928, _, none⟩) NB919_928.out _).trans (hHeld.2.2.2.1)))))), ((cell_far (p := ⟨gb928, _, none⟩) NB919_928.out _).trans (((cell_far (p := ⟨gb928, _, none⟩) NB919_928.out _).trans (((cell_far (p := ⟨gb928, _, none⟩) NB919_928.out _).trans (hHeld.2.2.2.2.1)))))), ((cell_far (p := ⟨gb928, _, none⟩) NB919_928.out _).trans (((cell_far (p := ⟨gb928, _, none⟩) NB919_928.out _).trans (((cell_far (p := ⟨gb928, _, none⟩) NB919_928.out _).trans (hHeld.2.2.2.2.2.1)))))), ((cell_far (p := ⟨gb928, _, none⟩) NB919_928.out _).trans (((cell_far (p := ⟨gb928, _, none⟩) NB919_928.out _).trans (((cell_far (p := ⟨gb928, _, none⟩) NB919_928.out _).trans (hHeld.2.2.2.2.2.2.1)))))), ((cell_far (p := ⟨gb928, _, none⟩) (by first | exact Nat.ne_of_lt (Nat.lt_of_lt_of_le (by have := World.block_lt_of_cell? _ _ hw920_0; first | rwa [add_block] at this | exact this) GW928.out) | (rw [add_block]; exact Nat.ne_of_lt (Nat.lt_of_lt_of_le (by have := World.block_lt_of_cell? _ _ hw920_0; first | rwa [add_block] at this | exact this) GW928.out)) | (show (Addr.add _ _).block ≠ _; rw [add_block]; exact Nat.ne_of_lt (Nat.lt_of_lt_of_le (by have := World.block_lt_of_cell? _ _ hw920_0; first | rwa [add_block] at this | exact this) GW928.out)) | (dsimp only; exact Nat.ne_of_lt (Nat.lt_of_lt_of_le (by have := World.block_lt_of_cell? _ _ hw920_0; first | rwa [add_block] at this | exact this) GW928.out))) _).trans (((cell_far (p := ⟨gb928, _, none⟩) (by first | exact Nat.ne_of_lt (Nat.lt_of_lt_of_le (by have := World.block_lt_of_cell? _ _ hw920_0; first | rwa [add_block] at this | exact this) GW928.out) | (rw [add_block]; exact Nat.ne_of_lt (Nat.lt_of_lt_of_le (by have := World.block_lt_of_cell? _ _ hw920_0; first | rwa [add_block] at this | exact this) GW928.out)) | (show (Addr.add _ _).block ≠ _; rw [add_block]; exact Nat.ne_of_lt (Nat.lt_of_lt_of_le (by have := World.block_lt_of_cell? _ _ hw920_0; first | rwa [add_block] at this | exact this) GW928.out)) | (dsimp only; exact Nat.ne_of_lt (Nat.lt_of_lt_of_le (by have := World.block_lt_of_cell? _ _ hw920_0; first | rwa [add_block] at this | exact this) GW928.out))) _).trans (((cell_far (p := ⟨gb928, _, none⟩) (by first | exact Nat.ne_of_lt (Nat.lt_of_lt_of_le (by have := World.block_lt_of_cell? _ _ hw920_0; first | rwa [add_block] at this | exact this) GW928.out) | (rw [add_block]; exact Nat.ne_of_lt (Nat.lt_of_lt_of_le (by have := World.block_lt_of_cell? _ _ hw920_0; first | rwa [add_block] at this | exact this) GW928.out)) | (show (Addr.add _ _).block ≠ _; rw [add_block]; exact Nat.ne_of_lt (Nat.lt_of_lt_of_le (by have := World.block_lt_of_cell? _ _ hw920_0; first | rwa [add_block] at this | exact this) GW928.out)) | (dsimp only; exact Nat.ne_of_lt (Nat.lt_of_lt_of_le (by have := World.block_lt_of_cell? _ _ hw920_0; first | rwa [add_block] at this | exact this) GW928.out))) _).trans (hHeld.2.2.2.2.2.2.2.1)))))), ((cell_far (p := ⟨gb928, _, none⟩) (by first | exact Nat.ne_of_lt (Nat.lt_of_lt_of_le (by have := World.block_lt_of_cell? _ _ hw920_1; first | rwa [add_block] at this | exact this) GW928.out) | (rw [add_block]; exact Nat.ne_of_lt (Nat.lt_of_lt_of_le (by have := World.block_lt_of_cell? _ _ hw920_1; first | rwa [add_block] at this | exact this) GW928.out)) | (show (Addr.add _ _).block ≠ _; rw [add_block]; exact Nat.ne_of_lt (Nat.lt_of_lt_of_le (by have := World.block_lt_of_cell? _ _ hw920_1; first | rwa [add_block] at this | exact this) GW928.out)) | (dsimp only; exact Nat.ne_of_lt (Nat.lt_of_lt_of_le (by have := World.block_lt_of_cell? _ _ hw920_1; first | rwa [add_block] at this | exact this) GW928.out))) _).trans (((cell_far (p := ⟨gb928, _, none⟩) (by first | exact Nat.ne_of_lt (Nat.lt_of_lt_of_le (by have := World.block_lt_of_cell? _ _ hw920_1; first | rwa [add_block] at this | exact this) GW928.out) | (rw [add_block]; exact Nat.ne_of_lt (Nat.lt_of_lt_of_le (by have := World.block_lt_of_cell? _ _ hw920_1; first | rwa [add_block] at this | exact this) GW928.out)) | (show (Addr.add _ _).block ≠ _; rw [add_block]; exact Nat.ne_of_lt (Nat.lt_of_lt_of_le (by have := World.block_lt_of_cell? _ _ hw920_1; first | rwa [add_block] at this | exact this) GW928.out)) | (dsimp only; exact Nat.ne_of_lt (Nat.lt_of_lt_of_le (by have := World.block_lt_of_cell? _ _ hw920_1; first | rwa [add_block] at this | exact this) GW928.out))) _).trans (((cell_far (p := ⟨gb928, _, none⟩) (by first | exact Nat.ne_of_lt (Nat.lt_of_lt_of_le (by have := World.block_lt_of_cell? _ _ hw920_1; first | rwa [add_block] at this | exact this) GW928.out) | (rw [add_block]; exact Nat.ne_of_lt (Nat.lt_of_lt_of_le (by have := World.block_lt_of_cell? _ _ hw920_1; first | rwa [add_block] at this | exact this) GW928.out)) | (show (Addr.add _ _).block ≠ _; rw [add_block]; exact Nat.ne_of_lt (Nat.lt_of_lt_of_le (by have := World.block_lt_of_cell? _ _ hw920_1; first | rwa [add_block] at this | exact this) GW928.out)) | (dsimp only; exact Nat.ne_of_lt (Nat.lt_of_lt_of_le (by have := World.block_lt_of_cell? _ _ hw920_1; first | rwa [add_block] at this | exact this) GW928.out))) _).trans (hHeld.2.2.2.2.2.2.2.2))))))⟩ (fun hHeld => ?_)
        clear hK K
        refine pure_ (i := 15) (N := some 7) (v := ?_) (a' := ?_) #[true, true, true, true, true, true, true, true, true, true, true, true, true, true, true, true, false, false, false] rfl rfl (any_of HT_.out (by kernel_rfl)) (fun _ _ _ h => h) (Or.inl ⟨by rfl, ?_⟩) ?_ ?_
        rotate_left
        ·
         intro w'
         go_simp
         with_reducible rfl
        rotate_left
        ·
         simp only [Act.put, List.setIfInBounds_toArray, List.set_cons_zero, List.set_cons_succ, i64_w, i32_w]
         rfl
        refine pure_ (i := 16) (N := some 8) (v := ?_) (a' := ?_) #[true, true, true, true, true, true, true, true, true, true, true, true, true, true, true, true, true, false, false] rfl rfl (any_of HT_.out (by kernel_rfl)) (fun _ _ _ h => h) (Or.inl ⟨by rfl, ?_⟩) ?_ ?_
        rotate_left
        ·
         intro w'
         go_simp
         with_reducible rfl
        rotate_left
        ·
         simp only [Act.put, List.setIfInBounds_toArray, List.set_cons_zero, List.set_cons_succ, i64_w, i32_w]
         rfl
        refine pure_ (i := 17) (N := some 9) (v := ?_) (a' := ?_) #[true, true, true, true, true, true, true, true, true, true, true, true, true, true, true, true, true, true, false] rfl rfl (any_of HT_.out (by kernel_rfl)) (fun _ _ _ h => h) (Or.inl ⟨by rfl, ?_⟩) ?_ ?_
        rotate_left
        ·
         intro w'
         go_simp
         with_reducible rfl
        rotate_left
        ·
         simp only [Act.put, List.setIfInBounds_toArray, List.set_cons_zero, List.set_cons_succ, i64_w, i32_w]
         rfl
        refine pure_ (i := 18) (N := some 10) (v := ?_) (a' := ?_) #[true, true, true, true, true, true, true, true, true, true, true, true, true, true, true, true, true, true, true] rfl rfl (any_of HT_.out (by kernel_rfl)) (fun _ _ _ h => h) (Or.inl ⟨by rfl, ?_⟩) ?_ ?_
        rotate_left
        ·
         intro w'
         go_simp
         with_reducible rfl
        rotate_left
        ·
         simp only [Act.put, List.setIfInBounds_toArray, List.set_cons_zero, List.set_cons_succ, i64_w, i32_w]
         rfl
        refine done_ (done_of HT_.out (by kernel_rfl)) ?_
        have hnb44 := NB919_912.out
        have hnc44 := NB912_919.out
        have hnb45 := NB919_928.out
        have hnc45 := NB928_919.out
        obtain ⟨hcz46_0, hcz46_1, hcz46_2, hcz46_3, hcz46_4, hcz46_5, hcz46_6, hfz46_0, hfz46_1, hfz46_2, hfz46_3, hfz46_4, hfz46_5, hfz46_6⟩ := bq7 BK919.out
        have hnb47 := NB912_928.out
        have hnc47 := NB928_912.out
        obtain ⟨hcz48_0, hcz48_1, hcz48_2, hcz48_3, hcz48_4, hcz48_5, hcz48_6, hfz48_0, hfz48_1, hfz48_2, hfz48_3, hfz48_4, hfz48_5, hfz48_6⟩ := bq7 BK912.out
        try go_wp2
        refine bodyPost_ret (results_ct rfl _ _ gb912 93 #[.slice Ao17 y916.length co17, .int .i64 x920001_1, .int .i64 x920002_1, .int .i64 x920003_1, .int .i64 x920004_1, .int .i64 x920005_1, .int .i64 x920006_1] (0, 0) _ rfl (by (with_reducible repeat (first | refine blk_drewN ?_ _ | refine blk_drew ?_ | refine blk_alloc ?_ _)); refine blk_put (cs := #[.slice Ao17 y916.length co17, .int .i64 x920001_1, .int .i64 x920002_1, .int .i64 x920003_1, .int .i64 x920004_1, .int .i64 x920005_1, .int .i64 x913006_1]) ?_ 6 _ rfl; (with_reducible repeat (first | refine blk_drewN ?_ _ | refine blk_drew ?_ | refine blk_alloc ?_ _)); refine blk_put (cs := #[.slice Ao17 y916.length co17, .int .i64 x920001_1, .int .i64 x920002_1, .int .i64 x920003_1, .int .i64 x920004_1, .int .i64 x913005_1, .int .i64 x913006_1]) ?_ 5 _ rfl; (with_reducible repeat (first | refine blk_drewN ?_ _ | refine blk_drew ?_ | refine blk_alloc ?_ _)); refine blk_put (cs := #[.slice Ao17 y916.length co17, .int .i64 x920001_1, .int .i64 x920002_1, .int .i64 x920003_1, .int .i64 x913004_1, .int .i64 x913005_1, .int .i64 x913006_1]) ?_ 4 _ rfl; (with_reducible repeat (first | refine blk_drewN ?_ _ | refine blk_drew ?_ | refine blk_alloc ?_ _)); refine blk_put (cs := #[.slice Ao17 y916.length co17, .int .i64 x920001_1, .int .i64 x920002_1, .int .i64 x913003_1, .int .i64 x913004_1, .int .i64 x913005_1, .int .i64 x913006_1]) ?_ 3 _ rfl; (with_reducible repeat (first | refine blk_drewN ?_ _ | refine blk_drew ?_ | refine blk_alloc ?_ _)); refine blk_put (cs := #[.slice Ao17 y916.length co17, .int .i64 x920001_1, .int .i64 x913002_1, .int .i64 x913003_1, .int .i64 x913004_1, .int .i64 x913005_1, .int .i64 x913006_1]) ?_ 2 _ rfl; (with_reducible repeat (first | refine blk_drewN ?_ _ | refine blk_drew ?_ | refine blk_alloc ?_ _)); refine blk_put (cs := #[.slice Ao17 y916.length co17, .int .i64 x913001_1, .int .i64 x913002_1, .int .i64 x913003_1, .int .i64 x913004_1, .int .i64 x913005_1, .int .i64 x913006_1]) ?_ 1 _ rfl; (with_reducible repeat (first | refine blk_drewN ?_ _ | refine blk_drew ?_ | refine blk_alloc ?_ _)); refine blk_put (cs := #[.slice none 0 0, .int .i64 x913001_1, .int .i64 x913002_1, .int .i64 x913003_1, .int .i64 x913004_1, .int .i64 x913005_1, .int .i64 x913006_1]) ?_ 0 _ rfl; (with_reducible repeat (first | refine blk_drewN ?_ _ | refine blk_drew ?_ | refine blk_alloc ?_ _)); refine blk_far ?_ NB912_928.out _; (with_reducible repeat (first | refine blk_drewN ?_ _ | refine blk_drew ?_ | refine blk_alloc ?_ _)); refine blk_far ?_ NB912_928.out _; (with_reducible repeat (first | refine blk_drewN ?_ _ | refine blk_drew ?_ | refine blk_alloc ?_ _)); refine blk_far ?_ NB912_928.out _; (with_reducible repeat (first | refine blk_drewN ?_ _ | refine blk_drew ?_ | refine blk_alloc ?_ _)); exact BK912.out) Try.underlying93 rfl (by kernel_rfl)) rfl ?_
        exact ⟨_, by first | rfl | (simp [errW_none, errW_some] <;> rfl) | (simp [*, errW_none, errW_some] <;> rfl), Kd.Rq (Kd.R_mono (Kd.R_far (p := ⟨gb912, 6, none⟩) (Kd.R_far (p := ⟨gb912, 5, none⟩) (Kd.R_far (p := ⟨gb912, 4, none⟩) (Kd.R_far (p := ⟨gb912, 3, none⟩) (Kd.R_far (p := ⟨gb912, 2, none⟩) (Kd.R_far (p := ⟨gb912, 1, none⟩) (Kd.R_far (p := ⟨gb912, 0, none⟩) (Kd.R_far (p := ⟨gb928, 2, none⟩) (Kd.R_far (p := ⟨gb928, 1, none⟩) (Kd.R_far (p := ⟨gb928, 0, none⟩) (Kd.R_types (Kd.R_types HO_920000.out BK928.out (by decide)) BK912.out (by decide)) (fun _ hk => hk.1.2) (.int .i64 t921)) (fun _ hk => hk.1.2) (.int .i64 t922)) (fun _ hk => hk.1.2) (.int .i64 t923)) (fun _ hk => hk.2) (.slice Ao17 y916.length co17)) (fun _ hk => hk.2) (.int .i64 x920001_1)) (fun _ hk => hk.2) (.int .i64 x920002_1)) (fun _ hk => hk.2) (.int .i64 x920003_1)) (fun _ hk => hk.2) (.int .i64 x920004_1)) (fun _ hk => hk.2) (.int .i64 x920005_1)) (fun _ hk => hk.2) (.int .i64 x920006_1)) (fun _ hk => trivial)), blq HB.out⟩
      ·
       rw [if_neg c22] at H
       exact absurd H (by simp)
     ·
      rw [if_neg c21] at H
      have c21b0 : decide (x5_1 < (l0.length : Int)) = false := decide_eq_false c21
      clear c21
      simp only [Option.some.injEq, Prod.mk.injEq] at H
      obtain ⟨rfl, rfl, rfl, rfl, rfl, rfl, rfl, rfl⟩ := H
      have hnb49 := NB919_912.out
      have hnc49 := NB912_919.out
      obtain ⟨hcz50_0, hcz50_1, hcz50_2, hcz50_3, hcz50_4, hcz50_5, hcz50_6, hfz50_0, hfz50_1, hfz50_2, hfz50_3, hfz50_4, hfz50_5, hfz50_6⟩ := bq7 BK919.out
      obtain ⟨hcz51_0, hcz51_1, hcz51_2, hcz51_3, hcz51_4, hcz51_5, hcz51_6, hfz51_0, hfz51_1, hfz51_2, hfz51_3, hfz51_4, hfz51_5, hfz51_6⟩ := bq7 BK912.out
      go_wp2
      refine bodyPost_ret (results_ct rfl _ _ gb912 93 #[.slice Ao17 y916.length co17, .int .i64 x920001_1, .int .i64 x920002_1, .int .i64 x920003_1, .int .i64 x920004_1, .int .i64 x920005_1, .int .i64 x920006_1] (0, 0) _ rfl (by (with_reducible repeat (first | refine blk_drewN ?_ _ | refine blk_drew ?_ | refine blk_alloc ?_ _)); refine blk_put (cs := #[.slice Ao17 y916.length co17, .int .i64 x920001_1, .int .i64 x920002_1, .int .i64 x920003_1, .int .i64 x920004_1, .int .i64 x920005_1, .int .i64 x913006_1]) ?_ 6 _ rfl; (with_reducible repeat (first | refine blk_drewN ?_ _ | refine blk_drew ?_ | refine blk_alloc ?_ _)); refine blk_put (cs := #[.slice Ao17 y916.length co17, .int .i64 x920001_1, .int .i64 x920002_1, .int .i64 x920003_1, .int .i64 x920004_1, .int .i64 x913005_1, .int .i64 x913006_1]) ?_ 5 _ rfl; (with_reducible repeat (first | refine blk_drewN ?_ _ | refine blk_drew ?_ | refine blk_alloc ?_ _)); refine blk_put (cs := #[.slice Ao17 y916.length co17, .int .i64 x920001_1, .int .i64 x920002_1, .int .i64 x920003_1, .int .i64 x913004_1, .int .i64 x913005_1, .int .i64 x913006_1]) ?_ 4 _ rfl; (with_reducible repeat (first | refine blk_drewN ?_ _ | refine blk_drew ?_ | refine blk_alloc ?_ _)); refine blk_put (cs := #[.slice Ao17 y916.length co17, .int .i64 x920001_1, .int .i64 x920002_1, .int .i64 x913003_1, .int .i64 x913004_1, .int .i64 x913005_1, .int .i64 x913006_1]) ?_ 3 _ rfl; (with_reducible repeat (first | refine blk_drewN ?_ _ | refine blk_drew ?_ | refine blk_alloc ?_ _)); refine blk_put (cs := #[.slice Ao17 y916.length co17, .int .i64 x920001_1, .int .i64 x913002_1, .int .i64 x913003_1, .int .i64 x913004_1, .int .i64 x913005_1, .int .i64 x913006_1]) ?_ 2 _ rfl; (with_reducible repeat (first | refine blk_drewN ?_ _ | refine blk_drew ?_ | refine blk_alloc ?_ _)); refine blk_put (cs := #[.slice Ao17 y916.length co17, .int .i64 x913001_1, .int .i64 x913002_1, .int .i64 x913003_1, .int .i64 x913004_1, .int .i64 x913005_1, .int .i64 x913006_1]) ?_ 1 _ rfl; (with_reducible repeat (first | refine blk_drewN ?_ _ | refine blk_drew ?_ | refine blk_alloc ?_ _)); refine blk_put (cs := #[.slice none 0 0, .int .i64 x913001_1, .int .i64 x913002_1, .int .i64 x913003_1, .int .i64 x913004_1, .int .i64 x913005_1, .int .i64 x913006_1]) ?_ 0 _ rfl; (with_reducible repeat (first | refine blk_drewN ?_ _ | refine blk_drew ?_ | refine blk_alloc ?_ _)); exact BK912.out) Try.underlying93 rfl (by kernel_rfl)) rfl ?_
      exact ⟨_, by first | rfl | (simp [errW_none, errW_some] <;> rfl) | (simp [*, errW_none, errW_some] <;> rfl), Kd.Rq (Kd.R_mono (Kd.R_far (p := ⟨gb912, 6, none⟩) (Kd.R_far (p := ⟨gb912, 5, none⟩) (Kd.R_far (p := ⟨gb912, 4, none⟩) (Kd.R_far (p := ⟨gb912, 3, none⟩) (Kd.R_far (p := ⟨gb912, 2, none⟩) (Kd.R_far (p := ⟨gb912, 1, none⟩) (Kd.R_far (p := ⟨gb912, 0, none⟩) (Kd.R_types HO_920000.out BK912.out (by decide)) (fun _ hk => hk.2) (.slice Ao17 y916.length co17)) (fun _ hk => hk.2) (.int .i64 x920001_1)) (fun _ hk => hk.2) (.int .i64 x920002_1)) (fun _ hk => hk.2) (.int .i64 x920003_1)) (fun _ hk => hk.2) (.int .i64 x920004_1)) (fun _ hk => hk.2) (.int .i64 x920005_1)) (fun _ hk => hk.2) (.int .i64 x920006_1)) (fun _ hk => trivial)), blq HB.out⟩
 ·
  rw [if_neg c2] at H
  exact absurd H (by simp)

end Go.Proofs.Ytnlioefgpgamdaa.Q
