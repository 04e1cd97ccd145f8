-- Written for this claim by wip/xprint.py of this repository (by way of the kit's print); Lean checks every line.
import Derived.Test.YtnlioefgpgamdaaQ0
import Derived.Test.YtnlioefgpgamdaaQ16
import Derived.Test.YtnlioefgpgamdaaQ17
import Derived.Test.YtnlioefgpgamdaaQ34
import Derived.Test.YtnlioefgpgamdaaQ42
import Derived.Test.YtnlioefgpgamdaaQ43
import Derived.Test.YtnlioefgpgamdaaQ44
import Derived.Test.YtnlioefgpgamdaaQ45
namespace Go.Proofs.Ytnlioefgpgamdaa.Q
open Go.RowKit Go.Proofs.YtnlioefgpgamdaaW.PrintWords Go.Proofs.YtnlioefgpgamdaaW.PrintLast Go.Proofs.YtnlioefgpgamdaaW.PrintMore
attribute [local go_sem] max2_int min2_int max_two min_two max_three min_three max_four min_four   -- for this text's walks alone
set_option linter.unusedVariables false
set_option linter.unusedSimpArgs false

/-! ### laws_FnExactMustBuy: function 11 -/
def laws_FnExactMustBuy.j0 : Nat → List (S51) → List Int → List Int → List Int → Bool → List Int → Option (Bool)
 | 0, _, _, _, _, _, _ => none
 | k + 1, x1, x2, x8, x12, x82, x853000 => if x82 = true then (some false) else ((laws_markIntS.f k x12 1).bind fun bt900 => ((laws_heldIntS.f k bt900.2 1).bind fun t902 => (if t902 < 0 then (some false) else (if t902 = bt900.1 then ((laws_toStock.f k x853000).bind fun t903 => ((laws_toDoughS.f k x1).bind fun t906 => ((laws_toIntS.f k x2).bind fun t909 => ((impl_MustBuy.f k t903 t906 t909).bind fun t912 => ((laws_eqIntS.f k t912 x8).bind fun t915 => (if t915 = true then ((laws_heldIntS.f k bt900.2 1).bind fun t916 => (if t916 < 0 then (some false) else (if t916 = bt900.1 then (some true) else (some false)))) else (some false))))))) else (some false)))))
def laws_FnExactMustBuy.f (k : Nat) (l0_0 : List Int) (l1 : List (S51)) (l2 : List Int) : Option (Bool) := if (l2.length : Int) > 1048576 then (some true) else ((laws_szStock.f l0_0 1048576).bind fun t853 => (if t853 < 0 then (some true) else ((laws_szDoughS.f l1 t853).bind fun t854 => (if t854 < 0 then (some true) else ((laws_toStock.f k l0_0).bind fun t855 => ((laws_toDoughS.f k l1).bind fun t858 => ((laws_toIntS.f k l2).bind fun t861 => ((spec_MustBuy.f k t855 t858 t861).bind fun t864 => ((laws_toStock.f k l0_0).bind fun t867 => ((laws_toDoughS.f k l1).bind fun t871 => ((laws_toIntS.f k l2).bind fun t874 => ((impl_MustBuy.f k t867 t871 t874).bind fun t877 => ((laws_eqIntS.f k t877 t864).bind fun t880 => (if t880 = true then ((laws_toStock.f k l0_0).bind fun t881 => ((laws_eqStock.f k t867 t881).bind fun t884 => (if t884 = true then ((laws_toDoughS.f k l1).bind fun t885 => ((laws_eqDoughS.f k t871 t885).bind fun t888 => (if t888 = true then ((laws_toIntS.f k l2).bind fun t889 => ((laws_eqIntS.f k t874 t889).bind fun t892 => (if t892 = true then ((laws_markStock.f k t867 1).bind fun bt893 => ((laws_markDoughS.f k t871 bt893.1).bind fun bt895 => ((laws_markIntS.f k t874 bt895.1).bind fun bt897 => (if bt897.1 < 0 then (laws_FnExactMustBuy.j0 k l1 l2 t864 t877 true l0_0) else ((laws_eqIntS.f k t877 t864).bind fun t899 => (laws_FnExactMustBuy.j0 k l1 l2 t864 t877 (!t899) l0_0)))))) else (some false)))) else (some false)))) else (some false)))) else (some false)))))))))))))))
theorem laws_FnExactMustBuy.mono_l : ∀ k, (∀ y0 y1 y2 y3 y4 y5, LeO (laws_FnExactMustBuy.j0 k y0 y1 y2 y3 y4 y5) (laws_FnExactMustBuy.j0 (k + 1) y0 y1 y2 y3 y4 y5))
 | 0 => fun _ _ _ _ _ _ r h => by simp [laws_FnExactMustBuy.j0] at h
 | k + 1 => by
  have ih0 := laws_FnExactMustBuy.mono_l k
  ·
   intro y0 y1 y2 y3 y4 y5
   unfold laws_FnExactMustBuy.j0
   repeat' first
   | (with_reducible exact ih0 _ _ _ _ _ _)
   | (with_reducible exact impl_MustBuy.mono _ _ _ _)
   | (with_reducible exact laws_eqDoughS.mono _ _ _)
   | (with_reducible exact laws_eqIntS.mono _ _ _)
   | (with_reducible exact laws_eqStock.mono _ _ _)
   | (with_reducible exact laws_heldIntS.mono _ _ _)
   | (with_reducible exact laws_markDoughS.mono _ _ _)
   | (with_reducible exact laws_markIntS.mono _ _ _)
   | (with_reducible exact laws_markStock.mono _ _ _)
   | (with_reducible exact laws_toDoughS.mono _ _)
   | (with_reducible exact laws_toIntS.mono _ _)
   | (with_reducible exact laws_toStock.mono _ _)
   | (with_reducible exact spec_MustBuy.mono _ _ _ _)
   | (with_reducible exact LeO.refl _)
   | (with_reducible exact LeO.none _)
   | (with_reducible refine LeO.ite ?_ ?_)
   | (with_reducible refine LeO.bind ?_ (fun _ => ?_))
   | exact ih0 _ _ _ _ _ _
   | exact impl_MustBuy.mono _ _ _ _
   | exact laws_eqDoughS.mono _ _ _
   | exact laws_eqIntS.mono _ _ _
   | exact laws_eqStock.mono _ _ _
   | exact laws_heldIntS.mono _ _ _
   | exact laws_markDoughS.mono _ _ _
   | exact laws_markIntS.mono _ _ _
   | exact laws_markStock.mono _ _ _
   | exact laws_toDoughS.mono _ _
   | exact laws_toIntS.mono _ _
   | exact laws_toStock.mono _ _
   | exact spec_MustBuy.mono _ _ _ _
   | exact LeO.none _
   | refine LeO.ite ?_ ?_
   | refine LeO.bind ?_ (fun _ => ?_)
theorem laws_FnExactMustBuy.mono : ∀ a0 a1 a2 k, LeO (laws_FnExactMustBuy.f k a0 a1 a2) (laws_FnExactMustBuy.f (k + 1) a0 a1 a2) := by
 intro a0 a1 a2 k
 have ih0 := laws_FnExactMustBuy.mono_l k
 unfold laws_FnExactMustBuy.f
 repeat' first
   | (with_reducible exact ih0 _ _ _ _ _ _)
   | (with_reducible exact impl_MustBuy.mono _ _ _ _)
   | (with_reducible exact laws_eqDoughS.mono _ _ _)
   | (with_reducible exact laws_eqIntS.mono _ _ _)
   | (with_reducible exact laws_eqStock.mono _ _ _)
   | (with_reducible exact laws_heldIntS.mono _ _ _)
   | (with_reducible exact laws_markDoughS.mono _ _ _)
   | (with_reducible exact laws_markIntS.mono _ _ _)
   | (with_reducible exact laws_markStock.mono _ _ _)
   | (with_reducible exact laws_toDoughS.mono _ _)
   | (with_reducible exact laws_toIntS.mono _ _)
   | (with_reducible exact laws_toStock.mono _ _)
   | (with_reducible exact spec_MustBuy.mono _ _ _ _)
   | (with_reducible exact LeO.refl _)
   | (with_reducible exact LeO.none _)
   | (with_reducible refine LeO.ite ?_ ?_)
   | (with_reducible refine LeO.bind ?_ (fun _ => ?_))
   | exact ih0 _ _ _ _ _ _
   | exact impl_MustBuy.mono _ _ _ _
   | exact laws_eqDoughS.mono _ _ _
   | exact laws_eqIntS.mono _ _ _
   | exact laws_eqStock.mono _ _ _
   | exact laws_heldIntS.mono _ _ _
   | exact laws_markDoughS.mono _ _ _
   | exact laws_markIntS.mono _ _ _
   | exact laws_markStock.mono _ _ _
   | exact laws_toDoughS.mono _ _
   | exact laws_toIntS.mono _ _
   | exact laws_toStock.mono _ _
   | exact spec_MustBuy.mono _ _ _ _
   | exact LeO.none _
   | refine LeO.ite ?_ ?_
   | refine LeO.bind ?_ (fun _ => ?_)
set_option maxHeartbeats 8000000 in
set_option maxRecDepth 100000 in
theorem laws_FnExactMustBuy.calls (k : Nat) (A0_0 : Option Addr) (c0_0 : Nat) (l0_0 : List Int) (A1 : Option Addr) (c1 : Nat) (l1 : List (S51)) (A2 : Option Addr) (c2 : Nat) (l2 : List Int) (r : Bool) (w : World) (hr0_0 : Kd.C (Kd.int .i64) w A0_0 l0_0.length l0_0) (hc0_0 : l0_0.length ≤ c0_0) (hr1 : Kd.C k51 w A1 l1.length l1) (hc1 : l1.length ≤ c1) (hr2 : Kd.C (Kd.int .i64) w A2 l2.length l2) (hc2 : l2.length ≤ c2) (h : laws_FnExactMustBuy.f k l0_0 l1 l2 = some r) :
  Calls Try.prog 11 #[.agg #[.slice A0_0 l0_0.length c0_0], .slice A1 l1.length c1, .slice A2 l2.length c2] w fun e w' => e = .returned (.bool r) ∧ Below w.heap.size w w' := by
 have hu49 := Try.underlying49
 have hu54 := Try.underlying54
 have HR0_0 := Aside0.mk hr0_0
 have HC0_0 := Aside0.mk hc0_0
 clear hr0_0 hc0_0
 have HR1 := Aside0.mk hr1
 have HC1 := Aside0.mk hc1
 clear hr1 hc1
 have HR2 := Aside0.mk hr2
 have HC2 := Aside0.mk hc2
 clear hr2 hc2
 have HB := Aside0.mk (Below.refl w.heap.size w)
 have H : (if (l2.length : Int) > 1048576 then (some true) else ((laws_szStock.f l0_0 1048576).bind fun t853 => (if t853 < 0 then (some true) else ((laws_szDoughS.f l1 t853).bind fun t854 => (if t854 < 0 then (some true) else ((laws_toStock.f k l0_0).bind fun t855 => ((laws_toDoughS.f k l1).bind fun t858 => ((laws_toIntS.f k l2).bind fun t861 => ((spec_MustBuy.f k t855 t858 t861).bind fun t864 => ((laws_toStock.f k l0_0).bind fun t867 => ((laws_toDoughS.f k l1).bind fun t871 => ((laws_toIntS.f k l2).bind fun t874 => ((impl_MustBuy.f k t867 t871 t874).bind fun t877 => ((laws_eqIntS.f k t877 t864).bind fun t880 => (if t880 = true then ((laws_toStock.f k l0_0).bind fun t881 => ((laws_eqStock.f k t867 t881).bind fun t884 => (if t884 = true then ((laws_toDoughS.f k l1).bind fun t885 => ((laws_eqDoughS.f k t871 t885).bind fun t888 => (if t888 = true then ((laws_toIntS.f k l2).bind fun t889 => ((laws_eqIntS.f k t874 t889).bind fun t892 => (if t892 = true then ((laws_markStock.f k t867 1).bind fun bt893 => ((laws_markDoughS.f k t871 bt893.1).bind fun bt895 => ((laws_markIntS.f k t874 bt895.1).bind fun bt897 => (if bt897.1 < 0 then (laws_FnExactMustBuy.j0 k l1 l2 t864 t877 true l0_0) else ((laws_eqIntS.f k t877 t864).bind fun t899 => (laws_FnExactMustBuy.j0 k l1 l2 t864 t877 (!t899) l0_0)))))) else (some false)))) else (some false)))) else (some false)))) else (some false)))))))))))))))) = some r := h
 clear h
 by_cases c4 : (l2.length : Int) > 1048576
 ·
  rw [if_pos c4] at H
  have c4b0 : decide (1048576 < (l2.length : Int)) = true := decide_eq_true c4
  have c4b1 : decide (1048576 < l2.length) = true := decide_eq_true (by omega)
  clear c4
  obtain rfl := Option.some.inj H
  go_enter Try.func11, Try.ntmps11
  go_wp2_with (first | ((with_reducible refine gate_dst (N := 3) rfl ?_); refine box_event ?hg (N := 3) ?hd (cs := #[.slice A0_0 l0_0.length c0_0]) (t := 49) ?hr ?_; (case hd => rfl); (case hg => rfl); (case hr => first | (go_simp; done) | (go_simp; rfl)); intro gb852 hg w5 hbox hb; have n0_ := Aside0.mk (below_step (blq HB.out) hb); have n1_ := Aside0.mk (hbox); have n2_ := Aside0.mk ((sq hg HB.out)); have n3_ := Aside0.mk ((sq hg HB.out)); clear HB; have HB := n0_; have BK852 := n1_; have GW852 := n2_; have GE852 := n3_; clear n0_ n1_ n2_ n3_; clear hb hbox hg))
  go_ret
  exact ⟨by first | rfl | (simp [errW_none, errW_some] <;> rfl) | (simp [*, errW_none, errW_some] <;> rfl), blq HB.out⟩
 ·
  rw [if_neg c4] at H
  have c4b0 : decide (1048576 < (l2.length : Int)) = false := decide_eq_false c4
  have c4b1 : decide (1048576 < l2.length) = false := decide_eq_false (by omega)
  clear c4
  replace H := Option.bind_eq_some_iff.mp H
  obtain ⟨t853, A60, H⟩ := H
  replace H : (if t853 < 0 then (some true) else ((laws_szDoughS.f l1 t853).bind fun t854 => (if t854 < 0 then (some true) else ((laws_toStock.f k l0_0).bind fun t855 => ((laws_toDoughS.f k l1).bind fun t858 => ((laws_toIntS.f k l2).bind fun t861 => ((spec_MustBuy.f k t855 t858 t861).bind fun t864 => ((laws_toStock.f k l0_0).bind fun t867 => ((laws_toDoughS.f k l1).bind fun t871 => ((laws_toIntS.f k l2).bind fun t874 => ((impl_MustBuy.f k t867 t871 t874).bind fun t877 => ((laws_eqIntS.f k t877 t864).bind fun t880 => (if t880 = true then ((laws_toStock.f k l0_0).bind fun t881 => ((laws_eqStock.f k t867 t881).bind fun t884 => (if t884 = true then ((laws_toDoughS.f k l1).bind fun t885 => ((laws_eqDoughS.f k t871 t885).bind fun t888 => (if t888 = true then ((laws_toIntS.f k l2).bind fun t889 => ((laws_eqIntS.f k t874 t889).bind fun t892 => (if t892 = true then ((laws_markStock.f k t867 1).bind fun bt893 => ((laws_markDoughS.f k t871 bt893.1).bind fun bt895 => ((laws_markIntS.f k t874 bt895.1).bind fun bt897 => (if bt897.1 < 0 then (laws_FnExactMustBuy.j0 k l1 l2 t864 t877 true l0_0) else ((laws_eqIntS.f k t877 t864).bind fun t899 => (laws_FnExactMustBuy.j0 k l1 l2 t864 t877 (!t899) l0_0)))))) else (some false)))) else (some false)))) else (some false)))) else (some false)))))))))))))) = some r := H
  have A6 := Aside0.mk A60
  clear A60
  have HF7 := Aside0.mk H
  clear H
  go_enter Try.func11, Try.ntmps11
  go_upto_if 24 with (first | ((with_reducible refine gate_dst (N := 3) rfl ?_); refine box_event ?hg (N := 3) ?hd (cs := #[.slice A0_0 l0_0.length c0_0]) (t := 49) ?hr ?_; (case hd => rfl); (case hg => rfl); (case hr => first | (go_simp; done) | (go_simp; rfl)); intro gb852 hg w8 hbox hb; have n0_ := Aside0.mk (below_step (blq HB.out) hb); have n1_ := Aside0.mk (hbox); have n2_ := Aside0.mk ((sq hg HB.out)); have n3_ := Aside0.mk ((sq hg HB.out)); clear HB; have HB := n0_; have BK852 := n1_; have GW852 := n2_; have GE852 := n3_; clear n0_ n1_ n2_ n3_; clear hb hbox hg; have hcz9_0 : w8.cell? ⟨gb852, 0, none⟩ = some (.slice A0_0 l0_0.length c0_0) := (blk_cell BK852.out 0).trans rfl; have hfz9_0 := blk_frozen BK852.out 0) | ((with_reducible refine gate_callee (f := 30) rfl ?_); refine gLq (some 22) Try.func30 #[.agg #[.slice A0_0 l0_0.length c0_0], .int .i64 1048576] ?_; (with_reducible refine (laws_szStock.calls _ _ l0_0 1048576 t853 _ ?side1 ?side2 A6.out).mono ?_); (case side1 => exact Kd.Cq (Kd.C_below HR0_0.out HB.out)); (case side2 => exact HC0_0.out); rintro e w10 ⟨rfl, hb⟩; refine ⟨_, rfl, ?_⟩; have n0_ := Aside0.mk (blk_below (bkq BK852.out) hb); have n1_ := Aside0.mk (below_step (blq HB.out) hb); clear BK852; clear HB; have BK852 := n0_; have HB := n1_; clear n0_ n1_; (try clear hb); (try clear hb2); (try clear hk); (try clear hi)))
  have H := HF7.out
  clear HF7
  by_cases c11 : t853 < 0
  ·
   rw [if_pos c11] at H
   have c11b0 : decide (t853 < 0) = true := decide_eq_true c11
   clear c11
   (first | rw [c11b0] | (simp only [i64_w, i32_w]; rw [c11b0]) | skip)
   obtain rfl := Option.some.inj H
   go_wp2
   go_ret
   exact ⟨by first | rfl | (simp [errW_none, errW_some] <;> rfl) | (simp [*, errW_none, errW_some] <;> rfl), blq HB.out⟩
  ·
   rw [if_neg c11] at H
   have c11b0 : decide (t853 < 0) = false := decide_eq_false c11
   clear c11
   (first | rw [c11b0] | (simp only [i64_w, i32_w]; rw [c11b0]) | skip)
   replace H := Option.bind_eq_some_iff.mp H
   obtain ⟨t854, A120, H⟩ := H
   replace H : (if t854 < 0 then (some true) else ((laws_toStock.f k l0_0).bind fun t855 => ((laws_toDoughS.f k l1).bind fun t858 => ((laws_toIntS.f k l2).bind fun t861 => ((spec_MustBuy.f k t855 t858 t861).bind fun t864 => ((laws_toStock.f k l0_0).bind fun t867 => ((laws_toDoughS.f k l1).bind fun t871 => ((laws_toIntS.f k l2).bind fun t874 => ((impl_MustBuy.f k t867 t871 t874).bind fun t877 => ((laws_eqIntS.f k t877 t864).bind fun t880 => (if t880 = true then ((laws_toStock.f k l0_0).bind fun t881 => ((laws_eqStock.f k t867 t881).bind fun t884 => (if t884 = true then ((laws_toDoughS.f k l1).bind fun t885 => ((laws_eqDoughS.f k t871 t885).bind fun t888 => (if t888 = true then ((laws_toIntS.f k l2).bind fun t889 => ((laws_eqIntS.f k t874 t889).bind fun t892 => (if t892 = true then ((laws_markStock.f k t867 1).bind fun bt893 => ((laws_markDoughS.f k t871 bt893.1).bind fun bt895 => ((laws_markIntS.f k t874 bt895.1).bind fun bt897 => (if bt897.1 < 0 then (laws_FnExactMustBuy.j0 k l1 l2 t864 t877 true l0_0) else ((laws_eqIntS.f k t877 t864).bind fun t899 => (laws_FnExactMustBuy.j0 k l1 l2 t864 t877 (!t899) l0_0)))))) else (some false)))) else (some false)))) else (some false)))) else (some false)))))))))))) = some r := H
   have A12 := Aside0.mk A120
   clear A120
   have HF13 := Aside0.mk H
   clear H
   go_upto_if 29 with (first | ((with_reducible refine gate_callee (f := 56) rfl ?_); refine gLq (some 27) Try.func56 #[.slice A1 l1.length c1, .int .i64 t853] ?_; (with_reducible refine (laws_szDoughS.calls _ _ l1 t853 t854 _ ?side1 ?side2 A12.out).mono ?_); (case side1 => exact Kd.Cq (Kd.C_below HR1.out HB.out)); (case side2 => exact HC1.out); rintro e w' ⟨rfl, ⟨nd, rfl⟩⟩; refine ⟨_, rfl, ?_⟩))
   (try (rw [drewN_self w10]; generalize hq_ : World.drewN w10 _ = w10; have n0_ := Aside0.mk (blk_at hq_ BK852.out); have n1_ := Aside0.mk (below_at hq_ HB.out); clear hq_ BK852 HB; have BK852 := n0_; have HB := n1_; clear n0_ n1_))
   have H := HF13.out
   clear HF13
   by_cases c14 : t854 < 0
   ·
    rw [if_pos c14] at H
    have c14b0 : decide (t854 < 0) = true := decide_eq_true c14
    clear c14
    (first | rw [c14b0] | (simp only [i64_w, i32_w]; rw [c14b0]) | skip)
    obtain rfl := Option.some.inj H
    go_wp2
    go_ret
    exact ⟨by first | rfl | (simp [errW_none, errW_some] <;> rfl) | (simp [*, errW_none, errW_some] <;> rfl), blq HB.out⟩
   ·
    rw [if_neg c14] at H
    have c14b0 : decide (t854 < 0) = false := decide_eq_false c14
    clear c14
    (first | rw [c14b0] | (simp only [i64_w, i32_w]; rw [c14b0]) | skip)
    replace H := Option.bind_eq_some_iff.mp H
    obtain ⟨t855, A150, H⟩ := H
    replace H : ((laws_toDoughS.f k l1).bind fun t858 => ((laws_toIntS.f k l2).bind fun t861 => ((spec_MustBuy.f k t855 t858 t861).bind fun t864 => ((laws_toStock.f k l0_0).bind fun t867 => ((laws_toDoughS.f k l1).bind fun t871 => ((laws_toIntS.f k l2).bind fun t874 => ((impl_MustBuy.f k t867 t871 t874).bind fun t877 => ((laws_eqIntS.f k t877 t864).bind fun t880 => (if t880 = true then ((laws_toStock.f k l0_0).bind fun t881 => ((laws_eqStock.f k t867 t881).bind fun t884 => (if t884 = true then ((laws_toDoughS.f k l1).bind fun t885 => ((laws_eqDoughS.f k t871 t885).bind fun t888 => (if t888 = true then ((laws_toIntS.f k l2).bind fun t889 => ((laws_eqIntS.f k t874 t889).bind fun t892 => (if t892 = true then ((laws_markStock.f k t867 1).bind fun bt893 => ((laws_markDoughS.f k t871 bt893.1).bind fun bt895 => ((laws_markIntS.f k t874 bt895.1).bind fun bt897 => (if bt897.1 < 0 then (laws_FnExactMustBuy.j0 k l1 l2 t864 t877 true l0_0) else ((laws_eqIntS.f k t877 t864).bind fun t899 => (laws_FnExactMustBuy.j0 k l1 l2 t864 t877 (!t899) l0_0)))))) else (some false)))) else (some false)))) else (some false)))) else (some false)))))))))) = some r := H
    have A15 := Aside0.mk A150
    clear A150
    replace H := Option.bind_eq_some_iff.mp H
    obtain ⟨t858, A160, H⟩ := H
    replace H : ((laws_toIntS.f k l2).bind fun t861 => ((spec_MustBuy.f k t855 t858 t861).bind fun t864 => ((laws_toStock.f k l0_0).bind fun t867 => ((laws_toDoughS.f k l1).bind fun t871 => ((laws_toIntS.f k l2).bind fun t874 => ((impl_MustBuy.f k t867 t871 t874).bind fun t877 => ((laws_eqIntS.f k t877 t864).bind fun t880 => (if t880 = true then ((laws_toStock.f k l0_0).bind fun t881 => ((laws_eqStock.f k t867 t881).bind fun t884 => (if t884 = true then ((laws_toDoughS.f k l1).bind fun t885 => ((laws_eqDoughS.f k t871 t885).bind fun t888 => (if t888 = true then ((laws_toIntS.f k l2).bind fun t889 => ((laws_eqIntS.f k t874 t889).bind fun t892 => (if t892 = true then ((laws_markStock.f k t867 1).bind fun bt893 => ((laws_markDoughS.f k t871 bt893.1).bind fun bt895 => ((laws_markIntS.f k t874 bt895.1).bind fun bt897 => (if bt897.1 < 0 then (laws_FnExactMustBuy.j0 k l1 l2 t864 t877 true l0_0) else ((laws_eqIntS.f k t877 t864).bind fun t899 => (laws_FnExactMustBuy.j0 k l1 l2 t864 t877 (!t899) l0_0)))))) else (some false)))) else (some false)))) else (some false)))) else (some false))))))))) = some r := H
    have A16 := Aside0.mk A160
    clear A160
    replace H := Option.bind_eq_some_iff.mp H
    obtain ⟨t861, A170, H⟩ := H
    replace H : ((spec_MustBuy.f k t855 t858 t861).bind fun t864 => ((laws_toStock.f k l0_0).bind fun t867 => ((laws_toDoughS.f k l1).bind fun t871 => ((laws_toIntS.f k l2).bind fun t874 => ((impl_MustBuy.f k t867 t871 t874).bind fun t877 => ((laws_eqIntS.f k t877 t864).bind fun t880 => (if t880 = true then ((laws_toStock.f k l0_0).bind fun t881 => ((laws_eqStock.f k t867 t881).bind fun t884 => (if t884 = true then ((laws_toDoughS.f k l1).bind fun t885 => ((laws_eqDoughS.f k t871 t885).bind fun t888 => (if t888 = true then ((laws_toIntS.f k l2).bind fun t889 => ((laws_eqIntS.f k t874 t889).bind fun t892 => (if t892 = true then ((laws_markStock.f k t867 1).bind fun bt893 => ((laws_markDoughS.f k t871 bt893.1).bind fun bt895 => ((laws_markIntS.f k t874 bt895.1).bind fun bt897 => (if bt897.1 < 0 then (laws_FnExactMustBuy.j0 k l1 l2 t864 t877 true l0_0) else ((laws_eqIntS.f k t877 t864).bind fun t899 => (laws_FnExactMustBuy.j0 k l1 l2 t864 t877 (!t899) l0_0)))))) else (some false)))) else (some false)))) else (some false)))) else (some false)))))))) = some r := H
    have A17 := Aside0.mk A170
    clear A170
    replace H := Option.bind_eq_some_iff.mp H
    obtain ⟨t864, A180, H⟩ := H
    replace H : ((laws_toStock.f k l0_0).bind fun t867 => ((laws_toDoughS.f k l1).bind fun t871 => ((laws_toIntS.f k l2).bind fun t874 => ((impl_MustBuy.f k t867 t871 t874).bind fun t877 => ((laws_eqIntS.f k t877 t864).bind fun t880 => (if t880 = true then ((laws_toStock.f k l0_0).bind fun t881 => ((laws_eqStock.f k t867 t881).bind fun t884 => (if t884 = true then ((laws_toDoughS.f k l1).bind fun t885 => ((laws_eqDoughS.f k t871 t885).bind fun t888 => (if t888 = true then ((laws_toIntS.f k l2).bind fun t889 => ((laws_eqIntS.f k t874 t889).bind fun t892 => (if t892 = true then ((laws_markStock.f k t867 1).bind fun bt893 => ((laws_markDoughS.f k t871 bt893.1).bind fun bt895 => ((laws_markIntS.f k t874 bt895.1).bind fun bt897 => (if bt897.1 < 0 then (laws_FnExactMustBuy.j0 k l1 l2 t864 t877 true l0_0) else ((laws_eqIntS.f k t877 t864).bind fun t899 => (laws_FnExactMustBuy.j0 k l1 l2 t864 t877 (!t899) l0_0)))))) else (some false)))) else (some false)))) else (some false)))) else (some false))))))) = some r := H
    have A18 := Aside0.mk A180
    clear A180
    replace H := Option.bind_eq_some_iff.mp H
    obtain ⟨t867, A190, H⟩ := H
    replace H : ((laws_toDoughS.f k l1).bind fun t871 => ((laws_toIntS.f k l2).bind fun t874 => ((impl_MustBuy.f k t867 t871 t874).bind fun t877 => ((laws_eqIntS.f k t877 t864).bind fun t880 => (if t880 = true then ((laws_toStock.f k l0_0).bind fun t881 => ((laws_eqStock.f k t867 t881).bind fun t884 => (if t884 = true then ((laws_toDoughS.f k l1).bind fun t885 => ((laws_eqDoughS.f k t871 t885).bind fun t888 => (if t888 = true then ((laws_toIntS.f k l2).bind fun t889 => ((laws_eqIntS.f k t874 t889).bind fun t892 => (if t892 = true then ((laws_markStock.f k t867 1).bind fun bt893 => ((laws_markDoughS.f k t871 bt893.1).bind fun bt895 => ((laws_markIntS.f k t874 bt895.1).bind fun bt897 => (if bt897.1 < 0 then (laws_FnExactMustBuy.j0 k l1 l2 t864 t877 true l0_0) else ((laws_eqIntS.f k t877 t864).bind fun t899 => (laws_FnExactMustBuy.j0 k l1 l2 t864 t877 (!t899) l0_0)))))) else (some false)))) else (some false)))) else (some false)))) else (some false)))))) = some r := H
    have A19 := Aside0.mk A190
    clear A190
    replace H := Option.bind_eq_some_iff.mp H
    obtain ⟨t871, A200, H⟩ := H
    replace H : ((laws_toIntS.f k l2).bind fun t874 => ((impl_MustBuy.f k t867 t871 t874).bind fun t877 => ((laws_eqIntS.f k t877 t864).bind fun t880 => (if t880 = true then ((laws_toStock.f k l0_0).bind fun t881 => ((laws_eqStock.f k t867 t881).bind fun t884 => (if t884 = true then ((laws_toDoughS.f k l1).bind fun t885 => ((laws_eqDoughS.f k t871 t885).bind fun t888 => (if t888 = true then ((laws_toIntS.f k l2).bind fun t889 => ((laws_eqIntS.f k t874 t889).bind fun t892 => (if t892 = true then ((laws_markStock.f k t867 1).bind fun bt893 => ((laws_markDoughS.f k t871 bt893.1).bind fun bt895 => ((laws_markIntS.f k t874 bt895.1).bind fun bt897 => (if bt897.1 < 0 then (laws_FnExactMustBuy.j0 k l1 l2 t864 t877 true l0_0) else ((laws_eqIntS.f k t877 t864).bind fun t899 => (laws_FnExactMustBuy.j0 k l1 l2 t864 t877 (!t899) l0_0)))))) else (some false)))) else (some false)))) else (some false)))) else (some false))))) = some r := H
    have A20 := Aside0.mk A200
    clear A200
    replace H := Option.bind_eq_some_iff.mp H
    obtain ⟨t874, A210, H⟩ := H
    replace H : ((impl_MustBuy.f k t867 t871 t874).bind fun t877 => ((laws_eqIntS.f k t877 t864).bind fun t880 => (if t880 = true then ((laws_toStock.f k l0_0).bind fun t881 => ((laws_eqStock.f k t867 t881).bind fun t884 => (if t884 = true then ((laws_toDoughS.f k l1).bind fun t885 => ((laws_eqDoughS.f k t871 t885).bind fun t888 => (if t888 = true then ((laws_toIntS.f k l2).bind fun t889 => ((laws_eqIntS.f k t874 t889).bind fun t892 => (if t892 = true then ((laws_markStock.f k t867 1).bind fun bt893 => ((laws_markDoughS.f k t871 bt893.1).bind fun bt895 => ((laws_markIntS.f k t874 bt895.1).bind fun bt897 => (if bt897.1 < 0 then (laws_FnExactMustBuy.j0 k l1 l2 t864 t877 true l0_0) else ((laws_eqIntS.f k t877 t864).bind fun t899 => (laws_FnExactMustBuy.j0 k l1 l2 t864 t877 (!t899) l0_0)))))) else (some false)))) else (some false)))) else (some false)))) else (some false)))) = some r := H
    have A21 := Aside0.mk A210
    clear A210
    replace H := Option.bind_eq_some_iff.mp H
    obtain ⟨t877, A220, H⟩ := H
    replace H : ((laws_eqIntS.f k t877 t864).bind fun t880 => (if t880 = true then ((laws_toStock.f k l0_0).bind fun t881 => ((laws_eqStock.f k t867 t881).bind fun t884 => (if t884 = true then ((laws_toDoughS.f k l1).bind fun t885 => ((laws_eqDoughS.f k t871 t885).bind fun t888 => (if t888 = true then ((laws_toIntS.f k l2).bind fun t889 => ((laws_eqIntS.f k t874 t889).bind fun t892 => (if t892 = true then ((laws_markStock.f k t867 1).bind fun bt893 => ((laws_markDoughS.f k t871 bt893.1).bind fun bt895 => ((laws_markIntS.f k t874 bt895.1).bind fun bt897 => (if bt897.1 < 0 then (laws_FnExactMustBuy.j0 k l1 l2 t864 t877 true l0_0) else ((laws_eqIntS.f k t877 t864).bind fun t899 => (laws_FnExactMustBuy.j0 k l1 l2 t864 t877 (!t899) l0_0)))))) else (some false)))) else (some false)))) else (some false)))) else (some false))) = some r := H
    have A22 := Aside0.mk A220
    clear A220
    replace H := Option.bind_eq_some_iff.mp H
    obtain ⟨t880, A230, H⟩ := H
    replace H : (if t880 = true then ((laws_toStock.f k l0_0).bind fun t881 => ((laws_eqStock.f k t867 t881).bind fun t884 => (if t884 = true then ((laws_toDoughS.f k l1).bind fun t885 => ((laws_eqDoughS.f k t871 t885).bind fun t888 => (if t888 = true then ((laws_toIntS.f k l2).bind fun t889 => ((laws_eqIntS.f k t874 t889).bind fun t892 => (if t892 = true then ((laws_markStock.f k t867 1).bind fun bt893 => ((laws_markDoughS.f k t871 bt893.1).bind fun bt895 => ((laws_markIntS.f k t874 bt895.1).bind fun bt897 => (if bt897.1 < 0 then (laws_FnExactMustBuy.j0 k l1 l2 t864 t877 true l0_0) else ((laws_eqIntS.f k t877 t864).bind fun t899 => (laws_FnExactMustBuy.j0 k l1 l2 t864 t877 (!t899) l0_0)))))) else (some false)))) else (some false)))) else (some false)))) else (some false)) = some r := H
    have A23 := Aside0.mk A230
    clear A230
    have HF24 := Aside0.mk H
    clear H
    have hcz25_0 : w10.cell? ⟨gb852, 0, none⟩ = some (.slice A0_0 l0_0.length c0_0) := (blk_cell BK852.out 0).trans rfl
    have hfz25_0 := blk_frozen BK852.out 0
    go_upto_if 50 with (first | ((with_reducible refine gate_callee (f := 32) rfl ?_); refine gLq (some 31) Try.func32 #[.agg #[.slice A0_0 l0_0.length c0_0]] ?_; (with_reducible refine (laws_toStock.calls k _ _ l0_0 t855 _ ?side1 ?side2 A15.out).mono ?_); (case side1 => exact Kd.Cq (Kd.C_below HR0_0.out HB.out)); (case side2 => exact HC0_0.out); rintro e w26 ⟨v856, rfl, ho0, hb⟩; refine ⟨_, rfl, ?_⟩; have n0_ := Aside0.mk (Kd.R_lower ho0 (below_size (blq HB.out))); have n1_ := Aside0.mk (blk_below (bkq BK852.out) hb); have n2_ := Aside0.mk (below_step (blq HB.out) hb); clear BK852; clear HB; have HO857 := n0_; have BK852 := n1_; have HB := n2_; clear n0_ n1_ n2_; (try clear hb); (try clear hb2); (try clear hk); (try clear hi); (try clear ho0)) | ((with_reducible refine gate_callee (f := 58) rfl ?_); refine gLq (some 33) Try.func58 #[.slice A1 l1.length c1] ?_; (with_reducible refine (laws_toDoughS.calls k _ _ l1 t858 _ ?side1 ?side2 A16.out).mono ?_); (case side1 => exact Kd.Cq (Kd.C_below HR1.out HB.out)); (case side2 => exact HC1.out); rintro e w27 ⟨v859, rfl, ho0, hb⟩; refine ⟨_, rfl, ?_⟩; have n0_ := Aside0.mk (Kd.R_below (Kd.Rq HO857.out) hb); have n1_ := Aside0.mk (Kd.R_lower ho0 (below_size (blq HB.out))); have n2_ := Aside0.mk (blk_below (bkq BK852.out) hb); have n3_ := Aside0.mk (below_step (blq HB.out) hb); clear HO857; clear BK852; clear HB; have HO857 := n0_; have HO860 := n1_; have BK852 := n2_; have HB := n3_; clear n0_ n1_ n2_ n3_; (try clear hb); (try clear hb2); (try clear hk); (try clear hi); (try clear ho0)) | ((with_reducible refine gate_callee (f := 59) rfl ?_); refine gLq (some 35) Try.func59 #[.slice A2 l2.length c2] ?_; (with_reducible refine (laws_toIntS.calls k _ _ l2 t861 _ ?side1 ?side2 A17.out).mono ?_); (case side1 => exact Kd.Cq (Kd.C_below HR2.out HB.out)); (case side2 => exact HC2.out); rintro e w28 ⟨v862, rfl, ho0, hb⟩; refine ⟨_, rfl, ?_⟩; have n0_ := Aside0.mk (Kd.R_elder' (Kd.Rq HO857.out) (Kd.R_base ho0) hb); have n1_ := Aside0.mk (Kd.R_below (Kd.Rq HO860.out) hb); have n2_ := Aside0.mk (Kd.R_lower (Kd.R_new' ho0 (Kd.R_lt (Kd.Rq HO857.out))) (below_size (blq HB.out))); have n3_ := Aside0.mk (blk_below (bkq BK852.out) hb); have n4_ := Aside0.mk (below_step (blq HB.out) hb); clear HO857; clear HO860; clear BK852; clear HB; have HO857 := n0_; have HO860 := n1_; have HO863 := n2_; have BK852 := n3_; have HB := n4_; clear n0_ n1_ n2_ n3_ n4_; (try clear hb); (try clear hb2); (try clear hk); (try clear hi); (try clear ho0); obtain ⟨Ao29, co29, eo29⟩ := Kd.R_slice HO857.out; subst eo29; obtain ⟨Ao30, co30, eo30⟩ := Kd.R_slice HO860.out; subst eo30; obtain ⟨Ao31, co31, eo31⟩ := Kd.R_slice HO863.out; subst eo31) | ((with_reducible refine gate_callee (f := 57) rfl ?_); refine gLq (some 36) Try.func57 #[.agg #[.slice Ao29 t855.length co29], .slice Ao30 t858.length co30, .slice Ao31 t861.length co31] ?_; (with_reducible refine (spec_MustBuy.calls k _ _ t855 _ _ t858 _ _ t861 t864 _ ?side1 ?side2 ?side3 ?side4 ?side5 ?side6 A18.out).mono ?_); (case side1 => repeat (first | exact (Kd.R_reads' HO857.out).2.2 | (with_reducible refine Kd.C_alloc ?_ _) | (with_reducible refine Kd.C_drewN ?_ _) | (with_reducible refine Kd.C_drew ?_))); (case side2 => exact (Kd.R_reads' HO857.out).2.1); (case side3 => repeat (first | exact (Kd.R_reads' HO860.out).2.2 | (with_reducible refine Kd.C_alloc ?_ _) | (with_reducible refine Kd.C_drewN ?_ _) | (with_reducible refine Kd.C_drew ?_))); (case side4 => exact (Kd.R_reads' HO860.out).2.1); (case side5 => repeat (first | exact (Kd.R_reads' HO863.out).2.2 | (with_reducible refine Kd.C_alloc ?_ _) | (with_reducible refine Kd.C_drewN ?_ _) | (with_reducible refine Kd.C_drew ?_))); (case side6 => exact (Kd.R_reads' HO863.out).2.1); rintro e w32 ⟨v865, rfl, ho0, hb⟩; refine ⟨_, rfl, ?_⟩; have n0_ := Aside0.mk (Kd.R_elder' (Kd.Rq HO857.out) (Kd.R_base ho0) hb); have n1_ := Aside0.mk (Kd.R_below (Kd.Rq HO860.out) hb); have n2_ := Aside0.mk (Kd.R_elder' (Kd.Rq HO863.out) (Kd.R_base ho0) hb); have n3_ := Aside0.mk (Kd.R_lower (Kd.R_new' (Kd.R_new' ho0 (Kd.R_lt (Kd.Rq HO857.out))) (Kd.R_lt (Kd.Rq HO863.out))) (below_size (blq HB.out))); have n4_ := Aside0.mk (blk_below (bkq BK852.out) hb); have n5_ := Aside0.mk (below_step (blq HB.out) hb); clear HO857; clear HO860; clear HO863; clear BK852; clear HB; have HO857 := n0_; have HO860 := n1_; have HO863 := n2_; have HO866 := n3_; have BK852 := n4_; have HB := n5_; clear n0_ n1_ n2_ n3_ n4_ n5_; (try clear hb); (try clear hb2); (try clear hk); (try clear hi); (try clear ho0); have hcz33_0 : w32.cell? ⟨gb852, 0, none⟩ = some (.slice A0_0 l0_0.length c0_0) := (blk_cell BK852.out 0).trans rfl; have hfz33_0 := blk_frozen BK852.out 0) | ((with_reducible refine gate_callee (f := 32) rfl ?_); refine gLq (some 38) Try.func32 #[.agg #[.slice A0_0 l0_0.length c0_0]] ?_; (with_reducible refine (laws_toStock.calls k _ _ l0_0 t867 _ ?side1 ?side2 A19.out).mono ?_); (case side1 => exact Kd.Cq (Kd.C_below HR0_0.out HB.out)); (case side2 => exact HC0_0.out); rintro e w34 ⟨v868, rfl, ho0, hb⟩; refine ⟨_, rfl, ?_⟩; have n0_ := Aside0.mk (Kd.R_elder' (Kd.Rq HO857.out) (Kd.R_base ho0) hb); have n1_ := Aside0.mk (Kd.R_below (Kd.Rq HO860.out) hb); have n2_ := Aside0.mk (Kd.R_elder' (Kd.Rq HO863.out) (Kd.R_base ho0) hb); have n3_ := Aside0.mk (Kd.R_elder' (Kd.Rq HO866.out) (Kd.R_base ho0) hb); have n4_ := Aside0.mk (Kd.R_lower (Kd.R_new' (Kd.R_new' (Kd.R_new' ho0 (Kd.R_lt (Kd.Rq HO857.out))) (Kd.R_lt (Kd.Rq HO863.out))) (Kd.R_lt (Kd.Rq HO866.out))) (below_size (blq HB.out))); have n5_ := Aside0.mk (blk_below (bkq BK852.out) hb); have n6_ := Aside0.mk (below_step (blq HB.out) hb); clear HO857; clear HO860; clear HO863; clear HO866; clear BK852; clear HB; have HO857 := n0_; have HO860 := n1_; have HO863 := n2_; have HO866 := n3_; have HO869 := n4_; have BK852 := n5_; have HB := n6_; clear n0_ n1_ n2_ n3_ n4_ n5_ n6_; (try clear hb); (try clear hb2); (try clear hk); (try clear hi); (try clear ho0)) | ((with_reducible refine gate_dst (N := 9) rfl ?_); refine box_event ?hg (N := 9) ?hd (cs := #[.slice none 0 0]) (t := 54) ?hr ?_; (case hd => rfl); (case hg => rfl); (case hr => first | (go_simp; done) | (go_simp; rfl)); intro gb870 hg w35 hbox hb; have n0_ := Aside0.mk (Kd.R_below (Kd.Rq HO857.out) hb); have n1_ := Aside0.mk (Kd.R_below (Kd.Rq HO860.out) hb); have n2_ := Aside0.mk (Kd.R_below (Kd.Rq HO863.out) hb); have n3_ := Aside0.mk (Kd.R_below (Kd.Rq HO866.out) hb); have n4_ := Aside0.mk (Kd.R_below (Kd.Rq HO869.out) hb); have n5_ := Aside0.mk (blk_below (bkq BK852.out) hb); have n6_ := Aside0.mk (below_step (blq HB.out) hb); have n7_ := Aside0.mk (hbox); have n8_ := Aside0.mk ((sq hg HB.out)); have n9_ := Aside0.mk ((sq hg HB.out)); have n10_ := Aside0.mk ((by rw [hg]; exact Nat.ne_of_lt (blk_lt (bkq BK852.out)) : gb852 ≠ gb870)); have n11_ := Aside0.mk ((by rw [hg]; exact Nat.ne_of_gt (blk_lt (bkq BK852.out)) : gb870 ≠ gb852)); clear HO857; clear HO860; clear HO863; clear HO866; clear HO869; clear BK852; clear HB; have HO857 := n0_; have HO860 := n1_; have HO863 := n2_; have HO866 := n3_; have HO869 := n4_; have BK852 := n5_; have HB := n6_; have BK870 := n7_; have GW870 := n8_; have GE870 := n9_; have NB852_870 := n10_; have NB870_852 := n11_; clear n0_ n1_ n2_ n3_ n4_ n5_ n6_ n7_ n8_ n9_ n10_ n11_; clear hb hbox hg; obtain ⟨Ao36, co36, eo36⟩ := Kd.R_slice HO869.out; subst eo36; have hnb37 := NB870_852.out; have hnc37 := NB852_870.out; have hcz38_0 : w35.cell? ⟨gb870, 0, none⟩ = some (.slice none 0 0) := (blk_cell BK870.out 0).trans rfl; have hfz38_0 := blk_frozen BK870.out 0) | ((with_reducible refine gate_callee (f := 58) rfl ?_); refine gLq (some 40) Try.func58 #[.slice A1 l1.length c1] ?_; (with_reducible refine (laws_toDoughS.calls k _ _ l1 t871 _ ?side1 ?side2 A20.out).mono ?_); (case side1 => exact Kd.C_below HR1.out (blq HB.out)); (case side2 => exact HC1.out); rintro e w39 ⟨v872, rfl, ho0, hb⟩; refine ⟨_, rfl, ?_⟩; have n0_ := Aside0.mk (Kd.R_below (Kd.Rq (Kd.R_mono (Kd.R_far (p := ⟨gb870, 0, none⟩) (Kd.R_types HO857.out BK870.out (by decide)) (fun _ hk => hk.2) (.slice Ao36 t867.length co36)) (fun _ h_ => h_.1))) hb); have n1_ := Aside0.mk (Kd.R_elder' (Kd.Rq (Kd.R_mono (Kd.R_far (p := ⟨gb870, 0, none⟩) (Kd.R_types HO860.out BK870.out (by decide)) (fun _ hk => hk.2) (.slice Ao36 t867.length co36)) (fun _ h_ => h_.1))) (Kd.R_base ho0) hb); have n2_ := Aside0.mk (Kd.R_below (Kd.Rq (Kd.R_mono (Kd.R_far (p := ⟨gb870, 0, none⟩) (Kd.R_types HO863.out BK870.out (by decide)) (fun _ hk => hk.2) (.slice Ao36 t867.length co36)) (fun _ h_ => h_.1))) hb); have n3_ := Aside0.mk (Kd.R_below (Kd.Rq (Kd.R_mono (Kd.R_far (p := ⟨gb870, 0, none⟩) (Kd.R_types HO866.out BK870.out (by decide)) (fun _ hk => hk.2) (.slice Ao36 t867.length co36)) (fun _ h_ => h_.1))) hb); have n4_ := Aside0.mk (Kd.R_below (Kd.Rq (Kd.R_mono (Kd.R_far (p := ⟨gb870, 0, none⟩) (Kd.R_types HO869.out BK870.out (by decide)) (fun _ hk => hk.2) (.slice Ao36 t867.length co36)) (fun _ h_ => h_.1))) hb); have n5_ := Aside0.mk (Kd.R_lower (Kd.R_new' ho0 (Kd.R_lt (Kd.Rq (Kd.R_mono (Kd.R_far (p := ⟨gb870, 0, none⟩) (Kd.R_types HO860.out BK870.out (by decide)) (fun _ hk => hk.2) (.slice Ao36 t867.length co36)) (fun _ h_ => h_.1))))) (below_size (blq HB.out))); have n6_ := Aside0.mk (blk_below (g := gb852) (o := .cells #[.slice A0_0 l0_0.length c0_0] 49 (0, 0)) (by (with_reducible repeat (first | refine blk_drewN ?_ _ | refine blk_drew ?_ | refine blk_alloc ?_ _)); refine blk_far ?_ NB852_870.out _; (with_reducible repeat (first | refine blk_drewN ?_ _ | refine blk_drew ?_ | refine blk_alloc ?_ _)); exact BK852.out) hb); have n7_ := Aside0.mk (blk_below (g := gb870) (o := .cells #[.slice Ao36 t867.length co36] 54 (0, 0)) (by (with_reducible repeat (first | refine blk_drewN ?_ _ | refine blk_drew ?_ | refine blk_alloc ?_ _)); refine blk_put (cs := #[.slice none 0 0]) ?_ 0 _ rfl; (with_reducible repeat (first | refine blk_drewN ?_ _ | refine blk_drew ?_ | refine blk_alloc ?_ _)); exact BK870.out) hb); have n8_ := Aside0.mk (below_step (blq HB.out) hb); clear HO857; clear HO860; clear HO863; clear HO866; clear HO869; clear BK852; clear BK870; clear HB; have HO857 := n0_; have HO860 := n1_; have HO863 := n2_; have HO866 := n3_; have HO869 := n4_; have HO873 := n5_; have BK852 := n6_; have BK870 := n7_; have HB := n8_; clear n0_ n1_ n2_ n3_ n4_ n5_ n6_ n7_ n8_; (try clear hb); (try clear hb2); (try clear hk); (try clear hi); (try clear ho0)) | ((with_reducible refine gate_callee (f := 59) rfl ?_); refine gLq (some 42) Try.func59 #[.slice A2 l2.length c2] ?_; (with_reducible refine (laws_toIntS.calls k _ _ l2 t874 _ ?side1 ?side2 A21.out).mono ?_); (case side1 => exact Kd.Cq (Kd.C_below HR2.out HB.out)); (case side2 => exact HC2.out); rintro e w40 ⟨v875, rfl, ho0, hb⟩; refine ⟨_, rfl, ?_⟩; have n0_ := Aside0.mk (Kd.R_elder' (Kd.Rq HO857.out) (Kd.R_base ho0) hb); have n1_ := Aside0.mk (Kd.R_below (Kd.Rq HO860.out) hb); have n2_ := Aside0.mk (Kd.R_elder' (Kd.Rq HO863.out) (Kd.R_base ho0) hb); have n3_ := Aside0.mk (Kd.R_elder' (Kd.Rq HO866.out) (Kd.R_base ho0) hb); have n4_ := Aside0.mk (Kd.R_elder' (Kd.Rq HO869.out) (Kd.R_base ho0) hb); have n5_ := Aside0.mk (Kd.R_below (Kd.Rq HO873.out) hb); have n6_ := Aside0.mk (Kd.R_lower (Kd.R_new' (Kd.R_new' (Kd.R_new' (Kd.R_new' ho0 (Kd.R_lt (Kd.Rq HO857.out))) (Kd.R_lt (Kd.Rq HO863.out))) (Kd.R_lt (Kd.Rq HO866.out))) (Kd.R_lt (Kd.Rq HO869.out))) (below_size (blq HB.out))); have n7_ := Aside0.mk (blk_below (bkq BK852.out) hb); have n8_ := Aside0.mk (blk_below (bkq BK870.out) hb); have n9_ := Aside0.mk (below_step (blq HB.out) hb); clear HO857; clear HO860; clear HO863; clear HO866; clear HO869; clear HO873; clear BK852; clear BK870; clear HB; have HO857 := n0_; have HO860 := n1_; have HO863 := n2_; have HO866 := n3_; have HO869 := n4_; have HO873 := n5_; have HO876 := n6_; have BK852 := n7_; have BK870 := n8_; have HB := n9_; clear n0_ n1_ n2_ n3_ n4_ n5_ n6_ n7_ n8_ n9_; (try clear hb); (try clear hb2); (try clear hk); (try clear hi); (try clear ho0); have hcz41_0 : w40.cell? ⟨gb870, 0, none⟩ = some (.slice Ao36 t867.length co36) := (blk_cell BK870.out 0).trans rfl; have hfz41_0 := blk_frozen BK870.out 0; obtain ⟨Ao42, co42, eo42⟩ := Kd.R_slice HO873.out; subst eo42; obtain ⟨Ao43, co43, eo43⟩ := Kd.R_slice HO876.out; subst eo43) | ((with_reducible refine gate_callee (f := 47) rfl ?_); refine gLq (some 46) Try.func47 #[.agg #[.slice Ao36 t867.length co36], .slice Ao42 t871.length co42, .slice Ao43 t874.length co43] ?_; (with_reducible refine (impl_MustBuy.calls k _ _ t867 _ _ t871 _ _ t874 t877 _ ?side1 ?side2 ?side3 ?side4 ?side5 ?side6 A22.out).mono ?_); (case side1 => repeat (first | exact (Kd.R_reads' HO869.out).2.2 | (with_reducible refine Kd.C_alloc ?_ _) | (with_reducible refine Kd.C_drewN ?_ _) | (with_reducible refine Kd.C_drew ?_))); (case side2 => exact (Kd.R_reads' HO869.out).2.1); (case side3 => repeat (first | exact (Kd.R_reads' HO873.out).2.2 | (with_reducible refine Kd.C_alloc ?_ _) | (with_reducible refine Kd.C_drewN ?_ _) | (with_reducible refine Kd.C_drew ?_))); (case side4 => exact (Kd.R_reads' HO873.out).2.1); (case side5 => repeat (first | exact (Kd.R_reads' HO876.out).2.2 | (with_reducible refine Kd.C_alloc ?_ _) | (with_reducible refine Kd.C_drewN ?_ _) | (with_reducible refine Kd.C_drew ?_))); (case side6 => exact (Kd.R_reads' HO876.out).2.1); rintro e w44 ⟨v878, rfl, ho0, hb⟩; refine ⟨_, rfl, ?_⟩; have n0_ := Aside0.mk (Kd.R_elder' (Kd.Rq HO857.out) (Kd.R_base ho0) hb); have n1_ := Aside0.mk (Kd.R_below (Kd.Rq HO860.out) hb); have n2_ := Aside0.mk (Kd.R_elder' (Kd.Rq HO863.out) (Kd.R_base ho0) hb); have n3_ := Aside0.mk (Kd.R_elder' (Kd.Rq HO866.out) (Kd.R_base ho0) hb); have n4_ := Aside0.mk (Kd.R_elder' (Kd.Rq HO869.out) (Kd.R_base ho0) hb); have n5_ := Aside0.mk (Kd.R_below (Kd.Rq HO873.out) hb); have n6_ := Aside0.mk (Kd.R_elder' (Kd.Rq HO876.out) (Kd.R_base ho0) hb); have n7_ := Aside0.mk (Kd.R_lower (Kd.R_new' (Kd.R_new' (Kd.R_new' (Kd.R_new' (Kd.R_new' ho0 (Kd.R_lt (Kd.Rq HO857.out))) (Kd.R_lt (Kd.Rq HO863.out))) (Kd.R_lt (Kd.Rq HO866.out))) (Kd.R_lt (Kd.Rq HO869.out))) (Kd.R_lt (Kd.Rq HO876.out))) (below_size (blq HB.out))); have n8_ := Aside0.mk (blk_below (bkq BK852.out) hb); have n9_ := Aside0.mk (blk_below (bkq BK870.out) hb); have n10_ := Aside0.mk (below_step (blq HB.out) hb); clear HO857; clear HO860; clear HO863; clear HO866; clear HO869; clear HO873; clear HO876; clear BK852; clear BK870; clear HB; have HO857 := n0_; have HO860 := n1_; have HO863 := n2_; have HO866 := n3_; have HO869 := n4_; have HO873 := n5_; have HO876 := n6_; have HO879 := n7_; have BK852 := n8_; have BK870 := n9_; have HB := n10_; clear n0_ n1_ n2_ n3_ n4_ n5_ n6_ n7_ n8_ n9_ n10_; (try clear hb); (try clear hb2); (try clear hk); (try clear hi); (try clear ho0); obtain ⟨Ao45, co45, eo45⟩ := Kd.R_slice HO879.out; subst eo45; obtain ⟨Ao46, co46, eo46⟩ := Kd.R_slice HO866.out; subst eo46) | ((with_reducible refine gate_callee (f := 60) rfl ?_); refine gLq (some 49) Try.func60 #[.slice Ao45 t877.length co45, .slice Ao46 t864.length co46] ?_; (with_reducible refine (laws_eqIntS.calls k _ _ t877 _ _ t864 t880 _ ?side1 ?side2 ?side3 ?side4 A23.out).mono ?_); (case side1 => repeat (first | exact (Kd.R_reads' HO879.out).2.2 | (with_reducible refine Kd.C_alloc ?_ _) | (with_reducible refine Kd.C_drewN ?_ _) | (with_reducible refine Kd.C_drew ?_))); (case side2 => exact (Kd.R_reads' HO879.out).2.1); (case side3 => repeat (first | exact (Kd.R_reads' HO866.out).2.2 | (with_reducible refine Kd.C_alloc ?_ _) | (with_reducible refine Kd.C_drewN ?_ _) | (with_reducible refine Kd.C_drew ?_))); (case side4 => exact (Kd.R_reads' HO866.out).2.1); rintro e w' ⟨rfl, ⟨nd, rfl⟩⟩; refine ⟨_, rfl, ?_⟩))
    (try (rw [drewN_self w44]; generalize hq_ : World.drewN w44 _ = w44; have n0_ := Aside0.mk (Kd.R_at hq_ HO857.out); have n1_ := Aside0.mk (Kd.R_at hq_ HO860.out); have n2_ := Aside0.mk (Kd.R_at hq_ HO863.out); have n3_ := Aside0.mk (Kd.R_at hq_ HO866.out); have n4_ := Aside0.mk (Kd.R_at hq_ HO869.out); have n5_ := Aside0.mk (Kd.R_at hq_ HO873.out); have n6_ := Aside0.mk (Kd.R_at hq_ HO876.out); have n7_ := Aside0.mk (Kd.R_at hq_ HO879.out); have n8_ := Aside0.mk (blk_at hq_ BK852.out); have n9_ := Aside0.mk (blk_at hq_ BK870.out); have n10_ := Aside0.mk (below_at hq_ HB.out); clear hq_ HO857 HO860 HO863 HO866 HO869 HO873 HO876 HO879 BK852 BK870 HB; have HO857 := n0_; have HO860 := n1_; have HO863 := n2_; have HO866 := n3_; have HO869 := n4_; have HO873 := n5_; have HO876 := n6_; have HO879 := n7_; have BK852 := n8_; have BK870 := n9_; have HB := n10_; clear n0_ n1_ n2_ n3_ n4_ n5_ n6_ n7_ n8_ n9_ n10_))
    have H := HF24.out
    clear HF24
    by_cases c47 : t880 = true
    ·
     subst c47
     have H1 : ((laws_toStock.f k l0_0).bind fun t881 => ((laws_eqStock.f k t867 t881).bind fun t884 => (if t884 = true then ((laws_toDoughS.f k l1).bind fun t885 => ((laws_eqDoughS.f k t871 t885).bind fun t888 => (if t888 = true then ((laws_toIntS.f k l2).bind fun t889 => ((laws_eqIntS.f k t874 t889).bind fun t892 => (if t892 = true then ((laws_markStock.f k t867 1).bind fun bt893 => ((laws_markDoughS.f k t871 bt893.1).bind fun bt895 => ((laws_markIntS.f k t874 bt895.1).bind fun bt897 => (if bt897.1 < 0 then (laws_FnExactMustBuy.j0 k l1 l2 t864 t877 true l0_0) else ((laws_eqIntS.f k t877 t864).bind fun t899 => (laws_FnExactMustBuy.j0 k l1 l2 t864 t877 (!t899) l0_0)))))) else (some false)))) else (some false)))) else (some false)))) = some r := by rw [if_pos rfl] at H; exact H
     clear H
     have H := H1
     clear H1
     replace H := Option.bind_eq_some_iff.mp H
     obtain ⟨t881, A480, H⟩ := H
     replace H : ((laws_eqStock.f k t867 t881).bind fun t884 => (if t884 = true then ((laws_toDoughS.f k l1).bind fun t885 => ((laws_eqDoughS.f k t871 t885).bind fun t888 => (if t888 = true then ((laws_toIntS.f k l2).bind fun t889 => ((laws_eqIntS.f k t874 t889).bind fun t892 => (if t892 = true then ((laws_markStock.f k t867 1).bind fun bt893 => ((laws_markDoughS.f k t871 bt893.1).bind fun bt895 => ((laws_markIntS.f k t874 bt895.1).bind fun bt897 => (if bt897.1 < 0 then (laws_FnExactMustBuy.j0 k l1 l2 t864 t877 true l0_0) else ((laws_eqIntS.f k t877 t864).bind fun t899 => (laws_FnExactMustBuy.j0 k l1 l2 t864 t877 (!t899) l0_0)))))) else (some false)))) else (some false)))) else (some false))) = some r := H
     have A48 := Aside0.mk A480
     clear A480
     replace H := Option.bind_eq_some_iff.mp H
     obtain ⟨t884, A490, H⟩ := H
     replace H : (if t884 = true then ((laws_toDoughS.f k l1).bind fun t885 => ((laws_eqDoughS.f k t871 t885).bind fun t888 => (if t888 = true then ((laws_toIntS.f k l2).bind fun t889 => ((laws_eqIntS.f k t874 t889).bind fun t892 => (if t892 = true then ((laws_markStock.f k t867 1).bind fun bt893 => ((laws_markDoughS.f k t871 bt893.1).bind fun bt895 => ((laws_markIntS.f k t874 bt895.1).bind fun bt897 => (if bt897.1 < 0 then (laws_FnExactMustBuy.j0 k l1 l2 t864 t877 true l0_0) else ((laws_eqIntS.f k t877 t864).bind fun t899 => (laws_FnExactMustBuy.j0 k l1 l2 t864 t877 (!t899) l0_0)))))) else (some false)))) else (some false)))) else (some false)) = some r := H
     have A49 := Aside0.mk A490
     clear A490
     have HF50 := Aside0.mk H
     clear H
     try go_wp2
     have n0_ := Aside0.mk (Kd.R_drew HO857.out)
     have n1_ := Aside0.mk (Kd.R_drew HO860.out)
     have n2_ := Aside0.mk (Kd.R_drew HO863.out)
     have n3_ := Aside0.mk (Kd.R_drew HO866.out)
     have n4_ := Aside0.mk (Kd.R_drew HO869.out)
     have n5_ := Aside0.mk (Kd.R_drew HO873.out)
     have n6_ := Aside0.mk (Kd.R_drew HO876.out)
     have n7_ := Aside0.mk (Kd.R_drew HO879.out)
     have n8_ := Aside0.mk (blk_drew BK852.out)
     have n9_ := Aside0.mk (blk_drew BK870.out)
     have n10_ := Aside0.mk (below_drew1 HB.out)
     clear HO857
     clear HO860
     clear HO863
     clear HO866
     clear HO869
     clear HO873
     clear HO876
     clear HO879
     clear BK852
     clear BK870
     clear HB
     have HO857 := n0_
     have HO860 := n1_
     have HO863 := n2_
     have HO866 := n3_
     have HO869 := n4_
     have HO873 := n5_
     have HO876 := n6_
     have HO879 := n7_
     have BK852 := n8_
     have BK870 := n9_
     have HB := n10_
     clear n0_ n1_ n2_ n3_ n4_ n5_ n6_ n7_ n8_ n9_ n10_
     refine start_ (n := 5) (S := fun w' => w'.cell? ⟨gb870, 0, none⟩ = some (.slice Ao36 t867.length co36) ∧ w'.cell? ⟨gb852, 0, none⟩ = some (.slice A0_0 l0_0.length c0_0)) (ds := []) #[false, false, false, false, false] (by kernel_rfl) rfl rfl ⟨(blk_cell BK870.out 0).trans rfl, (blk_cell BK852.out 0).trans rfl⟩ (fun hHeld => ?_)
     generalize w44.drew = w51 at HO857 HO860 HO863 HO866 HO869 HO873 HO876 HO879 BK852 BK870 HB hHeld ⊢
     refine take_ (i := 0) (N := some 51) (v := ?_) (a' := ?_) #[true, false, false, false, false] rfl rfl (by kernel_rfl) (fun _ _ _ h => h) (Or.inl ⟨by rfl, ?_⟩) hHeld ?_ ?_
     rotate_left
     ·
      rintro w' ⟨s0, s1⟩
      go_simp
      with_reducible rfl
     rotate_left
     ·
      simp only [Act.put, List.setIfInBounds_toArray, List.set_cons_zero, List.set_cons_succ, i64_w, i32_w]
      rfl
     refine take_ (i := 1) (N := some 52) (v := ?_) (a' := ?_) #[true, true, false, false, false] rfl rfl (by kernel_rfl) (fun _ _ _ h => h) (Or.inl ⟨by rfl, ?_⟩) hHeld ?_ ?_
     rotate_left
     ·
      rintro w' ⟨s0, s1⟩
      go_simp
      with_reducible rfl
     rotate_left
     ·
      simp only [Act.put, List.setIfInBounds_toArray, List.set_cons_zero, List.set_cons_succ, i64_w, i32_w]
      rfl
     refine one_ (i := 2) (N := some 53) #[true, true, true, false, false] rfl rfl (by kernel_rfl) (by decide) (fun K hK => ?_)
     refine goes_ Try.func32 (by kernel_rfl) rfl #[.agg #[.slice A0_0 l0_0.length c0_0]] (by rfl) rfl rfl (by (try simp only [List.map_toArray, List.map_cons, List.map_nil]); first | done | rfl | (simp only [List.length_drop, List.length_take]; rfl)) ?_
     with_reducible refine (laws_toStock.calls k _ _ l0_0 t881 _ ?side1 ?side2 A48.out).mono ?_
     (case side1 => exact Kd.Cq (Kd.C_below HR0_0.out HB.out))
     (case side2 => exact HC0_0.out)
     rintro e w52 ⟨v882, rfl, ho0, hb⟩
     refine ⟨_, rfl, ?_⟩
     have n0_ := Aside0.mk (Kd.R_elder' (Kd.Rq HO857.out) (Kd.R_base ho0) hb)
     have n1_ := Aside0.mk (Kd.R_below (Kd.Rq HO860.out) hb)
     have n2_ := Aside0.mk (Kd.R_elder' (Kd.Rq HO863.out) (Kd.R_base ho0) hb)
     have n3_ := Aside0.mk (Kd.R_elder' (Kd.Rq HO866.out) (Kd.R_base ho0) hb)
     have n4_ := Aside0.mk (Kd.R_elder' (Kd.Rq HO869.out) (Kd.R_base ho0) hb)
     have n5_ := Aside0.mk (Kd.R_below (Kd.Rq HO873.out) hb)
     have n6_ := Aside0.mk (Kd.R_elder' (Kd.Rq HO876.out) (Kd.R_base ho0) hb)
     have n7_ := Aside0.mk (Kd.R_elder' (Kd.Rq HO879.out) (Kd.R_base ho0) hb)
     have n8_ := Aside0.mk (Kd.R_lower (Kd.R_new' (Kd.R_new' (Kd.R_new' (Kd.R_new' (Kd.R_new' (Kd.R_new' ho0 (Kd.R_lt (Kd.Rq HO857.out))) (Kd.R_lt (Kd.Rq HO863.out))) (Kd.R_lt (Kd.Rq HO866.out))) (Kd.R_lt (Kd.Rq HO869.out))) (Kd.R_lt (Kd.Rq HO876.out))) (Kd.R_lt (Kd.Rq HO879.out))) (below_size (blq HB.out)))
     have n9_ := Aside0.mk (blk_below (bkq BK852.out) hb)
     have n10_ := Aside0.mk (blk_below (bkq BK870.out) hb)
     have n11_ := Aside0.mk (below_step (blq HB.out) hb)
     clear HO857
     clear HO860
     clear HO863
     clear HO866
     clear HO869
     clear HO873
     clear HO876
     clear HO879
     clear BK852
     clear BK870
     clear HB
     have HO857 := n0_
     have HO860 := n1_
     have HO863 := n2_
     have HO866 := n3_
     have HO869 := n4_
     have HO873 := n5_
     have HO876 := n6_
     have HO879 := n7_
     have HO883 := n8_
     have BK852 := n9_
     have BK870 := n10_
     have HB := n11_
     clear n0_ n1_ n2_ n3_ n4_ n5_ n6_ n7_ n8_ n9_ n10_ n11_
     (try clear hb)
     (try clear hb2)
     (try clear hk)
     (try clear hi)
     (try clear ho0)
     obtain ⟨Ao53, co53, eo53⟩ := Kd.R_slice HO883.out
     (first | subst eo53 | (injection eo53 with f1_ f2_ f3_; have f4_ := f1_.symm; have f5_ := f3_.symm; clear f1_ f2_ f3_; subst f4_; subst f5_))
     refine hK.out _ _ ⟨(blk_cell BK870.out 0).trans rfl, (blk_cell BK852.out 0).trans rfl⟩ (fun hHeld => ?_)
     clear hK K
     refine norm_ (a' := ?_) ?_ ?_
     rotate_left
     ·
      show Act.put _ (some 53) _ = _
      simp only [Act.put, List.setIfInBounds_toArray, List.set_cons_zero, List.set_cons_succ, i64_w, i32_w]
      rfl
     refine one_ (i := 3) (N := some 54) #[true, true, true, true, false] rfl rfl (by kernel_rfl) (by decide) (fun K hK => ?_)
     refine goes_ Try.func35 (by kernel_rfl) rfl #[.agg #[.slice Ao36 t867.length co36], .agg #[.slice Ao53 t881.length co53]] (by rfl) rfl rfl (by (try simp only [List.map_toArray, List.map_cons, List.map_nil]); first | done | rfl | (simp only [List.length_drop, List.length_take]; rfl)) ?_
     with_reducible refine (laws_eqStock.calls k _ _ t867 _ _ t881 t884 _ ?side1 ?side2 ?side3 ?side4 A49.out).mono ?_
     (case side1 => repeat (first | exact (Kd.R_reads' HO869.out).2.2 | (with_reducible refine Kd.C_alloc ?_ _) | (with_reducible refine Kd.C_drewN ?_ _) | (with_reducible refine Kd.C_drew ?_)))
     (case side2 => exact (Kd.R_reads' HO869.out).2.1)
     (case side3 => repeat (first | exact (Kd.R_reads' HO883.out).2.2 | (with_reducible refine Kd.C_alloc ?_ _) | (with_reducible refine Kd.C_drewN ?_ _) | (with_reducible refine Kd.C_drew ?_)))
     (case side4 => exact (Kd.R_reads' HO883.out).2.1)
     rintro e w54 ⟨rfl, hb⟩
     refine ⟨_, rfl, ?_⟩
     have n0_ := Aside0.mk (Kd.R_below (Kd.Rq HO857.out) hb)
     have n1_ := Aside0.mk (Kd.R_below (Kd.Rq HO860.out) hb)
     have n2_ := Aside0.mk (Kd.R_below (Kd.Rq HO863.out) hb)
     have n3_ := Aside0.mk (Kd.R_below (Kd.Rq HO866.out) hb)
     have n4_ := Aside0.mk (Kd.R_below (Kd.Rq HO869.out) hb)
     have n5_ := Aside0.mk (Kd.R_below (Kd.Rq HO873.out) hb)
     have n6_ := Aside0.mk (Kd.R_below (Kd.Rq HO876.out) hb)
     have n7_ := Aside0.mk (Kd.R_below (Kd.Rq HO879.out) hb)
     have n8_ := Aside0.mk (Kd.R_below (Kd.Rq HO883.out) hb)
     have n9_ := Aside0.mk (blk_below (bkq BK852.out) hb)
     have n10_ := Aside0.mk (blk_below (bkq BK870.out) hb)
     have n11_ := Aside0.mk (below_step (blq HB.out) hb)
     clear HO857
     clear HO860
     clear HO863
     clear HO866
     clear HO869
     clear HO873
     clear HO876
     clear HO879
     clear HO883
     clear BK852
     clear BK870
     clear HB
     have HO857 := n0_
     have HO860 := n1_
     have HO863 := n2_
     have HO866 := n3_
     have HO869 := n4_
     have HO873 := n5_
     have HO876 := n6_
     have HO879 := n7_
     have HO883 := n8_
     have BK852 := n9_
     have BK870 := n10_
     have HB := n11_
     clear n0_ n1_ n2_ n3_ n4_ n5_ n6_ n7_ n8_ n9_ n10_ n11_
     (try clear hb)
     (try clear hb2)
     (try clear hk)
     (try clear hi)
     refine hK.out _ _ ⟨(blk_cell BK870.out 0).trans rfl, (blk_cell BK852.out 0).trans rfl⟩ (fun hHeld => ?_)
     clear hK K
     refine norm_ (a' := ?_) ?_ ?_
     rotate_left
     ·
      show Act.put _ (some 54) _ = _
      simp only [Act.put, List.setIfInBounds_toArray, List.set_cons_zero, List.set_cons_succ, i64_w, i32_w]
      rfl
     refine pure_ (i := 4) (N := some 55) (v := ?_) (a' := ?_) #[true, true, true, true, true] rfl rfl (by kernel_rfl) (fun _ _ _ h => h) (Or.inl ⟨by rfl, ?_⟩) ?_ ?_
     rotate_left
     ·
      intro w'
      go_simp
      with_reducible rfl
     rotate_left
     ·
      simp only [Act.put, List.setIfInBounds_toArray, List.set_cons_zero, List.set_cons_succ, i64_w, i32_w]
      rfl
     refine done_ (by kernel_rfl) ?_
     go_upto_if 55 with (fail)
     have H := HF50.out
     clear HF50
     by_cases c55 : t884 = true
     ·
      subst c55
      have H1 : ((laws_toDoughS.f k l1).bind fun t885 => ((laws_eqDoughS.f k t871 t885).bind fun t888 => (if t888 = true then ((laws_toIntS.f k l2).bind fun t889 => ((laws_eqIntS.f k t874 t889).bind fun t892 => (if t892 = true then ((laws_markStock.f k t867 1).bind fun bt893 => ((laws_markDoughS.f k t871 bt893.1).bind fun bt895 => ((laws_markIntS.f k t874 bt895.1).bind fun bt897 => (if bt897.1 < 0 then (laws_FnExactMustBuy.j0 k l1 l2 t864 t877 true l0_0) else ((laws_eqIntS.f k t877 t864).bind fun t899 => (laws_FnExactMustBuy.j0 k l1 l2 t864 t877 (!t899) l0_0)))))) else (some false)))) else (some false)))) = some r := by rw [if_pos rfl] at H; exact H
      clear H
      have H := H1
      clear H1
      replace H := Option.bind_eq_some_iff.mp H
      obtain ⟨t885, A560, H⟩ := H
      replace H : ((laws_eqDoughS.f k t871 t885).bind fun t888 => (if t888 = true then ((laws_toIntS.f k l2).bind fun t889 => ((laws_eqIntS.f k t874 t889).bind fun t892 => (if t892 = true then ((laws_markStock.f k t867 1).bind fun bt893 => ((laws_markDoughS.f k t871 bt893.1).bind fun bt895 => ((laws_markIntS.f k t874 bt895.1).bind fun bt897 => (if bt897.1 < 0 then (laws_FnExactMustBuy.j0 k l1 l2 t864 t877 true l0_0) else ((laws_eqIntS.f k t877 t864).bind fun t899 => (laws_FnExactMustBuy.j0 k l1 l2 t864 t877 (!t899) l0_0)))))) else (some false)))) else (some false))) = some r := H
      have A56 := Aside0.mk A560
      clear A560
      replace H := Option.bind_eq_some_iff.mp H
      obtain ⟨t888, A570, H⟩ := H
      replace H : (if t888 = true then ((laws_toIntS.f k l2).bind fun t889 => ((laws_eqIntS.f k t874 t889).bind fun t892 => (if t892 = true then ((laws_markStock.f k t867 1).bind fun bt893 => ((laws_markDoughS.f k t871 bt893.1).bind fun bt895 => ((laws_markIntS.f k t874 bt895.1).bind fun bt897 => (if bt897.1 < 0 then (laws_FnExactMustBuy.j0 k l1 l2 t864 t877 true l0_0) else ((laws_eqIntS.f k t877 t864).bind fun t899 => (laws_FnExactMustBuy.j0 k l1 l2 t864 t877 (!t899) l0_0)))))) else (some false)))) else (some false)) = some r := H
      have A57 := Aside0.mk A570
      clear A570
      have HF58 := Aside0.mk H
      clear H
      go_upto_if 60 with (first | ((with_reducible refine gate_callee (f := 58) rfl ?_); refine gLq (some 58) Try.func58 #[.slice A1 l1.length c1] ?_; (with_reducible refine (laws_toDoughS.calls k _ _ l1 t885 _ ?side1 ?side2 A56.out).mono ?_); (case side1 => exact Kd.Cq (Kd.C_below HR1.out HB.out)); (case side2 => exact HC1.out); rintro e w59 ⟨v886, rfl, ho0, hb⟩; refine ⟨_, rfl, ?_⟩; have n0_ := Aside0.mk (Kd.R_below (Kd.Rq HO857.out) hb); have n1_ := Aside0.mk (Kd.R_elder' (Kd.Rq HO860.out) (Kd.R_base ho0) hb); have n2_ := Aside0.mk (Kd.R_below (Kd.Rq HO863.out) hb); have n3_ := Aside0.mk (Kd.R_below (Kd.Rq HO866.out) hb); have n4_ := Aside0.mk (Kd.R_below (Kd.Rq HO869.out) hb); have n5_ := Aside0.mk (Kd.R_elder' (Kd.Rq HO873.out) (Kd.R_base ho0) hb); have n6_ := Aside0.mk (Kd.R_below (Kd.Rq HO876.out) hb); have n7_ := Aside0.mk (Kd.R_below (Kd.Rq HO879.out) hb); have n8_ := Aside0.mk (Kd.R_below (Kd.Rq HO883.out) hb); have n9_ := Aside0.mk (Kd.R_lower (Kd.R_new' (Kd.R_new' ho0 (Kd.R_lt (Kd.Rq HO860.out))) (Kd.R_lt (Kd.Rq HO873.out))) (below_size (blq HB.out))); have n10_ := Aside0.mk (blk_below (bkq BK852.out) hb); have n11_ := Aside0.mk (blk_below (bkq BK870.out) hb); have n12_ := Aside0.mk (below_step (blq HB.out) hb); clear HO857; clear HO860; clear HO863; clear HO866; clear HO869; clear HO873; clear HO876; clear HO879; clear HO883; clear BK852; clear BK870; clear HB; have HO857 := n0_; have HO860 := n1_; have HO863 := n2_; have HO866 := n3_; have HO869 := n4_; have HO873 := n5_; have HO876 := n6_; have HO879 := n7_; have HO883 := n8_; have HO887 := n9_; have BK852 := n10_; have BK870 := n11_; have HB := n12_; clear n0_ n1_ n2_ n3_ n4_ n5_ n6_ n7_ n8_ n9_ n10_ n11_ n12_; (try clear hb); (try clear hb2); (try clear hk); (try clear hi); (try clear ho0); obtain ⟨Ao60, co60, eo60⟩ := Kd.R_slice HO887.out; subst eo60) | ((with_reducible refine gate_callee (f := 61) rfl ?_); refine gLq (some 59) Try.func61 #[.slice Ao42 t871.length co42, .slice Ao60 t885.length co60] ?_; (with_reducible refine (laws_eqDoughS.calls k _ _ t871 _ _ t885 t888 _ ?side1 ?side2 ?side3 ?side4 A57.out).mono ?_); (case side1 => repeat (first | exact (Kd.R_reads' HO873.out).2.2 | (with_reducible refine Kd.C_alloc ?_ _) | (with_reducible refine Kd.C_drewN ?_ _) | (with_reducible refine Kd.C_drew ?_))); (case side2 => exact (Kd.R_reads' HO873.out).2.1); (case side3 => repeat (first | exact (Kd.R_reads' HO887.out).2.2 | (with_reducible refine Kd.C_alloc ?_ _) | (with_reducible refine Kd.C_drewN ?_ _) | (with_reducible refine Kd.C_drew ?_))); (case side4 => exact (Kd.R_reads' HO887.out).2.1); rintro e w61 ⟨rfl, hb⟩; refine ⟨_, rfl, ?_⟩; have n0_ := Aside0.mk (Kd.R_below (Kd.Rq HO857.out) hb); have n1_ := Aside0.mk (Kd.R_below (Kd.Rq HO860.out) hb); have n2_ := Aside0.mk (Kd.R_below (Kd.Rq HO863.out) hb); have n3_ := Aside0.mk (Kd.R_below (Kd.Rq HO866.out) hb); have n4_ := Aside0.mk (Kd.R_below (Kd.Rq HO869.out) hb); have n5_ := Aside0.mk (Kd.R_below (Kd.Rq HO873.out) hb); have n6_ := Aside0.mk (Kd.R_below (Kd.Rq HO876.out) hb); have n7_ := Aside0.mk (Kd.R_below (Kd.Rq HO879.out) hb); have n8_ := Aside0.mk (Kd.R_below (Kd.Rq HO883.out) hb); have n9_ := Aside0.mk (Kd.R_below (Kd.Rq HO887.out) hb); have n10_ := Aside0.mk (blk_below (bkq BK852.out) hb); have n11_ := Aside0.mk (blk_below (bkq BK870.out) hb); have n12_ := Aside0.mk (below_step (blq HB.out) hb); clear HO857; clear HO860; clear HO863; clear HO866; clear HO869; clear HO873; clear HO876; clear HO879; clear HO883; clear HO887; clear BK852; clear BK870; clear HB; have HO857 := n0_; have HO860 := n1_; have HO863 := n2_; have HO866 := n3_; have HO869 := n4_; have HO873 := n5_; have HO876 := n6_; have HO879 := n7_; have HO883 := n8_; have HO887 := n9_; have BK852 := n10_; have BK870 := n11_; have HB := n12_; clear n0_ n1_ n2_ n3_ n4_ n5_ n6_ n7_ n8_ n9_ n10_ n11_ n12_; (try clear hb); (try clear hb2); (try clear hk); (try clear hi)))
      have H := HF58.out
      clear HF58
      by_cases c62 : t888 = true
      ·
       subst c62
       have H1 : ((laws_toIntS.f k l2).bind fun t889 => ((laws_eqIntS.f k t874 t889).bind fun t892 => (if t892 = true then ((laws_markStock.f k t867 1).bind fun bt893 => ((laws_markDoughS.f k t871 bt893.1).bind fun bt895 => ((laws_markIntS.f k t874 bt895.1).bind fun bt897 => (if bt897.1 < 0 then (laws_FnExactMustBuy.j0 k l1 l2 t864 t877 true l0_0) else ((laws_eqIntS.f k t877 t864).bind fun t899 => (laws_FnExactMustBuy.j0 k l1 l2 t864 t877 (!t899) l0_0)))))) else (some false)))) = some r := by rw [if_pos rfl] at H; exact H
       clear H
       have H := H1
       clear H1
       replace H := Option.bind_eq_some_iff.mp H
       obtain ⟨t889, A630, H⟩ := H
       replace H : ((laws_eqIntS.f k t874 t889).bind fun t892 => (if t892 = true then ((laws_markStock.f k t867 1).bind fun bt893 => ((laws_markDoughS.f k t871 bt893.1).bind fun bt895 => ((laws_markIntS.f k t874 bt895.1).bind fun bt897 => (if bt897.1 < 0 then (laws_FnExactMustBuy.j0 k l1 l2 t864 t877 true l0_0) else ((laws_eqIntS.f k t877 t864).bind fun t899 => (laws_FnExactMustBuy.j0 k l1 l2 t864 t877 (!t899) l0_0)))))) else (some false))) = some r := H
       have A63 := Aside0.mk A630
       clear A630
       replace H := Option.bind_eq_some_iff.mp H
       obtain ⟨t892, A640, H⟩ := H
       replace H : (if t892 = true then ((laws_markStock.f k t867 1).bind fun bt893 => ((laws_markDoughS.f k t871 bt893.1).bind fun bt895 => ((laws_markIntS.f k t874 bt895.1).bind fun bt897 => (if bt897.1 < 0 then (laws_FnExactMustBuy.j0 k l1 l2 t864 t877 true l0_0) else ((laws_eqIntS.f k t877 t864).bind fun t899 => (laws_FnExactMustBuy.j0 k l1 l2 t864 t877 (!t899) l0_0)))))) else (some false)) = some r := H
       have A64 := Aside0.mk A640
       clear A640
       have HF65 := Aside0.mk H
       clear H
       go_upto_if 65 with (first | ((with_reducible refine gate_callee (f := 59) rfl ?_); refine gLq (some 63) Try.func59 #[.slice A2 l2.length c2] ?_; (with_reducible refine (laws_toIntS.calls k _ _ l2 t889 _ ?side1 ?side2 A63.out).mono ?_); (case side1 => exact Kd.Cq (Kd.C_below HR2.out HB.out)); (case side2 => exact HC2.out); rintro e w66 ⟨v890, rfl, ho0, hb⟩; refine ⟨_, rfl, ?_⟩; have n0_ := Aside0.mk (Kd.R_elder' (Kd.Rq HO857.out) (Kd.R_base ho0) hb); have n1_ := Aside0.mk (Kd.R_below (Kd.Rq HO860.out) hb); have n2_ := Aside0.mk (Kd.R_elder' (Kd.Rq HO863.out) (Kd.R_base ho0) hb); have n3_ := Aside0.mk (Kd.R_elder' (Kd.Rq HO866.out) (Kd.R_base ho0) hb); have n4_ := Aside0.mk (Kd.R_elder' (Kd.Rq HO869.out) (Kd.R_base ho0) hb); have n5_ := Aside0.mk (Kd.R_below (Kd.Rq HO873.out) hb); have n6_ := Aside0.mk (Kd.R_elder' (Kd.Rq HO876.out) (Kd.R_base ho0) hb); have n7_ := Aside0.mk (Kd.R_elder' (Kd.Rq HO879.out) (Kd.R_base ho0) hb); have n8_ := Aside0.mk (Kd.R_elder' (Kd.Rq HO883.out) (Kd.R_base ho0) hb); have n9_ := Aside0.mk (Kd.R_below (Kd.Rq HO887.out) hb); have n10_ := Aside0.mk (Kd.R_lower (Kd.R_new' (Kd.R_new' (Kd.R_new' (Kd.R_new' (Kd.R_new' (Kd.R_new' (Kd.R_new' ho0 (Kd.R_lt (Kd.Rq HO857.out))) (Kd.R_lt (Kd.Rq HO863.out))) (Kd.R_lt (Kd.Rq HO866.out))) (Kd.R_lt (Kd.Rq HO869.out))) (Kd.R_lt (Kd.Rq HO876.out))) (Kd.R_lt (Kd.Rq HO879.out))) (Kd.R_lt (Kd.Rq HO883.out))) (below_size (blq HB.out))); have n11_ := Aside0.mk (blk_below (bkq BK852.out) hb); have n12_ := Aside0.mk (blk_below (bkq BK870.out) hb); have n13_ := Aside0.mk (below_step (blq HB.out) hb); clear HO857; clear HO860; clear HO863; clear HO866; clear HO869; clear HO873; clear HO876; clear HO879; clear HO883; clear HO887; clear BK852; clear BK870; clear HB; have HO857 := n0_; have HO860 := n1_; have HO863 := n2_; have HO866 := n3_; have HO869 := n4_; have HO873 := n5_; have HO876 := n6_; have HO879 := n7_; have HO883 := n8_; have HO887 := n9_; have HO891 := n10_; have BK852 := n11_; have BK870 := n12_; have HB := n13_; clear n0_ n1_ n2_ n3_ n4_ n5_ n6_ n7_ n8_ n9_ n10_ n11_ n12_ n13_; (try clear hb); (try clear hb2); (try clear hk); (try clear hi); (try clear ho0); obtain ⟨Ao67, co67, eo67⟩ := Kd.R_slice HO891.out; subst eo67) | ((with_reducible refine gate_callee (f := 60) rfl ?_); refine gLq (some 64) Try.func60 #[.slice Ao43 t874.length co43, .slice Ao67 t889.length co67] ?_; (with_reducible refine (laws_eqIntS.calls k _ _ t874 _ _ t889 t892 _ ?side1 ?side2 ?side3 ?side4 A64.out).mono ?_); (case side1 => repeat (first | exact (Kd.R_reads' HO876.out).2.2 | (with_reducible refine Kd.C_alloc ?_ _) | (with_reducible refine Kd.C_drewN ?_ _) | (with_reducible refine Kd.C_drew ?_))); (case side2 => exact (Kd.R_reads' HO876.out).2.1); (case side3 => repeat (first | exact (Kd.R_reads' HO891.out).2.2 | (with_reducible refine Kd.C_alloc ?_ _) | (with_reducible refine Kd.C_drewN ?_ _) | (with_reducible refine Kd.C_drew ?_))); (case side4 => exact (Kd.R_reads' HO891.out).2.1); rintro e w' ⟨rfl, ⟨nd, rfl⟩⟩; refine ⟨_, rfl, ?_⟩))
       (try (rw [drewN_self w66]; generalize hq_ : World.drewN w66 _ = w66; have n0_ := Aside0.mk (Kd.R_at hq_ HO857.out); have n1_ := Aside0.mk (Kd.R_at hq_ HO860.out); have n2_ := Aside0.mk (Kd.R_at hq_ HO863.out); have n3_ := Aside0.mk (Kd.R_at hq_ HO866.out); have n4_ := Aside0.mk (Kd.R_at hq_ HO869.out); have n5_ := Aside0.mk (Kd.R_at hq_ HO873.out); have n6_ := Aside0.mk (Kd.R_at hq_ HO876.out); have n7_ := Aside0.mk (Kd.R_at hq_ HO879.out); have n8_ := Aside0.mk (Kd.R_at hq_ HO883.out); have n9_ := Aside0.mk (Kd.R_at hq_ HO887.out); have n10_ := Aside0.mk (Kd.R_at hq_ HO891.out); have n11_ := Aside0.mk (blk_at hq_ BK852.out); have n12_ := Aside0.mk (blk_at hq_ BK870.out); have n13_ := Aside0.mk (below_at hq_ HB.out); clear hq_ HO857 HO860 HO863 HO866 HO869 HO873 HO876 HO879 HO883 HO887 HO891 BK852 BK870 HB; have HO857 := n0_; have HO860 := n1_; have HO863 := n2_; have HO866 := n3_; have HO869 := n4_; have HO873 := n5_; have HO876 := n6_; have HO879 := n7_; have HO883 := n8_; have HO887 := n9_; have HO891 := n10_; have BK852 := n11_; have BK870 := n12_; have HB := n13_; clear n0_ n1_ n2_ n3_ n4_ n5_ n6_ n7_ n8_ n9_ n10_ n11_ n12_ n13_))
       have H := HF65.out
       clear HF65
       by_cases c68 : t892 = true
       ·
        subst c68
        have H1 : ((laws_markStock.f k t867 1).bind fun bt893 => ((laws_markDoughS.f k t871 bt893.1).bind fun bt895 => ((laws_markIntS.f k t874 bt895.1).bind fun bt897 => (if bt897.1 < 0 then (laws_FnExactMustBuy.j0 k l1 l2 t864 t877 true l0_0) else ((laws_eqIntS.f k t877 t864).bind fun t899 => (laws_FnExactMustBuy.j0 k l1 l2 t864 t877 (!t899) l0_0)))))) = some r := by rw [if_pos rfl] at H; exact H
        clear H
        have H := H1
        clear H1
        replace H := Option.bind_eq_some_iff.mp H
        obtain ⟨⟨t893, t894⟩, A690, H⟩ := H
        replace H : ((laws_markDoughS.f k t871 t893).bind fun bt895 => ((laws_markIntS.f k t874 bt895.1).bind fun bt897 => (if bt897.1 < 0 then (laws_FnExactMustBuy.j0 k l1 l2 t864 t877 true l0_0) else ((laws_eqIntS.f k t877 t864).bind fun t899 => (laws_FnExactMustBuy.j0 k l1 l2 t864 t877 (!t899) l0_0))))) = some r := H
        have A69 := Aside0.mk A690
        clear A690
        replace H := Option.bind_eq_some_iff.mp H
        obtain ⟨⟨t895, t896⟩, A700, H⟩ := H
        replace H : ((laws_markIntS.f k t874 t895).bind fun bt897 => (if bt897.1 < 0 then (laws_FnExactMustBuy.j0 k l1 l2 t864 t877 true l0_0) else ((laws_eqIntS.f k t877 t864).bind fun t899 => (laws_FnExactMustBuy.j0 k l1 l2 t864 t877 (!t899) l0_0)))) = some r := H
        have A70 := Aside0.mk A700
        clear A700
        replace H := Option.bind_eq_some_iff.mp H
        obtain ⟨⟨t897, t898⟩, A710, H⟩ := H
        replace H : (if t897 < 0 then (laws_FnExactMustBuy.j0 k l1 l2 t864 t877 true l0_0) else ((laws_eqIntS.f k t877 t864).bind fun t899 => (laws_FnExactMustBuy.j0 k l1 l2 t864 t877 (!t899) l0_0))) = some r := H
        have A71 := Aside0.mk A710
        clear A710
        have HC72 := Aside0.mk H
        clear H
        have hnb73 := NB870_852.out
        have hnc73 := NB852_870.out
        have hcz74_0 : w66.cell? ⟨gb870, 0, none⟩ = some (.slice Ao36 t867.length co36) := (blk_cell BK870.out 0).trans rfl
        have hfz74_0 := blk_frozen BK870.out 0
        go_upto_region 27 with (first | ((with_reducible refine gate_callee (f := 54) rfl ?_); refine gLq (some 68) Try.func54 #[.agg #[.slice Ao36 t867.length co36], .int .i64 1] ?_; (with_reducible refine (laws_markStock.calls k (fun k_ => some k_ = (.slice Ao36 t867.length co36 : Value).ownBlock) (.slice Ao36 t867.length co36) t867 1 t893 t894 w _ ?side1 ?side2 A69.out).mono ?_); (case side1 => exact blq HB.out); (case side2 => exact Kd.R_tight rfl HO869.out); rintro e w75 ⟨rfl, hy0, hb, hkp⟩; refine ⟨_, rfl, ?_⟩; have n0_ := Aside0.mk (blk_kept (bkq BK852.out) hkp (fun hs_ => (fun e_ => (Kd.R_ne HO869.out BK852.out (by decide)) e_) hs_)); have n1_ := Aside0.mk (Kd.R_mono (ok' := fun k_ => some k_ ≠ (.slice Ao31 t861.length co31 : Value).ownBlock ∧ some k_ ≠ (.slice Ao46 t864.length co46 : Value).ownBlock ∧ some k_ ≠ (.slice Ao36 t867.length co36 : Value).ownBlock ∧ some k_ ≠ (.slice Ao43 t874.length co43 : Value).ownBlock ∧ some k_ ≠ (.slice Ao45 t877.length co45 : Value).ownBlock ∧ some k_ ≠ (.slice Ao53 t881.length co53 : Value).ownBlock ∧ some k_ ≠ (.slice Ao67 t889.length co67 : Value).ownBlock) (Kd.R_keptB (HO857.out) hkp (fun k_ hk_ hs_ => (hk_.1.1.1.1.2) hs_)) (fun k_ hk_ => ⟨hk_.1.1.1.1.1.1.1.2, hk_.1.1.1.1.1.1.2, hk_.1.1.1.1.1.2, hk_.1.1.1.1.2, hk_.1.1.1.2, hk_.1.1.2, hk_.1.2⟩)); have n2_ := Aside0.mk (Kd.R_mono (ok' := fun k_ => some k_ ≠ (.slice Ao42 t871.length co42 : Value).ownBlock ∧ some k_ ≠ (.slice Ao60 t885.length co60 : Value).ownBlock) (Kd.R_keptB ((Kd.R_apart' HO860.out (Kd.R_typed HO869.out) (by decide))) hkp (fun k_ hk_ hs_ => (hk_.2) hs_)) (fun k_ hk_ => ⟨hk_.1.1.1.2, hk_.1.1.2⟩)); have n3_ := Aside0.mk (Kd.R_mono (ok' := fun k_ => some k_ ≠ (.slice Ao29 t855.length co29 : Value).ownBlock ∧ some k_ ≠ (.slice Ao46 t864.length co46 : Value).ownBlock ∧ some k_ ≠ (.slice Ao36 t867.length co36 : Value).ownBlock ∧ some k_ ≠ (.slice Ao43 t874.length co43 : Value).ownBlock ∧ some k_ ≠ (.slice Ao45 t877.length co45 : Value).ownBlock ∧ some k_ ≠ (.slice Ao53 t881.length co53 : Value).ownBlock ∧ some k_ ≠ (.slice Ao67 t889.length co67 : Value).ownBlock) (Kd.R_keptB (HO863.out) hkp (fun k_ hk_ hs_ => (hk_.1.1.1.1.2) hs_)) (fun k_ hk_ => ⟨hk_.1.1.1.1.1.1.1.2, hk_.1.1.1.1.1.1.2, hk_.1.1.1.1.1.2, hk_.1.1.1.1.2, hk_.1.1.1.2, hk_.1.1.2, hk_.1.2⟩)); have n4_ := Aside0.mk (Kd.R_mono (ok' := fun k_ => some k_ ≠ (.slice Ao29 t855.length co29 : Value).ownBlock ∧ some k_ ≠ (.slice Ao31 t861.length co31 : Value).ownBlock ∧ some k_ ≠ (.slice Ao36 t867.length co36 : Value).ownBlock ∧ some k_ ≠ (.slice Ao43 t874.length co43 : Value).ownBlock ∧ some k_ ≠ (.slice Ao45 t877.length co45 : Value).ownBlock ∧ some k_ ≠ (.slice Ao53 t881.length co53 : Value).ownBlock ∧ some k_ ≠ (.slice Ao67 t889.length co67 : Value).ownBlock) (Kd.R_keptB (HO866.out) hkp (fun k_ hk_ hs_ => (hk_.1.1.1.1.2) hs_)) (fun k_ hk_ => ⟨hk_.1.1.1.1.1.1.1.2, hk_.1.1.1.1.1.1.2, hk_.1.1.1.1.1.2, hk_.1.1.1.1.2, hk_.1.1.1.2, hk_.1.1.2, hk_.1.2⟩)); have n5_ := Aside0.mk (Kd.R_reok rfl hy0 (fun k_ e_ => HO869.out.1 k_ e_)); have n6_ := Aside0.mk (blk_kept (bkq BK870.out) hkp (fun hs_ => (fun e_ => (Kd.R_ne HO869.out BK870.out (by decide)) e_) hs_)); have n7_ := Aside0.mk (Kd.R_mono (ok' := fun k_ => some k_ ≠ (.slice Ao30 t858.length co30 : Value).ownBlock ∧ some k_ ≠ (.slice Ao60 t885.length co60 : Value).ownBlock) (Kd.R_keptB ((Kd.R_apart' HO873.out (Kd.R_typed HO869.out) (by decide))) hkp (fun k_ hk_ hs_ => (hk_.2) hs_)) (fun k_ hk_ => ⟨hk_.1.1.1.2, hk_.1.1.2⟩)); have n8_ := Aside0.mk (Kd.R_mono (ok' := fun k_ => some k_ ≠ (.slice Ao29 t855.length co29 : Value).ownBlock ∧ some k_ ≠ (.slice Ao31 t861.length co31 : Value).ownBlock ∧ some k_ ≠ (.slice Ao46 t864.length co46 : Value).ownBlock ∧ some k_ ≠ (.slice Ao36 t867.length co36 : Value).ownBlock ∧ some k_ ≠ (.slice Ao45 t877.length co45 : Value).ownBlock ∧ some k_ ≠ (.slice Ao53 t881.length co53 : Value).ownBlock ∧ some k_ ≠ (.slice Ao67 t889.length co67 : Value).ownBlock) (Kd.R_keptB (HO876.out) hkp (fun k_ hk_ hs_ => (hk_.1.1.1.2) hs_)) (fun k_ hk_ => ⟨hk_.1.1.1.1.1.1.1.2, hk_.1.1.1.1.1.1.2, hk_.1.1.1.1.1.2, hk_.1.1.1.1.2, hk_.1.1.1.2, hk_.1.1.2, hk_.1.2⟩)); have n9_ := Aside0.mk (Kd.R_mono (ok' := fun k_ => some k_ ≠ (.slice Ao29 t855.length co29 : Value).ownBlock ∧ some k_ ≠ (.slice Ao31 t861.length co31 : Value).ownBlock ∧ some k_ ≠ (.slice Ao46 t864.length co46 : Value).ownBlock ∧ some k_ ≠ (.slice Ao36 t867.length co36 : Value).ownBlock ∧ some k_ ≠ (.slice Ao43 t874.length co43 : Value).ownBlock ∧ some k_ ≠ (.slice Ao53 t881.length co53 : Value).ownBlock ∧ some k_ ≠ (.slice Ao67 t889.length co67 : Value).ownBlock) (Kd.R_keptB (HO879.out) hkp (fun k_ hk_ hs_ => (hk_.1.1.1.2) hs_)) (fun k_ hk_ => ⟨hk_.1.1.1.1.1.1.1.2, hk_.1.1.1.1.1.1.2, hk_.1.1.1.1.1.2, hk_.1.1.1.1.2, hk_.1.1.1.2, hk_.1.1.2, hk_.1.2⟩)); have n10_ := Aside0.mk (Kd.R_mono (ok' := fun k_ => some k_ ≠ (.slice Ao29 t855.length co29 : Value).ownBlock ∧ some k_ ≠ (.slice Ao31 t861.length co31 : Value).ownBlock ∧ some k_ ≠ (.slice Ao46 t864.length co46 : Value).ownBlock ∧ some k_ ≠ (.slice Ao36 t867.length co36 : Value).ownBlock ∧ some k_ ≠ (.slice Ao43 t874.length co43 : Value).ownBlock ∧ some k_ ≠ (.slice Ao45 t877.length co45 : Value).ownBlock ∧ some k_ ≠ (.slice Ao67 t889.length co67 : Value).ownBlock) (Kd.R_keptB (HO883.out) hkp (fun k_ hk_ hs_ => (hk_.1.1.1.2) hs_)) (fun k_ hk_ => ⟨hk_.1.1.1.1.1.1.1.2, hk_.1.1.1.1.1.1.2, hk_.1.1.1.1.1.2, hk_.1.1.1.1.2, hk_.1.1.1.2, hk_.1.1.2, hk_.1.2⟩)); have n11_ := Aside0.mk (Kd.R_mono (ok' := fun k_ => some k_ ≠ (.slice Ao30 t858.length co30 : Value).ownBlock ∧ some k_ ≠ (.slice Ao42 t871.length co42 : Value).ownBlock) (Kd.R_keptB ((Kd.R_apart' HO887.out (Kd.R_typed HO869.out) (by decide))) hkp (fun k_ hk_ hs_ => (hk_.2) hs_)) (fun k_ hk_ => ⟨hk_.1.1.1.2, hk_.1.1.2⟩)); have n12_ := Aside0.mk (Kd.R_mono (ok' := fun k_ => some k_ ≠ (.slice Ao29 t855.length co29 : Value).ownBlock ∧ some k_ ≠ (.slice Ao31 t861.length co31 : Value).ownBlock ∧ some k_ ≠ (.slice Ao46 t864.length co46 : Value).ownBlock ∧ some k_ ≠ (.slice Ao36 t867.length co36 : Value).ownBlock ∧ some k_ ≠ (.slice Ao43 t874.length co43 : Value).ownBlock ∧ some k_ ≠ (.slice Ao45 t877.length co45 : Value).ownBlock ∧ some k_ ≠ (.slice Ao53 t881.length co53 : Value).ownBlock) (Kd.R_keptB (HO891.out) hkp (fun k_ hk_ hs_ => (hk_.1.1.1.2) hs_)) (fun k_ hk_ => ⟨hk_.1.1.1.1.1.1.1.2, hk_.1.1.1.1.1.1.2, hk_.1.1.1.1.1.2, hk_.1.1.1.1.2, hk_.1.1.1.2, hk_.1.1.2, hk_.1.2⟩)); have n13_ := Aside0.mk (hb); clear BK852; clear HO857; clear HO860; clear HO863; clear HO866; clear HO869; clear BK870; clear HO873; clear HO876; clear HO879; clear HO883; clear HO887; clear HO891; clear HB; have BK852 := n0_; have HO857 := n1_; have HO860 := n2_; have HO863 := n3_; have HO866 := n4_; have HO869 := n5_; have BK870 := n6_; have HO873 := n7_; have HO876 := n8_; have HO879 := n9_; have HO883 := n10_; have HO887 := n11_; have HO891 := n12_; have HB := n13_; clear n0_ n1_ n2_ n3_ n4_ n5_ n6_ n7_ n8_ n9_ n10_ n11_ n12_ n13_; (try clear hb); (try clear hkp); (try clear hy0)) | ((with_reducible refine gate_callee (f := 62) rfl ?_); refine gLq (some 71) Try.func62 #[.slice Ao42 t871.length co42, .int .i64 t893] ?_; (with_reducible refine (laws_markDoughS.calls k (fun k_ => some k_ = (.slice Ao42 t871.length co42 : Value).ownBlock) (.slice Ao42 t871.length co42) t871 t893 t895 t896 w _ ?side1 ?side2 A70.out).mono ?_); (case side1 => exact blq HB.out); (case side2 => exact Kd.R_tight rfl HO873.out); rintro e w76 ⟨rfl, hy0, hb, hkp⟩; refine ⟨_, rfl, ?_⟩; have n0_ := Aside0.mk (blk_kept (bkq BK852.out) hkp (fun hs_ => (fun e_ => (Kd.R_ne HO873.out BK852.out (by decide)) e_) hs_)); have n1_ := Aside0.mk (Kd.R_mono (ok' := fun k_ => some k_ ≠ (.slice Ao31 t861.length co31 : Value).ownBlock ∧ some k_ ≠ (.slice Ao46 t864.length co46 : Value).ownBlock ∧ some k_ ≠ (.slice Ao36 t867.length co36 : Value).ownBlock ∧ some k_ ≠ (.slice Ao43 t874.length co43 : Value).ownBlock ∧ some k_ ≠ (.slice Ao45 t877.length co45 : Value).ownBlock ∧ some k_ ≠ (.slice Ao53 t881.length co53 : Value).ownBlock ∧ some k_ ≠ (.slice Ao67 t889.length co67 : Value).ownBlock) (Kd.R_keptB ((Kd.R_apart' HO857.out (Kd.R_typed HO873.out) (by decide))) hkp (fun k_ hk_ hs_ => (hk_.2) hs_)) (fun k_ hk_ => ⟨hk_.1.1.1, hk_.1.1.2.1, hk_.1.1.2.2.1, hk_.1.1.2.2.2.1, hk_.1.1.2.2.2.2.1, hk_.1.1.2.2.2.2.2.1, hk_.1.1.2.2.2.2.2.2⟩)); have n2_ := Aside0.mk (Kd.R_mono (ok' := fun k_ => some k_ ≠ (.slice Ao42 t871.length co42 : Value).ownBlock ∧ some k_ ≠ (.slice Ao60 t885.length co60 : Value).ownBlock) (Kd.R_keptB (HO860.out) hkp (fun k_ hk_ hs_ => (hk_.1) hs_)) (fun k_ hk_ => ⟨hk_.1.1, hk_.1.2⟩)); have n3_ := Aside0.mk (Kd.R_mono (ok' := fun k_ => some k_ ≠ (.slice Ao29 t855.length co29 : Value).ownBlock ∧ some k_ ≠ (.slice Ao46 t864.length co46 : Value).ownBlock ∧ some k_ ≠ (.slice Ao36 t867.length co36 : Value).ownBlock ∧ some k_ ≠ (.slice Ao43 t874.length co43 : Value).ownBlock ∧ some k_ ≠ (.slice Ao45 t877.length co45 : Value).ownBlock ∧ some k_ ≠ (.slice Ao53 t881.length co53 : Value).ownBlock ∧ some k_ ≠ (.slice Ao67 t889.length co67 : Value).ownBlock) (Kd.R_keptB ((Kd.R_apart' HO863.out (Kd.R_typed HO873.out) (by decide))) hkp (fun k_ hk_ hs_ => (hk_.2) hs_)) (fun k_ hk_ => ⟨hk_.1.1.1, hk_.1.1.2.1, hk_.1.1.2.2.1, hk_.1.1.2.2.2.1, hk_.1.1.2.2.2.2.1, hk_.1.1.2.2.2.2.2.1, hk_.1.1.2.2.2.2.2.2⟩)); have n4_ := Aside0.mk (Kd.R_mono (ok' := fun k_ => some k_ ≠ (.slice Ao29 t855.length co29 : Value).ownBlock ∧ some k_ ≠ (.slice Ao31 t861.length co31 : Value).ownBlock ∧ some k_ ≠ (.slice Ao36 t867.length co36 : Value).ownBlock ∧ some k_ ≠ (.slice Ao43 t874.length co43 : Value).ownBlock ∧ some k_ ≠ (.slice Ao45 t877.length co45 : Value).ownBlock ∧ some k_ ≠ (.slice Ao53 t881.length co53 : Value).ownBlock ∧ some k_ ≠ (.slice Ao67 t889.length co67 : Value).ownBlock) (Kd.R_keptB ((Kd.R_apart' HO866.out (Kd.R_typed HO873.out) (by decide))) hkp (fun k_ hk_ hs_ => (hk_.2) hs_)) (fun k_ hk_ => ⟨hk_.1.1.1, hk_.1.1.2.1, hk_.1.1.2.2.1, hk_.1.1.2.2.2.1, hk_.1.1.2.2.2.2.1, hk_.1.1.2.2.2.2.2.1, hk_.1.1.2.2.2.2.2.2⟩)); have n5_ := Aside0.mk (Kd.R_mono (ok' := fun k_ => some k_ ≠ (.slice Ao29 t855.length co29 : Value).ownBlock ∧ some k_ ≠ (.slice Ao31 t861.length co31 : Value).ownBlock ∧ some k_ ≠ (.slice Ao46 t864.length co46 : Value).ownBlock ∧ some k_ ≠ (.slice Ao43 t874.length co43 : Value).ownBlock ∧ some k_ ≠ (.slice Ao45 t877.length co45 : Value).ownBlock ∧ some k_ ≠ (.slice Ao53 t881.length co53 : Value).ownBlock ∧ some k_ ≠ (.slice Ao67 t889.length co67 : Value).ownBlock) (Kd.R_keptB ((Kd.R_apart' HO869.out (Kd.R_typed HO873.out) (by decide))) hkp (fun k_ hk_ hs_ => (hk_.2) hs_)) (fun k_ hk_ => ⟨hk_.1.1.1.1.1.1.1.1.2, hk_.1.1.1.1.1.1.1.2, hk_.1.1.1.1.1.1.2, hk_.1.1.1.1.1.2, hk_.1.1.1.1.2, hk_.1.1.1.2, hk_.1.1.2⟩)); have n6_ := Aside0.mk (blk_kept (bkq BK870.out) hkp (fun hs_ => (fun e_ => (Kd.R_ne HO873.out BK870.out (by decide)) e_) hs_)); have n7_ := Aside0.mk (Kd.R_reok rfl hy0 (fun k_ e_ => HO873.out.1 k_ e_)); have n8_ := Aside0.mk (Kd.R_mono (ok' := fun k_ => some k_ ≠ (.slice Ao29 t855.length co29 : Value).ownBlock ∧ some k_ ≠ (.slice Ao31 t861.length co31 : Value).ownBlock ∧ some k_ ≠ (.slice Ao46 t864.length co46 : Value).ownBlock ∧ some k_ ≠ (.slice Ao36 t867.length co36 : Value).ownBlock ∧ some k_ ≠ (.slice Ao45 t877.length co45 : Value).ownBlock ∧ some k_ ≠ (.slice Ao53 t881.length co53 : Value).ownBlock ∧ some k_ ≠ (.slice Ao67 t889.length co67 : Value).ownBlock) (Kd.R_keptB ((Kd.R_apart' HO876.out (Kd.R_typed HO873.out) (by decide))) hkp (fun k_ hk_ hs_ => (hk_.2) hs_)) (fun k_ hk_ => ⟨hk_.1.1.1, hk_.1.1.2.1, hk_.1.1.2.2.1, hk_.1.1.2.2.2.1, hk_.1.1.2.2.2.2.1, hk_.1.1.2.2.2.2.2.1, hk_.1.1.2.2.2.2.2.2⟩)); have n9_ := Aside0.mk (Kd.R_mono (ok' := fun k_ => some k_ ≠ (.slice Ao29 t855.length co29 : Value).ownBlock ∧ some k_ ≠ (.slice Ao31 t861.length co31 : Value).ownBlock ∧ some k_ ≠ (.slice Ao46 t864.length co46 : Value).ownBlock ∧ some k_ ≠ (.slice Ao36 t867.length co36 : Value).ownBlock ∧ some k_ ≠ (.slice Ao43 t874.length co43 : Value).ownBlock ∧ some k_ ≠ (.slice Ao53 t881.length co53 : Value).ownBlock ∧ some k_ ≠ (.slice Ao67 t889.length co67 : Value).ownBlock) (Kd.R_keptB ((Kd.R_apart' HO879.out (Kd.R_typed HO873.out) (by decide))) hkp (fun k_ hk_ hs_ => (hk_.2) hs_)) (fun k_ hk_ => ⟨hk_.1.1.1, hk_.1.1.2.1, hk_.1.1.2.2.1, hk_.1.1.2.2.2.1, hk_.1.1.2.2.2.2.1, hk_.1.1.2.2.2.2.2.1, hk_.1.1.2.2.2.2.2.2⟩)); have n10_ := Aside0.mk (Kd.R_mono (ok' := fun k_ => some k_ ≠ (.slice Ao29 t855.length co29 : Value).ownBlock ∧ some k_ ≠ (.slice Ao31 t861.length co31 : Value).ownBlock ∧ some k_ ≠ (.slice Ao46 t864.length co46 : Value).ownBlock ∧ some k_ ≠ (.slice Ao36 t867.length co36 : Value).ownBlock ∧ some k_ ≠ (.slice Ao43 t874.length co43 : Value).ownBlock ∧ some k_ ≠ (.slice Ao45 t877.length co45 : Value).ownBlock ∧ some k_ ≠ (.slice Ao67 t889.length co67 : Value).ownBlock) (Kd.R_keptB ((Kd.R_apart' HO883.out (Kd.R_typed HO873.out) (by decide))) hkp (fun k_ hk_ hs_ => (hk_.2) hs_)) (fun k_ hk_ => ⟨hk_.1.1.1, hk_.1.1.2.1, hk_.1.1.2.2.1, hk_.1.1.2.2.2.1, hk_.1.1.2.2.2.2.1, hk_.1.1.2.2.2.2.2.1, hk_.1.1.2.2.2.2.2.2⟩)); have n11_ := Aside0.mk (Kd.R_mono (ok' := fun k_ => some k_ ≠ (.slice Ao30 t858.length co30 : Value).ownBlock ∧ some k_ ≠ (.slice Ao42 t871.length co42 : Value).ownBlock) (Kd.R_keptB (HO887.out) hkp (fun k_ hk_ hs_ => (hk_.2) hs_)) (fun k_ hk_ => ⟨hk_.1.1, hk_.1.2⟩)); have n12_ := Aside0.mk (Kd.R_mono (ok' := fun k_ => some k_ ≠ (.slice Ao29 t855.length co29 : Value).ownBlock ∧ some k_ ≠ (.slice Ao31 t861.length co31 : Value).ownBlock ∧ some k_ ≠ (.slice Ao46 t864.length co46 : Value).ownBlock ∧ some k_ ≠ (.slice Ao36 t867.length co36 : Value).ownBlock ∧ some k_ ≠ (.slice Ao43 t874.length co43 : Value).ownBlock ∧ some k_ ≠ (.slice Ao45 t877.length co45 : Value).ownBlock ∧ some k_ ≠ (.slice Ao53 t881.length co53 : Value).ownBlock) (Kd.R_keptB ((Kd.R_apart' HO891.out (Kd.R_typed HO873.out) (by decide))) hkp (fun k_ hk_ hs_ => (hk_.2) hs_)) (fun k_ hk_ => ⟨hk_.1.1.1, hk_.1.1.2.1, hk_.1.1.2.2.1, hk_.1.1.2.2.2.1, hk_.1.1.2.2.2.2.1, hk_.1.1.2.2.2.2.2.1, hk_.1.1.2.2.2.2.2.2⟩)); have n13_ := Aside0.mk (hb); clear BK852; clear HO857; clear HO860; clear HO863; clear HO866; clear HO869; clear BK870; clear HO873; clear HO876; clear HO879; clear HO883; clear HO887; clear HO891; clear HB; have BK852 := n0_; have HO857 := n1_; have HO860 := n2_; have HO863 := n3_; have HO866 := n4_; have HO869 := n5_; have BK870 := n6_; have HO873 := n7_; have HO876 := n8_; have HO879 := n9_; have HO883 := n10_; have HO887 := n11_; have HO891 := n12_; have HB := n13_; clear n0_ n1_ n2_ n3_ n4_ n5_ n6_ n7_ n8_ n9_ n10_ n11_ n12_ n13_; (try clear hb); (try clear hkp); (try clear hy0)) | ((with_reducible refine gate_callee (f := 63) rfl ?_); refine gLq (some 74) Try.func63 #[.slice Ao43 t874.length co43, .int .i64 t895] ?_; (with_reducible refine (laws_markIntS.calls k (fun k_ => some k_ = (.slice Ao43 t874.length co43 : Value).ownBlock) (.slice Ao43 t874.length co43) t874 t895 t897 t898 w _ ?side1 ?side2 A71.out).mono ?_); (case side1 => exact blq HB.out); (case side2 => exact Kd.R_tight rfl HO876.out); rintro e w77 ⟨rfl, hy0, hb, hkp⟩; refine ⟨_, rfl, ?_⟩; have n0_ := Aside0.mk (blk_kept (bkq BK852.out) hkp (fun hs_ => (fun e_ => (Kd.R_ne HO876.out BK852.out (by decide)) e_) hs_)); have n1_ := Aside0.mk (Kd.R_mono (ok' := fun k_ => some k_ ≠ (.slice Ao31 t861.length co31 : Value).ownBlock ∧ some k_ ≠ (.slice Ao46 t864.length co46 : Value).ownBlock ∧ some k_ ≠ (.slice Ao36 t867.length co36 : Value).ownBlock ∧ some k_ ≠ (.slice Ao43 t874.length co43 : Value).ownBlock ∧ some k_ ≠ (.slice Ao45 t877.length co45 : Value).ownBlock ∧ some k_ ≠ (.slice Ao53 t881.length co53 : Value).ownBlock ∧ some k_ ≠ (.slice Ao67 t889.length co67 : Value).ownBlock) (Kd.R_keptB (HO857.out) hkp (fun k_ hk_ hs_ => (hk_.2.2.2.1) hs_)) (fun k_ hk_ => ⟨hk_.1.1, hk_.1.2.1, hk_.1.2.2.1, hk_.1.2.2.2.1, hk_.1.2.2.2.2.1, hk_.1.2.2.2.2.2.1, hk_.1.2.2.2.2.2.2⟩)); have n2_ := Aside0.mk (Kd.R_mono (ok' := fun k_ => some k_ ≠ (.slice Ao42 t871.length co42 : Value).ownBlock ∧ some k_ ≠ (.slice Ao60 t885.length co60 : Value).ownBlock) (Kd.R_keptB ((Kd.R_apart' HO860.out (Kd.R_typed HO876.out) (by decide))) hkp (fun k_ hk_ hs_ => (hk_.2) hs_)) (fun k_ hk_ => ⟨hk_.1.1.1, hk_.1.1.2⟩)); have n3_ := Aside0.mk (Kd.R_mono (ok' := fun k_ => some k_ ≠ (.slice Ao29 t855.length co29 : Value).ownBlock ∧ some k_ ≠ (.slice Ao46 t864.length co46 : Value).ownBlock ∧ some k_ ≠ (.slice Ao36 t867.length co36 : Value).ownBlock ∧ some k_ ≠ (.slice Ao43 t874.length co43 : Value).ownBlock ∧ some k_ ≠ (.slice Ao45 t877.length co45 : Value).ownBlock ∧ some k_ ≠ (.slice Ao53 t881.length co53 : Value).ownBlock ∧ some k_ ≠ (.slice Ao67 t889.length co67 : Value).ownBlock) (Kd.R_keptB (HO863.out) hkp (fun k_ hk_ hs_ => (hk_.2.2.2.1) hs_)) (fun k_ hk_ => ⟨hk_.1.1, hk_.1.2.1, hk_.1.2.2.1, hk_.1.2.2.2.1, hk_.1.2.2.2.2.1, hk_.1.2.2.2.2.2.1, hk_.1.2.2.2.2.2.2⟩)); have n4_ := Aside0.mk (Kd.R_mono (ok' := fun k_ => some k_ ≠ (.slice Ao29 t855.length co29 : Value).ownBlock ∧ some k_ ≠ (.slice Ao31 t861.length co31 : Value).ownBlock ∧ some k_ ≠ (.slice Ao36 t867.length co36 : Value).ownBlock ∧ some k_ ≠ (.slice Ao43 t874.length co43 : Value).ownBlock ∧ some k_ ≠ (.slice Ao45 t877.length co45 : Value).ownBlock ∧ some k_ ≠ (.slice Ao53 t881.length co53 : Value).ownBlock ∧ some k_ ≠ (.slice Ao67 t889.length co67 : Value).ownBlock) (Kd.R_keptB (HO866.out) hkp (fun k_ hk_ hs_ => (hk_.2.2.2.1) hs_)) (fun k_ hk_ => ⟨hk_.1.1, hk_.1.2.1, hk_.1.2.2.1, hk_.1.2.2.2.1, hk_.1.2.2.2.2.1, hk_.1.2.2.2.2.2.1, hk_.1.2.2.2.2.2.2⟩)); have n5_ := Aside0.mk (Kd.R_mono (ok' := fun k_ => some k_ ≠ (.slice Ao29 t855.length co29 : Value).ownBlock ∧ some k_ ≠ (.slice Ao31 t861.length co31 : Value).ownBlock ∧ some k_ ≠ (.slice Ao46 t864.length co46 : Value).ownBlock ∧ some k_ ≠ (.slice Ao43 t874.length co43 : Value).ownBlock ∧ some k_ ≠ (.slice Ao45 t877.length co45 : Value).ownBlock ∧ some k_ ≠ (.slice Ao53 t881.length co53 : Value).ownBlock ∧ some k_ ≠ (.slice Ao67 t889.length co67 : Value).ownBlock) (Kd.R_keptB (HO869.out) hkp (fun k_ hk_ hs_ => (hk_.2.2.2.1) hs_)) (fun k_ hk_ => ⟨hk_.1.1, hk_.1.2.1, hk_.1.2.2.1, hk_.1.2.2.2.1, hk_.1.2.2.2.2.1, hk_.1.2.2.2.2.2.1, hk_.1.2.2.2.2.2.2⟩)); have n6_ := Aside0.mk (blk_kept (bkq BK870.out) hkp (fun hs_ => (fun e_ => (Kd.R_ne HO876.out BK870.out (by decide)) e_) hs_)); have n7_ := Aside0.mk (Kd.R_mono (ok' := fun k_ => some k_ ≠ (.slice Ao30 t858.length co30 : Value).ownBlock ∧ some k_ ≠ (.slice Ao60 t885.length co60 : Value).ownBlock) (Kd.R_keptB ((Kd.R_apart' HO873.out (Kd.R_typed HO876.out) (by decide))) hkp (fun k_ hk_ hs_ => (hk_.2) hs_)) (fun k_ hk_ => ⟨hk_.1.1.1, hk_.1.1.2⟩)); have n8_ := Aside0.mk (Kd.R_reok rfl hy0 (fun k_ e_ => HO876.out.1 k_ e_)); have n9_ := Aside0.mk (Kd.R_mono (ok' := fun k_ => some k_ ≠ (.slice Ao29 t855.length co29 : Value).ownBlock ∧ some k_ ≠ (.slice Ao31 t861.length co31 : Value).ownBlock ∧ some k_ ≠ (.slice Ao46 t864.length co46 : Value).ownBlock ∧ some k_ ≠ (.slice Ao36 t867.length co36 : Value).ownBlock ∧ some k_ ≠ (.slice Ao43 t874.length co43 : Value).ownBlock ∧ some k_ ≠ (.slice Ao53 t881.length co53 : Value).ownBlock ∧ some k_ ≠ (.slice Ao67 t889.length co67 : Value).ownBlock) (Kd.R_keptB (HO879.out) hkp (fun k_ hk_ hs_ => (hk_.2.2.2.2.1) hs_)) (fun k_ hk_ => ⟨hk_.1.1, hk_.1.2.1, hk_.1.2.2.1, hk_.1.2.2.2.1, hk_.1.2.2.2.2.1, hk_.1.2.2.2.2.2.1, hk_.1.2.2.2.2.2.2⟩)); have n10_ := Aside0.mk (Kd.R_mono (ok' := fun k_ => some k_ ≠ (.slice Ao29 t855.length co29 : Value).ownBlock ∧ some k_ ≠ (.slice Ao31 t861.length co31 : Value).ownBlock ∧ some k_ ≠ (.slice Ao46 t864.length co46 : Value).ownBlock ∧ some k_ ≠ (.slice Ao36 t867.length co36 : Value).ownBlock ∧ some k_ ≠ (.slice Ao43 t874.length co43 : Value).ownBlock ∧ some k_ ≠ (.slice Ao45 t877.length co45 : Value).ownBlock ∧ some k_ ≠ (.slice Ao67 t889.length co67 : Value).ownBlock) (Kd.R_keptB (HO883.out) hkp (fun k_ hk_ hs_ => (hk_.2.2.2.2.1) hs_)) (fun k_ hk_ => ⟨hk_.1.1, hk_.1.2.1, hk_.1.2.2.1, hk_.1.2.2.2.1, hk_.1.2.2.2.2.1, hk_.1.2.2.2.2.2.1, hk_.1.2.2.2.2.2.2⟩)); have n11_ := Aside0.mk (Kd.R_mono (ok' := fun k_ => some k_ ≠ (.slice Ao30 t858.length co30 : Value).ownBlock ∧ some k_ ≠ (.slice Ao42 t871.length co42 : Value).ownBlock) (Kd.R_keptB ((Kd.R_apart' HO887.out (Kd.R_typed HO876.out) (by decide))) hkp (fun k_ hk_ hs_ => (hk_.2) hs_)) (fun k_ hk_ => ⟨hk_.1.1.1, hk_.1.1.2⟩)); have n12_ := Aside0.mk (Kd.R_mono (ok' := fun k_ => some k_ ≠ (.slice Ao29 t855.length co29 : Value).ownBlock ∧ some k_ ≠ (.slice Ao31 t861.length co31 : Value).ownBlock ∧ some k_ ≠ (.slice Ao46 t864.length co46 : Value).ownBlock ∧ some k_ ≠ (.slice Ao36 t867.length co36 : Value).ownBlock ∧ some k_ ≠ (.slice Ao43 t874.length co43 : Value).ownBlock ∧ some k_ ≠ (.slice Ao45 t877.length co45 : Value).ownBlock ∧ some k_ ≠ (.slice Ao53 t881.length co53 : Value).ownBlock) (Kd.R_keptB (HO891.out) hkp (fun k_ hk_ hs_ => (hk_.2.2.2.2.1) hs_)) (fun k_ hk_ => ⟨hk_.1.1, hk_.1.2.1, hk_.1.2.2.1, hk_.1.2.2.2.1, hk_.1.2.2.2.2.1, hk_.1.2.2.2.2.2.1, hk_.1.2.2.2.2.2.2⟩)); have n13_ := Aside0.mk (hb); clear BK852; clear HO857; clear HO860; clear HO863; clear HO866; clear HO869; clear BK870; clear HO873; clear HO876; clear HO879; clear HO883; clear HO887; clear HO891; clear HB; have BK852 := n0_; have HO857 := n1_; have HO860 := n2_; have HO863 := n3_; have HO866 := n4_; have HO869 := n5_; have BK870 := n6_; have HO873 := n7_; have HO876 := n8_; have HO879 := n9_; have HO883 := n10_; have HO887 := n11_; have HO891 := n12_; have HB := n13_; clear n0_ n1_ n2_ n3_ n4_ n5_ n6_ n7_ n8_ n9_ n10_ n11_ n12_ n13_; (try clear hb); (try clear hkp); (try clear hy0)))
        (try simp only [Act.put, List.setIfInBounds_toArray, List.set_cons_zero, List.set_cons_succ])
        go_cut [82] (fun v82 wc => ∃ (kq : Nat) (x82_71 : Bool), v82 = .bool x82_71 ∧ Aside0 (laws_FnExactMustBuy.j0 kq l1 l2 t864 t877 x82_71 l0_0 = some r) ∧ Aside0 (kq ≤ k) ∧ Aside0 (Kd.R (Kd.int .i64) 3 wc w.heap.size (fun k_ => some k_ ≠ ((.slice Ao45 t877.length co45) : Value).ownBlock ∧ some k_ ≠ ((.slice Ao36 t867.length co36) : Value).ownBlock) (.slice Ao46 t864.length co46) t864) ∧ Aside0 (Kd.R (Kd.int .i64) 3 wc w.heap.size (fun k_ => some k_ ≠ ((.slice Ao46 t864.length co46) : Value).ownBlock ∧ some k_ ≠ ((.slice Ao36 t867.length co36) : Value).ownBlock) (.slice Ao45 t877.length co45) t877) ∧ Aside0 (Kd.R (Kd.int .i64) 3 wc w.heap.size (fun k_ => some k_ ≠ ((.slice Ao46 t864.length co46) : Value).ownBlock ∧ some k_ ≠ ((.slice Ao45 t877.length co45) : Value).ownBlock) (.slice Ao36 t867.length co36) t894) ∧ Aside0 (wc.heap[gb852]? = some (.cells #[(.slice A0_0 l0_0.length c0_0)] 49 (0, 0))) ∧ Aside0 (wc.heap[gb870]? = some (.cells #[(.slice Ao36 t867.length co36)] 54 (0, 0))) ∧ Aside0 (Below w.heap.size w wc))
        case first =>
         have H := HC72.out
         clear HC72
         by_cases c78 : t897 < 0
         ·
          rw [if_pos c78] at H
          have c78b0 : decide (t897 < 0) = true := decide_eq_true c78
          clear c78
          (first | rw [c78b0] | (simp only [i64_w, i32_w]; rw [c78b0]) | skip)
          have H' := Aside0.mk H
          clear H
          go_wp2
          go_meet
          case rel => exact ⟨_, (true), (by first | rfl | (simp; done) | (simp [*]; done)), H', ⟨by first | omega | exact Nat.le_refl _⟩, ⟨Kd.Rq (Kd.R_mono HO866.out (fun _ hk => ⟨hk.2.2.2.2.1, hk.2.2.1⟩))⟩, ⟨Kd.Rq (Kd.R_mono HO879.out (fun _ hk => ⟨hk.2.2.1, hk.2.2.2.1⟩))⟩, ⟨Kd.Rq (Kd.R_mono HO869.out (fun _ hk => ⟨hk.2.2.1, hk.2.2.2.2.1⟩))⟩, ⟨bkq BK852.out⟩, ⟨bkq BK870.out⟩, ⟨blq HB.out⟩⟩
         ·
          rw [if_neg c78] at H
          have c78b0 : decide (t897 < 0) = false := decide_eq_false c78
          clear c78
          (first | rw [c78b0] | (simp only [i64_w, i32_w]; rw [c78b0]) | skip)
          replace H := Option.bind_eq_some_iff.mp H
          obtain ⟨t899, A790, H⟩ := H
          replace H : (laws_FnExactMustBuy.j0 k l1 l2 t864 t877 (!t899) l0_0) = some r := H
          have A79 := Aside0.mk A790
          clear A790
          have H' := Aside0.mk H
          clear H
          go_wp2_with (first | (go_at_call 60; (with_reducible refine (laws_eqIntS.calls k _ _ t877 _ _ t864 t899 _ ?side1 ?side2 ?side3 ?side4 A79.out).mono ?_); (case side1 => repeat (first | exact (Kd.R_reads' HO879.out).2.2 | (with_reducible refine Kd.C_alloc ?_ _) | (with_reducible refine Kd.C_drewN ?_ _) | (with_reducible refine Kd.C_drew ?_))); (case side2 => exact (Kd.R_reads' HO879.out).2.1); (case side3 => repeat (first | exact (Kd.R_reads' HO866.out).2.2 | (with_reducible refine Kd.C_alloc ?_ _) | (with_reducible refine Kd.C_drewN ?_ _) | (with_reducible refine Kd.C_drew ?_))); (case side4 => exact (Kd.R_reads' HO866.out).2.1); rintro e w' ⟨rfl, ⟨nd, rfl⟩⟩))
          go_meet
          case rel => exact ⟨_, (!t899), (by first | rfl | (simp; done) | (simp [*]; done)), H', ⟨by first | omega | exact Nat.le_refl _⟩, ⟨Kd.Rq (Kd.R_mono HO866.out (fun _ hk => ⟨hk.2.2.2.2.1, hk.2.2.1⟩))⟩, ⟨Kd.Rq (Kd.R_mono HO879.out (fun _ hk => ⟨hk.2.2.1, hk.2.2.2.1⟩))⟩, ⟨Kd.Rq (Kd.R_mono HO869.out (fun _ hk => ⟨hk.2.2.1, hk.2.2.2.2.1⟩))⟩, ⟨bkq BK852.out⟩, ⟨bkq BK870.out⟩, ⟨blq HB.out⟩⟩
        case rest =>
         clear HC72
         try clear c1
         try clear c2
         try clear p2
         try clear c3
         try clear c4
         try clear c4b0
         try clear c4b1
         try clear c5
         try clear c6
         try clear c7
         try clear c11
         try clear c11b0
         try clear c14
         try clear c14b0
         try clear c30
         try clear c32
         try clear c35
         try clear c37
         try clear c47
         try clear c54
         try clear c55
         try clear c56
         try clear c57
         try clear c58
         try clear c59
         try clear c60
         try clear c61
         try clear c62
         try clear c63
         try clear c68
         try clear c73
         try clear c78
         try clear c78b0
         try clear hcz25_0
         try clear hcz33_0
         try clear hcz38_0
         try clear hcz41_0
         try clear hcz74_0
         try clear hcz9_0
         try clear hfz25_0
         try clear hfz33_0
         try clear hfz38_0
         try clear hfz41_0
         try clear hfz74_0
         try clear hfz9_0
         obtain ⟨kq, x82_71, rfl, HA, HJ71, HO_8, HO_12, HO_871000, BK852, BK870, HB⟩ := hcut
         have hl871000_71 := (Kd.R_reads' HO_871000.out).1
         rw [hl871000_71] at HO_871000
         (try simp only [hl871000_71])
         (try simp only [hl871000_71] at BK852)
         (try simp only [hl871000_71] at BK870)
         (try simp only [hl871000_71] at HO_8)
         (try simp only [hl871000_71] at HO_12)
         cases kq with
         | zero => exact absurd HA.out (by simp [laws_FnExactMustBuy.j0])
         | succ kj71 =>
          have H := HA.out
          clear HA
          simp only [laws_FnExactMustBuy.j0] at H
          by_cases c80 : x82_71 = true
          ·
           subst c80
           have H1 : (some false) = some r := by rw [if_pos rfl] at H; exact H
           clear H
           have H := H1
           clear H1
           obtain rfl := Option.some.inj H
           go_wp2
           go_ret
           exact ⟨by first | rfl | (simp [errW_none, errW_some] <;> rfl) | (simp [*, errW_none, errW_some] <;> rfl), blq HB.out⟩
          ·
           replace c80 := Bool.eq_false_iff.mpr c80
           subst c80
           have H1 : ((laws_markIntS.f kj71 t877 1).bind fun bt900 => ((laws_heldIntS.f kj71 bt900.2 1).bind fun t902 => (if t902 < 0 then (some false) else (if t902 = bt900.1 then ((laws_toStock.f kj71 l0_0).bind fun t903 => ((laws_toDoughS.f kj71 l1).bind fun t906 => ((laws_toIntS.f kj71 l2).bind fun t909 => ((impl_MustBuy.f kj71 t903 t906 t909).bind fun t912 => ((laws_eqIntS.f kj71 t912 t864).bind fun t915 => (if t915 = true then ((laws_heldIntS.f kj71 bt900.2 1).bind fun t916 => (if t916 < 0 then (some false) else (if t916 = bt900.1 then (some true) else (some false)))) else (some false))))))) else (some false))))) = some r := by rw [if_neg (show ¬ (false = true) by decide)] at H; exact H
           clear H
           have H := H1
           clear H1
           replace H := Option.bind_eq_some_iff.mp H
           obtain ⟨⟨t900, t901⟩, A810, H⟩ := H
           replace H : ((laws_heldIntS.f kj71 t901 1).bind fun t902 => (if t902 < 0 then (some false) else (if t902 = t900 then ((laws_toStock.f kj71 l0_0).bind fun t903 => ((laws_toDoughS.f kj71 l1).bind fun t906 => ((laws_toIntS.f kj71 l2).bind fun t909 => ((impl_MustBuy.f kj71 t903 t906 t909).bind fun t912 => ((laws_eqIntS.f kj71 t912 t864).bind fun t915 => (if t915 = true then ((laws_heldIntS.f kj71 t901 1).bind fun t916 => (if t916 < 0 then (some false) else (if t916 = t900 then (some true) else (some false)))) else (some false))))))) else (some false)))) = some r := H
           have A81 := Aside0.mk A810
           clear A810
           replace H := Option.bind_eq_some_iff.mp H
           obtain ⟨t902, A820, H⟩ := H
           replace H : (if t902 < 0 then (some false) else (if t902 = t900 then ((laws_toStock.f kj71 l0_0).bind fun t903 => ((laws_toDoughS.f kj71 l1).bind fun t906 => ((laws_toIntS.f kj71 l2).bind fun t909 => ((impl_MustBuy.f kj71 t903 t906 t909).bind fun t912 => ((laws_eqIntS.f kj71 t912 t864).bind fun t915 => (if t915 = true then ((laws_heldIntS.f kj71 t901 1).bind fun t916 => (if t916 < 0 then (some false) else (if t916 = t900 then (some true) else (some false)))) else (some false))))))) else (some false))) = some r := H
           have A82 := Aside0.mk A820
           clear A820
           have HF83 := Aside0.mk H
           clear H
           go_upto_if 90 with (first | ((with_reducible refine gate_callee (f := 63) rfl ?_); refine gLq (some 85) Try.func63 #[.slice Ao45 t877.length co45, .int .i64 1] ?_; (with_reducible refine (laws_markIntS.calls kj71 (fun k_ => some k_ = (.slice Ao45 t877.length co45 : Value).ownBlock) (.slice Ao45 t877.length co45) t877 1 t900 t901 w _ ?side1 ?side2 A81.out).mono ?_); (case side1 => exact blq HB.out); (case side2 => exact Kd.R_tight rfl HO_12.out); rintro e w84 ⟨rfl, hy0, hb, hkp⟩; refine ⟨_, rfl, ?_⟩; have n0_ := Aside0.mk (Kd.R_mono (ok' := fun k_ => some k_ ≠ (.slice Ao45 t877.length co45 : Value).ownBlock ∧ some k_ ≠ (.slice Ao36 t894.length co36 : Value).ownBlock) (Kd.R_keptB (HO_8.out) hkp (fun k_ hk_ hs_ => (hk_.1) hs_)) (fun k_ hk_ => ⟨hk_.1.1, hk_.1.2⟩)); have n1_ := Aside0.mk (Kd.R_reok rfl hy0 (fun k_ e_ => HO_12.out.1 k_ e_)); have n2_ := Aside0.mk (Kd.R_mono (ok' := fun k_ => some k_ ≠ (.slice Ao46 t864.length co46 : Value).ownBlock ∧ some k_ ≠ (.slice Ao45 t877.length co45 : Value).ownBlock) (Kd.R_keptB (HO_871000.out) hkp (fun k_ hk_ hs_ => (hk_.2) hs_)) (fun k_ hk_ => ⟨hk_.1.1, hk_.1.2⟩)); have n3_ := Aside0.mk (blk_kept (bkq BK852.out) hkp (fun hs_ => (fun e_ => (Kd.R_ne HO_12.out BK852.out (by decide)) e_) hs_)); have n4_ := Aside0.mk (blk_kept (bkq BK870.out) hkp (fun hs_ => (fun e_ => (Kd.R_ne HO_12.out BK870.out (by decide)) e_) hs_)); have n5_ := Aside0.mk (hb); clear HO_8; clear HO_12; clear HO_871000; clear BK852; clear BK870; clear HB; have HO_8 := n0_; have HO_12 := n1_; have HO_871000 := n2_; have BK852 := n3_; have BK870 := n4_; have HB := n5_; clear n0_ n1_ n2_ n3_ n4_ n5_; (try clear hb); (try clear hkp); (try clear hy0)) | ((with_reducible refine gate_callee (f := 64) rfl ?_); refine goesL_ (some 88) rfl rfl Try.func64 (by kernel_rfl) rfl #[.slice Ao45 t901.length co45, .int .i64 1] rfl (by (try simp only [List.map_toArray, List.map_cons, List.map_nil]); first | done | (rw [show t901.length = t877.length from (Kd.R_reads' HO_12.out).1.symm] <;> rfl) | rfl | (simp only [List.length_drop, List.length_take]; rfl)) ?_; (with_reducible refine (laws_heldIntS.calls kj71 _ _ t901 1 t902 _ ?side1 ?side2 A82.out).mono ?_); (case side1 => repeat (first | exact (Kd.R_reads' HO_12.out).2.2 | (with_reducible refine Kd.C_alloc ?_ _) | (with_reducible refine Kd.C_drewN ?_ _) | (with_reducible refine Kd.C_drew ?_))); (case side2 => rw [show t901.length = t877.length from (Kd.R_reads' HO_12.out).1.symm]; exact (Kd.R_reads' HO_12.out).2.1); rintro e w' ⟨rfl, ⟨nd, rfl⟩⟩; refine ⟨_, rfl, ?_⟩))
           (try (rw [drewN_self w84]; generalize hq_ : World.drewN w84 _ = w84; have n0_ := Aside0.mk (Kd.R_at hq_ HO_8.out); have n1_ := Aside0.mk (Kd.R_at hq_ HO_12.out); have n2_ := Aside0.mk (Kd.R_at hq_ HO_871000.out); have n3_ := Aside0.mk (blk_at hq_ BK852.out); have n4_ := Aside0.mk (blk_at hq_ BK870.out); have n5_ := Aside0.mk (below_at hq_ HB.out); clear hq_ HO_8 HO_12 HO_871000 BK852 BK870 HB; have HO_8 := n0_; have HO_12 := n1_; have HO_871000 := n2_; have BK852 := n3_; have BK870 := n4_; have HB := n5_; clear n0_ n1_ n2_ n3_ n4_ n5_))
           have H := HF83.out
           clear HF83
           by_cases c85 : t902 < 0
           ·
            rw [if_pos c85] at H
            have c85b0 : decide (t902 < 0) = true := decide_eq_true c85
            clear c85
            (first | rw [c85b0] | (simp only [i64_w, i32_w]; rw [c85b0]) | skip)
            obtain rfl := Option.some.inj H
            go_wp2
            go_ret
            exact ⟨by first | rfl | (simp [errW_none, errW_some] <;> rfl) | (simp [*, errW_none, errW_some] <;> rfl), blq HB.out⟩
           ·
            rw [if_neg c85] at H
            have c85b0 : decide (t902 < 0) = false := decide_eq_false c85
            clear c85
            (first | rw [c85b0] | (simp only [i64_w, i32_w]; rw [c85b0]) | skip)
            by_cases c86 : t902 = t900
            ·
             rw [if_pos c86] at H
             have c86b0 : (t902 == t900) = true := beq_iff_eq.mpr c86
             have c86b1 : (t902 != t900) = false := bne_eq_false_iff_eq.mpr c86
             clear c86
             replace H := Option.bind_eq_some_iff.mp H
             obtain ⟨t903, A870, H⟩ := H
             replace H : ((laws_toDoughS.f kj71 l1).bind fun t906 => ((laws_toIntS.f kj71 l2).bind fun t909 => ((impl_MustBuy.f kj71 t903 t906 t909).bind fun t912 => ((laws_eqIntS.f kj71 t912 t864).bind fun t915 => (if t915 = true then ((laws_heldIntS.f kj71 t901 1).bind fun t916 => (if t916 < 0 then (some false) else (if t916 = t900 then (some true) else (some false)))) else (some false)))))) = some r := H
             have A87 := Aside0.mk A870
             clear A870
             replace H := Option.bind_eq_some_iff.mp H
             obtain ⟨t906, A880, H⟩ := H
             replace H : ((laws_toIntS.f kj71 l2).bind fun t909 => ((impl_MustBuy.f kj71 t903 t906 t909).bind fun t912 => ((laws_eqIntS.f kj71 t912 t864).bind fun t915 => (if t915 = true then ((laws_heldIntS.f kj71 t901 1).bind fun t916 => (if t916 < 0 then (some false) else (if t916 = t900 then (some true) else (some false)))) else (some false))))) = some r := H
             have A88 := Aside0.mk A880
             clear A880
             replace H := Option.bind_eq_some_iff.mp H
             obtain ⟨t909, A890, H⟩ := H
             replace H : ((impl_MustBuy.f kj71 t903 t906 t909).bind fun t912 => ((laws_eqIntS.f kj71 t912 t864).bind fun t915 => (if t915 = true then ((laws_heldIntS.f kj71 t901 1).bind fun t916 => (if t916 < 0 then (some false) else (if t916 = t900 then (some true) else (some false)))) else (some false)))) = some r := H
             have A89 := Aside0.mk A890
             clear A890
             replace H := Option.bind_eq_some_iff.mp H
             obtain ⟨t912, A900, H⟩ := H
             replace H : ((laws_eqIntS.f kj71 t912 t864).bind fun t915 => (if t915 = true then ((laws_heldIntS.f kj71 t901 1).bind fun t916 => (if t916 < 0 then (some false) else (if t916 = t900 then (some true) else (some false)))) else (some false))) = some r := H
             have A90 := Aside0.mk A900
             clear A900
             replace H := Option.bind_eq_some_iff.mp H
             obtain ⟨t915, A910, H⟩ := H
             replace H : (if t915 = true then ((laws_heldIntS.f kj71 t901 1).bind fun t916 => (if t916 < 0 then (some false) else (if t916 = t900 then (some true) else (some false)))) else (some false)) = some r := H
             have A91 := Aside0.mk A910
             clear A910
             have HF92 := Aside0.mk H
             clear H
             have hnb93 := NB852_870.out
             have hnc93 := NB870_852.out
             have hcz94_0 : w84.cell? ⟨gb852, 0, none⟩ = some (.slice A0_0 l0_0.length c0_0) := (blk_cell BK852.out 0).trans rfl
             have hfz94_0 := blk_frozen BK852.out 0
             go_upto_if 104 with (first | ((with_reducible refine gate_callee (f := 32) rfl ?_); refine gLq (some 95) Try.func32 #[.agg #[.slice A0_0 l0_0.length c0_0]] ?_; (with_reducible refine (laws_toStock.calls kj71 _ _ l0_0 t903 _ ?side1 ?side2 A87.out).mono ?_); (case side1 => exact Kd.Cq (Kd.C_below HR0_0.out HB.out)); (case side2 => exact HC0_0.out); rintro e w95 ⟨v904, rfl, ho0, hb⟩; refine ⟨_, rfl, ?_⟩; have n0_ := Aside0.mk (Kd.R_elder' (Kd.Rq HO_8.out) (Kd.R_base ho0) hb); have n1_ := Aside0.mk (Kd.R_elder' (Kd.Rq HO_12.out) (Kd.R_base ho0) hb); have n2_ := Aside0.mk (Kd.R_elder' (Kd.Rq HO_871000.out) (Kd.R_base ho0) hb); have n3_ := Aside0.mk (Kd.R_lower (Kd.R_new' (Kd.R_new' (Kd.R_new' ho0 (Kd.R_lt (Kd.Rq HO_8.out))) (Kd.R_lt (Kd.Rq HO_12.out))) (Kd.R_lt (Kd.Rq HO_871000.out))) (below_size (blq HB.out))); have n4_ := Aside0.mk (blk_below (bkq BK852.out) hb); have n5_ := Aside0.mk (blk_below (bkq BK870.out) hb); have n6_ := Aside0.mk (below_step (blq HB.out) hb); clear HO_8; clear HO_12; clear HO_871000; clear BK852; clear BK870; clear HB; have HO_8 := n0_; have HO_12 := n1_; have HO_871000 := n2_; have HO905 := n3_; have BK852 := n4_; have BK870 := n5_; have HB := n6_; clear n0_ n1_ n2_ n3_ n4_ n5_ n6_; (try clear hb); (try clear hb2); (try clear hk); (try clear hi); (try clear ho0)) | ((with_reducible refine gate_callee (f := 58) rfl ?_); refine gLq (some 97) Try.func58 #[.slice A1 l1.length c1] ?_; (with_reducible refine (laws_toDoughS.calls kj71 _ _ l1 t906 _ ?side1 ?side2 A88.out).mono ?_); (case side1 => exact Kd.Cq (Kd.C_below HR1.out HB.out)); (case side2 => exact HC1.out); rintro e w96 ⟨v907, rfl, ho0, hb⟩; refine ⟨_, rfl, ?_⟩; have n0_ := Aside0.mk (Kd.R_below (Kd.Rq HO_8.out) hb); have n1_ := Aside0.mk (Kd.R_below (Kd.Rq HO_12.out) hb); have n2_ := Aside0.mk (Kd.R_below (Kd.Rq HO_871000.out) hb); have n3_ := Aside0.mk (Kd.R_below (Kd.Rq HO905.out) hb); have n4_ := Aside0.mk (Kd.R_lower ho0 (below_size (blq HB.out))); have n5_ := Aside0.mk (blk_below (bkq BK852.out) hb); have n6_ := Aside0.mk (blk_below (bkq BK870.out) hb); have n7_ := Aside0.mk (below_step (blq HB.out) hb); clear HO_8; clear HO_12; clear HO_871000; clear HO905; clear BK852; clear BK870; clear HB; have HO_8 := n0_; have HO_12 := n1_; have HO_871000 := n2_; have HO905 := n3_; have HO908 := n4_; have BK852 := n5_; have BK870 := n6_; have HB := n7_; clear n0_ n1_ n2_ n3_ n4_ n5_ n6_ n7_; (try clear hb); (try clear hb2); (try clear hk); (try clear hi); (try clear ho0)) | ((with_reducible refine gate_callee (f := 59) rfl ?_); refine gLq (some 99) Try.func59 #[.slice A2 l2.length c2] ?_; (with_reducible refine (laws_toIntS.calls kj71 _ _ l2 t909 _ ?side1 ?side2 A89.out).mono ?_); (case side1 => exact Kd.Cq (Kd.C_below HR2.out HB.out)); (case side2 => exact HC2.out); rintro e w97 ⟨v910, rfl, ho0, hb⟩; refine ⟨_, rfl, ?_⟩; have n0_ := Aside0.mk (Kd.R_elder' (Kd.Rq HO_8.out) (Kd.R_base ho0) hb); have n1_ := Aside0.mk (Kd.R_elder' (Kd.Rq HO_12.out) (Kd.R_base ho0) hb); have n2_ := Aside0.mk (Kd.R_elder' (Kd.Rq HO_871000.out) (Kd.R_base ho0) hb); have n3_ := Aside0.mk (Kd.R_elder' (Kd.Rq HO905.out) (Kd.R_base ho0) hb); have n4_ := Aside0.mk (Kd.R_below (Kd.Rq HO908.out) hb); have n5_ := Aside0.mk (Kd.R_lower (Kd.R_new' (Kd.R_new' (Kd.R_new' (Kd.R_new' ho0 (Kd.R_lt (Kd.Rq HO_8.out))) (Kd.R_lt (Kd.Rq HO_12.out))) (Kd.R_lt (Kd.Rq HO_871000.out))) (Kd.R_lt (Kd.Rq HO905.out))) (below_size (blq HB.out))); have n6_ := Aside0.mk (blk_below (bkq BK852.out) hb); have n7_ := Aside0.mk (blk_below (bkq BK870.out) hb); have n8_ := Aside0.mk (below_step (blq HB.out) hb); clear HO_8; clear HO_12; clear HO_871000; clear HO905; clear HO908; clear BK852; clear BK870; clear HB; have HO_8 := n0_; have HO_12 := n1_; have HO_871000 := n2_; have HO905 := n3_; have HO908 := n4_; have HO911 := n5_; have BK852 := n6_; have BK870 := n7_; have HB := n8_; clear n0_ n1_ n2_ n3_ n4_ n5_ n6_ n7_ n8_; (try clear hb); (try clear hb2); (try clear hk); (try clear hi); (try clear ho0); obtain ⟨Ao98, co98, eo98⟩ := Kd.R_slice HO905.out; subst eo98; obtain ⟨Ao99, co99, eo99⟩ := Kd.R_slice HO908.out; subst eo99; obtain ⟨Ao100, co100, eo100⟩ := Kd.R_slice HO911.out; subst eo100) | ((with_reducible refine gate_callee (f := 47) rfl ?_); refine gLq (some 100) Try.func47 #[.agg #[.slice Ao98 t903.length co98], .slice Ao99 t906.length co99, .slice Ao100 t909.length co100] ?_; (with_reducible refine (impl_MustBuy.calls kj71 _ _ t903 _ _ t906 _ _ t909 t912 _ ?side1 ?side2 ?side3 ?side4 ?side5 ?side6 A90.out).mono ?_); (case side1 => repeat (first | exact (Kd.R_reads' HO905.out).2.2 | (with_reducible refine Kd.C_alloc ?_ _) | (with_reducible refine Kd.C_drewN ?_ _) | (with_reducible refine Kd.C_drew ?_))); (case side2 => exact (Kd.R_reads' HO905.out).2.1); (case side3 => repeat (first | exact (Kd.R_reads' HO908.out).2.2 | (with_reducible refine Kd.C_alloc ?_ _) | (with_reducible refine Kd.C_drewN ?_ _) | (with_reducible refine Kd.C_drew ?_))); (case side4 => exact (Kd.R_reads' HO908.out).2.1); (case side5 => repeat (first | exact (Kd.R_reads' HO911.out).2.2 | (with_reducible refine Kd.C_alloc ?_ _) | (with_reducible refine Kd.C_drewN ?_ _) | (with_reducible refine Kd.C_drew ?_))); (case side6 => exact (Kd.R_reads' HO911.out).2.1); rintro e w101 ⟨v913, rfl, ho0, hb⟩; refine ⟨_, rfl, ?_⟩; have n0_ := Aside0.mk (Kd.R_elder' (Kd.Rq HO_8.out) (Kd.R_base ho0) hb); have n1_ := Aside0.mk (Kd.R_elder' (Kd.Rq HO_12.out) (Kd.R_base ho0) hb); have n2_ := Aside0.mk (Kd.R_elder' (Kd.Rq HO_871000.out) (Kd.R_base ho0) hb); have n3_ := Aside0.mk (Kd.R_elder' (Kd.Rq HO905.out) (Kd.R_base ho0) hb); have n4_ := Aside0.mk (Kd.R_below (Kd.Rq HO908.out) hb); have n5_ := Aside0.mk (Kd.R_elder' (Kd.Rq HO911.out) (Kd.R_base ho0) hb); have n6_ := Aside0.mk (Kd.R_lower (Kd.R_new' (Kd.R_new' (Kd.R_new' (Kd.R_new' (Kd.R_new' ho0 (Kd.R_lt (Kd.Rq HO_8.out))) (Kd.R_lt (Kd.Rq HO_12.out))) (Kd.R_lt (Kd.Rq HO_871000.out))) (Kd.R_lt (Kd.Rq HO905.out))) (Kd.R_lt (Kd.Rq HO911.out))) (below_size (blq HB.out))); have n7_ := Aside0.mk (blk_below (bkq BK852.out) hb); have n8_ := Aside0.mk (blk_below (bkq BK870.out) hb); have n9_ := Aside0.mk (below_step (blq HB.out) hb); clear HO_8; clear HO_12; clear HO_871000; clear HO905; clear HO908; clear HO911; clear BK852; clear BK870; clear HB; have HO_8 := n0_; have HO_12 := n1_; have HO_871000 := n2_; have HO905 := n3_; have HO908 := n4_; have HO911 := n5_; have HO914 := n6_; have BK852 := n7_; have BK870 := n8_; have HB := n9_; clear n0_ n1_ n2_ n3_ n4_ n5_ n6_ n7_ n8_ n9_; (try clear hb); (try clear hb2); (try clear hk); (try clear hi); (try clear ho0); obtain ⟨Ao102, co102, eo102⟩ := Kd.R_slice HO914.out; subst eo102) | ((with_reducible refine gate_callee (f := 60) rfl ?_); refine gLq (some 103) Try.func60 #[.slice Ao102 t912.length co102, .slice Ao46 t864.length co46] ?_; (with_reducible refine (laws_eqIntS.calls kj71 _ _ t912 _ _ t864 t915 _ ?side1 ?side2 ?side3 ?side4 A91.out).mono ?_); (case side1 => repeat (first | exact (Kd.R_reads' HO914.out).2.2 | (with_reducible refine Kd.C_alloc ?_ _) | (with_reducible refine Kd.C_drewN ?_ _) | (with_reducible refine Kd.C_drew ?_))); (case side2 => exact (Kd.R_reads' HO914.out).2.1); (case side3 => repeat (first | exact (Kd.R_reads' HO_8.out).2.2 | (with_reducible refine Kd.C_alloc ?_ _) | (with_reducible refine Kd.C_drewN ?_ _) | (with_reducible refine Kd.C_drew ?_))); (case side4 => exact (Kd.R_reads' HO_8.out).2.1); rintro e w' ⟨rfl, ⟨nd, rfl⟩⟩; refine ⟨_, rfl, ?_⟩))
             (try (rw [drewN_self w101]; generalize hq_ : World.drewN w101 _ = w101; have n0_ := Aside0.mk (Kd.R_at hq_ HO_8.out); have n1_ := Aside0.mk (Kd.R_at hq_ HO_12.out); have n2_ := Aside0.mk (Kd.R_at hq_ HO_871000.out); have n3_ := Aside0.mk (Kd.R_at hq_ HO905.out); have n4_ := Aside0.mk (Kd.R_at hq_ HO908.out); have n5_ := Aside0.mk (Kd.R_at hq_ HO911.out); have n6_ := Aside0.mk (Kd.R_at hq_ HO914.out); have n7_ := Aside0.mk (blk_at hq_ BK852.out); have n8_ := Aside0.mk (blk_at hq_ BK870.out); have n9_ := Aside0.mk (below_at hq_ HB.out); clear hq_ HO_8 HO_12 HO_871000 HO905 HO908 HO911 HO914 BK852 BK870 HB; have HO_8 := n0_; have HO_12 := n1_; have HO_871000 := n2_; have HO905 := n3_; have HO908 := n4_; have HO911 := n5_; have HO914 := n6_; have BK852 := n7_; have BK870 := n8_; have HB := n9_; clear n0_ n1_ n2_ n3_ n4_ n5_ n6_ n7_ n8_ n9_))
             have H := HF92.out
             clear HF92
             by_cases c103 : t915 = true
             ·
              subst c103
              have H1 : ((laws_heldIntS.f kj71 t901 1).bind fun t916 => (if t916 < 0 then (some false) else (if t916 = t900 then (some true) else (some false)))) = some r := by rw [if_pos rfl] at H; exact H
              clear H
              have H := H1
              clear H1
              replace H := Option.bind_eq_some_iff.mp H
              obtain ⟨t916, A1040, H⟩ := H
              replace H : (if t916 < 0 then (some false) else (if t916 = t900 then (some true) else (some false))) = some r := H
              have A104 := Aside0.mk A1040
              clear A1040
              have HF105 := Aside0.mk H
              clear H
              go_upto_if 109 with (first | ((with_reducible refine gate_callee (f := 64) rfl ?_); refine goesL_ (some 107) rfl rfl Try.func64 (by kernel_rfl) rfl #[.slice Ao45 t901.length co45, .int .i64 1] rfl (by (try simp only [List.map_toArray, List.map_cons, List.map_nil]); first | done | (rw [show t901.length = t877.length from (Kd.R_reads' HO_12.out).1.symm] <;> rfl) | rfl | (simp only [List.length_drop, List.length_take]; rfl)) ?_; (with_reducible refine (laws_heldIntS.calls kj71 _ _ t901 1 t916 _ ?side1 ?side2 A104.out).mono ?_); (case side1 => repeat (first | exact (Kd.R_reads' HO_12.out).2.2 | (with_reducible refine Kd.C_alloc ?_ _) | (with_reducible refine Kd.C_drewN ?_ _) | (with_reducible refine Kd.C_drew ?_))); (case side2 => rw [show t901.length = t877.length from (Kd.R_reads' HO_12.out).1.symm]; exact (Kd.R_reads' HO_12.out).2.1); rintro e w' ⟨rfl, ⟨nd, rfl⟩⟩; refine ⟨_, rfl, ?_⟩))
              (try (rw [drewN_self w101]; generalize hq_ : World.drewN w101 _ = w101; have n0_ := Aside0.mk (Kd.R_at hq_ HO_8.out); have n1_ := Aside0.mk (Kd.R_at hq_ HO_12.out); have n2_ := Aside0.mk (Kd.R_at hq_ HO_871000.out); have n3_ := Aside0.mk (Kd.R_at hq_ HO905.out); have n4_ := Aside0.mk (Kd.R_at hq_ HO908.out); have n5_ := Aside0.mk (Kd.R_at hq_ HO911.out); have n6_ := Aside0.mk (Kd.R_at hq_ HO914.out); have n7_ := Aside0.mk (blk_at hq_ BK852.out); have n8_ := Aside0.mk (blk_at hq_ BK870.out); have n9_ := Aside0.mk (below_at hq_ HB.out); clear hq_ HO_8 HO_12 HO_871000 HO905 HO908 HO911 HO914 BK852 BK870 HB; have HO_8 := n0_; have HO_12 := n1_; have HO_871000 := n2_; have HO905 := n3_; have HO908 := n4_; have HO911 := n5_; have HO914 := n6_; have BK852 := n7_; have BK870 := n8_; have HB := n9_; clear n0_ n1_ n2_ n3_ n4_ n5_ n6_ n7_ n8_ n9_))
              have H := HF105.out
              clear HF105
              by_cases c106 : t916 < 0
              ·
               rw [if_pos c106] at H
               have c106b0 : decide (t916 < 0) = true := decide_eq_true c106
               clear c106
               (first | rw [c106b0] | (simp only [i64_w, i32_w]; rw [c106b0]) | skip)
               obtain rfl := Option.some.inj H
               go_wp2
               go_ret
               exact ⟨by first | rfl | (simp [errW_none, errW_some] <;> rfl) | (simp [*, errW_none, errW_some] <;> rfl), blq HB.out⟩
              ·
               rw [if_neg c106] at H
               have c106b0 : decide (t916 < 0) = false := decide_eq_false c106
               clear c106
               (first | rw [c106b0] | (simp only [i64_w, i32_w]; rw [c106b0]) | skip)
               by_cases c107 : t916 = t900
               ·
                rw [if_pos c107] at H
                have c107b0 : (t916 == t900) = true := beq_iff_eq.mpr c107
                have c107b1 : (t916 != t900) = false := bne_eq_false_iff_eq.mpr c107
                clear c107
                obtain rfl := Option.some.inj H
                go_wp2
                go_ret
                exact ⟨by first | rfl | (simp [errW_none, errW_some] <;> rfl) | (simp [*, errW_none, errW_some] <;> rfl), blq HB.out⟩
               ·
                rw [if_neg c107] at H
                have c107b0 : (t916 == t900) = false := beq_eq_false_iff_ne.mpr c107
                have c107b1 : (t916 != t900) = true := bne_iff_ne.mpr c107
                obtain rfl := Option.some.inj H
                go_wp2
                go_ret
                exact ⟨by first | rfl | (simp [errW_none, errW_some] <;> rfl) | (simp [*, errW_none, errW_some] <;> rfl), blq HB.out⟩
             ·
              replace c103 := Bool.eq_false_iff.mpr c103
              subst c103
              have H1 : (some false) = some r := by rw [if_neg (show ¬ (false = true) by decide)] at H; exact H
              clear H
              have H := H1
              clear H1
              obtain rfl := Option.some.inj H
              go_wp2
              go_ret
              exact ⟨by first | rfl | (simp [errW_none, errW_some] <;> rfl) | (simp [*, errW_none, errW_some] <;> rfl), blq HB.out⟩
            ·
             rw [if_neg c86] at H
             have c86b0 : (t902 == t900) = false := beq_eq_false_iff_ne.mpr c86
             have c86b1 : (t902 != t900) = true := bne_iff_ne.mpr c86
             obtain rfl := Option.some.inj H
             go_wp2
             go_ret
             exact ⟨by first | rfl | (simp [errW_none, errW_some] <;> rfl) | (simp [*, errW_none, errW_some] <;> rfl), blq HB.out⟩
       ·
        replace c68 := Bool.eq_false_iff.mpr c68
        subst c68
        have H1 : (some false) = some r := by rw [if_neg (show ¬ (false = true) by decide)] at H; exact H
        clear H
        have H := H1
        clear H1
        obtain rfl := Option.some.inj H
        go_wp2
        go_ret
        exact ⟨by first | rfl | (simp [errW_none, errW_some] <;> rfl) | (simp [*, errW_none, errW_some] <;> rfl), blq HB.out⟩
      ·
       replace c62 := Bool.eq_false_iff.mpr c62
       subst c62
       have H1 : (some false) = some r := by rw [if_neg (show ¬ (false = true) by decide)] at H; exact H
       clear H
       have H := H1
       clear H1
       obtain rfl := Option.some.inj H
       go_wp2
       go_ret
       exact ⟨by first | rfl | (simp [errW_none, errW_some] <;> rfl) | (simp [*, errW_none, errW_some] <;> rfl), blq HB.out⟩
     ·
      replace c55 := Bool.eq_false_iff.mpr c55
      subst c55
      have H1 : (some false) = some r := by rw [if_neg (show ¬ (false = true) by decide)] at H; exact H
      clear H
      have H := H1
      clear H1
      obtain rfl := Option.some.inj H
      go_wp2
      go_ret
      exact ⟨by first | rfl | (simp [errW_none, errW_some] <;> rfl) | (simp [*, errW_none, errW_some] <;> rfl), blq HB.out⟩
    ·
     replace c47 := Bool.eq_false_iff.mpr c47
     subst c47
     have H1 : (some false) = some r := by rw [if_neg (show ¬ (false = true) by decide)] at H; exact H
     clear H
     have H := H1
     clear H1
     obtain rfl := Option.some.inj H
     go_wp2
     go_ret
     exact ⟨by first | rfl | (simp [errW_none, errW_some] <;> rfl) | (simp [*, errW_none, errW_some] <;> rfl), blq HB.out⟩

/-- What is left to prove of laws_FnExactMustBuy: over numbers and lists alone. -/
def laws_FnExactMustBuy.Pure : Prop := ∀ (l0_0 : List Int) (l1 : List (S51)) (l2 : List Int), ok_T49 (⟨l0_0⟩ : S49) → (Told.OkL ok_T51) l1 → (Told.OkL Told.I64) l2 → ∃ k, laws_FnExactMustBuy.f k l0_0 l1 l2 = some true

end Go.Proofs.Ytnlioefgpgamdaa.Q
