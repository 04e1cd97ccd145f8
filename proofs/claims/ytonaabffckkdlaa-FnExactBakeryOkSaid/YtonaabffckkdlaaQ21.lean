-- Written for this claim by wip/xprint.py of this repository (by way of the kit's print); Lean checks every line.
import Derived.Test.YtonaabffckkdlaaQ0
import Derived.Test.YtonaabffckkdlaaQ17
import Derived.Test.YtonaabffckkdlaaQ18
import Derived.Test.YtonaabffckkdlaaQ19
import Derived.Test.YtonaabffckkdlaaQ41
namespace Go.Proofs.Ytonaabffckkdlaa.Q
open Go.RowKit Go.Proofs.YtonaabffckkdlaaW.PrintWords Go.Proofs.YtonaabffckkdlaaW.PrintLast Go.Proofs.YtonaabffckkdlaaW.PrintMore
attribute [local go_sem] max2_int min2_int max_two min_two max_three min_three max_four min_four   -- for this text's walks alone
set_option linter.unusedVariables false
set_option linter.unusedSimpArgs false

/-! ### laws_FnExactBakeryOk: function 5 -/
def laws_FnExactBakeryOk.f (k : Nat) (l0_0 : List Int) (a0_1 : Int) (a0_2 : Int) (a0_3 : Int) (a0_4 : Int) (a0_5 : Int) (l0_6 : List (S39)) (a0_7 : Int) (a0_8 : Int) (a0_9 : Int) (a0_10 : Int) (a0_11 : Int) (a0_12 : Int) (a0_13 : Int) : Option (Bool) := (laws_szBakery.f l0_0 a0_1 a0_2 a0_3 a0_4 a0_5 l0_6 a0_7 a0_8 a0_9 a0_10 a0_11 a0_12 a0_13 1048576).bind fun t709 => (if t709 < 0 then (some true) else ((laws_toBakery.f k l0_0 a0_1 a0_2 a0_3 a0_4 a0_5 l0_6 a0_7 a0_8 a0_9 a0_10 a0_11 a0_12 a0_13).bind fun bt710 => ((spec_BakeryOk.f k bt710.1 bt710.2.1 bt710.2.2.1 bt710.2.2.2.1 bt710.2.2.2.2.1 bt710.2.2.2.2.2.1 bt710.2.2.2.2.2.2.1 bt710.2.2.2.2.2.2.2.1 bt710.2.2.2.2.2.2.2.2.1 bt710.2.2.2.2.2.2.2.2.2.1 bt710.2.2.2.2.2.2.2.2.2.2.1 bt710.2.2.2.2.2.2.2.2.2.2.2.1 bt710.2.2.2.2.2.2.2.2.2.2.2.2.1 bt710.2.2.2.2.2.2.2.2.2.2.2.2.2).bind fun t728 => ((laws_toBakery.f k l0_0 a0_1 a0_2 a0_3 a0_4 a0_5 l0_6 a0_7 a0_8 a0_9 a0_10 a0_11 a0_12 a0_13).bind fun bt729 => ((impl_BakeryOk.f k bt729.1 bt729.2.1 bt729.2.2.1 bt729.2.2.2.1 bt729.2.2.2.2.1 bt729.2.2.2.2.2.1 bt729.2.2.2.2.2.2.1 bt729.2.2.2.2.2.2.2.1 bt729.2.2.2.2.2.2.2.2.1 bt729.2.2.2.2.2.2.2.2.2.1 bt729.2.2.2.2.2.2.2.2.2.2.1 bt729.2.2.2.2.2.2.2.2.2.2.2.1 bt729.2.2.2.2.2.2.2.2.2.2.2.2.1 bt729.2.2.2.2.2.2.2.2.2.2.2.2.2).bind fun t748 => (if (t748 != t728) = true then (some false) else ((laws_toBakery.f k l0_0 a0_1 a0_2 a0_3 a0_4 a0_5 l0_6 a0_7 a0_8 a0_9 a0_10 a0_11 a0_12 a0_13).bind fun bt749 => ((laws_eqBakery.f k bt729.1 bt729.2.1 bt729.2.2.1 bt729.2.2.2.1 bt729.2.2.2.2.1 bt729.2.2.2.2.2.1 bt729.2.2.2.2.2.2.1 bt729.2.2.2.2.2.2.2.1 bt729.2.2.2.2.2.2.2.2.1 bt729.2.2.2.2.2.2.2.2.2.1 bt729.2.2.2.2.2.2.2.2.2.2.1 bt729.2.2.2.2.2.2.2.2.2.2.2.1 bt729.2.2.2.2.2.2.2.2.2.2.2.2.1 bt729.2.2.2.2.2.2.2.2.2.2.2.2.2 bt749.1 bt749.2.1 bt749.2.2.1 bt749.2.2.2.1 bt749.2.2.2.2.1 bt749.2.2.2.2.2.1 bt749.2.2.2.2.2.2.1 bt749.2.2.2.2.2.2.2.1 bt749.2.2.2.2.2.2.2.2.1 bt749.2.2.2.2.2.2.2.2.2.1 bt749.2.2.2.2.2.2.2.2.2.2.1 bt749.2.2.2.2.2.2.2.2.2.2.2.1 bt749.2.2.2.2.2.2.2.2.2.2.2.2.1 bt749.2.2.2.2.2.2.2.2.2.2.2.2.2).bind fun t767 => (if t767 = true then (some true) else (some false))))))))))
theorem laws_FnExactBakeryOk.mono : ∀ a0 a1 a2 a3 a4 a5 a6 a7 a8 a9 a10 a11 a12 a13 k, LeO (laws_FnExactBakeryOk.f k a0 a1 a2 a3 a4 a5 a6 a7 a8 a9 a10 a11 a12 a13) (laws_FnExactBakeryOk.f (k + 1) a0 a1 a2 a3 a4 a5 a6 a7 a8 a9 a10 a11 a12 a13) := by
 intro a0 a1 a2 a3 a4 a5 a6 a7 a8 a9 a10 a11 a12 a13 k
 unfold laws_FnExactBakeryOk.f
 repeat' first
   | (with_reducible exact impl_BakeryOk.mono _ _ _ _ _ _ _ _ _ _ _ _ _ _ _)
   | (with_reducible exact laws_eqBakery.mono _ _ _ _ _ _ _ _ _ _ _ _ _ _ _ _ _ _ _ _ _ _ _ _ _ _ _ _ _)
   | (with_reducible exact laws_toBakery.mono _ _ _ _ _ _ _ _ _ _ _ _ _ _ _)
   | (with_reducible exact spec_BakeryOk.mono _ _ _ _ _ _ _ _ _ _ _ _ _ _ _)
   | (with_reducible exact LeO.refl _)
   | (with_reducible exact LeO.none _)
   | (with_reducible refine LeO.ite ?_ ?_)
   | (with_reducible refine LeO.bind ?_ (fun _ => ?_))
   | exact impl_BakeryOk.mono _ _ _ _ _ _ _ _ _ _ _ _ _ _ _
   | exact laws_eqBakery.mono _ _ _ _ _ _ _ _ _ _ _ _ _ _ _ _ _ _ _ _ _ _ _ _ _ _ _ _ _
   | exact laws_toBakery.mono _ _ _ _ _ _ _ _ _ _ _ _ _ _ _
   | exact spec_BakeryOk.mono _ _ _ _ _ _ _ _ _ _ _ _ _ _ _
   | exact LeO.none _
   | refine LeO.ite ?_ ?_
   | refine LeO.bind ?_ (fun _ => ?_)
set_option maxHeartbeats 8000000 in
set_option maxRecDepth 100000 in
theorem laws_FnExactBakeryOk.calls (k : Nat) (A0_0 : Option Addr) (c0_0 : Nat) (l0_0 : List Int) (a0_1 : Int) (a0_2 : Int) (a0_3 : Int) (a0_4 : Int) (a0_5 : Int) (A0_6 : Option Addr) (c0_6 : Nat) (l0_6 : List (S39)) (a0_7 : Int) (a0_8 : Int) (a0_9 : Int) (a0_10 : Int) (a0_11 : Int) (a0_12 : Int) (a0_13 : Int) (r : Bool) (w : World) (hr0_0 : Kd.C (Kd.int .i64) w A0_0 l0_0.length l0_0) (hc0_0 : l0_0.length ≤ c0_0) (hr0_6 : Kd.C k39 w A0_6 l0_6.length l0_6) (hc0_6 : l0_6.length ≤ c0_6) (h : laws_FnExactBakeryOk.f k l0_0 a0_1 a0_2 a0_3 a0_4 a0_5 l0_6 a0_7 a0_8 a0_9 a0_10 a0_11 a0_12 a0_13 = some r) :
  Calls Try.prog 5 #[.agg #[.slice A0_0 l0_0.length c0_0, .int .i64 a0_1, .int .i64 a0_2, .int .i64 a0_3, .int .i64 a0_4, .int .i64 a0_5, .slice A0_6 l0_6.length c0_6, .int .i64 a0_7, .int .i64 a0_8, .int .i64 a0_9, .int .i64 a0_10, .int .i64 a0_11, .int .i64 a0_12, .int .i64 a0_13]] w fun e w' => e = .returned (.bool r) ∧ Below w.heap.size w w' := by
 have hu52 := Try.underlying52
 have hu59 := Try.underlying59
 have HR0_0 := Aside0.mk hr0_0
 have HC0_0 := Aside0.mk hc0_0
 clear hr0_0 hc0_0
 have HR0_6 := Aside0.mk hr0_6
 have HC0_6 := Aside0.mk hc0_6
 clear hr0_6 hc0_6
 have HB := Aside0.mk (Below.refl w.heap.size w)
 have H : ((laws_szBakery.f l0_0 a0_1 a0_2 a0_3 a0_4 a0_5 l0_6 a0_7 a0_8 a0_9 a0_10 a0_11 a0_12 a0_13 1048576).bind fun t709 => (if t709 < 0 then (some true) else ((laws_toBakery.f k l0_0 a0_1 a0_2 a0_3 a0_4 a0_5 l0_6 a0_7 a0_8 a0_9 a0_10 a0_11 a0_12 a0_13).bind fun bt710 => ((spec_BakeryOk.f k bt710.1 bt710.2.1 bt710.2.2.1 bt710.2.2.2.1 bt710.2.2.2.2.1 bt710.2.2.2.2.2.1 bt710.2.2.2.2.2.2.1 bt710.2.2.2.2.2.2.2.1 bt710.2.2.2.2.2.2.2.2.1 bt710.2.2.2.2.2.2.2.2.2.1 bt710.2.2.2.2.2.2.2.2.2.2.1 bt710.2.2.2.2.2.2.2.2.2.2.2.1 bt710.2.2.2.2.2.2.2.2.2.2.2.2.1 bt710.2.2.2.2.2.2.2.2.2.2.2.2.2).bind fun t728 => ((laws_toBakery.f k l0_0 a0_1 a0_2 a0_3 a0_4 a0_5 l0_6 a0_7 a0_8 a0_9 a0_10 a0_11 a0_12 a0_13).bind fun bt729 => ((impl_BakeryOk.f k bt729.1 bt729.2.1 bt729.2.2.1 bt729.2.2.2.1 bt729.2.2.2.2.1 bt729.2.2.2.2.2.1 bt729.2.2.2.2.2.2.1 bt729.2.2.2.2.2.2.2.1 bt729.2.2.2.2.2.2.2.2.1 bt729.2.2.2.2.2.2.2.2.2.1 bt729.2.2.2.2.2.2.2.2.2.2.1 bt729.2.2.2.2.2.2.2.2.2.2.2.1 bt729.2.2.2.2.2.2.2.2.2.2.2.2.1 bt729.2.2.2.2.2.2.2.2.2.2.2.2.2).bind fun t748 => (if (t748 != t728) = true then (some false) else ((laws_toBakery.f k l0_0 a0_1 a0_2 a0_3 a0_4 a0_5 l0_6 a0_7 a0_8 a0_9 a0_10 a0_11 a0_12 a0_13).bind fun bt749 => ((laws_eqBakery.f k bt729.1 bt729.2.1 bt729.2.2.1 bt729.2.2.2.1 bt729.2.2.2.2.1 bt729.2.2.2.2.2.1 bt729.2.2.2.2.2.2.1 bt729.2.2.2.2.2.2.2.1 bt729.2.2.2.2.2.2.2.2.1 bt729.2.2.2.2.2.2.2.2.2.1 bt729.2.2.2.2.2.2.2.2.2.2.1 bt729.2.2.2.2.2.2.2.2.2.2.2.1 bt729.2.2.2.2.2.2.2.2.2.2.2.2.1 bt729.2.2.2.2.2.2.2.2.2.2.2.2.2 bt749.1 bt749.2.1 bt749.2.2.1 bt749.2.2.2.1 bt749.2.2.2.2.1 bt749.2.2.2.2.2.1 bt749.2.2.2.2.2.2.1 bt749.2.2.2.2.2.2.2.1 bt749.2.2.2.2.2.2.2.2.1 bt749.2.2.2.2.2.2.2.2.2.1 bt749.2.2.2.2.2.2.2.2.2.2.1 bt749.2.2.2.2.2.2.2.2.2.2.2.1 bt749.2.2.2.2.2.2.2.2.2.2.2.2.1 bt749.2.2.2.2.2.2.2.2.2.2.2.2.2).bind fun t767 => (if t767 = true then (some true) else (some false))))))))))) = some r := h
 clear h
 replace H := Option.bind_eq_some_iff.mp H
 obtain ⟨t709, A20, H⟩ := H
 replace H : (if t709 < 0 then (some true) else ((laws_toBakery.f k l0_0 a0_1 a0_2 a0_3 a0_4 a0_5 l0_6 a0_7 a0_8 a0_9 a0_10 a0_11 a0_12 a0_13).bind fun bt710 => ((spec_BakeryOk.f k bt710.1 bt710.2.1 bt710.2.2.1 bt710.2.2.2.1 bt710.2.2.2.2.1 bt710.2.2.2.2.2.1 bt710.2.2.2.2.2.2.1 bt710.2.2.2.2.2.2.2.1 bt710.2.2.2.2.2.2.2.2.1 bt710.2.2.2.2.2.2.2.2.2.1 bt710.2.2.2.2.2.2.2.2.2.2.1 bt710.2.2.2.2.2.2.2.2.2.2.2.1 bt710.2.2.2.2.2.2.2.2.2.2.2.2.1 bt710.2.2.2.2.2.2.2.2.2.2.2.2.2).bind fun t728 => ((laws_toBakery.f k l0_0 a0_1 a0_2 a0_3 a0_4 a0_5 l0_6 a0_7 a0_8 a0_9 a0_10 a0_11 a0_12 a0_13).bind fun bt729 => ((impl_BakeryOk.f k bt729.1 bt729.2.1 bt729.2.2.1 bt729.2.2.2.1 bt729.2.2.2.2.1 bt729.2.2.2.2.2.1 bt729.2.2.2.2.2.2.1 bt729.2.2.2.2.2.2.2.1 bt729.2.2.2.2.2.2.2.2.1 bt729.2.2.2.2.2.2.2.2.2.1 bt729.2.2.2.2.2.2.2.2.2.2.1 bt729.2.2.2.2.2.2.2.2.2.2.2.1 bt729.2.2.2.2.2.2.2.2.2.2.2.2.1 bt729.2.2.2.2.2.2.2.2.2.2.2.2.2).bind fun t748 => (if (t748 != t728) = true then (some false) else ((laws_toBakery.f k l0_0 a0_1 a0_2 a0_3 a0_4 a0_5 l0_6 a0_7 a0_8 a0_9 a0_10 a0_11 a0_12 a0_13).bind fun bt749 => ((laws_eqBakery.f k bt729.1 bt729.2.1 bt729.2.2.1 bt729.2.2.2.1 bt729.2.2.2.2.1 bt729.2.2.2.2.2.1 bt729.2.2.2.2.2.2.1 bt729.2.2.2.2.2.2.2.1 bt729.2.2.2.2.2.2.2.2.1 bt729.2.2.2.2.2.2.2.2.2.1 bt729.2.2.2.2.2.2.2.2.2.2.1 bt729.2.2.2.2.2.2.2.2.2.2.2.1 bt729.2.2.2.2.2.2.2.2.2.2.2.2.1 bt729.2.2.2.2.2.2.2.2.2.2.2.2.2 bt749.1 bt749.2.1 bt749.2.2.1 bt749.2.2.2.1 bt749.2.2.2.2.1 bt749.2.2.2.2.2.1 bt749.2.2.2.2.2.2.1 bt749.2.2.2.2.2.2.2.1 bt749.2.2.2.2.2.2.2.2.1 bt749.2.2.2.2.2.2.2.2.2.1 bt749.2.2.2.2.2.2.2.2.2.2.1 bt749.2.2.2.2.2.2.2.2.2.2.2.1 bt749.2.2.2.2.2.2.2.2.2.2.2.2.1 bt749.2.2.2.2.2.2.2.2.2.2.2.2.2).bind fun t767 => (if t767 = true then (some true) else (some false)))))))))) = some r := H
 have A2 := Aside0.mk A20
 clear A20
 have HF3 := Aside0.mk H
 clear H
 go_enter Try.func5, Try.ntmps5
 go_upto_if 11 with (first | ((with_reducible refine gate_dst (N := 1) rfl ?_); refine box_event ?hg (N := 1) ?hd (cs := #[.slice A0_0 l0_0.length c0_0, .int .i64 a0_1, .int .i64 a0_2, .int .i64 a0_3, .int .i64 a0_4, .int .i64 a0_5, .slice A0_6 l0_6.length c0_6, .int .i64 a0_7, .int .i64 a0_8, .int .i64 a0_9, .int .i64 a0_10, .int .i64 a0_11, .int .i64 a0_12, .int .i64 a0_13]) (t := 52) ?hr ?_; (case hd => rfl); (case hg => rfl); (case hr => first | (go_simp; done) | (go_simp; rfl)); intro gb708 hg w4 hbox hb; have n0_ := Aside0.mk (below_step (blq HB.out) hb); have n1_ := Aside0.mk (hbox); have n2_ := Aside0.mk ((sq hg HB.out)); have n3_ := Aside0.mk ((sq hg HB.out)); clear HB; have HB := n0_; have BK708 := n1_; have GW708 := n2_; have GE708 := n3_; clear n0_ n1_ n2_ n3_; clear hb hbox hg; obtain ⟨hcz5_0, hcz5_1, hcz5_2, hcz5_3, hcz5_4, hcz5_5, hcz5_6, hcz5_7, hcz5_8, hcz5_9, hcz5_10, hcz5_11, hcz5_12, hcz5_13, hfz5_0, hfz5_1, hfz5_2, hfz5_3, hfz5_4, hfz5_5, hfz5_6, hfz5_7, hfz5_8, hfz5_9, hfz5_10, hfz5_11, hfz5_12, hfz5_13⟩ := bq14 BK708.out) | ((with_reducible refine gate_callee (f := 23) rfl ?_); refine gLq (some 9) Try.func23 #[.agg #[.slice A0_0 l0_0.length c0_0, .int .i64 a0_1, .int .i64 a0_2, .int .i64 a0_3, .int .i64 a0_4, .int .i64 a0_5, .slice A0_6 l0_6.length c0_6, .int .i64 a0_7, .int .i64 a0_8, .int .i64 a0_9, .int .i64 a0_10, .int .i64 a0_11, .int .i64 a0_12, .int .i64 a0_13], .int .i64 1048576] ?_; (with_reducible refine (laws_szBakery.calls _ _ l0_0 a0_1 a0_2 a0_3 a0_4 a0_5 _ _ l0_6 a0_7 a0_8 a0_9 a0_10 a0_11 a0_12 a0_13 1048576 t709 _ ?side1 ?side2 ?side3 ?side4 A2.out).mono ?_); (case side1 => exact Kd.Cq (Kd.C_below HR0_0.out HB.out)); (case side2 => exact HC0_0.out); (case side3 => exact Kd.Cq (Kd.C_below HR0_6.out HB.out)); (case side4 => exact HC0_6.out); rintro e w6 ⟨rfl, hb⟩; refine ⟨_, rfl, ?_⟩; have n0_ := Aside0.mk (blk_below (bkq BK708.out) hb); have n1_ := Aside0.mk (below_step (blq HB.out) hb); clear BK708; clear HB; have BK708 := n0_; have HB := n1_; clear n0_ n1_; (try clear hb); (try clear hb2); (try clear hk); (try clear hi)))
 have H := HF3.out
 clear HF3
 by_cases c7 : t709 < 0
 ·
  rw [if_pos c7] at H
  have c7b0 : decide (t709 < 0) = true := decide_eq_true c7
  clear c7
  (first | rw [c7b0] | (simp only [i64_w, i32_w]; rw [c7b0]) | skip)
  obtain rfl := Option.some.inj H
  go_wp2
  go_ret
  exact ⟨by first | rfl | (simp [errW_none, errW_some] <;> rfl) | (simp [*, errW_none, errW_some] <;> rfl), blq HB.out⟩
 ·
  rw [if_neg c7] at H
  have c7b0 : decide (t709 < 0) = false := decide_eq_false c7
  clear c7
  (first | rw [c7b0] | (simp only [i64_w, i32_w]; rw [c7b0]) | skip)
  replace H := Option.bind_eq_some_iff.mp H
  obtain ⟨⟨t710, t713, t714, t715, t716, t717, t718, t721, t722, t723, t724, t725, t726, t727⟩, A80, H⟩ := H
  replace H : ((spec_BakeryOk.f k t710 t713 t714 t715 t716 t717 t718 t721 t722 t723 t724 t725 t726 t727).bind fun t728 => ((laws_toBakery.f k l0_0 a0_1 a0_2 a0_3 a0_4 a0_5 l0_6 a0_7 a0_8 a0_9 a0_10 a0_11 a0_12 a0_13).bind fun bt729 => ((impl_BakeryOk.f k bt729.1 bt729.2.1 bt729.2.2.1 bt729.2.2.2.1 bt729.2.2.2.2.1 bt729.2.2.2.2.2.1 bt729.2.2.2.2.2.2.1 bt729.2.2.2.2.2.2.2.1 bt729.2.2.2.2.2.2.2.2.1 bt729.2.2.2.2.2.2.2.2.2.1 bt729.2.2.2.2.2.2.2.2.2.2.1 bt729.2.2.2.2.2.2.2.2.2.2.2.1 bt729.2.2.2.2.2.2.2.2.2.2.2.2.1 bt729.2.2.2.2.2.2.2.2.2.2.2.2.2).bind fun t748 => (if (t748 != t728) = true then (some false) else ((laws_toBakery.f k l0_0 a0_1 a0_2 a0_3 a0_4 a0_5 l0_6 a0_7 a0_8 a0_9 a0_10 a0_11 a0_12 a0_13).bind fun bt749 => ((laws_eqBakery.f k bt729.1 bt729.2.1 bt729.2.2.1 bt729.2.2.2.1 bt729.2.2.2.2.1 bt729.2.2.2.2.2.1 bt729.2.2.2.2.2.2.1 bt729.2.2.2.2.2.2.2.1 bt729.2.2.2.2.2.2.2.2.1 bt729.2.2.2.2.2.2.2.2.2.1 bt729.2.2.2.2.2.2.2.2.2.2.1 bt729.2.2.2.2.2.2.2.2.2.2.2.1 bt729.2.2.2.2.2.2.2.2.2.2.2.2.1 bt729.2.2.2.2.2.2.2.2.2.2.2.2.2 bt749.1 bt749.2.1 bt749.2.2.1 bt749.2.2.2.1 bt749.2.2.2.2.1 bt749.2.2.2.2.2.1 bt749.2.2.2.2.2.2.1 bt749.2.2.2.2.2.2.2.1 bt749.2.2.2.2.2.2.2.2.1 bt749.2.2.2.2.2.2.2.2.2.1 bt749.2.2.2.2.2.2.2.2.2.2.1 bt749.2.2.2.2.2.2.2.2.2.2.2.1 bt749.2.2.2.2.2.2.2.2.2.2.2.2.1 bt749.2.2.2.2.2.2.2.2.2.2.2.2.2).bind fun t767 => (if t767 = true then (some true) else (some false)))))))) = some r := H
  have A8 := Aside0.mk A80
  clear A80
  replace H := Option.bind_eq_some_iff.mp H
  obtain ⟨t728, A90, H⟩ := H
  replace H : ((laws_toBakery.f k l0_0 a0_1 a0_2 a0_3 a0_4 a0_5 l0_6 a0_7 a0_8 a0_9 a0_10 a0_11 a0_12 a0_13).bind fun bt729 => ((impl_BakeryOk.f k bt729.1 bt729.2.1 bt729.2.2.1 bt729.2.2.2.1 bt729.2.2.2.2.1 bt729.2.2.2.2.2.1 bt729.2.2.2.2.2.2.1 bt729.2.2.2.2.2.2.2.1 bt729.2.2.2.2.2.2.2.2.1 bt729.2.2.2.2.2.2.2.2.2.1 bt729.2.2.2.2.2.2.2.2.2.2.1 bt729.2.2.2.2.2.2.2.2.2.2.2.1 bt729.2.2.2.2.2.2.2.2.2.2.2.2.1 bt729.2.2.2.2.2.2.2.2.2.2.2.2.2).bind fun t748 => (if (t748 != t728) = true then (some false) else ((laws_toBakery.f k l0_0 a0_1 a0_2 a0_3 a0_4 a0_5 l0_6 a0_7 a0_8 a0_9 a0_10 a0_11 a0_12 a0_13).bind fun bt749 => ((laws_eqBakery.f k bt729.1 bt729.2.1 bt729.2.2.1 bt729.2.2.2.1 bt729.2.2.2.2.1 bt729.2.2.2.2.2.1 bt729.2.2.2.2.2.2.1 bt729.2.2.2.2.2.2.2.1 bt729.2.2.2.2.2.2.2.2.1 bt729.2.2.2.2.2.2.2.2.2.1 bt729.2.2.2.2.2.2.2.2.2.2.1 bt729.2.2.2.2.2.2.2.2.2.2.2.1 bt729.2.2.2.2.2.2.2.2.2.2.2.2.1 bt729.2.2.2.2.2.2.2.2.2.2.2.2.2 bt749.1 bt749.2.1 bt749.2.2.1 bt749.2.2.2.1 bt749.2.2.2.2.1 bt749.2.2.2.2.2.1 bt749.2.2.2.2.2.2.1 bt749.2.2.2.2.2.2.2.1 bt749.2.2.2.2.2.2.2.2.1 bt749.2.2.2.2.2.2.2.2.2.1 bt749.2.2.2.2.2.2.2.2.2.2.1 bt749.2.2.2.2.2.2.2.2.2.2.2.1 bt749.2.2.2.2.2.2.2.2.2.2.2.2.1 bt749.2.2.2.2.2.2.2.2.2.2.2.2.2).bind fun t767 => (if t767 = true then (some true) else (some false))))))) = some r := H
  have A9 := Aside0.mk A90
  clear A90
  replace H := Option.bind_eq_some_iff.mp H
  obtain ⟨⟨t729, t732, t733, t734, t735, t736, t737, t740, t741, t742, t743, t744, t745, t746⟩, A100, H⟩ := H
  replace H : ((impl_BakeryOk.f k t729 t732 t733 t734 t735 t736 t737 t740 t741 t742 t743 t744 t745 t746).bind fun t748 => (if (t748 != t728) = true then (some false) else ((laws_toBakery.f k l0_0 a0_1 a0_2 a0_3 a0_4 a0_5 l0_6 a0_7 a0_8 a0_9 a0_10 a0_11 a0_12 a0_13).bind fun bt749 => ((laws_eqBakery.f k t729 t732 t733 t734 t735 t736 t737 t740 t741 t742 t743 t744 t745 t746 bt749.1 bt749.2.1 bt749.2.2.1 bt749.2.2.2.1 bt749.2.2.2.2.1 bt749.2.2.2.2.2.1 bt749.2.2.2.2.2.2.1 bt749.2.2.2.2.2.2.2.1 bt749.2.2.2.2.2.2.2.2.1 bt749.2.2.2.2.2.2.2.2.2.1 bt749.2.2.2.2.2.2.2.2.2.2.1 bt749.2.2.2.2.2.2.2.2.2.2.2.1 bt749.2.2.2.2.2.2.2.2.2.2.2.2.1 bt749.2.2.2.2.2.2.2.2.2.2.2.2.2).bind fun t767 => (if t767 = true then (some true) else (some false)))))) = some r := H
  have A10 := Aside0.mk A100
  clear A100
  replace H := Option.bind_eq_some_iff.mp H
  obtain ⟨t748, A110, H⟩ := H
  replace H : (if (t748 != t728) = true then (some false) else ((laws_toBakery.f k l0_0 a0_1 a0_2 a0_3 a0_4 a0_5 l0_6 a0_7 a0_8 a0_9 a0_10 a0_11 a0_12 a0_13).bind fun bt749 => ((laws_eqBakery.f k t729 t732 t733 t734 t735 t736 t737 t740 t741 t742 t743 t744 t745 t746 bt749.1 bt749.2.1 bt749.2.2.1 bt749.2.2.2.1 bt749.2.2.2.2.1 bt749.2.2.2.2.2.1 bt749.2.2.2.2.2.2.1 bt749.2.2.2.2.2.2.2.1 bt749.2.2.2.2.2.2.2.2.1 bt749.2.2.2.2.2.2.2.2.2.1 bt749.2.2.2.2.2.2.2.2.2.2.1 bt749.2.2.2.2.2.2.2.2.2.2.2.1 bt749.2.2.2.2.2.2.2.2.2.2.2.2.1 bt749.2.2.2.2.2.2.2.2.2.2.2.2.2).bind fun t767 => (if t767 = true then (some true) else (some false))))) = some r := H
  have A11 := Aside0.mk A110
  clear A110
  have HF12 := Aside0.mk H
  clear H
  obtain ⟨hcz13_0, hcz13_1, hcz13_2, hcz13_3, hcz13_4, hcz13_5, hcz13_6, hcz13_7, hcz13_8, hcz13_9, hcz13_10, hcz13_11, hcz13_12, hcz13_13, hfz13_0, hfz13_1, hfz13_2, hfz13_3, hfz13_4, hfz13_5, hfz13_6, hfz13_7, hfz13_8, hfz13_9, hfz13_10, hfz13_11, hfz13_12, hfz13_13⟩ := bq14 BK708.out
  go_upto_if 21 with (first | ((with_reducible refine gate_callee (f := 25) rfl ?_); refine gLq (some 13) Try.func25 #[.agg #[.slice A0_0 l0_0.length c0_0, .int .i64 a0_1, .int .i64 a0_2, .int .i64 a0_3, .int .i64 a0_4, .int .i64 a0_5, .slice A0_6 l0_6.length c0_6, .int .i64 a0_7, .int .i64 a0_8, .int .i64 a0_9, .int .i64 a0_10, .int .i64 a0_11, .int .i64 a0_12, .int .i64 a0_13]] ?_; (with_reducible refine (laws_toBakery.calls k _ _ l0_0 a0_1 a0_2 a0_3 a0_4 a0_5 _ _ l0_6 a0_7 a0_8 a0_9 a0_10 a0_11 a0_12 a0_13 t710 t713 t714 t715 t716 t717 t718 t721 t722 t723 t724 t725 t726 t727 _ ?side1 ?side2 ?side3 ?side4 A8.out).mono ?_); (case side1 => exact Kd.Cq (Kd.C_below HR0_0.out HB.out)); (case side2 => exact HC0_0.out); (case side3 => exact Kd.Cq (Kd.C_below HR0_6.out HB.out)); (case side4 => exact HC0_6.out); rintro e w14 ⟨v711, v719, rfl, ho0, ho1, hb⟩; refine ⟨_, rfl, ?_⟩; have n0_ := Aside0.mk (Kd.R_lower ho0 (below_size (blq HB.out))); have n1_ := Aside0.mk (Kd.R_lower ho1 (below_size (blq HB.out))); have n2_ := Aside0.mk (blk_below (bkq BK708.out) hb); have n3_ := Aside0.mk (below_step (blq HB.out) hb); clear BK708; clear HB; have HO712 := n0_; have HO720 := n1_; have BK708 := n2_; have HB := n3_; clear n0_ n1_ n2_ n3_; (try clear hb); (try clear hb2); (try clear hk); (try clear hi); (try clear ho0); (try clear ho1); obtain ⟨Ao15, co15, eo15⟩ := Kd.R_slice HO712.out; subst eo15; obtain ⟨Ao16, co16, eo16⟩ := Kd.R_slice HO720.out; subst eo16) | ((with_reducible refine gate_callee (f := 24) rfl ?_); refine gLq (some 14) Try.func24 #[.agg #[.slice Ao15 t710.length co15, .int .i64 t713, .int .i64 t714, .int .i64 t715, .int .i64 t716, .int .i64 t717, .slice Ao16 t718.length co16, .int .i64 t721, .int .i64 t722, .int .i64 t723, .int .i64 t724, .int .i64 t725, .int .i64 t726, .int .i64 t727]] ?_; (with_reducible refine (spec_BakeryOk.calls k _ _ t710 t713 t714 t715 t716 t717 _ _ t718 t721 t722 t723 t724 t725 t726 t727 t728 _ ?side1 ?side2 ?side3 ?side4 A9.out).mono ?_); (case side1 => repeat (first | exact (Kd.R_reads' HO712.out).2.2 | (with_reducible refine Kd.C_alloc ?_ _) | (with_reducible refine Kd.C_drewN ?_ _) | (with_reducible refine Kd.C_drew ?_))); (case side2 => exact (Kd.R_reads' HO712.out).2.1); (case side3 => repeat (first | exact (Kd.R_reads' HO720.out).2.2 | (with_reducible refine Kd.C_alloc ?_ _) | (with_reducible refine Kd.C_drewN ?_ _) | (with_reducible refine Kd.C_drew ?_))); (case side4 => exact (Kd.R_reads' HO720.out).2.1); rintro e w17 ⟨rfl, hb⟩; refine ⟨_, rfl, ?_⟩; have n0_ := Aside0.mk (Kd.R_below (Kd.Rq HO712.out) hb); have n1_ := Aside0.mk (Kd.R_below (Kd.Rq HO720.out) hb); have n2_ := Aside0.mk (blk_below (bkq BK708.out) hb); have n3_ := Aside0.mk (below_step (blq HB.out) hb); clear HO712; clear HO720; clear BK708; clear HB; have HO712 := n0_; have HO720 := n1_; have BK708 := n2_; have HB := n3_; clear n0_ n1_ n2_ n3_; (try clear hb); (try clear hb2); (try clear hk); (try clear hi); obtain ⟨hcz18_0, hcz18_1, hcz18_2, hcz18_3, hcz18_4, hcz18_5, hcz18_6, hcz18_7, hcz18_8, hcz18_9, hcz18_10, hcz18_11, hcz18_12, hcz18_13, hfz18_0, hfz18_1, hfz18_2, hfz18_3, hfz18_4, hfz18_5, hfz18_6, hfz18_7, hfz18_8, hfz18_9, hfz18_10, hfz18_11, hfz18_12, hfz18_13⟩ := bq14 BK708.out) | ((with_reducible refine gate_callee (f := 25) rfl ?_); refine gLq (some 16) Try.func25 #[.agg #[.slice A0_0 l0_0.length c0_0, .int .i64 a0_1, .int .i64 a0_2, .int .i64 a0_3, .int .i64 a0_4, .int .i64 a0_5, .slice A0_6 l0_6.length c0_6, .int .i64 a0_7, .int .i64 a0_8, .int .i64 a0_9, .int .i64 a0_10, .int .i64 a0_11, .int .i64 a0_12, .int .i64 a0_13]] ?_; (with_reducible refine (laws_toBakery.calls k _ _ l0_0 a0_1 a0_2 a0_3 a0_4 a0_5 _ _ l0_6 a0_7 a0_8 a0_9 a0_10 a0_11 a0_12 a0_13 t729 t732 t733 t734 t735 t736 t737 t740 t741 t742 t743 t744 t745 t746 _ ?side1 ?side2 ?side3 ?side4 A10.out).mono ?_); (case side1 => exact Kd.Cq (Kd.C_below HR0_0.out HB.out)); (case side2 => exact HC0_0.out); (case side3 => exact Kd.Cq (Kd.C_below HR0_6.out HB.out)); (case side4 => exact HC0_6.out); rintro e w19 ⟨v730, v738, rfl, ho0, ho1, hb⟩; refine ⟨_, rfl, ?_⟩; have n0_ := Aside0.mk (Kd.R_elder' (Kd.Rq HO712.out) (Kd.R_base ho0) hb); have n1_ := Aside0.mk (Kd.R_elder' (Kd.Rq HO720.out) (Kd.R_base ho1) hb); have n2_ := Aside0.mk (Kd.R_lower (Kd.R_new' ho0 (Kd.R_lt (Kd.Rq HO712.out))) (below_size (blq HB.out))); have n3_ := Aside0.mk (Kd.R_lower (Kd.R_new' ho1 (Kd.R_lt (Kd.Rq HO720.out))) (below_size (blq HB.out))); have n4_ := Aside0.mk (blk_below (bkq BK708.out) hb); have n5_ := Aside0.mk (below_step (blq HB.out) hb); clear HO712; clear HO720; clear BK708; clear HB; have HO712 := n0_; have HO720 := n1_; have HO731 := n2_; have HO739 := n3_; have BK708 := n4_; have HB := n5_; clear n0_ n1_ n2_ n3_ n4_ n5_; (try clear hb); (try clear hb2); (try clear hk); (try clear hi); (try clear ho0); (try clear ho1)) | ((with_reducible refine gate_dst (N := 5) rfl ?_); refine box_event ?hg (N := 5) ?hd (cs := #[.slice none 0 0, .int .i64 0, .int .i64 0, .int .i64 0, .int .i64 0, .int .i64 0, .slice none 0 0, .int .i64 0, .int .i64 0, .int .i64 0, .int .i64 0, .int .i64 0, .int .i64 0, .int .i64 0]) (t := 59) ?hr ?_; (case hd => rfl); (case hg => rfl); (case hr => first | (go_simp; done) | (go_simp; rfl)); intro gb747 hg w20 hbox hb; have n0_ := Aside0.mk (Kd.R_below (Kd.Rq HO712.out) hb); have n1_ := Aside0.mk (Kd.R_below (Kd.Rq HO720.out) hb); have n2_ := Aside0.mk (Kd.R_below (Kd.Rq HO731.out) hb); have n3_ := Aside0.mk (Kd.R_below (Kd.Rq HO739.out) hb); have n4_ := Aside0.mk (blk_below (bkq BK708.out) hb); have n5_ := Aside0.mk (below_step (blq HB.out) hb); have n6_ := Aside0.mk (hbox); have n7_ := Aside0.mk ((sq hg HB.out)); have n8_ := Aside0.mk ((sq hg HB.out)); have n9_ := Aside0.mk ((by rw [hg]; exact Nat.ne_of_lt (blk_lt (bkq BK708.out)) : gb708 ≠ gb747)); have n10_ := Aside0.mk ((by rw [hg]; exact Nat.ne_of_gt (blk_lt (bkq BK708.out)) : gb747 ≠ gb708)); clear HO712; clear HO720; clear HO731; clear HO739; clear BK708; clear HB; have HO712 := n0_; have HO720 := n1_; have HO731 := n2_; have HO739 := n3_; have BK708 := n4_; have HB := n5_; have BK747 := n6_; have GW747 := n7_; have GE747 := n8_; have NB708_747 := n9_; have NB747_708 := n10_; clear n0_ n1_ n2_ n3_ n4_ n5_ n6_ n7_ n8_ n9_ n10_; clear hb hbox hg; obtain ⟨Ao21, co21, eo21⟩ := Kd.R_slice HO731.out; subst eo21; have hnb22 := NB747_708.out; have hnc22 := NB708_747.out; obtain ⟨hcz23_0, hcz23_1, hcz23_2, hcz23_3, hcz23_4, hcz23_5, hcz23_6, hcz23_7, hcz23_8, hcz23_9, hcz23_10, hcz23_11, hcz23_12, hcz23_13, hfz23_0, hfz23_1, hfz23_2, hfz23_3, hfz23_4, hfz23_5, hfz23_6, hfz23_7, hfz23_8, hfz23_9, hfz23_10, hfz23_11, hfz23_12, hfz23_13⟩ := bq14 BK747.out; obtain ⟨Ao24, co24, eo24⟩ := Kd.R_slice HO739.out; subst eo24) | ((with_reducible refine gate_callee (f := 26) rfl ?_); refine gLq (some 18) Try.func26 #[.agg #[.slice Ao21 t729.length co21, .int .i64 t732, .int .i64 t733, .int .i64 t734, .int .i64 t735, .int .i64 t736, .slice Ao24 t737.length co24, .int .i64 t740, .int .i64 t741, .int .i64 t742, .int .i64 t743, .int .i64 t744, .int .i64 t745, .int .i64 t746]] ?_; (with_reducible refine (impl_BakeryOk.calls k _ _ t729 t732 t733 t734 t735 t736 _ _ t737 t740 t741 t742 t743 t744 t745 t746 t748 _ ?side1 ?side2 ?side3 ?side4 A11.out).mono ?_); (case side1 => refine (Kd.R_reads' (e := 3) (base := w.heap.size) (ok := fun k_ => (True ∧ some k_ ≠ (.slice Ao15 t710.length co15 : Value).ownBlock)) (n := t729.length) (c := co21) ?_).2.2; exact (Kd.Rq (Kd.R_mono (Kd.R_far (p := ⟨gb747, 13, none⟩) (Kd.R_far (p := ⟨gb747, 12, none⟩) (Kd.R_far (p := ⟨gb747, 11, none⟩) (Kd.R_far (p := ⟨gb747, 10, none⟩) (Kd.R_far (p := ⟨gb747, 9, none⟩) (Kd.R_far (p := ⟨gb747, 8, none⟩) (Kd.R_far (p := ⟨gb747, 7, none⟩) (Kd.R_far (p := ⟨gb747, 6, none⟩) (Kd.R_far (p := ⟨gb747, 5, none⟩) (Kd.R_far (p := ⟨gb747, 4, none⟩) (Kd.R_far (p := ⟨gb747, 3, none⟩) (Kd.R_far (p := ⟨gb747, 2, none⟩) (Kd.R_far (p := ⟨gb747, 1, none⟩) (Kd.R_far (p := ⟨gb747, 0, none⟩) (Kd.R_types HO731.out BK747.out (by decide)) (fun _ hk => hk.2) (.slice Ao21 t729.length co21)) (fun _ hk => hk.2) (.int .i64 t732)) (fun _ hk => hk.2) (.int .i64 t733)) (fun _ hk => hk.2) (.int .i64 t734)) (fun _ hk => hk.2) (.int .i64 t735)) (fun _ hk => hk.2) (.int .i64 t736)) (fun _ hk => hk.2) (.slice Ao24 t737.length co24)) (fun _ hk => hk.2) (.int .i64 t740)) (fun _ hk => hk.2) (.int .i64 t741)) (fun _ hk => hk.2) (.int .i64 t742)) (fun _ hk => hk.2) (.int .i64 t743)) (fun _ hk => hk.2) (.int .i64 t744)) (fun _ hk => hk.2) (.int .i64 t745)) (fun _ hk => hk.2) (.int .i64 t746)) (fun _ h_ => h_.1)))); (case side2 => exact (Kd.R_reads' HO731.out).2.1); (case side3 => refine (Kd.R_reads' (e := 41) (base := w.heap.size) (ok := fun k_ => (True ∧ some k_ ≠ (.slice Ao16 t718.length co16 : Value).ownBlock)) (n := t737.length) (c := co24) ?_).2.2; exact (Kd.Rq (Kd.R_mono (Kd.R_far (p := ⟨gb747, 13, none⟩) (Kd.R_far (p := ⟨gb747, 12, none⟩) (Kd.R_far (p := ⟨gb747, 11, none⟩) (Kd.R_far (p := ⟨gb747, 10, none⟩) (Kd.R_far (p := ⟨gb747, 9, none⟩) (Kd.R_far (p := ⟨gb747, 8, none⟩) (Kd.R_far (p := ⟨gb747, 7, none⟩) (Kd.R_far (p := ⟨gb747, 6, none⟩) (Kd.R_far (p := ⟨gb747, 5, none⟩) (Kd.R_far (p := ⟨gb747, 4, none⟩) (Kd.R_far (p := ⟨gb747, 3, none⟩) (Kd.R_far (p := ⟨gb747, 2, none⟩) (Kd.R_far (p := ⟨gb747, 1, none⟩) (Kd.R_far (p := ⟨gb747, 0, none⟩) (Kd.R_types HO739.out BK747.out (by decide)) (fun _ hk => hk.2) (.slice Ao21 t729.length co21)) (fun _ hk => hk.2) (.int .i64 t732)) (fun _ hk => hk.2) (.int .i64 t733)) (fun _ hk => hk.2) (.int .i64 t734)) (fun _ hk => hk.2) (.int .i64 t735)) (fun _ hk => hk.2) (.int .i64 t736)) (fun _ hk => hk.2) (.slice Ao24 t737.length co24)) (fun _ hk => hk.2) (.int .i64 t740)) (fun _ hk => hk.2) (.int .i64 t741)) (fun _ hk => hk.2) (.int .i64 t742)) (fun _ hk => hk.2) (.int .i64 t743)) (fun _ hk => hk.2) (.int .i64 t744)) (fun _ hk => hk.2) (.int .i64 t745)) (fun _ hk => hk.2) (.int .i64 t746)) (fun _ h_ => h_.1)))); (case side4 => exact (Kd.R_reads' HO739.out).2.1); rintro e w25 ⟨rfl, hb⟩; refine ⟨_, rfl, ?_⟩; have n0_ := Aside0.mk (Kd.R_below (Kd.Rq (Kd.R_mono (Kd.R_far (p := ⟨gb747, 13, none⟩) (Kd.R_far (p := ⟨gb747, 12, none⟩) (Kd.R_far (p := ⟨gb747, 11, none⟩) (Kd.R_far (p := ⟨gb747, 10, none⟩) (Kd.R_far (p := ⟨gb747, 9, none⟩) (Kd.R_far (p := ⟨gb747, 8, none⟩) (Kd.R_far (p := ⟨gb747, 7, none⟩) (Kd.R_far (p := ⟨gb747, 6, none⟩) (Kd.R_far (p := ⟨gb747, 5, none⟩) (Kd.R_far (p := ⟨gb747, 4, none⟩) (Kd.R_far (p := ⟨gb747, 3, none⟩) (Kd.R_far (p := ⟨gb747, 2, none⟩) (Kd.R_far (p := ⟨gb747, 1, none⟩) (Kd.R_far (p := ⟨gb747, 0, none⟩) (Kd.R_types HO712.out BK747.out (by decide)) (fun _ hk => hk.2) (.slice Ao21 t729.length co21)) (fun _ hk => hk.2) (.int .i64 t732)) (fun _ hk => hk.2) (.int .i64 t733)) (fun _ hk => hk.2) (.int .i64 t734)) (fun _ hk => hk.2) (.int .i64 t735)) (fun _ hk => hk.2) (.int .i64 t736)) (fun _ hk => hk.2) (.slice Ao24 t737.length co24)) (fun _ hk => hk.2) (.int .i64 t740)) (fun _ hk => hk.2) (.int .i64 t741)) (fun _ hk => hk.2) (.int .i64 t742)) (fun _ hk => hk.2) (.int .i64 t743)) (fun _ hk => hk.2) (.int .i64 t744)) (fun _ hk => hk.2) (.int .i64 t745)) (fun _ hk => hk.2) (.int .i64 t746)) (fun _ h_ => h_.1))) hb); have n1_ := Aside0.mk (Kd.R_below (Kd.Rq (Kd.R_mono (Kd.R_far (p := ⟨gb747, 13, none⟩) (Kd.R_far (p := ⟨gb747, 12, none⟩) (Kd.R_far (p := ⟨gb747, 11, none⟩) (Kd.R_far (p := ⟨gb747, 10, none⟩) (Kd.R_far (p := ⟨gb747, 9, none⟩) (Kd.R_far (p := ⟨gb747, 8, none⟩) (Kd.R_far (p := ⟨gb747, 7, none⟩) (Kd.R_far (p := ⟨gb747, 6, none⟩) (Kd.R_far (p := ⟨gb747, 5, none⟩) (Kd.R_far (p := ⟨gb747, 4, none⟩) (Kd.R_far (p := ⟨gb747, 3, none⟩) (Kd.R_far (p := ⟨gb747, 2, none⟩) (Kd.R_far (p := ⟨gb747, 1, none⟩) (Kd.R_far (p := ⟨gb747, 0, none⟩) (Kd.R_types HO720.out BK747.out (by decide)) (fun _ hk => hk.2) (.slice Ao21 t729.length co21)) (fun _ hk => hk.2) (.int .i64 t732)) (fun _ hk => hk.2) (.int .i64 t733)) (fun _ hk => hk.2) (.int .i64 t734)) (fun _ hk => hk.2) (.int .i64 t735)) (fun _ hk => hk.2) (.int .i64 t736)) (fun _ hk => hk.2) (.slice Ao24 t737.length co24)) (fun _ hk => hk.2) (.int .i64 t740)) (fun _ hk => hk.2) (.int .i64 t741)) (fun _ hk => hk.2) (.int .i64 t742)) (fun _ hk => hk.2) (.int .i64 t743)) (fun _ hk => hk.2) (.int .i64 t744)) (fun _ hk => hk.2) (.int .i64 t745)) (fun _ hk => hk.2) (.int .i64 t746)) (fun _ h_ => h_.1))) hb); have n2_ := Aside0.mk (Kd.R_below (Kd.Rq (Kd.R_mono (Kd.R_far (p := ⟨gb747, 13, none⟩) (Kd.R_far (p := ⟨gb747, 12, none⟩) (Kd.R_far (p := ⟨gb747, 11, none⟩) (Kd.R_far (p := ⟨gb747, 10, none⟩) (Kd.R_far (p := ⟨gb747, 9, none⟩) (Kd.R_far (p := ⟨gb747, 8, none⟩) (Kd.R_far (p := ⟨gb747, 7, none⟩) (Kd.R_far (p := ⟨gb747, 6, none⟩) (Kd.R_far (p := ⟨gb747, 5, none⟩) (Kd.R_far (p := ⟨gb747, 4, none⟩) (Kd.R_far (p := ⟨gb747, 3, none⟩) (Kd.R_far (p := ⟨gb747, 2, none⟩) (Kd.R_far (p := ⟨gb747, 1, none⟩) (Kd.R_far (p := ⟨gb747, 0, none⟩) (Kd.R_types HO731.out BK747.out (by decide)) (fun _ hk => hk.2) (.slice Ao21 t729.length co21)) (fun _ hk => hk.2) (.int .i64 t732)) (fun _ hk => hk.2) (.int .i64 t733)) (fun _ hk => hk.2) (.int .i64 t734)) (fun _ hk => hk.2) (.int .i64 t735)) (fun _ hk => hk.2) (.int .i64 t736)) (fun _ hk => hk.2) (.slice Ao24 t737.length co24)) (fun _ hk => hk.2) (.int .i64 t740)) (fun _ hk => hk.2) (.int .i64 t741)) (fun _ hk => hk.2) (.int .i64 t742)) (fun _ hk => hk.2) (.int .i64 t743)) (fun _ hk => hk.2) (.int .i64 t744)) (fun _ hk => hk.2) (.int .i64 t745)) (fun _ hk => hk.2) (.int .i64 t746)) (fun _ h_ => h_.1))) hb); have n3_ := Aside0.mk (Kd.R_below (Kd.Rq (Kd.R_mono (Kd.R_far (p := ⟨gb747, 13, none⟩) (Kd.R_far (p := ⟨gb747, 12, none⟩) (Kd.R_far (p := ⟨gb747, 11, none⟩) (Kd.R_far (p := ⟨gb747, 10, none⟩) (Kd.R_far (p := ⟨gb747, 9, none⟩) (Kd.R_far (p := ⟨gb747, 8, none⟩) (Kd.R_far (p := ⟨gb747, 7, none⟩) (Kd.R_far (p := ⟨gb747, 6, none⟩) (Kd.R_far (p := ⟨gb747, 5, none⟩) (Kd.R_far (p := ⟨gb747, 4, none⟩) (Kd.R_far (p := ⟨gb747, 3, none⟩) (Kd.R_far (p := ⟨gb747, 2, none⟩) (Kd.R_far (p := ⟨gb747, 1, none⟩) (Kd.R_far (p := ⟨gb747, 0, none⟩) (Kd.R_types HO739.out BK747.out (by decide)) (fun _ hk => hk.2) (.slice Ao21 t729.length co21)) (fun _ hk => hk.2) (.int .i64 t732)) (fun _ hk => hk.2) (.int .i64 t733)) (fun _ hk => hk.2) (.int .i64 t734)) (fun _ hk => hk.2) (.int .i64 t735)) (fun _ hk => hk.2) (.int .i64 t736)) (fun _ hk => hk.2) (.slice Ao24 t737.length co24)) (fun _ hk => hk.2) (.int .i64 t740)) (fun _ hk => hk.2) (.int .i64 t741)) (fun _ hk => hk.2) (.int .i64 t742)) (fun _ hk => hk.2) (.int .i64 t743)) (fun _ hk => hk.2) (.int .i64 t744)) (fun _ hk => hk.2) (.int .i64 t745)) (fun _ hk => hk.2) (.int .i64 t746)) (fun _ h_ => h_.1))) hb); have n4_ := Aside0.mk (blk_below (g := gb708) (o := .cells #[.slice A0_0 l0_0.length c0_0, .int .i64 a0_1, .int .i64 a0_2, .int .i64 a0_3, .int .i64 a0_4, .int .i64 a0_5, .slice A0_6 l0_6.length c0_6, .int .i64 a0_7, .int .i64 a0_8, .int .i64 a0_9, .int .i64 a0_10, .int .i64 a0_11, .int .i64 a0_12, .int .i64 a0_13] 52 (0, 0)) (by (with_reducible repeat (first | refine blk_drewN ?_ _ | refine blk_drew ?_ | refine blk_alloc ?_ _)); refine blk_far ?_ NB708_747.out _; (with_reducible repeat (first | refine blk_drewN ?_ _ | refine blk_drew ?_ | refine blk_alloc ?_ _)); refine blk_far ?_ NB708_747.out _; (with_reducible repeat (first | refine blk_drewN ?_ _ | refine blk_drew ?_ | refine blk_alloc ?_ _)); refine blk_far ?_ NB708_747.out _; (with_reducible repeat (first | refine blk_drewN ?_ _ | refine blk_drew ?_ | refine blk_alloc ?_ _)); refine blk_far ?_ NB708_747.out _; (with_reducible repeat (first | refine blk_drewN ?_ _ | refine blk_drew ?_ | refine blk_alloc ?_ _)); refine blk_far ?_ NB708_747.out _; (with_reducible repeat (first | refine blk_drewN ?_ _ | refine blk_drew ?_ | refine blk_alloc ?_ _)); refine blk_far ?_ NB708_747.out _; (with_reducible repeat (first | refine blk_drewN ?_ _ | refine blk_drew ?_ | refine blk_alloc ?_ _)); refine blk_far ?_ NB708_747.out _; (with_reducible repeat (first | refine blk_drewN ?_ _ | refine blk_drew ?_ | refine blk_alloc ?_ _)); refine blk_far ?_ NB708_747.out _; (with_reducible repeat (first | refine blk_drewN ?_ _ | refine blk_drew ?_ | refine blk_alloc ?_ _)); refine blk_far ?_ NB708_747.out _; (with_reducible repeat (first | refine blk_drewN ?_ _ | refine blk_drew ?_ | refine blk_alloc ?_ _)); refine blk_far ?_ NB708_747.out _; (with_reducible repeat (first | refine blk_drewN ?_ _ | refine blk_drew ?_ | refine blk_alloc ?_ _)); refine blk_far ?_ NB708_747.out _; (with_reducible repeat (first | refine blk_drewN ?_ _ | refine blk_drew ?_ | refine blk_alloc ?_ _)); refine blk_far ?_ NB708_747.out _; (with_reducible repeat (first | refine blk_drewN ?_ _ | refine blk_drew ?_ | refine blk_alloc ?_ _)); refine blk_far ?_ NB708_747.out _; (with_reducible repeat (first | refine blk_drewN ?_ _ | refine blk_drew ?_ | refine blk_alloc ?_ _)); refine blk_far ?_ NB708_747.out _; (with_reducible repeat (first | refine blk_drewN ?_ _ | refine blk_drew ?_ | refine blk_alloc ?_ _)); exact BK708.out) hb); have n5_ := Aside0.mk (blk_below (g := gb747) (o := .cells #[.slice Ao21 t729.length co21, .int .i64 t732, .int .i64 t733, .int .i64 t734, .int .i64 t735, .int .i64 t736, .slice Ao24 t737.length co24, .int .i64 t740, .int .i64 t741, .int .i64 t742, .int .i64 t743, .int .i64 t744, .int .i64 t745, .int .i64 t746] 59 (0, 0)) (by (with_reducible repeat (first | refine blk_drewN ?_ _ | refine blk_drew ?_ | refine blk_alloc ?_ _)); refine blk_put (cs := #[.slice Ao21 t729.length co21, .int .i64 t732, .int .i64 t733, .int .i64 t734, .int .i64 t735, .int .i64 t736, .slice Ao24 t737.length co24, .int .i64 t740, .int .i64 t741, .int .i64 t742, .int .i64 t743, .int .i64 t744, .int .i64 t745, .int .i64 0]) ?_ 13 _ rfl; (with_reducible repeat (first | refine blk_drewN ?_ _ | refine blk_drew ?_ | refine blk_alloc ?_ _)); refine blk_put (cs := #[.slice Ao21 t729.length co21, .int .i64 t732, .int .i64 t733, .int .i64 t734, .int .i64 t735, .int .i64 t736, .slice Ao24 t737.length co24, .int .i64 t740, .int .i64 t741, .int .i64 t742, .int .i64 t743, .int .i64 t744, .int .i64 0, .int .i64 0]) ?_ 12 _ rfl; (with_reducible repeat (first | refine blk_drewN ?_ _ | refine blk_drew ?_ | refine blk_alloc ?_ _)); refine blk_put (cs := #[.slice Ao21 t729.length co21, .int .i64 t732, .int .i64 t733, .int .i64 t734, .int .i64 t735, .int .i64 t736, .slice Ao24 t737.length co24, .int .i64 t740, .int .i64 t741, .int .i64 t742, .int .i64 t743, .int .i64 0, .int .i64 0, .int .i64 0]) ?_ 11 _ rfl; (with_reducible repeat (first | refine blk_drewN ?_ _ | refine blk_drew ?_ | refine blk_alloc ?_ _)); refine blk_put (cs := #[.slice Ao21 t729.length co21, .int .i64 t732, .int .i64 t733, .int .i64 t734, .int .i64 t735, .int .i64 t736, .slice Ao24 t737.length co24, .int .i64 t740, .int .i64 t741, .int .i64 t742, .int .i64 0, .int .i64 0, .int .i64 0, .int .i64 0]) ?_ 10 _ rfl; (with_reducible repeat (first | refine blk_drewN ?_ _ | refine blk_drew ?_ | refine blk_alloc ?_ _)); refine blk_put (cs := #[.slice Ao21 t729.length co21, .int .i64 t732, .int .i64 t733, .int .i64 t734, .int .i64 t735, .int .i64 t736, .slice Ao24 t737.length co24, .int .i64 t740, .int .i64 t741, .int .i64 0, .int .i64 0, .int .i64 0, .int .i64 0, .int .i64 0]) ?_ 9 _ rfl; (with_reducible repeat (first | refine blk_drewN ?_ _ | refine blk_drew ?_ | refine blk_alloc ?_ _)); refine blk_put (cs := #[.slice Ao21 t729.length co21, .int .i64 t732, .int .i64 t733, .int .i64 t734, .int .i64 t735, .int .i64 t736, .slice Ao24 t737.length co24, .int .i64 t740, .int .i64 0, .int .i64 0, .int .i64 0, .int .i64 0, .int .i64 0, .int .i64 0]) ?_ 8 _ rfl; (with_reducible repeat (first | refine blk_drewN ?_ _ | refine blk_drew ?_ | refine blk_alloc ?_ _)); refine blk_put (cs := #[.slice Ao21 t729.length co21, .int .i64 t732, .int .i64 t733, .int .i64 t734, .int .i64 t735, .int .i64 t736, .slice Ao24 t737.length co24, .int .i64 0, .int .i64 0, .int .i64 0, .int .i64 0, .int .i64 0, .int .i64 0, .int .i64 0]) ?_ 7 _ rfl; (with_reducible repeat (first | refine blk_drewN ?_ _ | refine blk_drew ?_ | refine blk_alloc ?_ _)); refine blk_put (cs := #[.slice Ao21 t729.length co21, .int .i64 t732, .int .i64 t733, .int .i64 t734, .int .i64 t735, .int .i64 t736, .slice none 0 0, .int .i64 0, .int .i64 0, .int .i64 0, .int .i64 0, .int .i64 0, .int .i64 0, .int .i64 0]) ?_ 6 _ rfl; (with_reducible repeat (first | refine blk_drewN ?_ _ | refine blk_drew ?_ | refine blk_alloc ?_ _)); refine blk_put (cs := #[.slice Ao21 t729.length co21, .int .i64 t732, .int .i64 t733, .int .i64 t734, .int .i64 t735, .int .i64 0, .slice none 0 0, .int .i64 0, .int .i64 0, .int .i64 0, .int .i64 0, .int .i64 0, .int .i64 0, .int .i64 0]) ?_ 5 _ rfl; (with_reducible repeat (first | refine blk_drewN ?_ _ | refine blk_drew ?_ | refine blk_alloc ?_ _)); refine blk_put (cs := #[.slice Ao21 t729.length co21, .int .i64 t732, .int .i64 t733, .int .i64 t734, .int .i64 0, .int .i64 0, .slice none 0 0, .int .i64 0, .int .i64 0, .int .i64 0, .int .i64 0, .int .i64 0, .int .i64 0, .int .i64 0]) ?_ 4 _ rfl; (with_reducible repeat (first | refine blk_drewN ?_ _ | refine blk_drew ?_ | refine blk_alloc ?_ _)); refine blk_put (cs := #[.slice Ao21 t729.length co21, .int .i64 t732, .int .i64 t733, .int .i64 0, .int .i64 0, .int .i64 0, .slice none 0 0, .int .i64 0, .int .i64 0, .int .i64 0, .int .i64 0, .int .i64 0, .int .i64 0, .int .i64 0]) ?_ 3 _ rfl; (with_reducible repeat (first | refine blk_drewN ?_ _ | refine blk_drew ?_ | refine blk_alloc ?_ _)); refine blk_put (cs := #[.slice Ao21 t729.length co21, .int .i64 t732, .int .i64 0, .int .i64 0, .int .i64 0, .int .i64 0, .slice none 0 0, .int .i64 0, .int .i64 0, .int .i64 0, .int .i64 0, .int .i64 0, .int .i64 0, .int .i64 0]) ?_ 2 _ rfl; (with_reducible repeat (first | refine blk_drewN ?_ _ | refine blk_drew ?_ | refine blk_alloc ?_ _)); refine blk_put (cs := #[.slice Ao21 t729.length co21, .int .i64 0, .int .i64 0, .int .i64 0, .int .i64 0, .int .i64 0, .slice none 0 0, .int .i64 0, .int .i64 0, .int .i64 0, .int .i64 0, .int .i64 0, .int .i64 0, .int .i64 0]) ?_ 1 _ rfl; (with_reducible repeat (first | refine blk_drewN ?_ _ | refine blk_drew ?_ | refine blk_alloc ?_ _)); refine blk_put (cs := #[.slice none 0 0, .int .i64 0, .int .i64 0, .int .i64 0, .int .i64 0, .int .i64 0, .slice none 0 0, .int .i64 0, .int .i64 0, .int .i64 0, .int .i64 0, .int .i64 0, .int .i64 0, .int .i64 0]) ?_ 0 _ rfl; (with_reducible repeat (first | refine blk_drewN ?_ _ | refine blk_drew ?_ | refine blk_alloc ?_ _)); exact BK747.out) hb); have n6_ := Aside0.mk (below_step (blq HB.out) hb); clear HO712; clear HO720; clear HO731; clear HO739; clear BK708; clear BK747; clear HB; have HO712 := n0_; have HO720 := n1_; have HO731 := n2_; have HO739 := n3_; have BK708 := n4_; have BK747 := n5_; have HB := n6_; clear n0_ n1_ n2_ n3_ n4_ n5_ n6_; (try clear hb); (try clear hb2); (try clear hk); (try clear hi)))
  have H := HF12.out
  clear HF12
  by_cases c26 : (t748 != t728) = true
  ·
   rw [if_pos c26] at H
   have c26b0 : (t748 != t728) = true := c26
   have c26b9 : (!(t748 == t728)) = true := c26b0
   (try (have c26b1 : decide (t748 = t728) = false := by simpa using c26))
   (try (have c26b2 : (t748 == t728) = false := by simpa using c26))
   (try (have c26b3 : ¬ (t748 = t728) := by simpa using c26))
   clear c26
   (first | rw [c26b0] | rw [c26b9] | (simp only [i64_w, i32_w]; rw [c26b0]) | skip)
   obtain rfl := Option.some.inj H
   go_wp2
   go_ret
   exact ⟨by first | rfl | (simp [errW_none, errW_some] <;> rfl) | (simp [*, errW_none, errW_some] <;> rfl), blq HB.out⟩
  ·
   rw [if_neg c26] at H
   have c26b0 : (t748 != t728) = false := by simpa using c26
   have c26b9 : (!(t748 == t728)) = false := c26b0
   (try (have c26b1 : decide (t748 = t728) = true := by simpa using c26))
   (try (have c26b2 : (t748 == t728) = true := by simpa using c26))
   clear c26
   (first | rw [c26b0] | rw [c26b9] | (simp only [i64_w, i32_w]; rw [c26b0]) | skip)
   replace H := Option.bind_eq_some_iff.mp H
   obtain ⟨⟨t749, t752, t753, t754, t755, t756, t757, t760, t761, t762, t763, t764, t765, t766⟩, A270, H⟩ := H
   replace H : ((laws_eqBakery.f k t729 t732 t733 t734 t735 t736 t737 t740 t741 t742 t743 t744 t745 t746 t749 t752 t753 t754 t755 t756 t757 t760 t761 t762 t763 t764 t765 t766).bind fun t767 => (if t767 = true then (some true) else (some false))) = some r := H
   have A27 := Aside0.mk A270
   clear A270
   replace H := Option.bind_eq_some_iff.mp H
   obtain ⟨t767, A280, H⟩ := H
   replace H : (if t767 = true then (some true) else (some false)) = some r := H
   have A28 := Aside0.mk A280
   clear A280
   have HF29 := Aside0.mk H
   clear H
   try go_wp2
   have n0_ := Aside0.mk (Kd.R_drew HO712.out)
   have n1_ := Aside0.mk (Kd.R_drew HO720.out)
   have n2_ := Aside0.mk (Kd.R_drew HO731.out)
   have n3_ := Aside0.mk (Kd.R_drew HO739.out)
   have n4_ := Aside0.mk (blk_drew BK708.out)
   have n5_ := Aside0.mk (blk_drew BK747.out)
   have n6_ := Aside0.mk (below_drew1 HB.out)
   clear HO712
   clear HO720
   clear HO731
   clear HO739
   clear BK708
   clear BK747
   clear HB
   have HO712 := n0_
   have HO720 := n1_
   have HO731 := n2_
   have HO739 := n3_
   have BK708 := n4_
   have BK747 := n5_
   have HB := n6_
   clear n0_ n1_ n2_ n3_ n4_ n5_ n6_
   refine start_ (n := 5) (S := fun w' => w'.cell? ⟨gb747, 0, none⟩ = some (.slice Ao21 t729.length co21) ∧ w'.cell? ⟨gb747, 1, none⟩ = some (.int .i64 t732) ∧ w'.cell? ⟨gb747, 2, none⟩ = some (.int .i64 t733) ∧ w'.cell? ⟨gb747, 3, none⟩ = some (.int .i64 t734) ∧ w'.cell? ⟨gb747, 4, none⟩ = some (.int .i64 t735) ∧ w'.cell? ⟨gb747, 5, none⟩ = some (.int .i64 t736) ∧ w'.cell? ⟨gb747, 6, none⟩ = some (.slice Ao24 t737.length co24) ∧ w'.cell? ⟨gb747, 7, none⟩ = some (.int .i64 t740) ∧ w'.cell? ⟨gb747, 8, none⟩ = some (.int .i64 t741) ∧ w'.cell? ⟨gb747, 9, none⟩ = some (.int .i64 t742) ∧ w'.cell? ⟨gb747, 10, none⟩ = some (.int .i64 t743) ∧ w'.cell? ⟨gb747, 11, none⟩ = some (.int .i64 t744) ∧ w'.cell? ⟨gb747, 12, none⟩ = some (.int .i64 t745) ∧ w'.cell? ⟨gb747, 13, none⟩ = some (.int .i64 t746) ∧ w'.cell? ⟨gb708, 0, none⟩ = some (.slice A0_0 l0_0.length c0_0) ∧ w'.cell? ⟨gb708, 1, none⟩ = some (.int .i64 a0_1) ∧ w'.cell? ⟨gb708, 2, none⟩ = some (.int .i64 a0_2) ∧ w'.cell? ⟨gb708, 3, none⟩ = some (.int .i64 a0_3) ∧ w'.cell? ⟨gb708, 4, none⟩ = some (.int .i64 a0_4) ∧ w'.cell? ⟨gb708, 5, none⟩ = some (.int .i64 a0_5) ∧ w'.cell? ⟨gb708, 6, none⟩ = some (.slice A0_6 l0_6.length c0_6) ∧ w'.cell? ⟨gb708, 7, none⟩ = some (.int .i64 a0_7) ∧ w'.cell? ⟨gb708, 8, none⟩ = some (.int .i64 a0_8) ∧ w'.cell? ⟨gb708, 9, none⟩ = some (.int .i64 a0_9) ∧ w'.cell? ⟨gb708, 10, none⟩ = some (.int .i64 a0_10) ∧ w'.cell? ⟨gb708, 11, none⟩ = some (.int .i64 a0_11) ∧ w'.cell? ⟨gb708, 12, none⟩ = some (.int .i64 a0_12) ∧ w'.cell? ⟨gb708, 13, none⟩ = some (.int .i64 a0_13)) (ds := []) #[false, false, false, false, false] (by kernel_rfl) rfl rfl ⟨(blk_cell BK747.out 0).trans rfl, (blk_cell BK747.out 1).trans rfl, (blk_cell BK747.out 2).trans rfl, (blk_cell BK747.out 3).trans rfl, (blk_cell BK747.out 4).trans rfl, (blk_cell BK747.out 5).trans rfl, (blk_cell BK747.out 6).trans rfl, (blk_cell BK747.out 7).trans rfl, (blk_cell BK747.out 8).trans rfl, (blk_cell BK747.out 9).trans rfl, (blk_cell BK747.out 10).trans rfl, (blk_cell BK747.out 11).trans rfl, (blk_cell BK747.out 12).trans rfl, (blk_cell BK747.out 13).trans rfl, (blk_cell BK708.out 0).trans rfl, (blk_cell BK708.out 1).trans rfl, (blk_cell BK708.out 2).trans rfl, (blk_cell BK708.out 3).trans rfl, (blk_cell BK708.out 4).trans rfl, (blk_cell BK708.out 5).trans rfl, (blk_cell BK708.out 6).trans rfl, (blk_cell BK708.out 7).trans rfl, (blk_cell BK708.out 8).trans rfl, (blk_cell BK708.out 9).trans rfl, (blk_cell BK708.out 10).trans rfl, (blk_cell BK708.out 11).trans rfl, (blk_cell BK708.out 12).trans rfl, (blk_cell BK708.out 13).trans rfl⟩ (fun hHeld => ?_)
   generalize w25.drew = w30 at HO712 HO720 HO731 HO739 BK708 BK747 HB hHeld ⊢
   refine take_ (i := 0) (N := some 22) (v := ?_) (a' := ?_) #[true, false, false, false, false] rfl rfl (by kernel_rfl) (fun _ _ _ h => h) (Or.inl ⟨by rfl, ?_⟩) hHeld ?_ ?_
   rotate_left
   ·
    rintro w' ⟨s0, s1, s2, s3, s4, s5, s6, s7, s8, s9, s10, s11, s12, s13, s14, s15, s16, s17, s18, s19, s20, s21, s22, s23, s24, s25, s26, s27⟩
    go_simp
    with_reducible rfl
   rotate_left
   ·
    simp only [Act.put, List.setIfInBounds_toArray, List.set_cons_zero, List.set_cons_succ, i64_w, i32_w]
    rfl
   refine take_ (i := 1) (N := some 23) (v := ?_) (a' := ?_) #[true, true, false, false, false] rfl rfl (by kernel_rfl) (fun _ _ _ h => h) (Or.inl ⟨by rfl, ?_⟩) hHeld ?_ ?_
   rotate_left
   ·
    rintro w' ⟨s0, s1, s2, s3, s4, s5, s6, s7, s8, s9, s10, s11, s12, s13, s14, s15, s16, s17, s18, s19, s20, s21, s22, s23, s24, s25, s26, s27⟩
    go_simp
    with_reducible rfl
   rotate_left
   ·
    simp only [Act.put, List.setIfInBounds_toArray, List.set_cons_zero, List.set_cons_succ, i64_w, i32_w]
    rfl
   refine one_ (i := 2) (N := some 24) #[true, true, true, false, false] rfl rfl (by kernel_rfl) (by decide) (fun K hK => ?_)
   refine goes_ Try.func25 (by kernel_rfl) rfl #[.agg #[.slice A0_0 l0_0.length c0_0, .int .i64 a0_1, .int .i64 a0_2, .int .i64 a0_3, .int .i64 a0_4, .int .i64 a0_5, .slice A0_6 l0_6.length c0_6, .int .i64 a0_7, .int .i64 a0_8, .int .i64 a0_9, .int .i64 a0_10, .int .i64 a0_11, .int .i64 a0_12, .int .i64 a0_13]] (by rfl) rfl rfl (by (try simp only [List.map_toArray, List.map_cons, List.map_nil]); first | done | rfl | (simp only [List.length_drop, List.length_take]; rfl)) ?_
   with_reducible refine (laws_toBakery.calls k _ _ l0_0 a0_1 a0_2 a0_3 a0_4 a0_5 _ _ l0_6 a0_7 a0_8 a0_9 a0_10 a0_11 a0_12 a0_13 t749 t752 t753 t754 t755 t756 t757 t760 t761 t762 t763 t764 t765 t766 _ ?side1 ?side2 ?side3 ?side4 A27.out).mono ?_
   (case side1 => exact Kd.Cq (Kd.C_below HR0_0.out HB.out))
   (case side2 => exact HC0_0.out)
   (case side3 => exact Kd.Cq (Kd.C_below HR0_6.out HB.out))
   (case side4 => exact HC0_6.out)
   rintro e w31 ⟨v750, v758, rfl, ho0, ho1, hb⟩
   refine ⟨_, rfl, ?_⟩
   have n0_ := Aside0.mk (Kd.R_elder' (Kd.Rq HO712.out) (Kd.R_base ho0) hb)
   have n1_ := Aside0.mk (Kd.R_elder' (Kd.Rq HO720.out) (Kd.R_base ho1) hb)
   have n2_ := Aside0.mk (Kd.R_elder' (Kd.Rq HO731.out) (Kd.R_base ho0) hb)
   have n3_ := Aside0.mk (Kd.R_elder' (Kd.Rq HO739.out) (Kd.R_base ho1) hb)
   have n4_ := Aside0.mk (Kd.R_lower (Kd.R_new' (Kd.R_new' ho0 (Kd.R_lt (Kd.Rq HO712.out))) (Kd.R_lt (Kd.Rq HO731.out))) (below_size (blq HB.out)))
   have n5_ := Aside0.mk (Kd.R_lower (Kd.R_new' (Kd.R_new' ho1 (Kd.R_lt (Kd.Rq HO720.out))) (Kd.R_lt (Kd.Rq HO739.out))) (below_size (blq HB.out)))
   have n6_ := Aside0.mk (blk_below (bkq BK708.out) hb)
   have n7_ := Aside0.mk (blk_below (bkq BK747.out) hb)
   have n8_ := Aside0.mk (below_step (blq HB.out) hb)
   clear HO712
   clear HO720
   clear HO731
   clear HO739
   clear BK708
   clear BK747
   clear HB
   have HO712 := n0_
   have HO720 := n1_
   have HO731 := n2_
   have HO739 := n3_
   have HO751 := n4_
   have HO759 := n5_
   have BK708 := n6_
   have BK747 := n7_
   have HB := n8_
   clear n0_ n1_ n2_ n3_ n4_ n5_ n6_ n7_ n8_
   (try clear hb)
   (try clear hb2)
   (try clear hk)
   (try clear hi)
   (try clear ho0)
   (try clear ho1)
   obtain ⟨Ao32, co32, eo32⟩ := Kd.R_slice HO751.out
   (first | subst eo32 | (injection eo32 with f1_ f2_ f3_; have f4_ := f1_.symm; have f5_ := f3_.symm; clear f1_ f2_ f3_; subst f4_; subst f5_))
   obtain ⟨Ao33, co33, eo33⟩ := Kd.R_slice HO759.out
   (first | subst eo33 | (injection eo33 with f1_ f2_ f3_; have f4_ := f1_.symm; have f5_ := f3_.symm; clear f1_ f2_ f3_; subst f4_; subst f5_))
   refine hK.out _ _ ⟨(blk_cell BK747.out 0).trans rfl, (blk_cell BK747.out 1).trans rfl, (blk_cell BK747.out 2).trans rfl, (blk_cell BK747.out 3).trans rfl, (blk_cell BK747.out 4).trans rfl, (blk_cell BK747.out 5).trans rfl, (blk_cell BK747.out 6).trans rfl, (blk_cell BK747.out 7).trans rfl, (blk_cell BK747.out 8).trans rfl, (blk_cell BK747.out 9).trans rfl, (blk_cell BK747.out 10).trans rfl, (blk_cell BK747.out 11).trans rfl, (blk_cell BK747.out 12).trans rfl, (blk_cell BK747.out 13).trans rfl, (blk_cell BK708.out 0).trans rfl, (blk_cell BK708.out 1).trans rfl, (blk_cell BK708.out 2).trans rfl, (blk_cell BK708.out 3).trans rfl, (blk_cell BK708.out 4).trans rfl, (blk_cell BK708.out 5).trans rfl, (blk_cell BK708.out 6).trans rfl, (blk_cell BK708.out 7).trans rfl, (blk_cell BK708.out 8).trans rfl, (blk_cell BK708.out 9).trans rfl, (blk_cell BK708.out 10).trans rfl, (blk_cell BK708.out 11).trans rfl, (blk_cell BK708.out 12).trans rfl, (blk_cell BK708.out 13).trans rfl⟩ (fun hHeld => ?_)
   clear hK K
   refine norm_ (a' := ?_) ?_ ?_
   rotate_left
   ·
    show Act.put _ (some 24) _ = _
    simp only [Act.put, List.setIfInBounds_toArray, List.set_cons_zero, List.set_cons_succ, i64_w, i32_w]
    rfl
   refine one_ (i := 3) (N := some 25) #[true, true, true, true, false] rfl rfl (by kernel_rfl) (by decide) (fun K hK => ?_)
   refine goes_ Try.func27 (by kernel_rfl) rfl #[.agg #[.slice Ao21 t729.length co21, .int .i64 t732, .int .i64 t733, .int .i64 t734, .int .i64 t735, .int .i64 t736, .slice Ao24 t737.length co24, .int .i64 t740, .int .i64 t741, .int .i64 t742, .int .i64 t743, .int .i64 t744, .int .i64 t745, .int .i64 t746], .agg #[.slice Ao32 t749.length co32, .int .i64 t752, .int .i64 t753, .int .i64 t754, .int .i64 t755, .int .i64 t756, .slice Ao33 t757.length co33, .int .i64 t760, .int .i64 t761, .int .i64 t762, .int .i64 t763, .int .i64 t764, .int .i64 t765, .int .i64 t766]] (by rfl) rfl rfl (by (try simp only [List.map_toArray, List.map_cons, List.map_nil]); first | done | rfl | (simp only [List.length_drop, List.length_take]; rfl)) ?_
   with_reducible refine (laws_eqBakery.calls k _ _ t729 t732 t733 t734 t735 t736 _ _ t737 t740 t741 t742 t743 t744 t745 t746 _ _ t749 t752 t753 t754 t755 t756 _ _ t757 t760 t761 t762 t763 t764 t765 t766 t767 _ ?side1 ?side2 ?side3 ?side4 ?side5 ?side6 ?side7 ?side8 A28.out).mono ?_
   (case side1 => repeat (first | exact (Kd.R_reads' HO731.out).2.2 | (with_reducible refine Kd.C_alloc ?_ _) | (with_reducible refine Kd.C_drewN ?_ _) | (with_reducible refine Kd.C_drew ?_)))
   (case side2 => exact (Kd.R_reads' HO731.out).2.1)
   (case side3 => repeat (first | exact (Kd.R_reads' HO739.out).2.2 | (with_reducible refine Kd.C_alloc ?_ _) | (with_reducible refine Kd.C_drewN ?_ _) | (with_reducible refine Kd.C_drew ?_)))
   (case side4 => exact (Kd.R_reads' HO739.out).2.1)
   (case side5 => repeat (first | exact (Kd.R_reads' HO751.out).2.2 | (with_reducible refine Kd.C_alloc ?_ _) | (with_reducible refine Kd.C_drewN ?_ _) | (with_reducible refine Kd.C_drew ?_)))
   (case side6 => exact (Kd.R_reads' HO751.out).2.1)
   (case side7 => repeat (first | exact (Kd.R_reads' HO759.out).2.2 | (with_reducible refine Kd.C_alloc ?_ _) | (with_reducible refine Kd.C_drewN ?_ _) | (with_reducible refine Kd.C_drew ?_)))
   (case side8 => exact (Kd.R_reads' HO759.out).2.1)
   rintro e w34 ⟨rfl, hb⟩
   refine ⟨_, rfl, ?_⟩
   have n0_ := Aside0.mk (Kd.R_below (Kd.Rq HO712.out) hb)
   have n1_ := Aside0.mk (Kd.R_below (Kd.Rq HO720.out) hb)
   have n2_ := Aside0.mk (Kd.R_below (Kd.Rq HO731.out) hb)
   have n3_ := Aside0.mk (Kd.R_below (Kd.Rq HO739.out) hb)
   have n4_ := Aside0.mk (Kd.R_below (Kd.Rq HO751.out) hb)
   have n5_ := Aside0.mk (Kd.R_below (Kd.Rq HO759.out) hb)
   have n6_ := Aside0.mk (blk_below (bkq BK708.out) hb)
   have n7_ := Aside0.mk (blk_below (bkq BK747.out) hb)
   have n8_ := Aside0.mk (below_step (blq HB.out) hb)
   clear HO712
   clear HO720
   clear HO731
   clear HO739
   clear HO751
   clear HO759
   clear BK708
   clear BK747
   clear HB
   have HO712 := n0_
   have HO720 := n1_
   have HO731 := n2_
   have HO739 := n3_
   have HO751 := n4_
   have HO759 := n5_
   have BK708 := n6_
   have BK747 := n7_
   have HB := n8_
   clear n0_ n1_ n2_ n3_ n4_ n5_ n6_ n7_ n8_
   (try clear hb)
   (try clear hb2)
   (try clear hk)
   (try clear hi)
   refine hK.out _ _ ⟨(blk_cell BK747.out 0).trans rfl, (blk_cell BK747.out 1).trans rfl, (blk_cell BK747.out 2).trans rfl, (blk_cell BK747.out 3).trans rfl, (blk_cell BK747.out 4).trans rfl, (blk_cell BK747.out 5).trans rfl, (blk_cell BK747.out 6).trans rfl, (blk_cell BK747.out 7).trans rfl, (blk_cell BK747.out 8).trans rfl, (blk_cell BK747.out 9).trans rfl, (blk_cell BK747.out 10).trans rfl, (blk_cell BK747.out 11).trans rfl, (blk_cell BK747.out 12).trans rfl, (blk_cell BK747.out 13).trans rfl, (blk_cell BK708.out 0).trans rfl, (blk_cell BK708.out 1).trans rfl, (blk_cell BK708.out 2).trans rfl, (blk_cell BK708.out 3).trans rfl, (blk_cell BK708.out 4).trans rfl, (blk_cell BK708.out 5).trans rfl, (blk_cell BK708.out 6).trans rfl, (blk_cell BK708.out 7).trans rfl, (blk_cell BK708.out 8).trans rfl, (blk_cell BK708.out 9).trans rfl, (blk_cell BK708.out 10).trans rfl, (blk_cell BK708.out 11).trans rfl, (blk_cell BK708.out 12).trans rfl, (blk_cell BK708.out 13).trans rfl⟩ (fun hHeld => ?_)
   clear hK K
   refine norm_ (a' := ?_) ?_ ?_
   rotate_left
   ·
    show Act.put _ (some 25) _ = _
    simp only [Act.put, List.setIfInBounds_toArray, List.set_cons_zero, List.set_cons_succ, i64_w, i32_w]
    rfl
   refine pure_ (i := 4) (N := some 26) (v := ?_) (a' := ?_) #[true, true, true, true, true] rfl rfl (by kernel_rfl) (fun _ _ _ h => h) (Or.inl ⟨by rfl, ?_⟩) ?_ ?_
   rotate_left
   ·
    intro w'
    go_simp
    with_reducible rfl
   rotate_left
   ·
    simp only [Act.put, List.setIfInBounds_toArray, List.set_cons_zero, List.set_cons_succ, i64_w, i32_w]
    rfl
   refine done_ (by kernel_rfl) ?_
   go_upto_if 26 with (fail)
   have H := HF29.out
   clear HF29
   by_cases c35 : t767 = true
   ·
    subst c35
    have H1 : (some true) = some r := by rw [if_pos rfl] at H; exact H
    clear H
    have H := H1
    clear H1
    obtain rfl := Option.some.inj H
    go_wp2
    go_ret
    exact ⟨by first | rfl | (simp [errW_none, errW_some] <;> rfl) | (simp [*, errW_none, errW_some] <;> rfl), blq HB.out⟩
   ·
    replace c35 := Bool.eq_false_iff.mpr c35
    subst c35
    have H1 : (some false) = some r := by rw [if_neg (show ¬ (false = true) by decide)] at H; exact H
    clear H
    have H := H1
    clear H1
    obtain rfl := Option.some.inj H
    go_wp2
    go_ret
    exact ⟨by first | rfl | (simp [errW_none, errW_some] <;> rfl) | (simp [*, errW_none, errW_some] <;> rfl), blq HB.out⟩

/-- What is left to prove of laws_FnExactBakeryOk: over numbers and lists alone. -/
def laws_FnExactBakeryOk.Pure : Prop := ∀ (l0_0 : List Int) (a0_1 : Int) (a0_2 : Int) (a0_3 : Int) (a0_4 : Int) (a0_5 : Int) (l0_6 : List (S39)) (a0_7 : Int) (a0_8 : Int) (a0_9 : Int) (a0_10 : Int) (a0_11 : Int) (a0_12 : Int) (a0_13 : Int), ok_T52 (⟨(⟨l0_0⟩ : S46), (⟨a0_1, a0_2, a0_3⟩ : S48), (⟨a0_4, a0_5⟩ : S50), (⟨l0_6, (⟨a0_7, a0_8, a0_9⟩ : S24), a0_10, a0_11, a0_12⟩ : S26), a0_13⟩ : S52) → ∃ k, laws_FnExactBakeryOk.f k l0_0 a0_1 a0_2 a0_3 a0_4 a0_5 l0_6 a0_7 a0_8 a0_9 a0_10 a0_11 a0_12 a0_13 = some true

end Go.Proofs.Ytonaabffckkdlaa.Q
