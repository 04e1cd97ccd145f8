-- Written for this claim by wip/xprint.py of this repository (by way of the kit's print); Lean checks every line.
import Derived.Test.YtonaabffckkdlaaQ0
import Derived.Test.YtonaabffckkdlaaQ17
import Derived.Test.YtonaabffckkdlaaQ19
import Derived.Test.YtonaabffckkdlaaQ26
import Derived.Test.YtonaabffckkdlaaQ27
import Derived.Test.YtonaabffckkdlaaQ41
namespace Go.Proofs.Ytonaabffckkdlaa.Q
open Go.RowKit Go.Proofs.YtonaabffckkdlaaW.PrintWords Go.Proofs.YtonaabffckkdlaaW.PrintLast Go.Proofs.YtonaabffckkdlaaW.PrintMore
attribute [local go_sem] max2_int min2_int max_two min_two max_three min_three max_four min_four   -- for this text's walks alone
set_option linter.unusedVariables false
set_option linter.unusedSimpArgs false

/-! ### laws_FnExactFlourNeeded: function 8 -/
def laws_FnExactFlourNeeded.f (k : Nat) (l0_0 : List Int) (a0_1 : Int) (a0_2 : Int) (a0_3 : Int) (a0_4 : Int) (a0_5 : Int) (l0_6 : List (S39)) (a0_7 : Int) (a0_8 : Int) (a0_9 : Int) (a0_10 : Int) (a0_11 : Int) (a0_12 : Int) (a0_13 : Int) (a1 : Int) : Option (Bool) := (laws_szBakery.f l0_0 a0_1 a0_2 a0_3 a0_4 a0_5 l0_6 a0_7 a0_8 a0_9 a0_10 a0_11 a0_12 a0_13 1048576).bind fun t1085 => (if t1085 < 0 then (some true) else ((laws_toBakery.f k l0_0 a0_1 a0_2 a0_3 a0_4 a0_5 l0_6 a0_7 a0_8 a0_9 a0_10 a0_11 a0_12 a0_13).bind fun bt1086 => ((spec_FlourNeeded.f k bt1086.1 bt1086.2.1 bt1086.2.2.1 bt1086.2.2.2.1 bt1086.2.2.2.2.1 bt1086.2.2.2.2.2.1 bt1086.2.2.2.2.2.2.1 bt1086.2.2.2.2.2.2.2.1 bt1086.2.2.2.2.2.2.2.2.1 bt1086.2.2.2.2.2.2.2.2.2.1 bt1086.2.2.2.2.2.2.2.2.2.2.1 bt1086.2.2.2.2.2.2.2.2.2.2.2.1 bt1086.2.2.2.2.2.2.2.2.2.2.2.2.1 bt1086.2.2.2.2.2.2.2.2.2.2.2.2.2 a1).bind fun t1104 => ((laws_toBakery.f k l0_0 a0_1 a0_2 a0_3 a0_4 a0_5 l0_6 a0_7 a0_8 a0_9 a0_10 a0_11 a0_12 a0_13).bind fun bt1105 => ((impl_FlourNeeded.f k bt1105.1 bt1105.2.1 bt1105.2.2.1 bt1105.2.2.2.1 bt1105.2.2.2.2.1 bt1105.2.2.2.2.2.1 bt1105.2.2.2.2.2.2.1 bt1105.2.2.2.2.2.2.2.1 bt1105.2.2.2.2.2.2.2.2.1 bt1105.2.2.2.2.2.2.2.2.2.1 bt1105.2.2.2.2.2.2.2.2.2.2.1 bt1105.2.2.2.2.2.2.2.2.2.2.2.1 bt1105.2.2.2.2.2.2.2.2.2.2.2.2.1 bt1105.2.2.2.2.2.2.2.2.2.2.2.2.2 a1).bind fun t1124 => (if t1124 = t1104 then ((laws_toBakery.f k l0_0 a0_1 a0_2 a0_3 a0_4 a0_5 l0_6 a0_7 a0_8 a0_9 a0_10 a0_11 a0_12 a0_13).bind fun bt1125 => ((laws_eqBakery.f k bt1105.1 bt1105.2.1 bt1105.2.2.1 bt1105.2.2.2.1 bt1105.2.2.2.2.1 bt1105.2.2.2.2.2.1 bt1105.2.2.2.2.2.2.1 bt1105.2.2.2.2.2.2.2.1 bt1105.2.2.2.2.2.2.2.2.1 bt1105.2.2.2.2.2.2.2.2.2.1 bt1105.2.2.2.2.2.2.2.2.2.2.1 bt1105.2.2.2.2.2.2.2.2.2.2.2.1 bt1105.2.2.2.2.2.2.2.2.2.2.2.2.1 bt1105.2.2.2.2.2.2.2.2.2.2.2.2.2 bt1125.1 bt1125.2.1 bt1125.2.2.1 bt1125.2.2.2.1 bt1125.2.2.2.2.1 bt1125.2.2.2.2.2.1 bt1125.2.2.2.2.2.2.1 bt1125.2.2.2.2.2.2.2.1 bt1125.2.2.2.2.2.2.2.2.1 bt1125.2.2.2.2.2.2.2.2.2.1 bt1125.2.2.2.2.2.2.2.2.2.2.1 bt1125.2.2.2.2.2.2.2.2.2.2.2.1 bt1125.2.2.2.2.2.2.2.2.2.2.2.2.1 bt1125.2.2.2.2.2.2.2.2.2.2.2.2.2).bind fun t1143 => (if t1143 = true then (some true) else (some false)))) else (some false)))))))
theorem laws_FnExactFlourNeeded.mono : ∀ a0 a1 a2 a3 a4 a5 a6 a7 a8 a9 a10 a11 a12 a13 a14 k, LeO (laws_FnExactFlourNeeded.f k a0 a1 a2 a3 a4 a5 a6 a7 a8 a9 a10 a11 a12 a13 a14) (laws_FnExactFlourNeeded.f (k + 1) a0 a1 a2 a3 a4 a5 a6 a7 a8 a9 a10 a11 a12 a13 a14) := by
 intro a0 a1 a2 a3 a4 a5 a6 a7 a8 a9 a10 a11 a12 a13 a14 k
 unfold laws_FnExactFlourNeeded.f
 repeat' first
   | (with_reducible exact impl_FlourNeeded.mono _ _ _ _ _ _ _ _ _ _ _ _ _ _ _ _)
   | (with_reducible exact laws_eqBakery.mono _ _ _ _ _ _ _ _ _ _ _ _ _ _ _ _ _ _ _ _ _ _ _ _ _ _ _ _ _)
   | (with_reducible exact laws_toBakery.mono _ _ _ _ _ _ _ _ _ _ _ _ _ _ _)
   | (with_reducible exact spec_FlourNeeded.mono _ _ _ _ _ _ _ _ _ _ _ _ _ _ _ _)
   | (with_reducible exact LeO.refl _)
   | (with_reducible exact LeO.none _)
   | (with_reducible refine LeO.ite ?_ ?_)
   | (with_reducible refine LeO.bind ?_ (fun _ => ?_))
   | exact impl_FlourNeeded.mono _ _ _ _ _ _ _ _ _ _ _ _ _ _ _ _
   | exact laws_eqBakery.mono _ _ _ _ _ _ _ _ _ _ _ _ _ _ _ _ _ _ _ _ _ _ _ _ _ _ _ _ _
   | exact laws_toBakery.mono _ _ _ _ _ _ _ _ _ _ _ _ _ _ _
   | exact spec_FlourNeeded.mono _ _ _ _ _ _ _ _ _ _ _ _ _ _ _ _
   | exact LeO.none _
   | refine LeO.ite ?_ ?_
   | refine LeO.bind ?_ (fun _ => ?_)
set_option maxHeartbeats 8000000 in
set_option maxRecDepth 100000 in
theorem laws_FnExactFlourNeeded.calls (k : Nat) (A0_0 : Option Addr) (c0_0 : Nat) (l0_0 : List Int) (a0_1 : Int) (a0_2 : Int) (a0_3 : Int) (a0_4 : Int) (a0_5 : Int) (A0_6 : Option Addr) (c0_6 : Nat) (l0_6 : List (S39)) (a0_7 : Int) (a0_8 : Int) (a0_9 : Int) (a0_10 : Int) (a0_11 : Int) (a0_12 : Int) (a0_13 : Int) (a1 : Int) (r : Bool) (w : World) (hr0_0 : Kd.C (Kd.int .i64) w A0_0 l0_0.length l0_0) (hc0_0 : l0_0.length ≤ c0_0) (hr0_6 : Kd.C k39 w A0_6 l0_6.length l0_6) (hc0_6 : l0_6.length ≤ c0_6) (h : laws_FnExactFlourNeeded.f k l0_0 a0_1 a0_2 a0_3 a0_4 a0_5 l0_6 a0_7 a0_8 a0_9 a0_10 a0_11 a0_12 a0_13 a1 = some r) :
  Calls Try.prog 8 #[.agg #[.slice A0_0 l0_0.length c0_0, .int .i64 a0_1, .int .i64 a0_2, .int .i64 a0_3, .int .i64 a0_4, .int .i64 a0_5, .slice A0_6 l0_6.length c0_6, .int .i64 a0_7, .int .i64 a0_8, .int .i64 a0_9, .int .i64 a0_10, .int .i64 a0_11, .int .i64 a0_12, .int .i64 a0_13], .int .i64 a1] w fun e w' => e = .returned (.bool r) ∧ Below w.heap.size w w' := by
 have hu52 := Try.underlying52
 have hu59 := Try.underlying59
 have HR0_0 := Aside0.mk hr0_0
 have HC0_0 := Aside0.mk hc0_0
 clear hr0_0 hc0_0
 have HR0_6 := Aside0.mk hr0_6
 have HC0_6 := Aside0.mk hc0_6
 clear hr0_6 hc0_6
 have HB := Aside0.mk (Below.refl w.heap.size w)
 have H : ((laws_szBakery.f l0_0 a0_1 a0_2 a0_3 a0_4 a0_5 l0_6 a0_7 a0_8 a0_9 a0_10 a0_11 a0_12 a0_13 1048576).bind fun t1085 => (if t1085 < 0 then (some true) else ((laws_toBakery.f k l0_0 a0_1 a0_2 a0_3 a0_4 a0_5 l0_6 a0_7 a0_8 a0_9 a0_10 a0_11 a0_12 a0_13).bind fun bt1086 => ((spec_FlourNeeded.f k bt1086.1 bt1086.2.1 bt1086.2.2.1 bt1086.2.2.2.1 bt1086.2.2.2.2.1 bt1086.2.2.2.2.2.1 bt1086.2.2.2.2.2.2.1 bt1086.2.2.2.2.2.2.2.1 bt1086.2.2.2.2.2.2.2.2.1 bt1086.2.2.2.2.2.2.2.2.2.1 bt1086.2.2.2.2.2.2.2.2.2.2.1 bt1086.2.2.2.2.2.2.2.2.2.2.2.1 bt1086.2.2.2.2.2.2.2.2.2.2.2.2.1 bt1086.2.2.2.2.2.2.2.2.2.2.2.2.2 a1).bind fun t1104 => ((laws_toBakery.f k l0_0 a0_1 a0_2 a0_3 a0_4 a0_5 l0_6 a0_7 a0_8 a0_9 a0_10 a0_11 a0_12 a0_13).bind fun bt1105 => ((impl_FlourNeeded.f k bt1105.1 bt1105.2.1 bt1105.2.2.1 bt1105.2.2.2.1 bt1105.2.2.2.2.1 bt1105.2.2.2.2.2.1 bt1105.2.2.2.2.2.2.1 bt1105.2.2.2.2.2.2.2.1 bt1105.2.2.2.2.2.2.2.2.1 bt1105.2.2.2.2.2.2.2.2.2.1 bt1105.2.2.2.2.2.2.2.2.2.2.1 bt1105.2.2.2.2.2.2.2.2.2.2.2.1 bt1105.2.2.2.2.2.2.2.2.2.2.2.2.1 bt1105.2.2.2.2.2.2.2.2.2.2.2.2.2 a1).bind fun t1124 => (if t1124 = t1104 then ((laws_toBakery.f k l0_0 a0_1 a0_2 a0_3 a0_4 a0_5 l0_6 a0_7 a0_8 a0_9 a0_10 a0_11 a0_12 a0_13).bind fun bt1125 => ((laws_eqBakery.f k bt1105.1 bt1105.2.1 bt1105.2.2.1 bt1105.2.2.2.1 bt1105.2.2.2.2.1 bt1105.2.2.2.2.2.1 bt1105.2.2.2.2.2.2.1 bt1105.2.2.2.2.2.2.2.1 bt1105.2.2.2.2.2.2.2.2.1 bt1105.2.2.2.2.2.2.2.2.2.1 bt1105.2.2.2.2.2.2.2.2.2.2.1 bt1105.2.2.2.2.2.2.2.2.2.2.2.1 bt1105.2.2.2.2.2.2.2.2.2.2.2.2.1 bt1105.2.2.2.2.2.2.2.2.2.2.2.2.2 bt1125.1 bt1125.2.1 bt1125.2.2.1 bt1125.2.2.2.1 bt1125.2.2.2.2.1 bt1125.2.2.2.2.2.1 bt1125.2.2.2.2.2.2.1 bt1125.2.2.2.2.2.2.2.1 bt1125.2.2.2.2.2.2.2.2.1 bt1125.2.2.2.2.2.2.2.2.2.1 bt1125.2.2.2.2.2.2.2.2.2.2.1 bt1125.2.2.2.2.2.2.2.2.2.2.2.1 bt1125.2.2.2.2.2.2.2.2.2.2.2.2.1 bt1125.2.2.2.2.2.2.2.2.2.2.2.2.2).bind fun t1143 => (if t1143 = true then (some true) else (some false)))) else (some false)))))))) = some r := h
 clear h
 replace H := Option.bind_eq_some_iff.mp H
 obtain ⟨t1085, A30, H⟩ := H
 replace H : (if t1085 < 0 then (some true) else ((laws_toBakery.f k l0_0 a0_1 a0_2 a0_3 a0_4 a0_5 l0_6 a0_7 a0_8 a0_9 a0_10 a0_11 a0_12 a0_13).bind fun bt1086 => ((spec_FlourNeeded.f k bt1086.1 bt1086.2.1 bt1086.2.2.1 bt1086.2.2.2.1 bt1086.2.2.2.2.1 bt1086.2.2.2.2.2.1 bt1086.2.2.2.2.2.2.1 bt1086.2.2.2.2.2.2.2.1 bt1086.2.2.2.2.2.2.2.2.1 bt1086.2.2.2.2.2.2.2.2.2.1 bt1086.2.2.2.2.2.2.2.2.2.2.1 bt1086.2.2.2.2.2.2.2.2.2.2.2.1 bt1086.2.2.2.2.2.2.2.2.2.2.2.2.1 bt1086.2.2.2.2.2.2.2.2.2.2.2.2.2 a1).bind fun t1104 => ((laws_toBakery.f k l0_0 a0_1 a0_2 a0_3 a0_4 a0_5 l0_6 a0_7 a0_8 a0_9 a0_10 a0_11 a0_12 a0_13).bind fun bt1105 => ((impl_FlourNeeded.f k bt1105.1 bt1105.2.1 bt1105.2.2.1 bt1105.2.2.2.1 bt1105.2.2.2.2.1 bt1105.2.2.2.2.2.1 bt1105.2.2.2.2.2.2.1 bt1105.2.2.2.2.2.2.2.1 bt1105.2.2.2.2.2.2.2.2.1 bt1105.2.2.2.2.2.2.2.2.2.1 bt1105.2.2.2.2.2.2.2.2.2.2.1 bt1105.2.2.2.2.2.2.2.2.2.2.2.1 bt1105.2.2.2.2.2.2.2.2.2.2.2.2.1 bt1105.2.2.2.2.2.2.2.2.2.2.2.2.2 a1).bind fun t1124 => (if t1124 = t1104 then ((laws_toBakery.f k l0_0 a0_1 a0_2 a0_3 a0_4 a0_5 l0_6 a0_7 a0_8 a0_9 a0_10 a0_11 a0_12 a0_13).bind fun bt1125 => ((laws_eqBakery.f k bt1105.1 bt1105.2.1 bt1105.2.2.1 bt1105.2.2.2.1 bt1105.2.2.2.2.1 bt1105.2.2.2.2.2.1 bt1105.2.2.2.2.2.2.1 bt1105.2.2.2.2.2.2.2.1 bt1105.2.2.2.2.2.2.2.2.1 bt1105.2.2.2.2.2.2.2.2.2.1 bt1105.2.2.2.2.2.2.2.2.2.2.1 bt1105.2.2.2.2.2.2.2.2.2.2.2.1 bt1105.2.2.2.2.2.2.2.2.2.2.2.2.1 bt1105.2.2.2.2.2.2.2.2.2.2.2.2.2 bt1125.1 bt1125.2.1 bt1125.2.2.1 bt1125.2.2.2.1 bt1125.2.2.2.2.1 bt1125.2.2.2.2.2.1 bt1125.2.2.2.2.2.2.1 bt1125.2.2.2.2.2.2.2.1 bt1125.2.2.2.2.2.2.2.2.1 bt1125.2.2.2.2.2.2.2.2.2.1 bt1125.2.2.2.2.2.2.2.2.2.2.1 bt1125.2.2.2.2.2.2.2.2.2.2.2.1 bt1125.2.2.2.2.2.2.2.2.2.2.2.2.1 bt1125.2.2.2.2.2.2.2.2.2.2.2.2.2).bind fun t1143 => (if t1143 = true then (some true) else (some false)))) else (some false))))))) = some r := H
 have A3 := Aside0.mk A30
 clear A30
 have HF4 := Aside0.mk H
 clear H
 go_enter Try.func8, Try.ntmps8
 go_upto_if 13 with (first | ((with_reducible refine gate_dst (N := 2) rfl ?_); refine box_event ?hg (N := 2) ?hd (cs := #[.slice A0_0 l0_0.length c0_0, .int .i64 a0_1, .int .i64 a0_2, .int .i64 a0_3, .int .i64 a0_4, .int .i64 a0_5, .slice A0_6 l0_6.length c0_6, .int .i64 a0_7, .int .i64 a0_8, .int .i64 a0_9, .int .i64 a0_10, .int .i64 a0_11, .int .i64 a0_12, .int .i64 a0_13]) (t := 52) ?hr ?_; (case hd => rfl); (case hg => rfl); (case hr => first | (go_simp; done) | (go_simp; rfl)); intro gb1084 hg w5 hbox hb; have n0_ := Aside0.mk (below_step (blq HB.out) hb); have n1_ := Aside0.mk (hbox); have n2_ := Aside0.mk ((sq hg HB.out)); have n3_ := Aside0.mk ((sq hg HB.out)); clear HB; have HB := n0_; have BK1084 := n1_; have GW1084 := n2_; have GE1084 := n3_; clear n0_ n1_ n2_ n3_; clear hb hbox hg; obtain ⟨hcz6_0, hcz6_1, hcz6_2, hcz6_3, hcz6_4, hcz6_5, hcz6_6, hcz6_7, hcz6_8, hcz6_9, hcz6_10, hcz6_11, hcz6_12, hcz6_13, hfz6_0, hfz6_1, hfz6_2, hfz6_3, hfz6_4, hfz6_5, hfz6_6, hfz6_7, hfz6_8, hfz6_9, hfz6_10, hfz6_11, hfz6_12, hfz6_13⟩ := bq14 BK1084.out) | ((with_reducible refine gate_callee (f := 23) rfl ?_); refine gLq (some 11) Try.func23 #[.agg #[.slice A0_0 l0_0.length c0_0, .int .i64 a0_1, .int .i64 a0_2, .int .i64 a0_3, .int .i64 a0_4, .int .i64 a0_5, .slice A0_6 l0_6.length c0_6, .int .i64 a0_7, .int .i64 a0_8, .int .i64 a0_9, .int .i64 a0_10, .int .i64 a0_11, .int .i64 a0_12, .int .i64 a0_13], .int .i64 1048576] ?_; (with_reducible refine (laws_szBakery.calls _ _ l0_0 a0_1 a0_2 a0_3 a0_4 a0_5 _ _ l0_6 a0_7 a0_8 a0_9 a0_10 a0_11 a0_12 a0_13 1048576 t1085 _ ?side1 ?side2 ?side3 ?side4 A3.out).mono ?_); (case side1 => exact Kd.Cq (Kd.C_below HR0_0.out HB.out)); (case side2 => exact HC0_0.out); (case side3 => exact Kd.Cq (Kd.C_below HR0_6.out HB.out)); (case side4 => exact HC0_6.out); rintro e w7 ⟨rfl, hb⟩; refine ⟨_, rfl, ?_⟩; have n0_ := Aside0.mk (blk_below (bkq BK1084.out) hb); have n1_ := Aside0.mk (below_step (blq HB.out) hb); clear BK1084; clear HB; have BK1084 := n0_; have HB := n1_; clear n0_ n1_; (try clear hb); (try clear hb2); (try clear hk); (try clear hi)))
 have H := HF4.out
 clear HF4
 by_cases c8 : t1085 < 0
 ·
  rw [if_pos c8] at H
  have c8b0 : decide (t1085 < 0) = true := decide_eq_true c8
  clear c8
  (first | rw [c8b0] | (simp only [i64_w, i32_w]; rw [c8b0]) | skip)
  obtain rfl := Option.some.inj H
  go_wp2
  go_ret
  exact ⟨by first | rfl | (simp [errW_none, errW_some] <;> rfl) | (simp [*, errW_none, errW_some] <;> rfl), blq HB.out⟩
 ·
  rw [if_neg c8] at H
  have c8b0 : decide (t1085 < 0) = false := decide_eq_false c8
  clear c8
  (first | rw [c8b0] | (simp only [i64_w, i32_w]; rw [c8b0]) | skip)
  replace H := Option.bind_eq_some_iff.mp H
  obtain ⟨⟨t1086, t1089, t1090, t1091, t1092, t1093, t1094, t1097, t1098, t1099, t1100, t1101, t1102, t1103⟩, A90, H⟩ := H
  replace H : ((spec_FlourNeeded.f k t1086 t1089 t1090 t1091 t1092 t1093 t1094 t1097 t1098 t1099 t1100 t1101 t1102 t1103 a1).bind fun t1104 => ((laws_toBakery.f k l0_0 a0_1 a0_2 a0_3 a0_4 a0_5 l0_6 a0_7 a0_8 a0_9 a0_10 a0_11 a0_12 a0_13).bind fun bt1105 => ((impl_FlourNeeded.f k bt1105.1 bt1105.2.1 bt1105.2.2.1 bt1105.2.2.2.1 bt1105.2.2.2.2.1 bt1105.2.2.2.2.2.1 bt1105.2.2.2.2.2.2.1 bt1105.2.2.2.2.2.2.2.1 bt1105.2.2.2.2.2.2.2.2.1 bt1105.2.2.2.2.2.2.2.2.2.1 bt1105.2.2.2.2.2.2.2.2.2.2.1 bt1105.2.2.2.2.2.2.2.2.2.2.2.1 bt1105.2.2.2.2.2.2.2.2.2.2.2.2.1 bt1105.2.2.2.2.2.2.2.2.2.2.2.2.2 a1).bind fun t1124 => (if t1124 = t1104 then ((laws_toBakery.f k l0_0 a0_1 a0_2 a0_3 a0_4 a0_5 l0_6 a0_7 a0_8 a0_9 a0_10 a0_11 a0_12 a0_13).bind fun bt1125 => ((laws_eqBakery.f k bt1105.1 bt1105.2.1 bt1105.2.2.1 bt1105.2.2.2.1 bt1105.2.2.2.2.1 bt1105.2.2.2.2.2.1 bt1105.2.2.2.2.2.2.1 bt1105.2.2.2.2.2.2.2.1 bt1105.2.2.2.2.2.2.2.2.1 bt1105.2.2.2.2.2.2.2.2.2.1 bt1105.2.2.2.2.2.2.2.2.2.2.1 bt1105.2.2.2.2.2.2.2.2.2.2.2.1 bt1105.2.2.2.2.2.2.2.2.2.2.2.2.1 bt1105.2.2.2.2.2.2.2.2.2.2.2.2.2 bt1125.1 bt1125.2.1 bt1125.2.2.1 bt1125.2.2.2.1 bt1125.2.2.2.2.1 bt1125.2.2.2.2.2.1 bt1125.2.2.2.2.2.2.1 bt1125.2.2.2.2.2.2.2.1 bt1125.2.2.2.2.2.2.2.2.1 bt1125.2.2.2.2.2.2.2.2.2.1 bt1125.2.2.2.2.2.2.2.2.2.2.1 bt1125.2.2.2.2.2.2.2.2.2.2.2.1 bt1125.2.2.2.2.2.2.2.2.2.2.2.2.1 bt1125.2.2.2.2.2.2.2.2.2.2.2.2.2).bind fun t1143 => (if t1143 = true then (some true) else (some false)))) else (some false))))) = some r := H
  have A9 := Aside0.mk A90
  clear A90
  replace H := Option.bind_eq_some_iff.mp H
  obtain ⟨t1104, A100, H⟩ := H
  replace H : ((laws_toBakery.f k l0_0 a0_1 a0_2 a0_3 a0_4 a0_5 l0_6 a0_7 a0_8 a0_9 a0_10 a0_11 a0_12 a0_13).bind fun bt1105 => ((impl_FlourNeeded.f k bt1105.1 bt1105.2.1 bt1105.2.2.1 bt1105.2.2.2.1 bt1105.2.2.2.2.1 bt1105.2.2.2.2.2.1 bt1105.2.2.2.2.2.2.1 bt1105.2.2.2.2.2.2.2.1 bt1105.2.2.2.2.2.2.2.2.1 bt1105.2.2.2.2.2.2.2.2.2.1 bt1105.2.2.2.2.2.2.2.2.2.2.1 bt1105.2.2.2.2.2.2.2.2.2.2.2.1 bt1105.2.2.2.2.2.2.2.2.2.2.2.2.1 bt1105.2.2.2.2.2.2.2.2.2.2.2.2.2 a1).bind fun t1124 => (if t1124 = t1104 then ((laws_toBakery.f k l0_0 a0_1 a0_2 a0_3 a0_4 a0_5 l0_6 a0_7 a0_8 a0_9 a0_10 a0_11 a0_12 a0_13).bind fun bt1125 => ((laws_eqBakery.f k bt1105.1 bt1105.2.1 bt1105.2.2.1 bt1105.2.2.2.1 bt1105.2.2.2.2.1 bt1105.2.2.2.2.2.1 bt1105.2.2.2.2.2.2.1 bt1105.2.2.2.2.2.2.2.1 bt1105.2.2.2.2.2.2.2.2.1 bt1105.2.2.2.2.2.2.2.2.2.1 bt1105.2.2.2.2.2.2.2.2.2.2.1 bt1105.2.2.2.2.2.2.2.2.2.2.2.1 bt1105.2.2.2.2.2.2.2.2.2.2.2.2.1 bt1105.2.2.2.2.2.2.2.2.2.2.2.2.2 bt1125.1 bt1125.2.1 bt1125.2.2.1 bt1125.2.2.2.1 bt1125.2.2.2.2.1 bt1125.2.2.2.2.2.1 bt1125.2.2.2.2.2.2.1 bt1125.2.2.2.2.2.2.2.1 bt1125.2.2.2.2.2.2.2.2.1 bt1125.2.2.2.2.2.2.2.2.2.1 bt1125.2.2.2.2.2.2.2.2.2.2.1 bt1125.2.2.2.2.2.2.2.2.2.2.2.1 bt1125.2.2.2.2.2.2.2.2.2.2.2.2.1 bt1125.2.2.2.2.2.2.2.2.2.2.2.2.2).bind fun t1143 => (if t1143 = true then (some true) else (some false)))) else (some false)))) = some r := H
  have A10 := Aside0.mk A100
  clear A100
  replace H := Option.bind_eq_some_iff.mp H
  obtain ⟨⟨t1105, t1108, t1109, t1110, t1111, t1112, t1113, t1116, t1117, t1118, t1119, t1120, t1121, t1122⟩, A110, H⟩ := H
  replace H : ((impl_FlourNeeded.f k t1105 t1108 t1109 t1110 t1111 t1112 t1113 t1116 t1117 t1118 t1119 t1120 t1121 t1122 a1).bind fun t1124 => (if t1124 = t1104 then ((laws_toBakery.f k l0_0 a0_1 a0_2 a0_3 a0_4 a0_5 l0_6 a0_7 a0_8 a0_9 a0_10 a0_11 a0_12 a0_13).bind fun bt1125 => ((laws_eqBakery.f k t1105 t1108 t1109 t1110 t1111 t1112 t1113 t1116 t1117 t1118 t1119 t1120 t1121 t1122 bt1125.1 bt1125.2.1 bt1125.2.2.1 bt1125.2.2.2.1 bt1125.2.2.2.2.1 bt1125.2.2.2.2.2.1 bt1125.2.2.2.2.2.2.1 bt1125.2.2.2.2.2.2.2.1 bt1125.2.2.2.2.2.2.2.2.1 bt1125.2.2.2.2.2.2.2.2.2.1 bt1125.2.2.2.2.2.2.2.2.2.2.1 bt1125.2.2.2.2.2.2.2.2.2.2.2.1 bt1125.2.2.2.2.2.2.2.2.2.2.2.2.1 bt1125.2.2.2.2.2.2.2.2.2.2.2.2.2).bind fun t1143 => (if t1143 = true then (some true) else (some false)))) else (some false))) = some r := H
  have A11 := Aside0.mk A110
  clear A110
  replace H := Option.bind_eq_some_iff.mp H
  obtain ⟨t1124, A120, H⟩ := H
  replace H : (if t1124 = t1104 then ((laws_toBakery.f k l0_0 a0_1 a0_2 a0_3 a0_4 a0_5 l0_6 a0_7 a0_8 a0_9 a0_10 a0_11 a0_12 a0_13).bind fun bt1125 => ((laws_eqBakery.f k t1105 t1108 t1109 t1110 t1111 t1112 t1113 t1116 t1117 t1118 t1119 t1120 t1121 t1122 bt1125.1 bt1125.2.1 bt1125.2.2.1 bt1125.2.2.2.1 bt1125.2.2.2.2.1 bt1125.2.2.2.2.2.1 bt1125.2.2.2.2.2.2.1 bt1125.2.2.2.2.2.2.2.1 bt1125.2.2.2.2.2.2.2.2.1 bt1125.2.2.2.2.2.2.2.2.2.1 bt1125.2.2.2.2.2.2.2.2.2.2.1 bt1125.2.2.2.2.2.2.2.2.2.2.2.1 bt1125.2.2.2.2.2.2.2.2.2.2.2.2.1 bt1125.2.2.2.2.2.2.2.2.2.2.2.2.2).bind fun t1143 => (if t1143 = true then (some true) else (some false)))) else (some false)) = some r := H
  have A12 := Aside0.mk A120
  clear A120
  have HF13 := Aside0.mk H
  clear H
  obtain ⟨hcz14_0, hcz14_1, hcz14_2, hcz14_3, hcz14_4, hcz14_5, hcz14_6, hcz14_7, hcz14_8, hcz14_9, hcz14_10, hcz14_11, hcz14_12, hcz14_13, hfz14_0, hfz14_1, hfz14_2, hfz14_3, hfz14_4, hfz14_5, hfz14_6, hfz14_7, hfz14_8, hfz14_9, hfz14_10, hfz14_11, hfz14_12, hfz14_13⟩ := bq14 BK1084.out
  go_upto_if 25 with (first | ((with_reducible refine gate_callee (f := 25) rfl ?_); refine gLq (some 15) Try.func25 #[.agg #[.slice A0_0 l0_0.length c0_0, .int .i64 a0_1, .int .i64 a0_2, .int .i64 a0_3, .int .i64 a0_4, .int .i64 a0_5, .slice A0_6 l0_6.length c0_6, .int .i64 a0_7, .int .i64 a0_8, .int .i64 a0_9, .int .i64 a0_10, .int .i64 a0_11, .int .i64 a0_12, .int .i64 a0_13]] ?_; (with_reducible refine (laws_toBakery.calls k _ _ l0_0 a0_1 a0_2 a0_3 a0_4 a0_5 _ _ l0_6 a0_7 a0_8 a0_9 a0_10 a0_11 a0_12 a0_13 t1086 t1089 t1090 t1091 t1092 t1093 t1094 t1097 t1098 t1099 t1100 t1101 t1102 t1103 _ ?side1 ?side2 ?side3 ?side4 A9.out).mono ?_); (case side1 => exact Kd.Cq (Kd.C_below HR0_0.out HB.out)); (case side2 => exact HC0_0.out); (case side3 => exact Kd.Cq (Kd.C_below HR0_6.out HB.out)); (case side4 => exact HC0_6.out); rintro e w15 ⟨v1087, v1095, rfl, ho0, ho1, hb⟩; refine ⟨_, rfl, ?_⟩; have n0_ := Aside0.mk (Kd.R_lower ho0 (below_size (blq HB.out))); have n1_ := Aside0.mk (Kd.R_lower ho1 (below_size (blq HB.out))); have n2_ := Aside0.mk (blk_below (bkq BK1084.out) hb); have n3_ := Aside0.mk (below_step (blq HB.out) hb); clear BK1084; clear HB; have HO1088 := n0_; have HO1096 := n1_; have BK1084 := n2_; have HB := n3_; clear n0_ n1_ n2_ n3_; (try clear hb); (try clear hb2); (try clear hk); (try clear hi); (try clear ho0); (try clear ho1); obtain ⟨Ao16, co16, eo16⟩ := Kd.R_slice HO1088.out; subst eo16; obtain ⟨Ao17, co17, eo17⟩ := Kd.R_slice HO1096.out; subst eo17) | ((with_reducible refine gate_callee (f := 39) rfl ?_); refine gLq (some 17) Try.func39 #[.agg #[.slice Ao16 t1086.length co16, .int .i64 t1089, .int .i64 t1090, .int .i64 t1091, .int .i64 t1092, .int .i64 t1093, .slice Ao17 t1094.length co17, .int .i64 t1097, .int .i64 t1098, .int .i64 t1099, .int .i64 t1100, .int .i64 t1101, .int .i64 t1102, .int .i64 t1103], .int .i64 a1] ?_; (with_reducible refine (spec_FlourNeeded.calls k _ _ t1086 t1089 t1090 t1091 t1092 t1093 _ _ t1094 t1097 t1098 t1099 t1100 t1101 t1102 t1103 a1 t1104 _ ?side1 ?side2 ?side3 ?side4 A10.out).mono ?_); (case side1 => repeat (first | exact (Kd.R_reads' HO1088.out).2.2 | (with_reducible refine Kd.C_alloc ?_ _) | (with_reducible refine Kd.C_drewN ?_ _) | (with_reducible refine Kd.C_drew ?_))); (case side2 => exact (Kd.R_reads' HO1088.out).2.1); (case side3 => repeat (first | exact (Kd.R_reads' HO1096.out).2.2 | (with_reducible refine Kd.C_alloc ?_ _) | (with_reducible refine Kd.C_drewN ?_ _) | (with_reducible refine Kd.C_drew ?_))); (case side4 => exact (Kd.R_reads' HO1096.out).2.1); rintro e w18 ⟨rfl, hb⟩; refine ⟨_, rfl, ?_⟩; have n0_ := Aside0.mk (Kd.R_below (Kd.Rq HO1088.out) hb); have n1_ := Aside0.mk (Kd.R_below (Kd.Rq HO1096.out) hb); have n2_ := Aside0.mk (blk_below (bkq BK1084.out) hb); have n3_ := Aside0.mk (below_step (blq HB.out) hb); clear HO1088; clear HO1096; clear BK1084; clear HB; have HO1088 := n0_; have HO1096 := n1_; have BK1084 := n2_; have HB := n3_; clear n0_ n1_ n2_ n3_; (try clear hb); (try clear hb2); (try clear hk); (try clear hi); obtain ⟨hcz19_0, hcz19_1, hcz19_2, hcz19_3, hcz19_4, hcz19_5, hcz19_6, hcz19_7, hcz19_8, hcz19_9, hcz19_10, hcz19_11, hcz19_12, hcz19_13, hfz19_0, hfz19_1, hfz19_2, hfz19_3, hfz19_4, hfz19_5, hfz19_6, hfz19_7, hfz19_8, hfz19_9, hfz19_10, hfz19_11, hfz19_12, hfz19_13⟩ := bq14 BK1084.out) | ((with_reducible refine gate_callee (f := 25) rfl ?_); refine gLq (some 19) Try.func25 #[.agg #[.slice A0_0 l0_0.length c0_0, .int .i64 a0_1, .int .i64 a0_2, .int .i64 a0_3, .int .i64 a0_4, .int .i64 a0_5, .slice A0_6 l0_6.length c0_6, .int .i64 a0_7, .int .i64 a0_8, .int .i64 a0_9, .int .i64 a0_10, .int .i64 a0_11, .int .i64 a0_12, .int .i64 a0_13]] ?_; (with_reducible refine (laws_toBakery.calls k _ _ l0_0 a0_1 a0_2 a0_3 a0_4 a0_5 _ _ l0_6 a0_7 a0_8 a0_9 a0_10 a0_11 a0_12 a0_13 t1105 t1108 t1109 t1110 t1111 t1112 t1113 t1116 t1117 t1118 t1119 t1120 t1121 t1122 _ ?side1 ?side2 ?side3 ?side4 A11.out).mono ?_); (case side1 => exact Kd.Cq (Kd.C_below HR0_0.out HB.out)); (case side2 => exact HC0_0.out); (case side3 => exact Kd.Cq (Kd.C_below HR0_6.out HB.out)); (case side4 => exact HC0_6.out); rintro e w20 ⟨v1106, v1114, rfl, ho0, ho1, hb⟩; refine ⟨_, rfl, ?_⟩; have n0_ := Aside0.mk (Kd.R_elder' (Kd.Rq HO1088.out) (Kd.R_base ho0) hb); have n1_ := Aside0.mk (Kd.R_elder' (Kd.Rq HO1096.out) (Kd.R_base ho1) hb); have n2_ := Aside0.mk (Kd.R_lower (Kd.R_new' ho0 (Kd.R_lt (Kd.Rq HO1088.out))) (below_size (blq HB.out))); have n3_ := Aside0.mk (Kd.R_lower (Kd.R_new' ho1 (Kd.R_lt (Kd.Rq HO1096.out))) (below_size (blq HB.out))); have n4_ := Aside0.mk (blk_below (bkq BK1084.out) hb); have n5_ := Aside0.mk (below_step (blq HB.out) hb); clear HO1088; clear HO1096; clear BK1084; clear HB; have HO1088 := n0_; have HO1096 := n1_; have HO1107 := n2_; have HO1115 := n3_; have BK1084 := n4_; have HB := n5_; clear n0_ n1_ n2_ n3_ n4_ n5_; (try clear hb); (try clear hb2); (try clear hk); (try clear hi); (try clear ho0); (try clear ho1)) | ((with_reducible refine gate_dst (N := 7) rfl ?_); refine box_event ?hg (N := 7) ?hd (cs := #[.slice none 0 0, .int .i64 0, .int .i64 0, .int .i64 0, .int .i64 0, .int .i64 0, .slice none 0 0, .int .i64 0, .int .i64 0, .int .i64 0, .int .i64 0, .int .i64 0, .int .i64 0, .int .i64 0]) (t := 59) ?hr ?_; (case hd => rfl); (case hg => rfl); (case hr => first | (go_simp; done) | (go_simp; rfl)); intro gb1123 hg w21 hbox hb; have n0_ := Aside0.mk (Kd.R_below (Kd.Rq HO1088.out) hb); have n1_ := Aside0.mk (Kd.R_below (Kd.Rq HO1096.out) hb); have n2_ := Aside0.mk (Kd.R_below (Kd.Rq HO1107.out) hb); have n3_ := Aside0.mk (Kd.R_below (Kd.Rq HO1115.out) hb); have n4_ := Aside0.mk (blk_below (bkq BK1084.out) hb); have n5_ := Aside0.mk (below_step (blq HB.out) hb); have n6_ := Aside0.mk (hbox); have n7_ := Aside0.mk ((sq hg HB.out)); have n8_ := Aside0.mk ((sq hg HB.out)); have n9_ := Aside0.mk ((by rw [hg]; exact Nat.ne_of_lt (blk_lt (bkq BK1084.out)) : gb1084 ≠ gb1123)); have n10_ := Aside0.mk ((by rw [hg]; exact Nat.ne_of_gt (blk_lt (bkq BK1084.out)) : gb1123 ≠ gb1084)); clear HO1088; clear HO1096; clear HO1107; clear HO1115; clear BK1084; clear HB; have HO1088 := n0_; have HO1096 := n1_; have HO1107 := n2_; have HO1115 := n3_; have BK1084 := n4_; have HB := n5_; have BK1123 := n6_; have GW1123 := n7_; have GE1123 := n8_; have NB1084_1123 := n9_; have NB1123_1084 := n10_; clear n0_ n1_ n2_ n3_ n4_ n5_ n6_ n7_ n8_ n9_ n10_; clear hb hbox hg; obtain ⟨Ao22, co22, eo22⟩ := Kd.R_slice HO1107.out; subst eo22; have hnb23 := NB1123_1084.out; have hnc23 := NB1084_1123.out; obtain ⟨hcz24_0, hcz24_1, hcz24_2, hcz24_3, hcz24_4, hcz24_5, hcz24_6, hcz24_7, hcz24_8, hcz24_9, hcz24_10, hcz24_11, hcz24_12, hcz24_13, hfz24_0, hfz24_1, hfz24_2, hfz24_3, hfz24_4, hfz24_5, hfz24_6, hfz24_7, hfz24_8, hfz24_9, hfz24_10, hfz24_11, hfz24_12, hfz24_13⟩ := bq14 BK1123.out; obtain ⟨Ao25, co25, eo25⟩ := Kd.R_slice HO1115.out; subst eo25) | ((with_reducible refine gate_callee (f := 40) rfl ?_); refine gLq (some 22) Try.func40 #[.agg #[.slice Ao22 t1105.length co22, .int .i64 t1108, .int .i64 t1109, .int .i64 t1110, .int .i64 t1111, .int .i64 t1112, .slice Ao25 t1113.length co25, .int .i64 t1116, .int .i64 t1117, .int .i64 t1118, .int .i64 t1119, .int .i64 t1120, .int .i64 t1121, .int .i64 t1122], .int .i64 a1] ?_; (with_reducible refine (impl_FlourNeeded.calls k _ _ t1105 t1108 t1109 t1110 t1111 t1112 _ _ t1113 t1116 t1117 t1118 t1119 t1120 t1121 t1122 a1 t1124 _ ?side1 ?side2 ?side3 ?side4 A12.out).mono ?_); (case side1 => refine (Kd.R_reads' (e := 3) (base := w.heap.size) (ok := fun k_ => (True ∧ some k_ ≠ (.slice Ao16 t1086.length co16 : Value).ownBlock)) (n := t1105.length) (c := co22) ?_).2.2; exact (Kd.Rq (Kd.R_mono (Kd.R_far (p := ⟨gb1123, 13, none⟩) (Kd.R_far (p := ⟨gb1123, 12, none⟩) (Kd.R_far (p := ⟨gb1123, 11, none⟩) (Kd.R_far (p := ⟨gb1123, 10, none⟩) (Kd.R_far (p := ⟨gb1123, 9, none⟩) (Kd.R_far (p := ⟨gb1123, 8, none⟩) (Kd.R_far (p := ⟨gb1123, 7, none⟩) (Kd.R_far (p := ⟨gb1123, 6, none⟩) (Kd.R_far (p := ⟨gb1123, 5, none⟩) (Kd.R_far (p := ⟨gb1123, 4, none⟩) (Kd.R_far (p := ⟨gb1123, 3, none⟩) (Kd.R_far (p := ⟨gb1123, 2, none⟩) (Kd.R_far (p := ⟨gb1123, 1, none⟩) (Kd.R_far (p := ⟨gb1123, 0, none⟩) (Kd.R_types HO1107.out BK1123.out (by decide)) (fun _ hk => hk.2) (.slice Ao22 t1105.length co22)) (fun _ hk => hk.2) (.int .i64 t1108)) (fun _ hk => hk.2) (.int .i64 t1109)) (fun _ hk => hk.2) (.int .i64 t1110)) (fun _ hk => hk.2) (.int .i64 t1111)) (fun _ hk => hk.2) (.int .i64 t1112)) (fun _ hk => hk.2) (.slice Ao25 t1113.length co25)) (fun _ hk => hk.2) (.int .i64 t1116)) (fun _ hk => hk.2) (.int .i64 t1117)) (fun _ hk => hk.2) (.int .i64 t1118)) (fun _ hk => hk.2) (.int .i64 t1119)) (fun _ hk => hk.2) (.int .i64 t1120)) (fun _ hk => hk.2) (.int .i64 t1121)) (fun _ hk => hk.2) (.int .i64 t1122)) (fun _ h_ => h_.1)))); (case side2 => exact (Kd.R_reads' HO1107.out).2.1); (case side3 => refine (Kd.R_reads' (e := 41) (base := w.heap.size) (ok := fun k_ => (True ∧ some k_ ≠ (.slice Ao17 t1094.length co17 : Value).ownBlock)) (n := t1113.length) (c := co25) ?_).2.2; exact (Kd.Rq (Kd.R_mono (Kd.R_far (p := ⟨gb1123, 13, none⟩) (Kd.R_far (p := ⟨gb1123, 12, none⟩) (Kd.R_far (p := ⟨gb1123, 11, none⟩) (Kd.R_far (p := ⟨gb1123, 10, none⟩) (Kd.R_far (p := ⟨gb1123, 9, none⟩) (Kd.R_far (p := ⟨gb1123, 8, none⟩) (Kd.R_far (p := ⟨gb1123, 7, none⟩) (Kd.R_far (p := ⟨gb1123, 6, none⟩) (Kd.R_far (p := ⟨gb1123, 5, none⟩) (Kd.R_far (p := ⟨gb1123, 4, none⟩) (Kd.R_far (p := ⟨gb1123, 3, none⟩) (Kd.R_far (p := ⟨gb1123, 2, none⟩) (Kd.R_far (p := ⟨gb1123, 1, none⟩) (Kd.R_far (p := ⟨gb1123, 0, none⟩) (Kd.R_types HO1115.out BK1123.out (by decide)) (fun _ hk => hk.2) (.slice Ao22 t1105.length co22)) (fun _ hk => hk.2) (.int .i64 t1108)) (fun _ hk => hk.2) (.int .i64 t1109)) (fun _ hk => hk.2) (.int .i64 t1110)) (fun _ hk => hk.2) (.int .i64 t1111)) (fun _ hk => hk.2) (.int .i64 t1112)) (fun _ hk => hk.2) (.slice Ao25 t1113.length co25)) (fun _ hk => hk.2) (.int .i64 t1116)) (fun _ hk => hk.2) (.int .i64 t1117)) (fun _ hk => hk.2) (.int .i64 t1118)) (fun _ hk => hk.2) (.int .i64 t1119)) (fun _ hk => hk.2) (.int .i64 t1120)) (fun _ hk => hk.2) (.int .i64 t1121)) (fun _ hk => hk.2) (.int .i64 t1122)) (fun _ h_ => h_.1)))); (case side4 => exact (Kd.R_reads' HO1115.out).2.1); rintro e w26 ⟨rfl, hb⟩; refine ⟨_, rfl, ?_⟩; have n0_ := Aside0.mk (Kd.R_below (Kd.Rq (Kd.R_mono (Kd.R_far (p := ⟨gb1123, 13, none⟩) (Kd.R_far (p := ⟨gb1123, 12, none⟩) (Kd.R_far (p := ⟨gb1123, 11, none⟩) (Kd.R_far (p := ⟨gb1123, 10, none⟩) (Kd.R_far (p := ⟨gb1123, 9, none⟩) (Kd.R_far (p := ⟨gb1123, 8, none⟩) (Kd.R_far (p := ⟨gb1123, 7, none⟩) (Kd.R_far (p := ⟨gb1123, 6, none⟩) (Kd.R_far (p := ⟨gb1123, 5, none⟩) (Kd.R_far (p := ⟨gb1123, 4, none⟩) (Kd.R_far (p := ⟨gb1123, 3, none⟩) (Kd.R_far (p := ⟨gb1123, 2, none⟩) (Kd.R_far (p := ⟨gb1123, 1, none⟩) (Kd.R_far (p := ⟨gb1123, 0, none⟩) (Kd.R_types HO1088.out BK1123.out (by decide)) (fun _ hk => hk.2) (.slice Ao22 t1105.length co22)) (fun _ hk => hk.2) (.int .i64 t1108)) (fun _ hk => hk.2) (.int .i64 t1109)) (fun _ hk => hk.2) (.int .i64 t1110)) (fun _ hk => hk.2) (.int .i64 t1111)) (fun _ hk => hk.2) (.int .i64 t1112)) (fun _ hk => hk.2) (.slice Ao25 t1113.length co25)) (fun _ hk => hk.2) (.int .i64 t1116)) (fun _ hk => hk.2) (.int .i64 t1117)) (fun _ hk => hk.2) (.int .i64 t1118)) (fun _ hk => hk.2) (.int .i64 t1119)) (fun _ hk => hk.2) (.int .i64 t1120)) (fun _ hk => hk.2) (.int .i64 t1121)) (fun _ hk => hk.2) (.int .i64 t1122)) (fun _ h_ => h_.1))) hb); have n1_ := Aside0.mk (Kd.R_below (Kd.Rq (Kd.R_mono (Kd.R_far (p := ⟨gb1123, 13, none⟩) (Kd.R_far (p := ⟨gb1123, 12, none⟩) (Kd.R_far (p := ⟨gb1123, 11, none⟩) (Kd.R_far (p := ⟨gb1123, 10, none⟩) (Kd.R_far (p := ⟨gb1123, 9, none⟩) (Kd.R_far (p := ⟨gb1123, 8, none⟩) (Kd.R_far (p := ⟨gb1123, 7, none⟩) (Kd.R_far (p := ⟨gb1123, 6, none⟩) (Kd.R_far (p := ⟨gb1123, 5, none⟩) (Kd.R_far (p := ⟨gb1123, 4, none⟩) (Kd.R_far (p := ⟨gb1123, 3, none⟩) (Kd.R_far (p := ⟨gb1123, 2, none⟩) (Kd.R_far (p := ⟨gb1123, 1, none⟩) (Kd.R_far (p := ⟨gb1123, 0, none⟩) (Kd.R_types HO1096.out BK1123.out (by decide)) (fun _ hk => hk.2) (.slice Ao22 t1105.length co22)) (fun _ hk => hk.2) (.int .i64 t1108)) (fun _ hk => hk.2) (.int .i64 t1109)) (fun _ hk => hk.2) (.int .i64 t1110)) (fun _ hk => hk.2) (.int .i64 t1111)) (fun _ hk => hk.2) (.int .i64 t1112)) (fun _ hk => hk.2) (.slice Ao25 t1113.length co25)) (fun _ hk => hk.2) (.int .i64 t1116)) (fun _ hk => hk.2) (.int .i64 t1117)) (fun _ hk => hk.2) (.int .i64 t1118)) (fun _ hk => hk.2) (.int .i64 t1119)) (fun _ hk => hk.2) (.int .i64 t1120)) (fun _ hk => hk.2) (.int .i64 t1121)) (fun _ hk => hk.2) (.int .i64 t1122)) (fun _ h_ => h_.1))) hb); have n2_ := Aside0.mk (Kd.R_below (Kd.Rq (Kd.R_mono (Kd.R_far (p := ⟨gb1123, 13, none⟩) (Kd.R_far (p := ⟨gb1123, 12, none⟩) (Kd.R_far (p := ⟨gb1123, 11, none⟩) (Kd.R_far (p := ⟨gb1123, 10, none⟩) (Kd.R_far (p := ⟨gb1123, 9, none⟩) (Kd.R_far (p := ⟨gb1123, 8, none⟩) (Kd.R_far (p := ⟨gb1123, 7, none⟩) (Kd.R_far (p := ⟨gb1123, 6, none⟩) (Kd.R_far (p := ⟨gb1123, 5, none⟩) (Kd.R_far (p := ⟨gb1123, 4, none⟩) (Kd.R_far (p := ⟨gb1123, 3, none⟩) (Kd.R_far (p := ⟨gb1123, 2, none⟩) (Kd.R_far (p := ⟨gb1123, 1, none⟩) (Kd.R_far (p := ⟨gb1123, 0, none⟩) (Kd.R_types HO1107.out BK1123.out (by decide)) (fun _ hk => hk.2) (.slice Ao22 t1105.length co22)) (fun _ hk => hk.2) (.int .i64 t1108)) (fun _ hk => hk.2) (.int .i64 t1109)) (fun _ hk => hk.2) (.int .i64 t1110)) (fun _ hk => hk.2) (.int .i64 t1111)) (fun _ hk => hk.2) (.int .i64 t1112)) (fun _ hk => hk.2) (.slice Ao25 t1113.length co25)) (fun _ hk => hk.2) (.int .i64 t1116)) (fun _ hk => hk.2) (.int .i64 t1117)) (fun _ hk => hk.2) (.int .i64 t1118)) (fun _ hk => hk.2) (.int .i64 t1119)) (fun _ hk => hk.2) (.int .i64 t1120)) (fun _ hk => hk.2) (.int .i64 t1121)) (fun _ hk => hk.2) (.int .i64 t1122)) (fun _ h_ => h_.1))) hb); have n3_ := Aside0.mk (Kd.R_below (Kd.Rq (Kd.R_mono (Kd.R_far (p := ⟨gb1123, 13, none⟩) (Kd.R_far (p := ⟨gb1123, 12, none⟩) (Kd.R_far (p := ⟨gb1123, 11, none⟩) (Kd.R_far (p := ⟨gb1123, 10, none⟩) (Kd.R_far (p := ⟨gb1123, 9, none⟩) (Kd.R_far (p := ⟨gb1123, 8, none⟩) (Kd.R_far (p := ⟨gb1123, 7, none⟩) (Kd.R_far (p := ⟨gb1123, 6, none⟩) (Kd.R_far (p := ⟨gb1123, 5, none⟩) (Kd.R_far (p := ⟨gb1123, 4, none⟩) (Kd.R_far (p := ⟨gb1123, 3, none⟩) (Kd.R_far (p := ⟨gb1123, 2, none⟩) (Kd.R_far (p := ⟨gb1123, 1, none⟩) (Kd.R_far (p := ⟨gb1123, 0, none⟩) (Kd.R_types HO1115.out BK1123.out (by decide)) (fun _ hk => hk.2) (.slice Ao22 t1105.length co22)) (fun _ hk => hk.2) (.int .i64 t1108)) (fun _ hk => hk.2) (.int .i64 t1109)) (fun _ hk => hk.2) (.int .i64 t1110)) (fun _ hk => hk.2) (.int .i64 t1111)) (fun _ hk => hk.2) (.int .i64 t1112)) (fun _ hk => hk.2) (.slice Ao25 t1113.length co25)) (fun _ hk => hk.2) (.int .i64 t1116)) (fun _ hk => hk.2) (.int .i64 t1117)) (fun _ hk => hk.2) (.int .i64 t1118)) (fun _ hk => hk.2) (.int .i64 t1119)) (fun _ hk => hk.2) (.int .i64 t1120)) (fun _ hk => hk.2) (.int .i64 t1121)) (fun _ hk => hk.2) (.int .i64 t1122)) (fun _ h_ => h_.1))) hb); have n4_ := Aside0.mk (blk_below (g := gb1084) (o := .cells #[.slice A0_0 l0_0.length c0_0, .int .i64 a0_1, .int .i64 a0_2, .int .i64 a0_3, .int .i64 a0_4, .int .i64 a0_5, .slice A0_6 l0_6.length c0_6, .int .i64 a0_7, .int .i64 a0_8, .int .i64 a0_9, .int .i64 a0_10, .int .i64 a0_11, .int .i64 a0_12, .int .i64 a0_13] 52 (0, 0)) (by (with_reducible repeat (first | refine blk_drewN ?_ _ | refine blk_drew ?_ | refine blk_alloc ?_ _)); refine blk_far ?_ NB1084_1123.out _; (with_reducible repeat (first | refine blk_drewN ?_ _ | refine blk_drew ?_ | refine blk_alloc ?_ _)); refine blk_far ?_ NB1084_1123.out _; (with_reducible repeat (first | refine blk_drewN ?_ _ | refine blk_drew ?_ | refine blk_alloc ?_ _)); refine blk_far ?_ NB1084_1123.out _; (with_reducible repeat (first | refine blk_drewN ?_ _ | refine blk_drew ?_ | refine blk_alloc ?_ _)); refine blk_far ?_ NB1084_1123.out _; (with_reducible repeat (first | refine blk_drewN ?_ _ | refine blk_drew ?_ | refine blk_alloc ?_ _)); refine blk_far ?_ NB1084_1123.out _; (with_reducible repeat (first | refine blk_drewN ?_ _ | refine blk_drew ?_ | refine blk_alloc ?_ _)); refine blk_far ?_ NB1084_1123.out _; (with_reducible repeat (first | refine blk_drewN ?_ _ | refine blk_drew ?_ | refine blk_alloc ?_ _)); refine blk_far ?_ NB1084_1123.out _; (with_reducible repeat (first | refine blk_drewN ?_ _ | refine blk_drew ?_ | refine blk_alloc ?_ _)); refine blk_far ?_ NB1084_1123.out _; (with_reducible repeat (first | refine blk_drewN ?_ _ | refine blk_drew ?_ | refine blk_alloc ?_ _)); refine blk_far ?_ NB1084_1123.out _; (with_reducible repeat (first | refine blk_drewN ?_ _ | refine blk_drew ?_ | refine blk_alloc ?_ _)); refine blk_far ?_ NB1084_1123.out _; (with_reducible repeat (first | refine blk_drewN ?_ _ | refine blk_drew ?_ | refine blk_alloc ?_ _)); refine blk_far ?_ NB1084_1123.out _; (with_reducible repeat (first | refine blk_drewN ?_ _ | refine blk_drew ?_ | refine blk_alloc ?_ _)); refine blk_far ?_ NB1084_1123.out _; (with_reducible repeat (first | refine blk_drewN ?_ _ | refine blk_drew ?_ | refine blk_alloc ?_ _)); refine blk_far ?_ NB1084_1123.out _; (with_reducible repeat (first | refine blk_drewN ?_ _ | refine blk_drew ?_ | refine blk_alloc ?_ _)); refine blk_far ?_ NB1084_1123.out _; (with_reducible repeat (first | refine blk_drewN ?_ _ | refine blk_drew ?_ | refine blk_alloc ?_ _)); exact BK1084.out) hb); have n5_ := Aside0.mk (blk_below (g := gb1123) (o := .cells #[.slice Ao22 t1105.length co22, .int .i64 t1108, .int .i64 t1109, .int .i64 t1110, .int .i64 t1111, .int .i64 t1112, .slice Ao25 t1113.length co25, .int .i64 t1116, .int .i64 t1117, .int .i64 t1118, .int .i64 t1119, .int .i64 t1120, .int .i64 t1121, .int .i64 t1122] 59 (0, 0)) (by (with_reducible repeat (first | refine blk_drewN ?_ _ | refine blk_drew ?_ | refine blk_alloc ?_ _)); refine blk_put (cs := #[.slice Ao22 t1105.length co22, .int .i64 t1108, .int .i64 t1109, .int .i64 t1110, .int .i64 t1111, .int .i64 t1112, .slice Ao25 t1113.length co25, .int .i64 t1116, .int .i64 t1117, .int .i64 t1118, .int .i64 t1119, .int .i64 t1120, .int .i64 t1121, .int .i64 0]) ?_ 13 _ rfl; (with_reducible repeat (first | refine blk_drewN ?_ _ | refine blk_drew ?_ | refine blk_alloc ?_ _)); refine blk_put (cs := #[.slice Ao22 t1105.length co22, .int .i64 t1108, .int .i64 t1109, .int .i64 t1110, .int .i64 t1111, .int .i64 t1112, .slice Ao25 t1113.length co25, .int .i64 t1116, .int .i64 t1117, .int .i64 t1118, .int .i64 t1119, .int .i64 t1120, .int .i64 0, .int .i64 0]) ?_ 12 _ rfl; (with_reducible repeat (first | refine blk_drewN ?_ _ | refine blk_drew ?_ | refine blk_alloc ?_ _)); refine blk_put (cs := #[.slice Ao22 t1105.length co22, .int .i64 t1108, .int .i64 t1109, .int .i64 t1110, .int .i64 t1111, .int .i64 t1112, .slice Ao25 t1113.length co25, .int .i64 t1116, .int .i64 t1117, .int .i64 t1118, .int .i64 t1119, .int .i64 0, .int .i64 0, .int .i64 0]) ?_ 11 _ rfl; (with_reducible repeat (first | refine blk_drewN ?_ _ | refine blk_drew ?_ | refine blk_alloc ?_ _)); refine blk_put (cs := #[.slice Ao22 t1105.length co22, .int .i64 t1108, .int .i64 t1109, .int .i64 t1110, .int .i64 t1111, .int .i64 t1112, .slice Ao25 t1113.length co25, .int .i64 t1116, .int .i64 t1117, .int .i64 t1118, .int .i64 0, .int .i64 0, .int .i64 0, .int .i64 0]) ?_ 10 _ rfl; (with_reducible repeat (first | refine blk_drewN ?_ _ | refine blk_drew ?_ | refine blk_alloc ?_ _)); refine blk_put (cs := #[.slice Ao22 t1105.length co22, .int .i64 t1108, .int .i64 t1109, .int .i64 t1110, .int .i64 t1111, .int .i64 t1112, .slice Ao25 t1113.length co25, .int .i64 t1116, .int .i64 t1117, .int .i64 0, .int .i64 0, .int .i64 0, .int .i64 0, .int .i64 0]) ?_ 9 _ rfl; (with_reducible repeat (first | refine blk_drewN ?_ _ | refine blk_drew ?_ | refine blk_alloc ?_ _)); refine blk_put (cs := #[.slice Ao22 t1105.length co22, .int .i64 t1108, .int .i64 t1109, .int .i64 t1110, .int .i64 t1111, .int .i64 t1112, .slice Ao25 t1113.length co25, .int .i64 t1116, .int .i64 0, .int .i64 0, .int .i64 0, .int .i64 0, .int .i64 0, .int .i64 0]) ?_ 8 _ rfl; (with_reducible repeat (first | refine blk_drewN ?_ _ | refine blk_drew ?_ | refine blk_alloc ?_ _)); refine blk_put (cs := #[.slice Ao22 t1105.length co22, .int .i64 t1108, .int .i64 t1109, .int .i64 t1110, .int .i64 t1111, .int .i64 t1112, .slice Ao25 t1113.length co25, .int .i64 0, .int .i64 0, .int .i64 0, .int .i64 0, .int .i64 0, .int .i64 0, .int .i64 0]) ?_ 7 _ rfl; (with_reducible repeat (first | refine blk_drewN ?_ _ | refine blk_drew ?_ | refine blk_alloc ?_ _)); refine blk_put (cs := #[.slice Ao22 t1105.length co22, .int .i64 t1108, .int .i64 t1109, .int .i64 t1110, .int .i64 t1111, .int .i64 t1112, .slice none 0 0, .int .i64 0, .int .i64 0, .int .i64 0, .int .i64 0, .int .i64 0, .int .i64 0, .int .i64 0]) ?_ 6 _ rfl; (with_reducible repeat (first | refine blk_drewN ?_ _ | refine blk_drew ?_ | refine blk_alloc ?_ _)); refine blk_put (cs := #[.slice Ao22 t1105.length co22, .int .i64 t1108, .int .i64 t1109, .int .i64 t1110, .int .i64 t1111, .int .i64 0, .slice none 0 0, .int .i64 0, .int .i64 0, .int .i64 0, .int .i64 0, .int .i64 0, .int .i64 0, .int .i64 0]) ?_ 5 _ rfl; (with_reducible repeat (first | refine blk_drewN ?_ _ | refine blk_drew ?_ | refine blk_alloc ?_ _)); refine blk_put (cs := #[.slice Ao22 t1105.length co22, .int .i64 t1108, .int .i64 t1109, .int .i64 t1110, .int .i64 0, .int .i64 0, .slice none 0 0, .int .i64 0, .int .i64 0, .int .i64 0, .int .i64 0, .int .i64 0, .int .i64 0, .int .i64 0]) ?_ 4 _ rfl; (with_reducible repeat (first | refine blk_drewN ?_ _ | refine blk_drew ?_ | refine blk_alloc ?_ _)); refine blk_put (cs := #[.slice Ao22 t1105.length co22, .int .i64 t1108, .int .i64 t1109, .int .i64 0, .int .i64 0, .int .i64 0, .slice none 0 0, .int .i64 0, .int .i64 0, .int .i64 0, .int .i64 0, .int .i64 0, .int .i64 0, .int .i64 0]) ?_ 3 _ rfl; (with_reducible repeat (first | refine blk_drewN ?_ _ | refine blk_drew ?_ | refine blk_alloc ?_ _)); refine blk_put (cs := #[.slice Ao22 t1105.length co22, .int .i64 t1108, .int .i64 0, .int .i64 0, .int .i64 0, .int .i64 0, .slice none 0 0, .int .i64 0, .int .i64 0, .int .i64 0, .int .i64 0, .int .i64 0, .int .i64 0, .int .i64 0]) ?_ 2 _ rfl; (with_reducible repeat (first | refine blk_drewN ?_ _ | refine blk_drew ?_ | refine blk_alloc ?_ _)); refine blk_put (cs := #[.slice Ao22 t1105.length co22, .int .i64 0, .int .i64 0, .int .i64 0, .int .i64 0, .int .i64 0, .slice none 0 0, .int .i64 0, .int .i64 0, .int .i64 0, .int .i64 0, .int .i64 0, .int .i64 0, .int .i64 0]) ?_ 1 _ rfl; (with_reducible repeat (first | refine blk_drewN ?_ _ | refine blk_drew ?_ | refine blk_alloc ?_ _)); refine blk_put (cs := #[.slice none 0 0, .int .i64 0, .int .i64 0, .int .i64 0, .int .i64 0, .int .i64 0, .slice none 0 0, .int .i64 0, .int .i64 0, .int .i64 0, .int .i64 0, .int .i64 0, .int .i64 0, .int .i64 0]) ?_ 0 _ rfl; (with_reducible repeat (first | refine blk_drewN ?_ _ | refine blk_drew ?_ | refine blk_alloc ?_ _)); exact BK1123.out) hb); have n6_ := Aside0.mk (below_step (blq HB.out) hb); clear HO1088; clear HO1096; clear HO1107; clear HO1115; clear BK1084; clear BK1123; clear HB; have HO1088 := n0_; have HO1096 := n1_; have HO1107 := n2_; have HO1115 := n3_; have BK1084 := n4_; have BK1123 := n5_; have HB := n6_; clear n0_ n1_ n2_ n3_ n4_ n5_ n6_; (try clear hb); (try clear hb2); (try clear hk); (try clear hi)))
  have H := HF13.out
  clear HF13
  by_cases c27 : t1124 = t1104
  ·
   rw [if_pos c27] at H
   have c27b0 : (t1124 == t1104) = true := beq_iff_eq.mpr c27
   have c27b1 : (t1124 != t1104) = false := bne_eq_false_iff_eq.mpr c27
   clear c27
   (first | rw [c27b0] | (simp only [i64_w, i32_w]; rw [c27b0]) | skip)
   replace H := Option.bind_eq_some_iff.mp H
   obtain ⟨⟨t1125, t1128, t1129, t1130, t1131, t1132, t1133, t1136, t1137, t1138, t1139, t1140, t1141, t1142⟩, A280, H⟩ := H
   replace H : ((laws_eqBakery.f k t1105 t1108 t1109 t1110 t1111 t1112 t1113 t1116 t1117 t1118 t1119 t1120 t1121 t1122 t1125 t1128 t1129 t1130 t1131 t1132 t1133 t1136 t1137 t1138 t1139 t1140 t1141 t1142).bind fun t1143 => (if t1143 = true then (some true) else (some false))) = some r := H
   have A28 := Aside0.mk A280
   clear A280
   replace H := Option.bind_eq_some_iff.mp H
   obtain ⟨t1143, A290, H⟩ := H
   replace H : (if t1143 = true then (some true) else (some false)) = some r := H
   have A29 := Aside0.mk A290
   clear A290
   have HF30 := Aside0.mk H
   clear H
   try go_wp2
   have n0_ := Aside0.mk (Kd.R_drew HO1088.out)
   have n1_ := Aside0.mk (Kd.R_drew HO1096.out)
   have n2_ := Aside0.mk (Kd.R_drew HO1107.out)
   have n3_ := Aside0.mk (Kd.R_drew HO1115.out)
   have n4_ := Aside0.mk (blk_drew BK1084.out)
   have n5_ := Aside0.mk (blk_drew BK1123.out)
   have n6_ := Aside0.mk (below_drew1 HB.out)
   clear HO1088
   clear HO1096
   clear HO1107
   clear HO1115
   clear BK1084
   clear BK1123
   clear HB
   have HO1088 := n0_
   have HO1096 := n1_
   have HO1107 := n2_
   have HO1115 := n3_
   have BK1084 := n4_
   have BK1123 := n5_
   have HB := n6_
   clear n0_ n1_ n2_ n3_ n4_ n5_ n6_
   refine start_ (n := 5) (S := fun w' => w'.cell? ⟨gb1123, 0, none⟩ = some (.slice Ao22 t1105.length co22) ∧ w'.cell? ⟨gb1123, 1, none⟩ = some (.int .i64 t1108) ∧ w'.cell? ⟨gb1123, 2, none⟩ = some (.int .i64 t1109) ∧ w'.cell? ⟨gb1123, 3, none⟩ = some (.int .i64 t1110) ∧ w'.cell? ⟨gb1123, 4, none⟩ = some (.int .i64 t1111) ∧ w'.cell? ⟨gb1123, 5, none⟩ = some (.int .i64 t1112) ∧ w'.cell? ⟨gb1123, 6, none⟩ = some (.slice Ao25 t1113.length co25) ∧ w'.cell? ⟨gb1123, 7, none⟩ = some (.int .i64 t1116) ∧ w'.cell? ⟨gb1123, 8, none⟩ = some (.int .i64 t1117) ∧ w'.cell? ⟨gb1123, 9, none⟩ = some (.int .i64 t1118) ∧ w'.cell? ⟨gb1123, 10, none⟩ = some (.int .i64 t1119) ∧ w'.cell? ⟨gb1123, 11, none⟩ = some (.int .i64 t1120) ∧ w'.cell? ⟨gb1123, 12, none⟩ = some (.int .i64 t1121) ∧ w'.cell? ⟨gb1123, 13, none⟩ = some (.int .i64 t1122) ∧ w'.cell? ⟨gb1084, 0, none⟩ = some (.slice A0_0 l0_0.length c0_0) ∧ w'.cell? ⟨gb1084, 1, none⟩ = some (.int .i64 a0_1) ∧ w'.cell? ⟨gb1084, 2, none⟩ = some (.int .i64 a0_2) ∧ w'.cell? ⟨gb1084, 3, none⟩ = some (.int .i64 a0_3) ∧ w'.cell? ⟨gb1084, 4, none⟩ = some (.int .i64 a0_4) ∧ w'.cell? ⟨gb1084, 5, none⟩ = some (.int .i64 a0_5) ∧ w'.cell? ⟨gb1084, 6, none⟩ = some (.slice A0_6 l0_6.length c0_6) ∧ w'.cell? ⟨gb1084, 7, none⟩ = some (.int .i64 a0_7) ∧ w'.cell? ⟨gb1084, 8, none⟩ = some (.int .i64 a0_8) ∧ w'.cell? ⟨gb1084, 9, none⟩ = some (.int .i64 a0_9) ∧ w'.cell? ⟨gb1084, 10, none⟩ = some (.int .i64 a0_10) ∧ w'.cell? ⟨gb1084, 11, none⟩ = some (.int .i64 a0_11) ∧ w'.cell? ⟨gb1084, 12, none⟩ = some (.int .i64 a0_12) ∧ w'.cell? ⟨gb1084, 13, none⟩ = some (.int .i64 a0_13)) (ds := []) #[false, false, false, false, false] (by kernel_rfl) rfl rfl ⟨(blk_cell BK1123.out 0).trans rfl, (blk_cell BK1123.out 1).trans rfl, (blk_cell BK1123.out 2).trans rfl, (blk_cell BK1123.out 3).trans rfl, (blk_cell BK1123.out 4).trans rfl, (blk_cell BK1123.out 5).trans rfl, (blk_cell BK1123.out 6).trans rfl, (blk_cell BK1123.out 7).trans rfl, (blk_cell BK1123.out 8).trans rfl, (blk_cell BK1123.out 9).trans rfl, (blk_cell BK1123.out 10).trans rfl, (blk_cell BK1123.out 11).trans rfl, (blk_cell BK1123.out 12).trans rfl, (blk_cell BK1123.out 13).trans rfl, (blk_cell BK1084.out 0).trans rfl, (blk_cell BK1084.out 1).trans rfl, (blk_cell BK1084.out 2).trans rfl, (blk_cell BK1084.out 3).trans rfl, (blk_cell BK1084.out 4).trans rfl, (blk_cell BK1084.out 5).trans rfl, (blk_cell BK1084.out 6).trans rfl, (blk_cell BK1084.out 7).trans rfl, (blk_cell BK1084.out 8).trans rfl, (blk_cell BK1084.out 9).trans rfl, (blk_cell BK1084.out 10).trans rfl, (blk_cell BK1084.out 11).trans rfl, (blk_cell BK1084.out 12).trans rfl, (blk_cell BK1084.out 13).trans rfl⟩ (fun hHeld => ?_)
   generalize w26.drew = w31 at HO1088 HO1096 HO1107 HO1115 BK1084 BK1123 HB hHeld ⊢
   refine take_ (i := 0) (N := some 26) (v := ?_) (a' := ?_) #[true, false, false, false, false] rfl rfl (by kernel_rfl) (fun _ _ _ h => h) (Or.inl ⟨by rfl, ?_⟩) hHeld ?_ ?_
   rotate_left
   ·
    rintro w' ⟨s0, s1, s2, s3, s4, s5, s6, s7, s8, s9, s10, s11, s12, s13, s14, s15, s16, s17, s18, s19, s20, s21, s22, s23, s24, s25, s26, s27⟩
    go_simp
    with_reducible rfl
   rotate_left
   ·
    simp only [Act.put, List.setIfInBounds_toArray, List.set_cons_zero, List.set_cons_succ, i64_w, i32_w]
    rfl
   refine take_ (i := 1) (N := some 27) (v := ?_) (a' := ?_) #[true, true, false, false, false] rfl rfl (by kernel_rfl) (fun _ _ _ h => h) (Or.inl ⟨by rfl, ?_⟩) hHeld ?_ ?_
   rotate_left
   ·
    rintro w' ⟨s0, s1, s2, s3, s4, s5, s6, s7, s8, s9, s10, s11, s12, s13, s14, s15, s16, s17, s18, s19, s20, s21, s22, s23, s24, s25, s26, s27⟩
    go_simp
    with_reducible rfl
   rotate_left
   ·
    simp only [Act.put, List.setIfInBounds_toArray, List.set_cons_zero, List.set_cons_succ, i64_w, i32_w]
    rfl
   refine one_ (i := 2) (N := some 28) #[true, true, true, false, false] rfl rfl (by kernel_rfl) (by decide) (fun K hK => ?_)
   refine goes_ Try.func25 (by kernel_rfl) rfl #[.agg #[.slice A0_0 l0_0.length c0_0, .int .i64 a0_1, .int .i64 a0_2, .int .i64 a0_3, .int .i64 a0_4, .int .i64 a0_5, .slice A0_6 l0_6.length c0_6, .int .i64 a0_7, .int .i64 a0_8, .int .i64 a0_9, .int .i64 a0_10, .int .i64 a0_11, .int .i64 a0_12, .int .i64 a0_13]] (by rfl) rfl rfl (by (try simp only [List.map_toArray, List.map_cons, List.map_nil]); first | done | rfl | (simp only [List.length_drop, List.length_take]; rfl)) ?_
   with_reducible refine (laws_toBakery.calls k _ _ l0_0 a0_1 a0_2 a0_3 a0_4 a0_5 _ _ l0_6 a0_7 a0_8 a0_9 a0_10 a0_11 a0_12 a0_13 t1125 t1128 t1129 t1130 t1131 t1132 t1133 t1136 t1137 t1138 t1139 t1140 t1141 t1142 _ ?side1 ?side2 ?side3 ?side4 A28.out).mono ?_
   (case side1 => exact Kd.Cq (Kd.C_below HR0_0.out HB.out))
   (case side2 => exact HC0_0.out)
   (case side3 => exact Kd.Cq (Kd.C_below HR0_6.out HB.out))
   (case side4 => exact HC0_6.out)
   rintro e w32 ⟨v1126, v1134, rfl, ho0, ho1, hb⟩
   refine ⟨_, rfl, ?_⟩
   have n0_ := Aside0.mk (Kd.R_elder' (Kd.Rq HO1088.out) (Kd.R_base ho0) hb)
   have n1_ := Aside0.mk (Kd.R_elder' (Kd.Rq HO1096.out) (Kd.R_base ho1) hb)
   have n2_ := Aside0.mk (Kd.R_elder' (Kd.Rq HO1107.out) (Kd.R_base ho0) hb)
   have n3_ := Aside0.mk (Kd.R_elder' (Kd.Rq HO1115.out) (Kd.R_base ho1) hb)
   have n4_ := Aside0.mk (Kd.R_lower (Kd.R_new' (Kd.R_new' ho0 (Kd.R_lt (Kd.Rq HO1088.out))) (Kd.R_lt (Kd.Rq HO1107.out))) (below_size (blq HB.out)))
   have n5_ := Aside0.mk (Kd.R_lower (Kd.R_new' (Kd.R_new' ho1 (Kd.R_lt (Kd.Rq HO1096.out))) (Kd.R_lt (Kd.Rq HO1115.out))) (below_size (blq HB.out)))
   have n6_ := Aside0.mk (blk_below (bkq BK1084.out) hb)
   have n7_ := Aside0.mk (blk_below (bkq BK1123.out) hb)
   have n8_ := Aside0.mk (below_step (blq HB.out) hb)
   clear HO1088
   clear HO1096
   clear HO1107
   clear HO1115
   clear BK1084
   clear BK1123
   clear HB
   have HO1088 := n0_
   have HO1096 := n1_
   have HO1107 := n2_
   have HO1115 := n3_
   have HO1127 := n4_
   have HO1135 := n5_
   have BK1084 := n6_
   have BK1123 := n7_
   have HB := n8_
   clear n0_ n1_ n2_ n3_ n4_ n5_ n6_ n7_ n8_
   (try clear hb)
   (try clear hb2)
   (try clear hk)
   (try clear hi)
   (try clear ho0)
   (try clear ho1)
   obtain ⟨Ao33, co33, eo33⟩ := Kd.R_slice HO1127.out
   (first | subst eo33 | (injection eo33 with f1_ f2_ f3_; have f4_ := f1_.symm; have f5_ := f3_.symm; clear f1_ f2_ f3_; subst f4_; subst f5_))
   obtain ⟨Ao34, co34, eo34⟩ := Kd.R_slice HO1135.out
   (first | subst eo34 | (injection eo34 with f1_ f2_ f3_; have f4_ := f1_.symm; have f5_ := f3_.symm; clear f1_ f2_ f3_; subst f4_; subst f5_))
   refine hK.out _ _ ⟨(blk_cell BK1123.out 0).trans rfl, (blk_cell BK1123.out 1).trans rfl, (blk_cell BK1123.out 2).trans rfl, (blk_cell BK1123.out 3).trans rfl, (blk_cell BK1123.out 4).trans rfl, (blk_cell BK1123.out 5).trans rfl, (blk_cell BK1123.out 6).trans rfl, (blk_cell BK1123.out 7).trans rfl, (blk_cell BK1123.out 8).trans rfl, (blk_cell BK1123.out 9).trans rfl, (blk_cell BK1123.out 10).trans rfl, (blk_cell BK1123.out 11).trans rfl, (blk_cell BK1123.out 12).trans rfl, (blk_cell BK1123.out 13).trans rfl, (blk_cell BK1084.out 0).trans rfl, (blk_cell BK1084.out 1).trans rfl, (blk_cell BK1084.out 2).trans rfl, (blk_cell BK1084.out 3).trans rfl, (blk_cell BK1084.out 4).trans rfl, (blk_cell BK1084.out 5).trans rfl, (blk_cell BK1084.out 6).trans rfl, (blk_cell BK1084.out 7).trans rfl, (blk_cell BK1084.out 8).trans rfl, (blk_cell BK1084.out 9).trans rfl, (blk_cell BK1084.out 10).trans rfl, (blk_cell BK1084.out 11).trans rfl, (blk_cell BK1084.out 12).trans rfl, (blk_cell BK1084.out 13).trans rfl⟩ (fun hHeld => ?_)
   clear hK K
   refine norm_ (a' := ?_) ?_ ?_
   rotate_left
   ·
    show Act.put _ (some 28) _ = _
    simp only [Act.put, List.setIfInBounds_toArray, List.set_cons_zero, List.set_cons_succ, i64_w, i32_w]
    rfl
   refine one_ (i := 3) (N := some 29) #[true, true, true, true, false] rfl rfl (by kernel_rfl) (by decide) (fun K hK => ?_)
   refine goes_ Try.func27 (by kernel_rfl) rfl #[.agg #[.slice Ao22 t1105.length co22, .int .i64 t1108, .int .i64 t1109, .int .i64 t1110, .int .i64 t1111, .int .i64 t1112, .slice Ao25 t1113.length co25, .int .i64 t1116, .int .i64 t1117, .int .i64 t1118, .int .i64 t1119, .int .i64 t1120, .int .i64 t1121, .int .i64 t1122], .agg #[.slice Ao33 t1125.length co33, .int .i64 t1128, .int .i64 t1129, .int .i64 t1130, .int .i64 t1131, .int .i64 t1132, .slice Ao34 t1133.length co34, .int .i64 t1136, .int .i64 t1137, .int .i64 t1138, .int .i64 t1139, .int .i64 t1140, .int .i64 t1141, .int .i64 t1142]] (by rfl) rfl rfl (by (try simp only [List.map_toArray, List.map_cons, List.map_nil]); first | done | rfl | (simp only [List.length_drop, List.length_take]; rfl)) ?_
   with_reducible refine (laws_eqBakery.calls k _ _ t1105 t1108 t1109 t1110 t1111 t1112 _ _ t1113 t1116 t1117 t1118 t1119 t1120 t1121 t1122 _ _ t1125 t1128 t1129 t1130 t1131 t1132 _ _ t1133 t1136 t1137 t1138 t1139 t1140 t1141 t1142 t1143 _ ?side1 ?side2 ?side3 ?side4 ?side5 ?side6 ?side7 ?side8 A29.out).mono ?_
   (case side1 => repeat (first | exact (Kd.R_reads' HO1107.out).2.2 | (with_reducible refine Kd.C_alloc ?_ _) | (with_reducible refine Kd.C_drewN ?_ _) | (with_reducible refine Kd.C_drew ?_)))
   (case side2 => exact (Kd.R_reads' HO1107.out).2.1)
   (case side3 => repeat (first | exact (Kd.R_reads' HO1115.out).2.2 | (with_reducible refine Kd.C_alloc ?_ _) | (with_reducible refine Kd.C_drewN ?_ _) | (with_reducible refine Kd.C_drew ?_)))
   (case side4 => exact (Kd.R_reads' HO1115.out).2.1)
   (case side5 => repeat (first | exact (Kd.R_reads' HO1127.out).2.2 | (with_reducible refine Kd.C_alloc ?_ _) | (with_reducible refine Kd.C_drewN ?_ _) | (with_reducible refine Kd.C_drew ?_)))
   (case side6 => exact (Kd.R_reads' HO1127.out).2.1)
   (case side7 => repeat (first | exact (Kd.R_reads' HO1135.out).2.2 | (with_reducible refine Kd.C_alloc ?_ _) | (with_reducible refine Kd.C_drewN ?_ _) | (with_reducible refine Kd.C_drew ?_)))
   (case side8 => exact (Kd.R_reads' HO1135.out).2.1)
   rintro e w35 ⟨rfl, hb⟩
   refine ⟨_, rfl, ?_⟩
   have n0_ := Aside0.mk (Kd.R_below (Kd.Rq HO1088.out) hb)
   have n1_ := Aside0.mk (Kd.R_below (Kd.Rq HO1096.out) hb)
   have n2_ := Aside0.mk (Kd.R_below (Kd.Rq HO1107.out) hb)
   have n3_ := Aside0.mk (Kd.R_below (Kd.Rq HO1115.out) hb)
   have n4_ := Aside0.mk (Kd.R_below (Kd.Rq HO1127.out) hb)
   have n5_ := Aside0.mk (Kd.R_below (Kd.Rq HO1135.out) hb)
   have n6_ := Aside0.mk (blk_below (bkq BK1084.out) hb)
   have n7_ := Aside0.mk (blk_below (bkq BK1123.out) hb)
   have n8_ := Aside0.mk (below_step (blq HB.out) hb)
   clear HO1088
   clear HO1096
   clear HO1107
   clear HO1115
   clear HO1127
   clear HO1135
   clear BK1084
   clear BK1123
   clear HB
   have HO1088 := n0_
   have HO1096 := n1_
   have HO1107 := n2_
   have HO1115 := n3_
   have HO1127 := n4_
   have HO1135 := n5_
   have BK1084 := n6_
   have BK1123 := n7_
   have HB := n8_
   clear n0_ n1_ n2_ n3_ n4_ n5_ n6_ n7_ n8_
   (try clear hb)
   (try clear hb2)
   (try clear hk)
   (try clear hi)
   refine hK.out _ _ ⟨(blk_cell BK1123.out 0).trans rfl, (blk_cell BK1123.out 1).trans rfl, (blk_cell BK1123.out 2).trans rfl, (blk_cell BK1123.out 3).trans rfl, (blk_cell BK1123.out 4).trans rfl, (blk_cell BK1123.out 5).trans rfl, (blk_cell BK1123.out 6).trans rfl, (blk_cell BK1123.out 7).trans rfl, (blk_cell BK1123.out 8).trans rfl, (blk_cell BK1123.out 9).trans rfl, (blk_cell BK1123.out 10).trans rfl, (blk_cell BK1123.out 11).trans rfl, (blk_cell BK1123.out 12).trans rfl, (blk_cell BK1123.out 13).trans rfl, (blk_cell BK1084.out 0).trans rfl, (blk_cell BK1084.out 1).trans rfl, (blk_cell BK1084.out 2).trans rfl, (blk_cell BK1084.out 3).trans rfl, (blk_cell BK1084.out 4).trans rfl, (blk_cell BK1084.out 5).trans rfl, (blk_cell BK1084.out 6).trans rfl, (blk_cell BK1084.out 7).trans rfl, (blk_cell BK1084.out 8).trans rfl, (blk_cell BK1084.out 9).trans rfl, (blk_cell BK1084.out 10).trans rfl, (blk_cell BK1084.out 11).trans rfl, (blk_cell BK1084.out 12).trans rfl, (blk_cell BK1084.out 13).trans rfl⟩ (fun hHeld => ?_)
   clear hK K
   refine norm_ (a' := ?_) ?_ ?_
   rotate_left
   ·
    show Act.put _ (some 29) _ = _
    simp only [Act.put, List.setIfInBounds_toArray, List.set_cons_zero, List.set_cons_succ, i64_w, i32_w]
    rfl
   refine pure_ (i := 4) (N := some 30) (v := ?_) (a' := ?_) #[true, true, true, true, true] rfl rfl (by kernel_rfl) (fun _ _ _ h => h) (Or.inl ⟨by rfl, ?_⟩) ?_ ?_
   rotate_left
   ·
    intro w'
    go_simp
    with_reducible rfl
   rotate_left
   ·
    simp only [Act.put, List.setIfInBounds_toArray, List.set_cons_zero, List.set_cons_succ, i64_w, i32_w]
    rfl
   refine done_ (by kernel_rfl) ?_
   go_upto_if 30 with (fail)
   have H := HF30.out
   clear HF30
   by_cases c36 : t1143 = true
   ·
    subst c36
    have H1 : (some true) = some r := by rw [if_pos rfl] at H; exact H
    clear H
    have H := H1
    clear H1
    obtain rfl := Option.some.inj H
    go_wp2
    go_ret
    exact ⟨by first | rfl | (simp [errW_none, errW_some] <;> rfl) | (simp [*, errW_none, errW_some] <;> rfl), blq HB.out⟩
   ·
    replace c36 := Bool.eq_false_iff.mpr c36
    subst c36
    have H1 : (some false) = some r := by rw [if_neg (show ¬ (false = true) by decide)] at H; exact H
    clear H
    have H := H1
    clear H1
    obtain rfl := Option.some.inj H
    go_wp2
    go_ret
    exact ⟨by first | rfl | (simp [errW_none, errW_some] <;> rfl) | (simp [*, errW_none, errW_some] <;> rfl), blq HB.out⟩
  ·
   rw [if_neg c27] at H
   have c27b0 : (t1124 == t1104) = false := beq_eq_false_iff_ne.mpr c27
   have c27b1 : (t1124 != t1104) = true := bne_iff_ne.mpr c27
   (first | rw [c27b0] | (simp only [i64_w, i32_w]; rw [c27b0]) | skip)
   obtain rfl := Option.some.inj H
   go_wp2
   go_ret
   exact ⟨by first | rfl | (simp [errW_none, errW_some] <;> rfl) | (simp [*, errW_none, errW_some] <;> rfl), blq HB.out⟩

/-- What is left to prove of laws_FnExactFlourNeeded: over numbers and lists alone. -/
def laws_FnExactFlourNeeded.Pure : Prop := ∀ (l0_0 : List Int) (a0_1 : Int) (a0_2 : Int) (a0_3 : Int) (a0_4 : Int) (a0_5 : Int) (l0_6 : List (S39)) (a0_7 : Int) (a0_8 : Int) (a0_9 : Int) (a0_10 : Int) (a0_11 : Int) (a0_12 : Int) (a0_13 : Int) (a1 : Int), ok_T52 (⟨(⟨l0_0⟩ : S46), (⟨a0_1, a0_2, a0_3⟩ : S48), (⟨a0_4, a0_5⟩ : S50), (⟨l0_6, (⟨a0_7, a0_8, a0_9⟩ : S24), a0_10, a0_11, a0_12⟩ : S26), a0_13⟩ : S52) → Told.I64 a1 → ∃ k, laws_FnExactFlourNeeded.f k l0_0 a0_1 a0_2 a0_3 a0_4 a0_5 l0_6 a0_7 a0_8 a0_9 a0_10 a0_11 a0_12 a0_13 a1 = some true

end Go.Proofs.Ytonaabffckkdlaa.Q
