-- Written for this claim by wip/xprint.py of this repository (by way of the kit's print); Lean checks every line.
import Derived.Test.YtnlioefgpgamdaaQ0
import Derived.Test.YtnlioefgpgamdaaQ46
import Derived.Test.YtnlioefgpgamdaaQ48
namespace Go.Proofs.Ytnlioefgpgamdaa.Q
open Go.RowKit Go.Proofs.YtnlioefgpgamdaaW.PrintWords Go.Proofs.YtnlioefgpgamdaaW.PrintLast Go.Proofs.YtnlioefgpgamdaaW.PrintMore
attribute [local go_sem] max2_int min2_int max_two min_two max_three min_three max_four min_four   -- for this text's walks alone
set_option linter.unusedVariables false
set_option linter.unusedSimpArgs false

/-! ### laws_FnExactBookOk: function 12 -/
def laws_FnExactBookOk.f (k : Nat) (l0_0 : List (S39)) (a0_1 : Int) (a0_2 : Int) (a0_3 : Int) (a0_4 : Int) (a0_5 : Int) (a0_6 : Int) : Option (Bool) := (laws_szBook.f l0_0 a0_1 a0_2 a0_3 a0_4 a0_5 a0_6 1048576).bind fun t997 => (if t997 < 0 then (some true) else ((laws_toBook.f k l0_0 a0_1 a0_2 a0_3 a0_4 a0_5 a0_6).bind fun bt998 => ((spec_BookOk.f k bt998.1 bt998.2.1 bt998.2.2.1 bt998.2.2.2.1 bt998.2.2.2.2.1 bt998.2.2.2.2.2.1 bt998.2.2.2.2.2.2).bind fun t1007 => ((laws_toBook.f k l0_0 a0_1 a0_2 a0_3 a0_4 a0_5 a0_6).bind fun bt1008 => ((impl_BookOk.f k bt1008.1 bt1008.2.1 bt1008.2.2.1 bt1008.2.2.2.1 bt1008.2.2.2.2.1 bt1008.2.2.2.2.2.1 bt1008.2.2.2.2.2.2).bind fun t1018 => (if (t1018 != t1007) = true then (some false) else ((laws_toBook.f k l0_0 a0_1 a0_2 a0_3 a0_4 a0_5 a0_6).bind fun bt1019 => ((laws_eqBook.f k bt1008.1 bt1008.2.1 bt1008.2.2.1 bt1008.2.2.2.1 bt1008.2.2.2.2.1 bt1008.2.2.2.2.2.1 bt1008.2.2.2.2.2.2 bt1019.1 bt1019.2.1 bt1019.2.2.1 bt1019.2.2.2.1 bt1019.2.2.2.2.1 bt1019.2.2.2.2.2.1 bt1019.2.2.2.2.2.2).bind fun t1028 => (if t1028 = true then (some true) else (some false))))))))))
theorem laws_FnExactBookOk.mono : ∀ a0 a1 a2 a3 a4 a5 a6 k, LeO (laws_FnExactBookOk.f k a0 a1 a2 a3 a4 a5 a6) (laws_FnExactBookOk.f (k + 1) a0 a1 a2 a3 a4 a5 a6) := by
 intro a0 a1 a2 a3 a4 a5 a6 k
 unfold laws_FnExactBookOk.f
 repeat' first
   | (with_reducible exact impl_BookOk.mono _ _ _ _ _ _ _ _)
   | (with_reducible exact laws_eqBook.mono _ _ _ _ _ _ _ _ _ _ _ _ _ _ _)
   | (with_reducible exact laws_toBook.mono _ _ _ _ _ _ _ _)
   | (with_reducible exact spec_BookOk.mono _ _ _ _ _ _ _ _)
   | (with_reducible exact LeO.refl _)
   | (with_reducible exact LeO.none _)
   | (with_reducible refine LeO.ite ?_ ?_)
   | (with_reducible refine LeO.bind ?_ (fun _ => ?_))
   | exact impl_BookOk.mono _ _ _ _ _ _ _ _
   | exact laws_eqBook.mono _ _ _ _ _ _ _ _ _ _ _ _ _ _ _
   | exact laws_toBook.mono _ _ _ _ _ _ _ _
   | exact spec_BookOk.mono _ _ _ _ _ _ _ _
   | exact LeO.none _
   | refine LeO.ite ?_ ?_
   | refine LeO.bind ?_ (fun _ => ?_)
set_option maxHeartbeats 8000000 in
set_option maxRecDepth 100000 in
theorem laws_FnExactBookOk.calls (k : Nat) (A0_0 : Option Addr) (c0_0 : Nat) (l0_0 : List (S39)) (a0_1 : Int) (a0_2 : Int) (a0_3 : Int) (a0_4 : Int) (a0_5 : Int) (a0_6 : Int) (r : Bool) (w : World) (hr0_0 : Kd.C k39 w A0_0 l0_0.length l0_0) (hc0_0 : l0_0.length ≤ c0_0) (h : laws_FnExactBookOk.f k l0_0 a0_1 a0_2 a0_3 a0_4 a0_5 a0_6 = some r) :
  Calls Try.prog 12 #[.agg #[.slice A0_0 l0_0.length c0_0, .int .i64 a0_1, .int .i64 a0_2, .int .i64 a0_3, .int .i64 a0_4, .int .i64 a0_5, .int .i64 a0_6]] w fun e w' => e = .returned (.bool r) ∧ Below w.heap.size w w' := by
 have hu88 := Try.underlying88
 have hu93 := Try.underlying93
 have HR0_0 := Aside0.mk hr0_0
 have HC0_0 := Aside0.mk hc0_0
 clear hr0_0 hc0_0
 have HB := Aside0.mk (Below.refl w.heap.size w)
 have H : ((laws_szBook.f l0_0 a0_1 a0_2 a0_3 a0_4 a0_5 a0_6 1048576).bind fun t997 => (if t997 < 0 then (some true) else ((laws_toBook.f k l0_0 a0_1 a0_2 a0_3 a0_4 a0_5 a0_6).bind fun bt998 => ((spec_BookOk.f k bt998.1 bt998.2.1 bt998.2.2.1 bt998.2.2.2.1 bt998.2.2.2.2.1 bt998.2.2.2.2.2.1 bt998.2.2.2.2.2.2).bind fun t1007 => ((laws_toBook.f k l0_0 a0_1 a0_2 a0_3 a0_4 a0_5 a0_6).bind fun bt1008 => ((impl_BookOk.f k bt1008.1 bt1008.2.1 bt1008.2.2.1 bt1008.2.2.2.1 bt1008.2.2.2.2.1 bt1008.2.2.2.2.2.1 bt1008.2.2.2.2.2.2).bind fun t1018 => (if (t1018 != t1007) = true then (some false) else ((laws_toBook.f k l0_0 a0_1 a0_2 a0_3 a0_4 a0_5 a0_6).bind fun bt1019 => ((laws_eqBook.f k bt1008.1 bt1008.2.1 bt1008.2.2.1 bt1008.2.2.2.1 bt1008.2.2.2.2.1 bt1008.2.2.2.2.2.1 bt1008.2.2.2.2.2.2 bt1019.1 bt1019.2.1 bt1019.2.2.1 bt1019.2.2.2.1 bt1019.2.2.2.2.1 bt1019.2.2.2.2.2.1 bt1019.2.2.2.2.2.2).bind fun t1028 => (if t1028 = true then (some true) else (some false))))))))))) = some r := h
 clear h
 replace H := Option.bind_eq_some_iff.mp H
 obtain ⟨t997, A20, H⟩ := H
 replace H : (if t997 < 0 then (some true) else ((laws_toBook.f k l0_0 a0_1 a0_2 a0_3 a0_4 a0_5 a0_6).bind fun bt998 => ((spec_BookOk.f k bt998.1 bt998.2.1 bt998.2.2.1 bt998.2.2.2.1 bt998.2.2.2.2.1 bt998.2.2.2.2.2.1 bt998.2.2.2.2.2.2).bind fun t1007 => ((laws_toBook.f k l0_0 a0_1 a0_2 a0_3 a0_4 a0_5 a0_6).bind fun bt1008 => ((impl_BookOk.f k bt1008.1 bt1008.2.1 bt1008.2.2.1 bt1008.2.2.2.1 bt1008.2.2.2.2.1 bt1008.2.2.2.2.2.1 bt1008.2.2.2.2.2.2).bind fun t1018 => (if (t1018 != t1007) = true then (some false) else ((laws_toBook.f k l0_0 a0_1 a0_2 a0_3 a0_4 a0_5 a0_6).bind fun bt1019 => ((laws_eqBook.f k bt1008.1 bt1008.2.1 bt1008.2.2.1 bt1008.2.2.2.1 bt1008.2.2.2.2.1 bt1008.2.2.2.2.2.1 bt1008.2.2.2.2.2.2 bt1019.1 bt1019.2.1 bt1019.2.2.1 bt1019.2.2.2.1 bt1019.2.2.2.2.1 bt1019.2.2.2.2.2.1 bt1019.2.2.2.2.2.2).bind fun t1028 => (if t1028 = true then (some true) else (some false)))))))))) = some r := H
 have A2 := Aside0.mk A20
 clear A20
 by_cases c3 : t997 < 0
 ·
  rw [if_pos c3] at H
  have c3b0 : decide (t997 < 0) = true := decide_eq_true c3
  clear c3
  obtain rfl := Option.some.inj H
  go_enter Try.func12, Try.ntmps12
  go_wp2_with (first | ((with_reducible refine gate_dst (N := 1) rfl ?_); refine box_event ?hg (N := 1) ?hd (cs := #[.slice A0_0 l0_0.length c0_0, .int .i64 a0_1, .int .i64 a0_2, .int .i64 a0_3, .int .i64 a0_4, .int .i64 a0_5, .int .i64 a0_6]) (t := 88) ?hr ?_; (case hd => rfl); (case hg => rfl); (case hr => first | (go_simp; done) | (go_simp; rfl)); intro gb996 hg w4 hbox hb; have n0_ := Aside0.mk (below_step (blq HB.out) hb); have n1_ := Aside0.mk (hbox); have n2_ := Aside0.mk ((sq hg HB.out)); have n3_ := Aside0.mk ((sq hg HB.out)); clear HB; have HB := n0_; have BK996 := n1_; have GW996 := n2_; have GE996 := n3_; clear n0_ n1_ n2_ n3_; clear hb hbox hg; obtain ⟨hcz5_0, hcz5_1, hcz5_2, hcz5_3, hcz5_4, hcz5_5, hcz5_6, hfz5_0, hfz5_1, hfz5_2, hfz5_3, hfz5_4, hfz5_5, hfz5_6⟩ := bq7 BK996.out) | ((with_reducible refine gate_callee (f := 65) rfl ?_); refine gLq (some 9) Try.func65 #[.agg #[.slice A0_0 l0_0.length c0_0, .int .i64 a0_1, .int .i64 a0_2, .int .i64 a0_3, .int .i64 a0_4, .int .i64 a0_5, .int .i64 a0_6], .int .i64 1048576] ?_; (with_reducible refine (laws_szBook.calls _ _ l0_0 a0_1 a0_2 a0_3 a0_4 a0_5 a0_6 1048576 t997 _ ?side1 ?side2 A2.out).mono ?_); (case side1 => exact Kd.Cq (Kd.C_below HR0_0.out HB.out)); (case side2 => exact HC0_0.out); rintro e w6 ⟨rfl, hb⟩; refine ⟨_, rfl, ?_⟩; have n0_ := Aside0.mk (blk_below (bkq BK996.out) hb); have n1_ := Aside0.mk (below_step (blq HB.out) hb); clear BK996; clear HB; have BK996 := n0_; have HB := n1_; clear n0_ n1_; (try clear hb); (try clear hb2); (try clear hk); (try clear hi)))
  go_ret
  exact ⟨by first | rfl | (simp [errW_none, errW_some] <;> rfl) | (simp [*, errW_none, errW_some] <;> rfl), blq HB.out⟩
 ·
  rw [if_neg c3] at H
  have c3b0 : decide (t997 < 0) = false := decide_eq_false c3
  clear c3
  replace H := Option.bind_eq_some_iff.mp H
  obtain ⟨⟨t998, t1001, t1002, t1003, t1004, t1005, t1006⟩, A70, H⟩ := H
  replace H : ((spec_BookOk.f k t998 t1001 t1002 t1003 t1004 t1005 t1006).bind fun t1007 => ((laws_toBook.f k l0_0 a0_1 a0_2 a0_3 a0_4 a0_5 a0_6).bind fun bt1008 => ((impl_BookOk.f k bt1008.1 bt1008.2.1 bt1008.2.2.1 bt1008.2.2.2.1 bt1008.2.2.2.2.1 bt1008.2.2.2.2.2.1 bt1008.2.2.2.2.2.2).bind fun t1018 => (if (t1018 != t1007) = true then (some false) else ((laws_toBook.f k l0_0 a0_1 a0_2 a0_3 a0_4 a0_5 a0_6).bind fun bt1019 => ((laws_eqBook.f k bt1008.1 bt1008.2.1 bt1008.2.2.1 bt1008.2.2.2.1 bt1008.2.2.2.2.1 bt1008.2.2.2.2.2.1 bt1008.2.2.2.2.2.2 bt1019.1 bt1019.2.1 bt1019.2.2.1 bt1019.2.2.2.1 bt1019.2.2.2.2.1 bt1019.2.2.2.2.2.1 bt1019.2.2.2.2.2.2).bind fun t1028 => (if t1028 = true then (some true) else (some false)))))))) = some r := H
  have A7 := Aside0.mk A70
  clear A70
  replace H := Option.bind_eq_some_iff.mp H
  obtain ⟨t1007, A80, H⟩ := H
  replace H : ((laws_toBook.f k l0_0 a0_1 a0_2 a0_3 a0_4 a0_5 a0_6).bind fun bt1008 => ((impl_BookOk.f k bt1008.1 bt1008.2.1 bt1008.2.2.1 bt1008.2.2.2.1 bt1008.2.2.2.2.1 bt1008.2.2.2.2.2.1 bt1008.2.2.2.2.2.2).bind fun t1018 => (if (t1018 != t1007) = true then (some false) else ((laws_toBook.f k l0_0 a0_1 a0_2 a0_3 a0_4 a0_5 a0_6).bind fun bt1019 => ((laws_eqBook.f k bt1008.1 bt1008.2.1 bt1008.2.2.1 bt1008.2.2.2.1 bt1008.2.2.2.2.1 bt1008.2.2.2.2.2.1 bt1008.2.2.2.2.2.2 bt1019.1 bt1019.2.1 bt1019.2.2.1 bt1019.2.2.2.1 bt1019.2.2.2.2.1 bt1019.2.2.2.2.2.1 bt1019.2.2.2.2.2.2).bind fun t1028 => (if t1028 = true then (some true) else (some false))))))) = some r := H
  have A8 := Aside0.mk A80
  clear A80
  replace H := Option.bind_eq_some_iff.mp H
  obtain ⟨⟨t1008, t1011, t1012, t1013, t1014, t1015, t1016⟩, A90, H⟩ := H
  replace H : ((impl_BookOk.f k t1008 t1011 t1012 t1013 t1014 t1015 t1016).bind fun t1018 => (if (t1018 != t1007) = true then (some false) else ((laws_toBook.f k l0_0 a0_1 a0_2 a0_3 a0_4 a0_5 a0_6).bind fun bt1019 => ((laws_eqBook.f k t1008 t1011 t1012 t1013 t1014 t1015 t1016 bt1019.1 bt1019.2.1 bt1019.2.2.1 bt1019.2.2.2.1 bt1019.2.2.2.2.1 bt1019.2.2.2.2.2.1 bt1019.2.2.2.2.2.2).bind fun t1028 => (if t1028 = true then (some true) else (some false)))))) = some r := H
  have A9 := Aside0.mk A90
  clear A90
  replace H := Option.bind_eq_some_iff.mp H
  obtain ⟨t1018, A100, H⟩ := H
  replace H : (if (t1018 != t1007) = true then (some false) else ((laws_toBook.f k l0_0 a0_1 a0_2 a0_3 a0_4 a0_5 a0_6).bind fun bt1019 => ((laws_eqBook.f k t1008 t1011 t1012 t1013 t1014 t1015 t1016 bt1019.1 bt1019.2.1 bt1019.2.2.1 bt1019.2.2.2.1 bt1019.2.2.2.2.1 bt1019.2.2.2.2.2.1 bt1019.2.2.2.2.2.2).bind fun t1028 => (if t1028 = true then (some true) else (some false))))) = some r := H
  have A10 := Aside0.mk A100
  clear A100
  by_cases c11 : (t1018 != t1007) = true
  ·
   rw [if_pos c11] at H
   have c11b0 : (t1018 != t1007) = true := c11
   have c11b9 : (!(t1018 == t1007)) = true := c11b0
   (try (have c11b1 : decide (t1018 = t1007) = false := by simpa using c11))
   (try (have c11b2 : (t1018 == t1007) = false := by simpa using c11))
   (try (have c11b3 : ¬ (t1018 = t1007) := by simpa using c11))
   clear c11
   obtain rfl := Option.some.inj H
   go_enter Try.func12, Try.ntmps12
   go_wp2_with (first | ((with_reducible refine gate_dst (N := 1) rfl ?_); refine box_event ?hg (N := 1) ?hd (cs := #[.slice A0_0 l0_0.length c0_0, .int .i64 a0_1, .int .i64 a0_2, .int .i64 a0_3, .int .i64 a0_4, .int .i64 a0_5, .int .i64 a0_6]) (t := 88) ?hr ?_; (case hd => rfl); (case hg => rfl); (case hr => first | (go_simp; done) | (go_simp; rfl)); intro gb996 hg w12 hbox hb; have n0_ := Aside0.mk (below_step (blq HB.out) hb); have n1_ := Aside0.mk (hbox); have n2_ := Aside0.mk ((sq hg HB.out)); have n3_ := Aside0.mk ((sq hg HB.out)); clear HB; have HB := n0_; have BK996 := n1_; have GW996 := n2_; have GE996 := n3_; clear n0_ n1_ n2_ n3_; clear hb hbox hg; obtain ⟨hcz13_0, hcz13_1, hcz13_2, hcz13_3, hcz13_4, hcz13_5, hcz13_6, hfz13_0, hfz13_1, hfz13_2, hfz13_3, hfz13_4, hfz13_5, hfz13_6⟩ := bq7 BK996.out) | ((with_reducible refine gate_callee (f := 65) rfl ?_); refine gLq (some 9) Try.func65 #[.agg #[.slice A0_0 l0_0.length c0_0, .int .i64 a0_1, .int .i64 a0_2, .int .i64 a0_3, .int .i64 a0_4, .int .i64 a0_5, .int .i64 a0_6], .int .i64 1048576] ?_; (with_reducible refine (laws_szBook.calls _ _ l0_0 a0_1 a0_2 a0_3 a0_4 a0_5 a0_6 1048576 t997 _ ?side1 ?side2 A2.out).mono ?_); (case side1 => exact Kd.Cq (Kd.C_below HR0_0.out HB.out)); (case side2 => exact HC0_0.out); rintro e w14 ⟨rfl, hb⟩; refine ⟨_, rfl, ?_⟩; have n0_ := Aside0.mk (blk_below (bkq BK996.out) hb); have n1_ := Aside0.mk (below_step (blq HB.out) hb); clear BK996; clear HB; have BK996 := n0_; have HB := n1_; clear n0_ n1_; (try clear hb); (try clear hb2); (try clear hk); (try clear hi); obtain ⟨hcz15_0, hcz15_1, hcz15_2, hcz15_3, hcz15_4, hcz15_5, hcz15_6, hfz15_0, hfz15_1, hfz15_2, hfz15_3, hfz15_4, hfz15_5, hfz15_6⟩ := bq7 BK996.out) | ((with_reducible refine gate_callee (f := 67) rfl ?_); refine gLq (some 13) Try.func67 #[.agg #[.slice A0_0 l0_0.length c0_0, .int .i64 a0_1, .int .i64 a0_2, .int .i64 a0_3, .int .i64 a0_4, .int .i64 a0_5, .int .i64 a0_6]] ?_; (with_reducible refine (laws_toBook.calls k _ _ l0_0 a0_1 a0_2 a0_3 a0_4 a0_5 a0_6 t998 t1001 t1002 t1003 t1004 t1005 t1006 _ ?side1 ?side2 A7.out).mono ?_); (case side1 => exact Kd.Cq (Kd.C_below HR0_0.out HB.out)); (case side2 => exact HC0_0.out); rintro e w16 ⟨v999, rfl, ho0, hb⟩; refine ⟨_, rfl, ?_⟩; have n0_ := Aside0.mk (Kd.R_lower ho0 (below_size (blq HB.out))); have n1_ := Aside0.mk (blk_below (bkq BK996.out) hb); have n2_ := Aside0.mk (below_step (blq HB.out) hb); clear BK996; clear HB; have HO1000 := n0_; have BK996 := n1_; have HB := n2_; clear n0_ n1_ n2_; (try clear hb); (try clear hb2); (try clear hk); (try clear hi); (try clear ho0); obtain ⟨Ao17, co17, eo17⟩ := Kd.R_slice HO1000.out; subst eo17) | ((with_reducible refine gate_callee (f := 66) rfl ?_); refine gLq (some 14) Try.func66 #[.agg #[.slice Ao17 t998.length co17, .int .i64 t1001, .int .i64 t1002, .int .i64 t1003, .int .i64 t1004, .int .i64 t1005, .int .i64 t1006]] ?_; (with_reducible refine (spec_BookOk.calls k _ _ t998 t1001 t1002 t1003 t1004 t1005 t1006 t1007 _ ?side1 ?side2 A8.out).mono ?_); (case side1 => repeat (first | exact (Kd.R_reads' HO1000.out).2.2 | (with_reducible refine Kd.C_alloc ?_ _) | (with_reducible refine Kd.C_drewN ?_ _) | (with_reducible refine Kd.C_drew ?_))); (case side2 => exact (Kd.R_reads' HO1000.out).2.1); rintro e w18 ⟨rfl, hb⟩; refine ⟨_, rfl, ?_⟩; have n0_ := Aside0.mk (Kd.R_below (Kd.Rq HO1000.out) hb); have n1_ := Aside0.mk (blk_below (bkq BK996.out) hb); have n2_ := Aside0.mk (below_step (blq HB.out) hb); clear HO1000; clear BK996; clear HB; have HO1000 := n0_; have BK996 := n1_; have HB := n2_; clear n0_ n1_ n2_; (try clear hb); (try clear hb2); (try clear hk); (try clear hi); obtain ⟨hcz19_0, hcz19_1, hcz19_2, hcz19_3, hcz19_4, hcz19_5, hcz19_6, hfz19_0, hfz19_1, hfz19_2, hfz19_3, hfz19_4, hfz19_5, hfz19_6⟩ := bq7 BK996.out) | ((with_reducible refine gate_callee (f := 67) rfl ?_); refine gLq (some 16) Try.func67 #[.agg #[.slice A0_0 l0_0.length c0_0, .int .i64 a0_1, .int .i64 a0_2, .int .i64 a0_3, .int .i64 a0_4, .int .i64 a0_5, .int .i64 a0_6]] ?_; (with_reducible refine (laws_toBook.calls k _ _ l0_0 a0_1 a0_2 a0_3 a0_4 a0_5 a0_6 t1008 t1011 t1012 t1013 t1014 t1015 t1016 _ ?side1 ?side2 A9.out).mono ?_); (case side1 => exact Kd.Cq (Kd.C_below HR0_0.out HB.out)); (case side2 => exact HC0_0.out); rintro e w20 ⟨v1009, rfl, ho0, hb⟩; refine ⟨_, rfl, ?_⟩; have n0_ := Aside0.mk (Kd.R_elder' (Kd.Rq HO1000.out) (Kd.R_base ho0) hb); have n1_ := Aside0.mk (Kd.R_lower (Kd.R_new' ho0 (Kd.R_lt (Kd.Rq HO1000.out))) (below_size (blq HB.out))); have n2_ := Aside0.mk (blk_below (bkq BK996.out) hb); have n3_ := Aside0.mk (below_step (blq HB.out) hb); clear HO1000; clear BK996; clear HB; have HO1000 := n0_; have HO1010 := n1_; have BK996 := n2_; have HB := n3_; clear n0_ n1_ n2_ n3_; (try clear hb); (try clear hb2); (try clear hk); (try clear hi); (try clear ho0)) | ((with_reducible refine gate_dst (N := 5) rfl ?_); refine box_event ?hg (N := 5) ?hd (cs := #[.slice none 0 0, .int .i64 0, .int .i64 0, .int .i64 0, .int .i64 0, .int .i64 0, .int .i64 0]) (t := 93) ?hr ?_; (case hd => rfl); (case hg => rfl); (case hr => first | (go_simp; done) | (go_simp; rfl)); intro gb1017 hg w21 hbox hb; have n0_ := Aside0.mk (Kd.R_below (Kd.Rq HO1000.out) hb); have n1_ := Aside0.mk (Kd.R_below (Kd.Rq HO1010.out) hb); have n2_ := Aside0.mk (blk_below (bkq BK996.out) hb); have n3_ := Aside0.mk (below_step (blq HB.out) hb); have n4_ := Aside0.mk (hbox); have n5_ := Aside0.mk ((sq hg HB.out)); have n6_ := Aside0.mk ((sq hg HB.out)); have n7_ := Aside0.mk ((by rw [hg]; exact Nat.ne_of_lt (blk_lt (bkq BK996.out)) : gb996 ≠ gb1017)); have n8_ := Aside0.mk ((by rw [hg]; exact Nat.ne_of_gt (blk_lt (bkq BK996.out)) : gb1017 ≠ gb996)); clear HO1000; clear HO1010; clear BK996; clear HB; have HO1000 := n0_; have HO1010 := n1_; have BK996 := n2_; have HB := n3_; have BK1017 := n4_; have GW1017 := n5_; have GE1017 := n6_; have NB996_1017 := n7_; have NB1017_996 := n8_; clear n0_ n1_ n2_ n3_ n4_ n5_ n6_ n7_ n8_; clear hb hbox hg; obtain ⟨Ao22, co22, eo22⟩ := Kd.R_slice HO1010.out; subst eo22; have hnb23 := NB1017_996.out; have hnc23 := NB996_1017.out; obtain ⟨hcz24_0, hcz24_1, hcz24_2, hcz24_3, hcz24_4, hcz24_5, hcz24_6, hfz24_0, hfz24_1, hfz24_2, hfz24_3, hfz24_4, hfz24_5, hfz24_6⟩ := bq7 BK1017.out) | ((with_reducible refine gate_callee (f := 68) rfl ?_); refine gLq (some 18) Try.func68 #[.agg #[.slice Ao22 t1008.length co22, .int .i64 t1011, .int .i64 t1012, .int .i64 t1013, .int .i64 t1014, .int .i64 t1015, .int .i64 t1016]] ?_; (with_reducible refine (impl_BookOk.calls k _ _ t1008 t1011 t1012 t1013 t1014 t1015 t1016 t1018 _ ?side1 ?side2 A10.out).mono ?_); (case side1 => refine (Kd.R_reads' (e := 44) (base := w.heap.size) (ok := fun k_ => (True ∧ some k_ ≠ (.slice Ao17 t998.length co17 : Value).ownBlock)) (n := t1008.length) (c := co22) ?_).2.2; exact (Kd.Rq (Kd.R_mono (Kd.R_far (p := ⟨gb1017, 6, none⟩) (Kd.R_far (p := ⟨gb1017, 5, none⟩) (Kd.R_far (p := ⟨gb1017, 4, none⟩) (Kd.R_far (p := ⟨gb1017, 3, none⟩) (Kd.R_far (p := ⟨gb1017, 2, none⟩) (Kd.R_far (p := ⟨gb1017, 1, none⟩) (Kd.R_far (p := ⟨gb1017, 0, none⟩) (Kd.R_types HO1010.out BK1017.out (by decide)) (fun _ hk => hk.2) (.slice Ao22 t1008.length co22)) (fun _ hk => hk.2) (.int .i64 t1011)) (fun _ hk => hk.2) (.int .i64 t1012)) (fun _ hk => hk.2) (.int .i64 t1013)) (fun _ hk => hk.2) (.int .i64 t1014)) (fun _ hk => hk.2) (.int .i64 t1015)) (fun _ hk => hk.2) (.int .i64 t1016)) (fun _ h_ => h_.1)))); (case side2 => exact (Kd.R_reads' HO1010.out).2.1); rintro e w25 ⟨rfl, hb⟩; refine ⟨_, rfl, ?_⟩; have n0_ := Aside0.mk (Kd.R_below (Kd.Rq (Kd.R_mono (Kd.R_far (p := ⟨gb1017, 6, none⟩) (Kd.R_far (p := ⟨gb1017, 5, none⟩) (Kd.R_far (p := ⟨gb1017, 4, none⟩) (Kd.R_far (p := ⟨gb1017, 3, none⟩) (Kd.R_far (p := ⟨gb1017, 2, none⟩) (Kd.R_far (p := ⟨gb1017, 1, none⟩) (Kd.R_far (p := ⟨gb1017, 0, none⟩) (Kd.R_types HO1000.out BK1017.out (by decide)) (fun _ hk => hk.2) (.slice Ao22 t1008.length co22)) (fun _ hk => hk.2) (.int .i64 t1011)) (fun _ hk => hk.2) (.int .i64 t1012)) (fun _ hk => hk.2) (.int .i64 t1013)) (fun _ hk => hk.2) (.int .i64 t1014)) (fun _ hk => hk.2) (.int .i64 t1015)) (fun _ hk => hk.2) (.int .i64 t1016)) (fun _ h_ => h_.1))) hb); have n1_ := Aside0.mk (Kd.R_below (Kd.Rq (Kd.R_mono (Kd.R_far (p := ⟨gb1017, 6, none⟩) (Kd.R_far (p := ⟨gb1017, 5, none⟩) (Kd.R_far (p := ⟨gb1017, 4, none⟩) (Kd.R_far (p := ⟨gb1017, 3, none⟩) (Kd.R_far (p := ⟨gb1017, 2, none⟩) (Kd.R_far (p := ⟨gb1017, 1, none⟩) (Kd.R_far (p := ⟨gb1017, 0, none⟩) (Kd.R_types HO1010.out BK1017.out (by decide)) (fun _ hk => hk.2) (.slice Ao22 t1008.length co22)) (fun _ hk => hk.2) (.int .i64 t1011)) (fun _ hk => hk.2) (.int .i64 t1012)) (fun _ hk => hk.2) (.int .i64 t1013)) (fun _ hk => hk.2) (.int .i64 t1014)) (fun _ hk => hk.2) (.int .i64 t1015)) (fun _ hk => hk.2) (.int .i64 t1016)) (fun _ h_ => h_.1))) hb); have n2_ := Aside0.mk (blk_below (g := gb996) (o := .cells #[.slice A0_0 l0_0.length c0_0, .int .i64 a0_1, .int .i64 a0_2, .int .i64 a0_3, .int .i64 a0_4, .int .i64 a0_5, .int .i64 a0_6] 88 (0, 0)) (by (with_reducible repeat (first | refine blk_drewN ?_ _ | refine blk_drew ?_ | refine blk_alloc ?_ _)); refine blk_far ?_ NB996_1017.out _; (with_reducible repeat (first | refine blk_drewN ?_ _ | refine blk_drew ?_ | refine blk_alloc ?_ _)); refine blk_far ?_ NB996_1017.out _; (with_reducible repeat (first | refine blk_drewN ?_ _ | refine blk_drew ?_ | refine blk_alloc ?_ _)); refine blk_far ?_ NB996_1017.out _; (with_reducible repeat (first | refine blk_drewN ?_ _ | refine blk_drew ?_ | refine blk_alloc ?_ _)); refine blk_far ?_ NB996_1017.out _; (with_reducible repeat (first | refine blk_drewN ?_ _ | refine blk_drew ?_ | refine blk_alloc ?_ _)); refine blk_far ?_ NB996_1017.out _; (with_reducible repeat (first | refine blk_drewN ?_ _ | refine blk_drew ?_ | refine blk_alloc ?_ _)); refine blk_far ?_ NB996_1017.out _; (with_reducible repeat (first | refine blk_drewN ?_ _ | refine blk_drew ?_ | refine blk_alloc ?_ _)); refine blk_far ?_ NB996_1017.out _; (with_reducible repeat (first | refine blk_drewN ?_ _ | refine blk_drew ?_ | refine blk_alloc ?_ _)); exact BK996.out) hb); have n3_ := Aside0.mk (blk_below (g := gb1017) (o := .cells #[.slice Ao22 t1008.length co22, .int .i64 t1011, .int .i64 t1012, .int .i64 t1013, .int .i64 t1014, .int .i64 t1015, .int .i64 t1016] 93 (0, 0)) (by (with_reducible repeat (first | refine blk_drewN ?_ _ | refine blk_drew ?_ | refine blk_alloc ?_ _)); refine blk_put (cs := #[.slice Ao22 t1008.length co22, .int .i64 t1011, .int .i64 t1012, .int .i64 t1013, .int .i64 t1014, .int .i64 t1015, .int .i64 0]) ?_ 6 _ rfl; (with_reducible repeat (first | refine blk_drewN ?_ _ | refine blk_drew ?_ | refine blk_alloc ?_ _)); refine blk_put (cs := #[.slice Ao22 t1008.length co22, .int .i64 t1011, .int .i64 t1012, .int .i64 t1013, .int .i64 t1014, .int .i64 0, .int .i64 0]) ?_ 5 _ rfl; (with_reducible repeat (first | refine blk_drewN ?_ _ | refine blk_drew ?_ | refine blk_alloc ?_ _)); refine blk_put (cs := #[.slice Ao22 t1008.length co22, .int .i64 t1011, .int .i64 t1012, .int .i64 t1013, .int .i64 0, .int .i64 0, .int .i64 0]) ?_ 4 _ rfl; (with_reducible repeat (first | refine blk_drewN ?_ _ | refine blk_drew ?_ | refine blk_alloc ?_ _)); refine blk_put (cs := #[.slice Ao22 t1008.length co22, .int .i64 t1011, .int .i64 t1012, .int .i64 0, .int .i64 0, .int .i64 0, .int .i64 0]) ?_ 3 _ rfl; (with_reducible repeat (first | refine blk_drewN ?_ _ | refine blk_drew ?_ | refine blk_alloc ?_ _)); refine blk_put (cs := #[.slice Ao22 t1008.length co22, .int .i64 t1011, .int .i64 0, .int .i64 0, .int .i64 0, .int .i64 0, .int .i64 0]) ?_ 2 _ rfl; (with_reducible repeat (first | refine blk_drewN ?_ _ | refine blk_drew ?_ | refine blk_alloc ?_ _)); refine blk_put (cs := #[.slice Ao22 t1008.length co22, .int .i64 0, .int .i64 0, .int .i64 0, .int .i64 0, .int .i64 0, .int .i64 0]) ?_ 1 _ rfl; (with_reducible repeat (first | refine blk_drewN ?_ _ | refine blk_drew ?_ | refine blk_alloc ?_ _)); refine blk_put (cs := #[.slice none 0 0, .int .i64 0, .int .i64 0, .int .i64 0, .int .i64 0, .int .i64 0, .int .i64 0]) ?_ 0 _ rfl; (with_reducible repeat (first | refine blk_drewN ?_ _ | refine blk_drew ?_ | refine blk_alloc ?_ _)); exact BK1017.out) hb); have n4_ := Aside0.mk (below_step (blq HB.out) hb); clear HO1000; clear HO1010; clear BK996; clear BK1017; clear HB; have HO1000 := n0_; have HO1010 := n1_; have BK996 := n2_; have BK1017 := n3_; have HB := n4_; clear n0_ n1_ n2_ n3_ n4_; (try clear hb); (try clear hb2); (try clear hk); (try clear hi)))
   go_ret
   exact ⟨by first | rfl | (simp [errW_none, errW_some] <;> rfl) | (simp [*, errW_none, errW_some] <;> rfl), blq HB.out⟩
  ·
   rw [if_neg c11] at H
   have c11b0 : (t1018 != t1007) = false := by simpa using c11
   have c11b9 : (!(t1018 == t1007)) = false := c11b0
   (try (have c11b1 : decide (t1018 = t1007) = true := by simpa using c11))
   (try (have c11b2 : (t1018 == t1007) = true := by simpa using c11))
   clear c11
   replace H := Option.bind_eq_some_iff.mp H
   obtain ⟨⟨t1019, t1022, t1023, t1024, t1025, t1026, t1027⟩, A260, H⟩ := H
   replace H : ((laws_eqBook.f k t1008 t1011 t1012 t1013 t1014 t1015 t1016 t1019 t1022 t1023 t1024 t1025 t1026 t1027).bind fun t1028 => (if t1028 = true then (some true) else (some false))) = some r := H
   have A26 := Aside0.mk A260
   clear A260
   replace H := Option.bind_eq_some_iff.mp H
   obtain ⟨t1028, A270, H⟩ := H
   replace H : (if t1028 = true then (some true) else (some false)) = some r := H
   have A27 := Aside0.mk A270
   clear A270
   by_cases c28 : t1028 = true
   ·
    subst c28
    have H1 : (some true) = some r := by rw [if_pos rfl] at H; exact H
    clear H
    have H := H1
    clear H1
    obtain rfl := Option.some.inj H
    go_enter Try.func12, Try.ntmps12
    try go_wp2_with (first | ((with_reducible refine gate_dst (N := 1) rfl ?_); refine box_event ?hg (N := 1) ?hd (cs := #[.slice A0_0 l0_0.length c0_0, .int .i64 a0_1, .int .i64 a0_2, .int .i64 a0_3, .int .i64 a0_4, .int .i64 a0_5, .int .i64 a0_6]) (t := 88) ?hr ?_; (case hd => rfl); (case hg => rfl); (case hr => first | (go_simp; done) | (go_simp; rfl)); intro gb996 hg w29 hbox hb; have n0_ := Aside0.mk (below_step (blq HB.out) hb); have n1_ := Aside0.mk (hbox); have n2_ := Aside0.mk ((sq hg HB.out)); have n3_ := Aside0.mk ((sq hg HB.out)); clear HB; have HB := n0_; have BK996 := n1_; have GW996 := n2_; have GE996 := n3_; clear n0_ n1_ n2_ n3_; clear hb hbox hg; obtain ⟨hcz30_0, hcz30_1, hcz30_2, hcz30_3, hcz30_4, hcz30_5, hcz30_6, hfz30_0, hfz30_1, hfz30_2, hfz30_3, hfz30_4, hfz30_5, hfz30_6⟩ := bq7 BK996.out) | ((with_reducible refine gate_callee (f := 65) rfl ?_); refine gLq (some 9) Try.func65 #[.agg #[.slice A0_0 l0_0.length c0_0, .int .i64 a0_1, .int .i64 a0_2, .int .i64 a0_3, .int .i64 a0_4, .int .i64 a0_5, .int .i64 a0_6], .int .i64 1048576] ?_; (with_reducible refine (laws_szBook.calls _ _ l0_0 a0_1 a0_2 a0_3 a0_4 a0_5 a0_6 1048576 t997 _ ?side1 ?side2 A2.out).mono ?_); (case side1 => exact Kd.Cq (Kd.C_below HR0_0.out HB.out)); (case side2 => exact HC0_0.out); rintro e w31 ⟨rfl, hb⟩; refine ⟨_, rfl, ?_⟩; have n0_ := Aside0.mk (blk_below (bkq BK996.out) hb); have n1_ := Aside0.mk (below_step (blq HB.out) hb); clear BK996; clear HB; have BK996 := n0_; have HB := n1_; clear n0_ n1_; (try clear hb); (try clear hb2); (try clear hk); (try clear hi); obtain ⟨hcz32_0, hcz32_1, hcz32_2, hcz32_3, hcz32_4, hcz32_5, hcz32_6, hfz32_0, hfz32_1, hfz32_2, hfz32_3, hfz32_4, hfz32_5, hfz32_6⟩ := bq7 BK996.out) | ((with_reducible refine gate_callee (f := 67) rfl ?_); refine gLq (some 13) Try.func67 #[.agg #[.slice A0_0 l0_0.length c0_0, .int .i64 a0_1, .int .i64 a0_2, .int .i64 a0_3, .int .i64 a0_4, .int .i64 a0_5, .int .i64 a0_6]] ?_; (with_reducible refine (laws_toBook.calls k _ _ l0_0 a0_1 a0_2 a0_3 a0_4 a0_5 a0_6 t998 t1001 t1002 t1003 t1004 t1005 t1006 _ ?side1 ?side2 A7.out).mono ?_); (case side1 => exact Kd.Cq (Kd.C_below HR0_0.out HB.out)); (case side2 => exact HC0_0.out); rintro e w33 ⟨v999, rfl, ho0, hb⟩; refine ⟨_, rfl, ?_⟩; have n0_ := Aside0.mk (Kd.R_lower ho0 (below_size (blq HB.out))); have n1_ := Aside0.mk (blk_below (bkq BK996.out) hb); have n2_ := Aside0.mk (below_step (blq HB.out) hb); clear BK996; clear HB; have HO1000 := n0_; have BK996 := n1_; have HB := n2_; clear n0_ n1_ n2_; (try clear hb); (try clear hb2); (try clear hk); (try clear hi); (try clear ho0); obtain ⟨Ao34, co34, eo34⟩ := Kd.R_slice HO1000.out; subst eo34) | ((with_reducible refine gate_callee (f := 66) rfl ?_); refine gLq (some 14) Try.func66 #[.agg #[.slice Ao34 t998.length co34, .int .i64 t1001, .int .i64 t1002, .int .i64 t1003, .int .i64 t1004, .int .i64 t1005, .int .i64 t1006]] ?_; (with_reducible refine (spec_BookOk.calls k _ _ t998 t1001 t1002 t1003 t1004 t1005 t1006 t1007 _ ?side1 ?side2 A8.out).mono ?_); (case side1 => repeat (first | exact (Kd.R_reads' HO1000.out).2.2 | (with_reducible refine Kd.C_alloc ?_ _) | (with_reducible refine Kd.C_drewN ?_ _) | (with_reducible refine Kd.C_drew ?_))); (case side2 => exact (Kd.R_reads' HO1000.out).2.1); rintro e w35 ⟨rfl, hb⟩; refine ⟨_, rfl, ?_⟩; have n0_ := Aside0.mk (Kd.R_below (Kd.Rq HO1000.out) hb); have n1_ := Aside0.mk (blk_below (bkq BK996.out) hb); have n2_ := Aside0.mk (below_step (blq HB.out) hb); clear HO1000; clear BK996; clear HB; have HO1000 := n0_; have BK996 := n1_; have HB := n2_; clear n0_ n1_ n2_; (try clear hb); (try clear hb2); (try clear hk); (try clear hi); obtain ⟨hcz36_0, hcz36_1, hcz36_2, hcz36_3, hcz36_4, hcz36_5, hcz36_6, hfz36_0, hfz36_1, hfz36_2, hfz36_3, hfz36_4, hfz36_5, hfz36_6⟩ := bq7 BK996.out) | ((with_reducible refine gate_callee (f := 67) rfl ?_); refine gLq (some 16) Try.func67 #[.agg #[.slice A0_0 l0_0.length c0_0, .int .i64 a0_1, .int .i64 a0_2, .int .i64 a0_3, .int .i64 a0_4, .int .i64 a0_5, .int .i64 a0_6]] ?_; (with_reducible refine (laws_toBook.calls k _ _ l0_0 a0_1 a0_2 a0_3 a0_4 a0_5 a0_6 t1008 t1011 t1012 t1013 t1014 t1015 t1016 _ ?side1 ?side2 A9.out).mono ?_); (case side1 => exact Kd.Cq (Kd.C_below HR0_0.out HB.out)); (case side2 => exact HC0_0.out); rintro e w37 ⟨v1009, rfl, ho0, hb⟩; refine ⟨_, rfl, ?_⟩; have n0_ := Aside0.mk (Kd.R_elder' (Kd.Rq HO1000.out) (Kd.R_base ho0) hb); have n1_ := Aside0.mk (Kd.R_lower (Kd.R_new' ho0 (Kd.R_lt (Kd.Rq HO1000.out))) (below_size (blq HB.out))); have n2_ := Aside0.mk (blk_below (bkq BK996.out) hb); have n3_ := Aside0.mk (below_step (blq HB.out) hb); clear HO1000; clear BK996; clear HB; have HO1000 := n0_; have HO1010 := n1_; have BK996 := n2_; have HB := n3_; clear n0_ n1_ n2_ n3_; (try clear hb); (try clear hb2); (try clear hk); (try clear hi); (try clear ho0)) | ((with_reducible refine gate_dst (N := 5) rfl ?_); refine box_event ?hg (N := 5) ?hd (cs := #[.slice none 0 0, .int .i64 0, .int .i64 0, .int .i64 0, .int .i64 0, .int .i64 0, .int .i64 0]) (t := 93) ?hr ?_; (case hd => rfl); (case hg => rfl); (case hr => first | (go_simp; done) | (go_simp; rfl)); intro gb1017 hg w38 hbox hb; have n0_ := Aside0.mk (Kd.R_below (Kd.Rq HO1000.out) hb); have n1_ := Aside0.mk (Kd.R_below (Kd.Rq HO1010.out) hb); have n2_ := Aside0.mk (blk_below (bkq BK996.out) hb); have n3_ := Aside0.mk (below_step (blq HB.out) hb); have n4_ := Aside0.mk (hbox); have n5_ := Aside0.mk ((sq hg HB.out)); have n6_ := Aside0.mk ((sq hg HB.out)); have n7_ := Aside0.mk ((by rw [hg]; exact Nat.ne_of_lt (blk_lt (bkq BK996.out)) : gb996 ≠ gb1017)); have n8_ := Aside0.mk ((by rw [hg]; exact Nat.ne_of_gt (blk_lt (bkq BK996.out)) : gb1017 ≠ gb996)); clear HO1000; clear HO1010; clear BK996; clear HB; have HO1000 := n0_; have HO1010 := n1_; have BK996 := n2_; have HB := n3_; have BK1017 := n4_; have GW1017 := n5_; have GE1017 := n6_; have NB996_1017 := n7_; have NB1017_996 := n8_; clear n0_ n1_ n2_ n3_ n4_ n5_ n6_ n7_ n8_; clear hb hbox hg; obtain ⟨Ao39, co39, eo39⟩ := Kd.R_slice HO1010.out; subst eo39; have hnb40 := NB1017_996.out; have hnc40 := NB996_1017.out; obtain ⟨hcz41_0, hcz41_1, hcz41_2, hcz41_3, hcz41_4, hcz41_5, hcz41_6, hfz41_0, hfz41_1, hfz41_2, hfz41_3, hfz41_4, hfz41_5, hfz41_6⟩ := bq7 BK1017.out) | ((with_reducible refine gate_callee (f := 68) rfl ?_); refine gLq (some 18) Try.func68 #[.agg #[.slice Ao39 t1008.length co39, .int .i64 t1011, .int .i64 t1012, .int .i64 t1013, .int .i64 t1014, .int .i64 t1015, .int .i64 t1016]] ?_; (with_reducible refine (impl_BookOk.calls k _ _ t1008 t1011 t1012 t1013 t1014 t1015 t1016 t1018 _ ?side1 ?side2 A10.out).mono ?_); (case side1 => refine (Kd.R_reads' (e := 44) (base := w.heap.size) (ok := fun k_ => (True ∧ some k_ ≠ (.slice Ao34 t998.length co34 : Value).ownBlock)) (n := t1008.length) (c := co39) ?_).2.2; exact (Kd.Rq (Kd.R_mono (Kd.R_far (p := ⟨gb1017, 6, none⟩) (Kd.R_far (p := ⟨gb1017, 5, none⟩) (Kd.R_far (p := ⟨gb1017, 4, none⟩) (Kd.R_far (p := ⟨gb1017, 3, none⟩) (Kd.R_far (p := ⟨gb1017, 2, none⟩) (Kd.R_far (p := ⟨gb1017, 1, none⟩) (Kd.R_far (p := ⟨gb1017, 0, none⟩) (Kd.R_types HO1010.out BK1017.out (by decide)) (fun _ hk => hk.2) (.slice Ao39 t1008.length co39)) (fun _ hk => hk.2) (.int .i64 t1011)) (fun _ hk => hk.2) (.int .i64 t1012)) (fun _ hk => hk.2) (.int .i64 t1013)) (fun _ hk => hk.2) (.int .i64 t1014)) (fun _ hk => hk.2) (.int .i64 t1015)) (fun _ hk => hk.2) (.int .i64 t1016)) (fun _ h_ => h_.1)))); (case side2 => exact (Kd.R_reads' HO1010.out).2.1); rintro e w42 ⟨rfl, hb⟩; refine ⟨_, rfl, ?_⟩; have n0_ := Aside0.mk (Kd.R_below (Kd.Rq (Kd.R_mono (Kd.R_far (p := ⟨gb1017, 6, none⟩) (Kd.R_far (p := ⟨gb1017, 5, none⟩) (Kd.R_far (p := ⟨gb1017, 4, none⟩) (Kd.R_far (p := ⟨gb1017, 3, none⟩) (Kd.R_far (p := ⟨gb1017, 2, none⟩) (Kd.R_far (p := ⟨gb1017, 1, none⟩) (Kd.R_far (p := ⟨gb1017, 0, none⟩) (Kd.R_types HO1000.out BK1017.out (by decide)) (fun _ hk => hk.2) (.slice Ao39 t1008.length co39)) (fun _ hk => hk.2) (.int .i64 t1011)) (fun _ hk => hk.2) (.int .i64 t1012)) (fun _ hk => hk.2) (.int .i64 t1013)) (fun _ hk => hk.2) (.int .i64 t1014)) (fun _ hk => hk.2) (.int .i64 t1015)) (fun _ hk => hk.2) (.int .i64 t1016)) (fun _ h_ => h_.1))) hb); have n1_ := Aside0.mk (Kd.R_below (Kd.Rq (Kd.R_mono (Kd.R_far (p := ⟨gb1017, 6, none⟩) (Kd.R_far (p := ⟨gb1017, 5, none⟩) (Kd.R_far (p := ⟨gb1017, 4, none⟩) (Kd.R_far (p := ⟨gb1017, 3, none⟩) (Kd.R_far (p := ⟨gb1017, 2, none⟩) (Kd.R_far (p := ⟨gb1017, 1, none⟩) (Kd.R_far (p := ⟨gb1017, 0, none⟩) (Kd.R_types HO1010.out BK1017.out (by decide)) (fun _ hk => hk.2) (.slice Ao39 t1008.length co39)) (fun _ hk => hk.2) (.int .i64 t1011)) (fun _ hk => hk.2) (.int .i64 t1012)) (fun _ hk => hk.2) (.int .i64 t1013)) (fun _ hk => hk.2) (.int .i64 t1014)) (fun _ hk => hk.2) (.int .i64 t1015)) (fun _ hk => hk.2) (.int .i64 t1016)) (fun _ h_ => h_.1))) hb); have n2_ := Aside0.mk (blk_below (g := gb996) (o := .cells #[.slice A0_0 l0_0.length c0_0, .int .i64 a0_1, .int .i64 a0_2, .int .i64 a0_3, .int .i64 a0_4, .int .i64 a0_5, .int .i64 a0_6] 88 (0, 0)) (by (with_reducible repeat (first | refine blk_drewN ?_ _ | refine blk_drew ?_ | refine blk_alloc ?_ _)); refine blk_far ?_ NB996_1017.out _; (with_reducible repeat (first | refine blk_drewN ?_ _ | refine blk_drew ?_ | refine blk_alloc ?_ _)); refine blk_far ?_ NB996_1017.out _; (with_reducible repeat (first | refine blk_drewN ?_ _ | refine blk_drew ?_ | refine blk_alloc ?_ _)); refine blk_far ?_ NB996_1017.out _; (with_reducible repeat (first | refine blk_drewN ?_ _ | refine blk_drew ?_ | refine blk_alloc ?_ _)); refine blk_far ?_ NB996_1017.out _; (with_reducible repeat (first | refine blk_drewN ?_ _ | refine blk_drew ?_ | refine blk_alloc ?_ _)); refine blk_far ?_ NB996_1017.out _; (with_reducible repeat (first | refine blk_drewN ?_ _ | refine blk_drew ?_ | refine blk_alloc ?_ _)); refine blk_far ?_ NB996_1017.out _; (with_reducible repeat (first | refine blk_drewN ?_ _ | refine blk_drew ?_ | refine blk_alloc ?_ _)); refine blk_far ?_ NB996_1017.out _; (with_reducible repeat (first | refine blk_drewN ?_ _ | refine blk_drew ?_ | refine blk_alloc ?_ _)); exact BK996.out) hb); have n3_ := Aside0.mk (blk_below (g := gb1017) (o := .cells #[.slice Ao39 t1008.length co39, .int .i64 t1011, .int .i64 t1012, .int .i64 t1013, .int .i64 t1014, .int .i64 t1015, .int .i64 t1016] 93 (0, 0)) (by (with_reducible repeat (first | refine blk_drewN ?_ _ | refine blk_drew ?_ | refine blk_alloc ?_ _)); refine blk_put (cs := #[.slice Ao39 t1008.length co39, .int .i64 t1011, .int .i64 t1012, .int .i64 t1013, .int .i64 t1014, .int .i64 t1015, .int .i64 0]) ?_ 6 _ rfl; (with_reducible repeat (first | refine blk_drewN ?_ _ | refine blk_drew ?_ | refine blk_alloc ?_ _)); refine blk_put (cs := #[.slice Ao39 t1008.length co39, .int .i64 t1011, .int .i64 t1012, .int .i64 t1013, .int .i64 t1014, .int .i64 0, .int .i64 0]) ?_ 5 _ rfl; (with_reducible repeat (first | refine blk_drewN ?_ _ | refine blk_drew ?_ | refine blk_alloc ?_ _)); refine blk_put (cs := #[.slice Ao39 t1008.length co39, .int .i64 t1011, .int .i64 t1012, .int .i64 t1013, .int .i64 0, .int .i64 0, .int .i64 0]) ?_ 4 _ rfl; (with_reducible repeat (first | refine blk_drewN ?_ _ | refine blk_drew ?_ | refine blk_alloc ?_ _)); refine blk_put (cs := #[.slice Ao39 t1008.length co39, .int .i64 t1011, .int .i64 t1012, .int .i64 0, .int .i64 0, .int .i64 0, .int .i64 0]) ?_ 3 _ rfl; (with_reducible repeat (first | refine blk_drewN ?_ _ | refine blk_drew ?_ | refine blk_alloc ?_ _)); refine blk_put (cs := #[.slice Ao39 t1008.length co39, .int .i64 t1011, .int .i64 0, .int .i64 0, .int .i64 0, .int .i64 0, .int .i64 0]) ?_ 2 _ rfl; (with_reducible repeat (first | refine blk_drewN ?_ _ | refine blk_drew ?_ | refine blk_alloc ?_ _)); refine blk_put (cs := #[.slice Ao39 t1008.length co39, .int .i64 0, .int .i64 0, .int .i64 0, .int .i64 0, .int .i64 0, .int .i64 0]) ?_ 1 _ rfl; (with_reducible repeat (first | refine blk_drewN ?_ _ | refine blk_drew ?_ | refine blk_alloc ?_ _)); refine blk_put (cs := #[.slice none 0 0, .int .i64 0, .int .i64 0, .int .i64 0, .int .i64 0, .int .i64 0, .int .i64 0]) ?_ 0 _ rfl; (with_reducible repeat (first | refine blk_drewN ?_ _ | refine blk_drew ?_ | refine blk_alloc ?_ _)); exact BK1017.out) hb); have n4_ := Aside0.mk (below_step (blq HB.out) hb); clear HO1000; clear HO1010; clear BK996; clear BK1017; clear HB; have HO1000 := n0_; have HO1010 := n1_; have BK996 := n2_; have BK1017 := n3_; have HB := n4_; clear n0_ n1_ n2_ n3_ n4_; (try clear hb); (try clear hb2); (try clear hk); (try clear hi)))
    have n0_ := Aside0.mk (Kd.R_drew HO1000.out)
    have n1_ := Aside0.mk (Kd.R_drew HO1010.out)
    have n2_ := Aside0.mk (blk_drew BK996.out)
    have n3_ := Aside0.mk (blk_drew BK1017.out)
    have n4_ := Aside0.mk (below_drew1 HB.out)
    clear HO1000
    clear HO1010
    clear BK996
    clear BK1017
    clear HB
    have HO1000 := n0_
    have HO1010 := n1_
    have BK996 := n2_
    have BK1017 := n3_
    have HB := n4_
    clear n0_ n1_ n2_ n3_ n4_
    refine start_ (n := 5) (S := fun w' => w'.cell? ⟨gb1017, 0, none⟩ = some (.slice Ao39 t1008.length co39) ∧ w'.cell? ⟨gb1017, 1, none⟩ = some (.int .i64 t1011) ∧ w'.cell? ⟨gb1017, 2, none⟩ = some (.int .i64 t1012) ∧ w'.cell? ⟨gb1017, 3, none⟩ = some (.int .i64 t1013) ∧ w'.cell? ⟨gb1017, 4, none⟩ = some (.int .i64 t1014) ∧ w'.cell? ⟨gb1017, 5, none⟩ = some (.int .i64 t1015) ∧ w'.cell? ⟨gb1017, 6, none⟩ = some (.int .i64 t1016) ∧ w'.cell? ⟨gb996, 0, none⟩ = some (.slice A0_0 l0_0.length c0_0) ∧ w'.cell? ⟨gb996, 1, none⟩ = some (.int .i64 a0_1) ∧ w'.cell? ⟨gb996, 2, none⟩ = some (.int .i64 a0_2) ∧ w'.cell? ⟨gb996, 3, none⟩ = some (.int .i64 a0_3) ∧ w'.cell? ⟨gb996, 4, none⟩ = some (.int .i64 a0_4) ∧ w'.cell? ⟨gb996, 5, none⟩ = some (.int .i64 a0_5) ∧ w'.cell? ⟨gb996, 6, none⟩ = some (.int .i64 a0_6)) (ds := []) #[false, false, false, false, false] (by kernel_rfl) rfl rfl ⟨(blk_cell BK1017.out 0).trans rfl, (blk_cell BK1017.out 1).trans rfl, (blk_cell BK1017.out 2).trans rfl, (blk_cell BK1017.out 3).trans rfl, (blk_cell BK1017.out 4).trans rfl, (blk_cell BK1017.out 5).trans rfl, (blk_cell BK1017.out 6).trans rfl, (blk_cell BK996.out 0).trans rfl, (blk_cell BK996.out 1).trans rfl, (blk_cell BK996.out 2).trans rfl, (blk_cell BK996.out 3).trans rfl, (blk_cell BK996.out 4).trans rfl, (blk_cell BK996.out 5).trans rfl, (blk_cell BK996.out 6).trans rfl⟩ (fun hHeld => ?_)
    generalize w42.drew = w43 at HO1000 HO1010 BK996 BK1017 HB hHeld ⊢
    refine take_ (i := 0) (N := some 22) (v := ?_) (a' := ?_) #[true, false, false, false, false] rfl rfl (by kernel_rfl) (fun _ _ _ h => h) (Or.inl ⟨by rfl, ?_⟩) hHeld ?_ ?_
    rotate_left
    ·
     rintro w' ⟨s0, s1, s2, s3, s4, s5, s6, s7, s8, s9, s10, s11, s12, s13⟩
     go_simp
     with_reducible rfl
    rotate_left
    ·
     simp only [Act.put, List.setIfInBounds_toArray, List.set_cons_zero, List.set_cons_succ, i64_w, i32_w]
     rfl
    refine take_ (i := 1) (N := some 23) (v := ?_) (a' := ?_) #[true, true, false, false, false] rfl rfl (by kernel_rfl) (fun _ _ _ h => h) (Or.inl ⟨by rfl, ?_⟩) hHeld ?_ ?_
    rotate_left
    ·
     rintro w' ⟨s0, s1, s2, s3, s4, s5, s6, s7, s8, s9, s10, s11, s12, s13⟩
     go_simp
     with_reducible rfl
    rotate_left
    ·
     simp only [Act.put, List.setIfInBounds_toArray, List.set_cons_zero, List.set_cons_succ, i64_w, i32_w]
     rfl
    refine one_ (i := 2) (N := some 24) #[true, true, true, false, false] rfl rfl (by kernel_rfl) (by decide) (fun K hK => ?_)
    refine goes_ Try.func67 (by kernel_rfl) rfl #[.agg #[.slice A0_0 l0_0.length c0_0, .int .i64 a0_1, .int .i64 a0_2, .int .i64 a0_3, .int .i64 a0_4, .int .i64 a0_5, .int .i64 a0_6]] (by rfl) rfl rfl (by (try simp only [List.map_toArray, List.map_cons, List.map_nil]); first | done | rfl | (simp only [List.length_drop, List.length_take]; rfl)) ?_
    with_reducible refine (laws_toBook.calls k _ _ l0_0 a0_1 a0_2 a0_3 a0_4 a0_5 a0_6 t1019 t1022 t1023 t1024 t1025 t1026 t1027 _ ?side1 ?side2 A26.out).mono ?_
    (case side1 => exact Kd.Cq (Kd.C_below HR0_0.out HB.out))
    (case side2 => exact HC0_0.out)
    rintro e w44 ⟨v1020, rfl, ho0, hb⟩
    refine ⟨_, rfl, ?_⟩
    have n0_ := Aside0.mk (Kd.R_elder' (Kd.Rq HO1000.out) (Kd.R_base ho0) hb)
    have n1_ := Aside0.mk (Kd.R_elder' (Kd.Rq HO1010.out) (Kd.R_base ho0) hb)
    have n2_ := Aside0.mk (Kd.R_lower (Kd.R_new' (Kd.R_new' ho0 (Kd.R_lt (Kd.Rq HO1000.out))) (Kd.R_lt (Kd.Rq HO1010.out))) (below_size (blq HB.out)))
    have n3_ := Aside0.mk (blk_below (bkq BK996.out) hb)
    have n4_ := Aside0.mk (blk_below (bkq BK1017.out) hb)
    have n5_ := Aside0.mk (below_step (blq HB.out) hb)
    clear HO1000
    clear HO1010
    clear BK996
    clear BK1017
    clear HB
    have HO1000 := n0_
    have HO1010 := n1_
    have HO1021 := n2_
    have BK996 := n3_
    have BK1017 := n4_
    have HB := n5_
    clear n0_ n1_ n2_ n3_ n4_ n5_
    (try clear hb)
    (try clear hb2)
    (try clear hk)
    (try clear hi)
    (try clear ho0)
    obtain ⟨Ao45, co45, eo45⟩ := Kd.R_slice HO1021.out
    (first | subst eo45 | (injection eo45 with f1_ f2_ f3_; have f4_ := f1_.symm; have f5_ := f3_.symm; clear f1_ f2_ f3_; subst f4_; subst f5_))
    refine hK.out _ _ ⟨(blk_cell BK1017.out 0).trans rfl, (blk_cell BK1017.out 1).trans rfl, (blk_cell BK1017.out 2).trans rfl, (blk_cell BK1017.out 3).trans rfl, (blk_cell BK1017.out 4).trans rfl, (blk_cell BK1017.out 5).trans rfl, (blk_cell BK1017.out 6).trans rfl, (blk_cell BK996.out 0).trans rfl, (blk_cell BK996.out 1).trans rfl, (blk_cell BK996.out 2).trans rfl, (blk_cell BK996.out 3).trans rfl, (blk_cell BK996.out 4).trans rfl, (blk_cell BK996.out 5).trans rfl, (blk_cell BK996.out 6).trans rfl⟩ (fun hHeld => ?_)
    clear hK K
    refine norm_ (a' := ?_) ?_ ?_
    rotate_left
    ·
     show Act.put _ (some 24) _ = _
     simp only [Act.put, List.setIfInBounds_toArray, List.set_cons_zero, List.set_cons_succ, i64_w, i32_w]
     rfl
    refine one_ (i := 3) (N := some 25) #[true, true, true, true, false] rfl rfl (by kernel_rfl) (by decide) (fun K hK => ?_)
    refine goes_ Try.func69 (by kernel_rfl) rfl #[.agg #[.slice Ao39 t1008.length co39, .int .i64 t1011, .int .i64 t1012, .int .i64 t1013, .int .i64 t1014, .int .i64 t1015, .int .i64 t1016], .agg #[.slice Ao45 t1019.length co45, .int .i64 t1022, .int .i64 t1023, .int .i64 t1024, .int .i64 t1025, .int .i64 t1026, .int .i64 t1027]] (by rfl) rfl rfl (by (try simp only [List.map_toArray, List.map_cons, List.map_nil]); first | done | rfl | (simp only [List.length_drop, List.length_take]; rfl)) ?_
    with_reducible refine (laws_eqBook.calls k _ _ t1008 t1011 t1012 t1013 t1014 t1015 t1016 _ _ t1019 t1022 t1023 t1024 t1025 t1026 t1027 true _ ?side1 ?side2 ?side3 ?side4 A27.out).mono ?_
    (case side1 => repeat (first | exact (Kd.R_reads' HO1010.out).2.2 | (with_reducible refine Kd.C_alloc ?_ _) | (with_reducible refine Kd.C_drewN ?_ _) | (with_reducible refine Kd.C_drew ?_)))
    (case side2 => exact (Kd.R_reads' HO1010.out).2.1)
    (case side3 => repeat (first | exact (Kd.R_reads' HO1021.out).2.2 | (with_reducible refine Kd.C_alloc ?_ _) | (with_reducible refine Kd.C_drewN ?_ _) | (with_reducible refine Kd.C_drew ?_)))
    (case side4 => exact (Kd.R_reads' HO1021.out).2.1)
    rintro e w46 ⟨rfl, hb⟩
    refine ⟨_, rfl, ?_⟩
    have n0_ := Aside0.mk (Kd.R_below (Kd.Rq HO1000.out) hb)
    have n1_ := Aside0.mk (Kd.R_below (Kd.Rq HO1010.out) hb)
    have n2_ := Aside0.mk (Kd.R_below (Kd.Rq HO1021.out) hb)
    have n3_ := Aside0.mk (blk_below (bkq BK996.out) hb)
    have n4_ := Aside0.mk (blk_below (bkq BK1017.out) hb)
    have n5_ := Aside0.mk (below_step (blq HB.out) hb)
    clear HO1000
    clear HO1010
    clear HO1021
    clear BK996
    clear BK1017
    clear HB
    have HO1000 := n0_
    have HO1010 := n1_
    have HO1021 := n2_
    have BK996 := n3_
    have BK1017 := n4_
    have HB := n5_
    clear n0_ n1_ n2_ n3_ n4_ n5_
    (try clear hb)
    (try clear hb2)
    (try clear hk)
    (try clear hi)
    refine hK.out _ _ ⟨(blk_cell BK1017.out 0).trans rfl, (blk_cell BK1017.out 1).trans rfl, (blk_cell BK1017.out 2).trans rfl, (blk_cell BK1017.out 3).trans rfl, (blk_cell BK1017.out 4).trans rfl, (blk_cell BK1017.out 5).trans rfl, (blk_cell BK1017.out 6).trans rfl, (blk_cell BK996.out 0).trans rfl, (blk_cell BK996.out 1).trans rfl, (blk_cell BK996.out 2).trans rfl, (blk_cell BK996.out 3).trans rfl, (blk_cell BK996.out 4).trans rfl, (blk_cell BK996.out 5).trans rfl, (blk_cell BK996.out 6).trans rfl⟩ (fun hHeld => ?_)
    clear hK K
    refine norm_ (a' := ?_) ?_ ?_
    rotate_left
    ·
     show Act.put _ (some 25) _ = _
     simp only [Act.put, List.setIfInBounds_toArray, List.set_cons_zero, List.set_cons_succ, i64_w, i32_w]
     rfl
    refine pure_ (i := 4) (N := some 26) (v := ?_) (a' := ?_) #[true, true, true, true, true] rfl rfl (by kernel_rfl) (fun _ _ _ h => h) (Or.inl ⟨by rfl, ?_⟩) ?_ ?_
    rotate_left
    ·
     intro w'
     go_simp
     with_reducible rfl
    rotate_left
    ·
     simp only [Act.put, List.setIfInBounds_toArray, List.set_cons_zero, List.set_cons_succ, i64_w, i32_w]
     rfl
    refine done_ (by kernel_rfl) ?_
    try go_wp2
    go_ret
    exact ⟨by first | rfl | (simp [errW_none, errW_some] <;> rfl) | (simp [*, errW_none, errW_some] <;> rfl), blq HB.out⟩
   ·
    replace c28 := Bool.eq_false_iff.mpr c28
    subst c28
    have H1 : (some false) = some r := by rw [if_neg (show ¬ (false = true) by decide)] at H; exact H
    clear H
    have H := H1
    clear H1
    obtain rfl := Option.some.inj H
    go_enter Try.func12, Try.ntmps12
    try go_wp2_with (first | ((with_reducible refine gate_dst (N := 1) rfl ?_); refine box_event ?hg (N := 1) ?hd (cs := #[.slice A0_0 l0_0.length c0_0, .int .i64 a0_1, .int .i64 a0_2, .int .i64 a0_3, .int .i64 a0_4, .int .i64 a0_5, .int .i64 a0_6]) (t := 88) ?hr ?_; (case hd => rfl); (case hg => rfl); (case hr => first | (go_simp; done) | (go_simp; rfl)); intro gb996 hg w47 hbox hb; have n0_ := Aside0.mk (below_step (blq HB.out) hb); have n1_ := Aside0.mk (hbox); have n2_ := Aside0.mk ((sq hg HB.out)); have n3_ := Aside0.mk ((sq hg HB.out)); clear HB; have HB := n0_; have BK996 := n1_; have GW996 := n2_; have GE996 := n3_; clear n0_ n1_ n2_ n3_; clear hb hbox hg; obtain ⟨hcz48_0, hcz48_1, hcz48_2, hcz48_3, hcz48_4, hcz48_5, hcz48_6, hfz48_0, hfz48_1, hfz48_2, hfz48_3, hfz48_4, hfz48_5, hfz48_6⟩ := bq7 BK996.out) | ((with_reducible refine gate_callee (f := 65) rfl ?_); refine gLq (some 9) Try.func65 #[.agg #[.slice A0_0 l0_0.length c0_0, .int .i64 a0_1, .int .i64 a0_2, .int .i64 a0_3, .int .i64 a0_4, .int .i64 a0_5, .int .i64 a0_6], .int .i64 1048576] ?_; (with_reducible refine (laws_szBook.calls _ _ l0_0 a0_1 a0_2 a0_3 a0_4 a0_5 a0_6 1048576 t997 _ ?side1 ?side2 A2.out).mono ?_); (case side1 => exact Kd.Cq (Kd.C_below HR0_0.out HB.out)); (case side2 => exact HC0_0.out); rintro e w49 ⟨rfl, hb⟩; refine ⟨_, rfl, ?_⟩; have n0_ := Aside0.mk (blk_below (bkq BK996.out) hb); have n1_ := Aside0.mk (below_step (blq HB.out) hb); clear BK996; clear HB; have BK996 := n0_; have HB := n1_; clear n0_ n1_; (try clear hb); (try clear hb2); (try clear hk); (try clear hi); obtain ⟨hcz50_0, hcz50_1, hcz50_2, hcz50_3, hcz50_4, hcz50_5, hcz50_6, hfz50_0, hfz50_1, hfz50_2, hfz50_3, hfz50_4, hfz50_5, hfz50_6⟩ := bq7 BK996.out) | ((with_reducible refine gate_callee (f := 67) rfl ?_); refine gLq (some 13) Try.func67 #[.agg #[.slice A0_0 l0_0.length c0_0, .int .i64 a0_1, .int .i64 a0_2, .int .i64 a0_3, .int .i64 a0_4, .int .i64 a0_5, .int .i64 a0_6]] ?_; (with_reducible refine (laws_toBook.calls k _ _ l0_0 a0_1 a0_2 a0_3 a0_4 a0_5 a0_6 t998 t1001 t1002 t1003 t1004 t1005 t1006 _ ?side1 ?side2 A7.out).mono ?_); (case side1 => exact Kd.Cq (Kd.C_below HR0_0.out HB.out)); (case side2 => exact HC0_0.out); rintro e w51 ⟨v999, rfl, ho0, hb⟩; refine ⟨_, rfl, ?_⟩; have n0_ := Aside0.mk (Kd.R_lower ho0 (below_size (blq HB.out))); have n1_ := Aside0.mk (blk_below (bkq BK996.out) hb); have n2_ := Aside0.mk (below_step (blq HB.out) hb); clear BK996; clear HB; have HO1000 := n0_; have BK996 := n1_; have HB := n2_; clear n0_ n1_ n2_; (try clear hb); (try clear hb2); (try clear hk); (try clear hi); (try clear ho0); obtain ⟨Ao52, co52, eo52⟩ := Kd.R_slice HO1000.out; subst eo52) | ((with_reducible refine gate_callee (f := 66) rfl ?_); refine gLq (some 14) Try.func66 #[.agg #[.slice Ao52 t998.length co52, .int .i64 t1001, .int .i64 t1002, .int .i64 t1003, .int .i64 t1004, .int .i64 t1005, .int .i64 t1006]] ?_; (with_reducible refine (spec_BookOk.calls k _ _ t998 t1001 t1002 t1003 t1004 t1005 t1006 t1007 _ ?side1 ?side2 A8.out).mono ?_); (case side1 => repeat (first | exact (Kd.R_reads' HO1000.out).2.2 | (with_reducible refine Kd.C_alloc ?_ _) | (with_reducible refine Kd.C_drewN ?_ _) | (with_reducible refine Kd.C_drew ?_))); (case side2 => exact (Kd.R_reads' HO1000.out).2.1); rintro e w53 ⟨rfl, hb⟩; refine ⟨_, rfl, ?_⟩; have n0_ := Aside0.mk (Kd.R_below (Kd.Rq HO1000.out) hb); have n1_ := Aside0.mk (blk_below (bkq BK996.out) hb); have n2_ := Aside0.mk (below_step (blq HB.out) hb); clear HO1000; clear BK996; clear HB; have HO1000 := n0_; have BK996 := n1_; have HB := n2_; clear n0_ n1_ n2_; (try clear hb); (try clear hb2); (try clear hk); (try clear hi); obtain ⟨hcz54_0, hcz54_1, hcz54_2, hcz54_3, hcz54_4, hcz54_5, hcz54_6, hfz54_0, hfz54_1, hfz54_2, hfz54_3, hfz54_4, hfz54_5, hfz54_6⟩ := bq7 BK996.out) | ((with_reducible refine gate_callee (f := 67) rfl ?_); refine gLq (some 16) Try.func67 #[.agg #[.slice A0_0 l0_0.length c0_0, .int .i64 a0_1, .int .i64 a0_2, .int .i64 a0_3, .int .i64 a0_4, .int .i64 a0_5, .int .i64 a0_6]] ?_; (with_reducible refine (laws_toBook.calls k _ _ l0_0 a0_1 a0_2 a0_3 a0_4 a0_5 a0_6 t1008 t1011 t1012 t1013 t1014 t1015 t1016 _ ?side1 ?side2 A9.out).mono ?_); (case side1 => exact Kd.Cq (Kd.C_below HR0_0.out HB.out)); (case side2 => exact HC0_0.out); rintro e w55 ⟨v1009, rfl, ho0, hb⟩; refine ⟨_, rfl, ?_⟩; have n0_ := Aside0.mk (Kd.R_elder' (Kd.Rq HO1000.out) (Kd.R_base ho0) hb); have n1_ := Aside0.mk (Kd.R_lower (Kd.R_new' ho0 (Kd.R_lt (Kd.Rq HO1000.out))) (below_size (blq HB.out))); have n2_ := Aside0.mk (blk_below (bkq BK996.out) hb); have n3_ := Aside0.mk (below_step (blq HB.out) hb); clear HO1000; clear BK996; clear HB; have HO1000 := n0_; have HO1010 := n1_; have BK996 := n2_; have HB := n3_; clear n0_ n1_ n2_ n3_; (try clear hb); (try clear hb2); (try clear hk); (try clear hi); (try clear ho0)) | ((with_reducible refine gate_dst (N := 5) rfl ?_); refine box_event ?hg (N := 5) ?hd (cs := #[.slice none 0 0, .int .i64 0, .int .i64 0, .int .i64 0, .int .i64 0, .int .i64 0, .int .i64 0]) (t := 93) ?hr ?_; (case hd => rfl); (case hg => rfl); (case hr => first | (go_simp; done) | (go_simp; rfl)); intro gb1017 hg w56 hbox hb; have n0_ := Aside0.mk (Kd.R_below (Kd.Rq HO1000.out) hb); have n1_ := Aside0.mk (Kd.R_below (Kd.Rq HO1010.out) hb); have n2_ := Aside0.mk (blk_below (bkq BK996.out) hb); have n3_ := Aside0.mk (below_step (blq HB.out) hb); have n4_ := Aside0.mk (hbox); have n5_ := Aside0.mk ((sq hg HB.out)); have n6_ := Aside0.mk ((sq hg HB.out)); have n7_ := Aside0.mk ((by rw [hg]; exact Nat.ne_of_lt (blk_lt (bkq BK996.out)) : gb996 ≠ gb1017)); have n8_ := Aside0.mk ((by rw [hg]; exact Nat.ne_of_gt (blk_lt (bkq BK996.out)) : gb1017 ≠ gb996)); clear HO1000; clear HO1010; clear BK996; clear HB; have HO1000 := n0_; have HO1010 := n1_; have BK996 := n2_; have HB := n3_; have BK1017 := n4_; have GW1017 := n5_; have GE1017 := n6_; have NB996_1017 := n7_; have NB1017_996 := n8_; clear n0_ n1_ n2_ n3_ n4_ n5_ n6_ n7_ n8_; clear hb hbox hg; obtain ⟨Ao57, co57, eo57⟩ := Kd.R_slice HO1010.out; subst eo57; have hnb58 := NB1017_996.out; have hnc58 := NB996_1017.out; obtain ⟨hcz59_0, hcz59_1, hcz59_2, hcz59_3, hcz59_4, hcz59_5, hcz59_6, hfz59_0, hfz59_1, hfz59_2, hfz59_3, hfz59_4, hfz59_5, hfz59_6⟩ := bq7 BK1017.out) | ((with_reducible refine gate_callee (f := 68) rfl ?_); refine gLq (some 18) Try.func68 #[.agg #[.slice Ao57 t1008.length co57, .int .i64 t1011, .int .i64 t1012, .int .i64 t1013, .int .i64 t1014, .int .i64 t1015, .int .i64 t1016]] ?_; (with_reducible refine (impl_BookOk.calls k _ _ t1008 t1011 t1012 t1013 t1014 t1015 t1016 t1018 _ ?side1 ?side2 A10.out).mono ?_); (case side1 => refine (Kd.R_reads' (e := 44) (base := w.heap.size) (ok := fun k_ => (True ∧ some k_ ≠ (.slice Ao52 t998.length co52 : Value).ownBlock)) (n := t1008.length) (c := co57) ?_).2.2; exact (Kd.Rq (Kd.R_mono (Kd.R_far (p := ⟨gb1017, 6, none⟩) (Kd.R_far (p := ⟨gb1017, 5, none⟩) (Kd.R_far (p := ⟨gb1017, 4, none⟩) (Kd.R_far (p := ⟨gb1017, 3, none⟩) (Kd.R_far (p := ⟨gb1017, 2, none⟩) (Kd.R_far (p := ⟨gb1017, 1, none⟩) (Kd.R_far (p := ⟨gb1017, 0, none⟩) (Kd.R_types HO1010.out BK1017.out (by decide)) (fun _ hk => hk.2) (.slice Ao57 t1008.length co57)) (fun _ hk => hk.2) (.int .i64 t1011)) (fun _ hk => hk.2) (.int .i64 t1012)) (fun _ hk => hk.2) (.int .i64 t1013)) (fun _ hk => hk.2) (.int .i64 t1014)) (fun _ hk => hk.2) (.int .i64 t1015)) (fun _ hk => hk.2) (.int .i64 t1016)) (fun _ h_ => h_.1)))); (case side2 => exact (Kd.R_reads' HO1010.out).2.1); rintro e w60 ⟨rfl, hb⟩; refine ⟨_, rfl, ?_⟩; have n0_ := Aside0.mk (Kd.R_below (Kd.Rq (Kd.R_mono (Kd.R_far (p := ⟨gb1017, 6, none⟩) (Kd.R_far (p := ⟨gb1017, 5, none⟩) (Kd.R_far (p := ⟨gb1017, 4, none⟩) (Kd.R_far (p := ⟨gb1017, 3, none⟩) (Kd.R_far (p := ⟨gb1017, 2, none⟩) (Kd.R_far (p := ⟨gb1017, 1, none⟩) (Kd.R_far (p := ⟨gb1017, 0, none⟩) (Kd.R_types HO1000.out BK1017.out (by decide)) (fun _ hk => hk.2) (.slice Ao57 t1008.length co57)) (fun _ hk => hk.2) (.int .i64 t1011)) (fun _ hk => hk.2) (.int .i64 t1012)) (fun _ hk => hk.2) (.int .i64 t1013)) (fun _ hk => hk.2) (.int .i64 t1014)) (fun _ hk => hk.2) (.int .i64 t1015)) (fun _ hk => hk.2) (.int .i64 t1016)) (fun _ h_ => h_.1))) hb); have n1_ := Aside0.mk (Kd.R_below (Kd.Rq (Kd.R_mono (Kd.R_far (p := ⟨gb1017, 6, none⟩) (Kd.R_far (p := ⟨gb1017, 5, none⟩) (Kd.R_far (p := ⟨gb1017, 4, none⟩) (Kd.R_far (p := ⟨gb1017, 3, none⟩) (Kd.R_far (p := ⟨gb1017, 2, none⟩) (Kd.R_far (p := ⟨gb1017, 1, none⟩) (Kd.R_far (p := ⟨gb1017, 0, none⟩) (Kd.R_types HO1010.out BK1017.out (by decide)) (fun _ hk => hk.2) (.slice Ao57 t1008.length co57)) (fun _ hk => hk.2) (.int .i64 t1011)) (fun _ hk => hk.2) (.int .i64 t1012)) (fun _ hk => hk.2) (.int .i64 t1013)) (fun _ hk => hk.2) (.int .i64 t1014)) (fun _ hk => hk.2) (.int .i64 t1015)) (fun _ hk => hk.2) (.int .i64 t1016)) (fun _ h_ => h_.1))) hb); have n2_ := Aside0.mk (blk_below (g := gb996) (o := .cells #[.slice A0_0 l0_0.length c0_0, .int .i64 a0_1, .int .i64 a0_2, .int .i64 a0_3, .int .i64 a0_4, .int .i64 a0_5, .int .i64 a0_6] 88 (0, 0)) (by (with_reducible repeat (first | refine blk_drewN ?_ _ | refine blk_drew ?_ | refine blk_alloc ?_ _)); refine blk_far ?_ NB996_1017.out _; (with_reducible repeat (first | refine blk_drewN ?_ _ | refine blk_drew ?_ | refine blk_alloc ?_ _)); refine blk_far ?_ NB996_1017.out _; (with_reducible repeat (first | refine blk_drewN ?_ _ | refine blk_drew ?_ | refine blk_alloc ?_ _)); refine blk_far ?_ NB996_1017.out _; (with_reducible repeat (first | refine blk_drewN ?_ _ | refine blk_drew ?_ | refine blk_alloc ?_ _)); refine blk_far ?_ NB996_1017.out _; (with_reducible repeat (first | refine blk_drewN ?_ _ | refine blk_drew ?_ | refine blk_alloc ?_ _)); refine blk_far ?_ NB996_1017.out _; (with_reducible repeat (first | refine blk_drewN ?_ _ | refine blk_drew ?_ | refine blk_alloc ?_ _)); refine blk_far ?_ NB996_1017.out _; (with_reducible repeat (first | refine blk_drewN ?_ _ | refine blk_drew ?_ | refine blk_alloc ?_ _)); refine blk_far ?_ NB996_1017.out _; (with_reducible repeat (first | refine blk_drewN ?_ _ | refine blk_drew ?_ | refine blk_alloc ?_ _)); exact BK996.out) hb); have n3_ := Aside0.mk (blk_below (g := gb1017) (o := .cells #[.slice Ao57 t1008.length co57, .int .i64 t1011, .int .i64 t1012, .int .i64 t1013, .int .i64 t1014, .int .i64 t1015, .int .i64 t1016] 93 (0, 0)) (by (with_reducible repeat (first | refine blk_drewN ?_ _ | refine blk_drew ?_ | refine blk_alloc ?_ _)); refine blk_put (cs := #[.slice Ao57 t1008.length co57, .int .i64 t1011, .int .i64 t1012, .int .i64 t1013, .int .i64 t1014, .int .i64 t1015, .int .i64 0]) ?_ 6 _ rfl; (with_reducible repeat (first | refine blk_drewN ?_ _ | refine blk_drew ?_ | refine blk_alloc ?_ _)); refine blk_put (cs := #[.slice Ao57 t1008.length co57, .int .i64 t1011, .int .i64 t1012, .int .i64 t1013, .int .i64 t1014, .int .i64 0, .int .i64 0]) ?_ 5 _ rfl; (with_reducible repeat (first | refine blk_drewN ?_ _ | refine blk_drew ?_ | refine blk_alloc ?_ _)); refine blk_put (cs := #[.slice Ao57 t1008.length co57, .int .i64 t1011, .int .i64 t1012, .int .i64 t1013, .int .i64 0, .int .i64 0, .int .i64 0]) ?_ 4 _ rfl; (with_reducible repeat (first | refine blk_drewN ?_ _ | refine blk_drew ?_ | refine blk_alloc ?_ _)); refine blk_put (cs := #[.slice Ao57 t1008.length co57, .int .i64 t1011, .int .i64 t1012, .int .i64 0, .int .i64 0, .int .i64 0, .int .i64 0]) ?_ 3 _ rfl; (with_reducible repeat (first | refine blk_drewN ?_ _ | refine blk_drew ?_ | refine blk_alloc ?_ _)); refine blk_put (cs := #[.slice Ao57 t1008.length co57, .int .i64 t1011, .int .i64 0, .int .i64 0, .int .i64 0, .int .i64 0, .int .i64 0]) ?_ 2 _ rfl; (with_reducible repeat (first | refine blk_drewN ?_ _ | refine blk_drew ?_ | refine blk_alloc ?_ _)); refine blk_put (cs := #[.slice Ao57 t1008.length co57, .int .i64 0, .int .i64 0, .int .i64 0, .int .i64 0, .int .i64 0, .int .i64 0]) ?_ 1 _ rfl; (with_reducible repeat (first | refine blk_drewN ?_ _ | refine blk_drew ?_ | refine blk_alloc ?_ _)); refine blk_put (cs := #[.slice none 0 0, .int .i64 0, .int .i64 0, .int .i64 0, .int .i64 0, .int .i64 0, .int .i64 0]) ?_ 0 _ rfl; (with_reducible repeat (first | refine blk_drewN ?_ _ | refine blk_drew ?_ | refine blk_alloc ?_ _)); exact BK1017.out) hb); have n4_ := Aside0.mk (below_step (blq HB.out) hb); clear HO1000; clear HO1010; clear BK996; clear BK1017; clear HB; have HO1000 := n0_; have HO1010 := n1_; have BK996 := n2_; have BK1017 := n3_; have HB := n4_; clear n0_ n1_ n2_ n3_ n4_; (try clear hb); (try clear hb2); (try clear hk); (try clear hi)))
    have n0_ := Aside0.mk (Kd.R_drew HO1000.out)
    have n1_ := Aside0.mk (Kd.R_drew HO1010.out)
    have n2_ := Aside0.mk (blk_drew BK996.out)
    have n3_ := Aside0.mk (blk_drew BK1017.out)
    have n4_ := Aside0.mk (below_drew1 HB.out)
    clear HO1000
    clear HO1010
    clear BK996
    clear BK1017
    clear HB
    have HO1000 := n0_
    have HO1010 := n1_
    have BK996 := n2_
    have BK1017 := n3_
    have HB := n4_
    clear n0_ n1_ n2_ n3_ n4_
    refine start_ (n := 5) (S := fun w' => w'.cell? ⟨gb1017, 0, none⟩ = some (.slice Ao57 t1008.length co57) ∧ w'.cell? ⟨gb1017, 1, none⟩ = some (.int .i64 t1011) ∧ w'.cell? ⟨gb1017, 2, none⟩ = some (.int .i64 t1012) ∧ w'.cell? ⟨gb1017, 3, none⟩ = some (.int .i64 t1013) ∧ w'.cell? ⟨gb1017, 4, none⟩ = some (.int .i64 t1014) ∧ w'.cell? ⟨gb1017, 5, none⟩ = some (.int .i64 t1015) ∧ w'.cell? ⟨gb1017, 6, none⟩ = some (.int .i64 t1016) ∧ w'.cell? ⟨gb996, 0, none⟩ = some (.slice A0_0 l0_0.length c0_0) ∧ w'.cell? ⟨gb996, 1, none⟩ = some (.int .i64 a0_1) ∧ w'.cell? ⟨gb996, 2, none⟩ = some (.int .i64 a0_2) ∧ w'.cell? ⟨gb996, 3, none⟩ = some (.int .i64 a0_3) ∧ w'.cell? ⟨gb996, 4, none⟩ = some (.int .i64 a0_4) ∧ w'.cell? ⟨gb996, 5, none⟩ = some (.int .i64 a0_5) ∧ w'.cell? ⟨gb996, 6, none⟩ = some (.int .i64 a0_6)) (ds := []) #[false, false, false, false, false] (by kernel_rfl) rfl rfl ⟨(blk_cell BK1017.out 0).trans rfl, (blk_cell BK1017.out 1).trans rfl, (blk_cell BK1017.out 2).trans rfl, (blk_cell BK1017.out 3).trans rfl, (blk_cell BK1017.out 4).trans rfl, (blk_cell BK1017.out 5).trans rfl, (blk_cell BK1017.out 6).trans rfl, (blk_cell BK996.out 0).trans rfl, (blk_cell BK996.out 1).trans rfl, (blk_cell BK996.out 2).trans rfl, (blk_cell BK996.out 3).trans rfl, (blk_cell BK996.out 4).trans rfl, (blk_cell BK996.out 5).trans rfl, (blk_cell BK996.out 6).trans rfl⟩ (fun hHeld => ?_)
    generalize w60.drew = w61 at HO1000 HO1010 BK996 BK1017 HB hHeld ⊢
    refine take_ (i := 0) (N := some 22) (v := ?_) (a' := ?_) #[true, false, false, false, false] rfl rfl (by kernel_rfl) (fun _ _ _ h => h) (Or.inl ⟨by rfl, ?_⟩) hHeld ?_ ?_
    rotate_left
    ·
     rintro w' ⟨s0, s1, s2, s3, s4, s5, s6, s7, s8, s9, s10, s11, s12, s13⟩
     go_simp
     with_reducible rfl
    rotate_left
    ·
     simp only [Act.put, List.setIfInBounds_toArray, List.set_cons_zero, List.set_cons_succ, i64_w, i32_w]
     rfl
    refine take_ (i := 1) (N := some 23) (v := ?_) (a' := ?_) #[true, true, false, false, false] rfl rfl (by kernel_rfl) (fun _ _ _ h => h) (Or.inl ⟨by rfl, ?_⟩) hHeld ?_ ?_
    rotate_left
    ·
     rintro w' ⟨s0, s1, s2, s3, s4, s5, s6, s7, s8, s9, s10, s11, s12, s13⟩
     go_simp
     with_reducible rfl
    rotate_left
    ·
     simp only [Act.put, List.setIfInBounds_toArray, List.set_cons_zero, List.set_cons_succ, i64_w, i32_w]
     rfl
    refine one_ (i := 2) (N := some 24) #[true, true, true, false, false] rfl rfl (by kernel_rfl) (by decide) (fun K hK => ?_)
    refine goes_ Try.func67 (by kernel_rfl) rfl #[.agg #[.slice A0_0 l0_0.length c0_0, .int .i64 a0_1, .int .i64 a0_2, .int .i64 a0_3, .int .i64 a0_4, .int .i64 a0_5, .int .i64 a0_6]] (by rfl) rfl rfl (by (try simp only [List.map_toArray, List.map_cons, List.map_nil]); first | done | rfl | (simp only [List.length_drop, List.length_take]; rfl)) ?_
    with_reducible refine (laws_toBook.calls k _ _ l0_0 a0_1 a0_2 a0_3 a0_4 a0_5 a0_6 t1019 t1022 t1023 t1024 t1025 t1026 t1027 _ ?side1 ?side2 A26.out).mono ?_
    (case side1 => exact Kd.Cq (Kd.C_below HR0_0.out HB.out))
    (case side2 => exact HC0_0.out)
    rintro e w62 ⟨v1020, rfl, ho0, hb⟩
    refine ⟨_, rfl, ?_⟩
    have n0_ := Aside0.mk (Kd.R_elder' (Kd.Rq HO1000.out) (Kd.R_base ho0) hb)
    have n1_ := Aside0.mk (Kd.R_elder' (Kd.Rq HO1010.out) (Kd.R_base ho0) hb)
    have n2_ := Aside0.mk (Kd.R_lower (Kd.R_new' (Kd.R_new' ho0 (Kd.R_lt (Kd.Rq HO1000.out))) (Kd.R_lt (Kd.Rq HO1010.out))) (below_size (blq HB.out)))
    have n3_ := Aside0.mk (blk_below (bkq BK996.out) hb)
    have n4_ := Aside0.mk (blk_below (bkq BK1017.out) hb)
    have n5_ := Aside0.mk (below_step (blq HB.out) hb)
    clear HO1000
    clear HO1010
    clear BK996
    clear BK1017
    clear HB
    have HO1000 := n0_
    have HO1010 := n1_
    have HO1021 := n2_
    have BK996 := n3_
    have BK1017 := n4_
    have HB := n5_
    clear n0_ n1_ n2_ n3_ n4_ n5_
    (try clear hb)
    (try clear hb2)
    (try clear hk)
    (try clear hi)
    (try clear ho0)
    obtain ⟨Ao63, co63, eo63⟩ := Kd.R_slice HO1021.out
    (first | subst eo63 | (injection eo63 with f1_ f2_ f3_; have f4_ := f1_.symm; have f5_ := f3_.symm; clear f1_ f2_ f3_; subst f4_; subst f5_))
    refine hK.out _ _ ⟨(blk_cell BK1017.out 0).trans rfl, (blk_cell BK1017.out 1).trans rfl, (blk_cell BK1017.out 2).trans rfl, (blk_cell BK1017.out 3).trans rfl, (blk_cell BK1017.out 4).trans rfl, (blk_cell BK1017.out 5).trans rfl, (blk_cell BK1017.out 6).trans rfl, (blk_cell BK996.out 0).trans rfl, (blk_cell BK996.out 1).trans rfl, (blk_cell BK996.out 2).trans rfl, (blk_cell BK996.out 3).trans rfl, (blk_cell BK996.out 4).trans rfl, (blk_cell BK996.out 5).trans rfl, (blk_cell BK996.out 6).trans rfl⟩ (fun hHeld => ?_)
    clear hK K
    refine norm_ (a' := ?_) ?_ ?_
    rotate_left
    ·
     show Act.put _ (some 24) _ = _
     simp only [Act.put, List.setIfInBounds_toArray, List.set_cons_zero, List.set_cons_succ, i64_w, i32_w]
     rfl
    refine one_ (i := 3) (N := some 25) #[true, true, true, true, false] rfl rfl (by kernel_rfl) (by decide) (fun K hK => ?_)
    refine goes_ Try.func69 (by kernel_rfl) rfl #[.agg #[.slice Ao57 t1008.length co57, .int .i64 t1011, .int .i64 t1012, .int .i64 t1013, .int .i64 t1014, .int .i64 t1015, .int .i64 t1016], .agg #[.slice Ao63 t1019.length co63, .int .i64 t1022, .int .i64 t1023, .int .i64 t1024, .int .i64 t1025, .int .i64 t1026, .int .i64 t1027]] (by rfl) rfl rfl (by (try simp only [List.map_toArray, List.map_cons, List.map_nil]); first | done | rfl | (simp only [List.length_drop, List.length_take]; rfl)) ?_
    with_reducible refine (laws_eqBook.calls k _ _ t1008 t1011 t1012 t1013 t1014 t1015 t1016 _ _ t1019 t1022 t1023 t1024 t1025 t1026 t1027 false _ ?side1 ?side2 ?side3 ?side4 A27.out).mono ?_
    (case side1 => repeat (first | exact (Kd.R_reads' HO1010.out).2.2 | (with_reducible refine Kd.C_alloc ?_ _) | (with_reducible refine Kd.C_drewN ?_ _) | (with_reducible refine Kd.C_drew ?_)))
    (case side2 => exact (Kd.R_reads' HO1010.out).2.1)
    (case side3 => repeat (first | exact (Kd.R_reads' HO1021.out).2.2 | (with_reducible refine Kd.C_alloc ?_ _) | (with_reducible refine Kd.C_drewN ?_ _) | (with_reducible refine Kd.C_drew ?_)))
    (case side4 => exact (Kd.R_reads' HO1021.out).2.1)
    rintro e w64 ⟨rfl, hb⟩
    refine ⟨_, rfl, ?_⟩
    have n0_ := Aside0.mk (Kd.R_below (Kd.Rq HO1000.out) hb)
    have n1_ := Aside0.mk (Kd.R_below (Kd.Rq HO1010.out) hb)
    have n2_ := Aside0.mk (Kd.R_below (Kd.Rq HO1021.out) hb)
    have n3_ := Aside0.mk (blk_below (bkq BK996.out) hb)
    have n4_ := Aside0.mk (blk_below (bkq BK1017.out) hb)
    have n5_ := Aside0.mk (below_step (blq HB.out) hb)
    clear HO1000
    clear HO1010
    clear HO1021
    clear BK996
    clear BK1017
    clear HB
    have HO1000 := n0_
    have HO1010 := n1_
    have HO1021 := n2_
    have BK996 := n3_
    have BK1017 := n4_
    have HB := n5_
    clear n0_ n1_ n2_ n3_ n4_ n5_
    (try clear hb)
    (try clear hb2)
    (try clear hk)
    (try clear hi)
    refine hK.out _ _ ⟨(blk_cell BK1017.out 0).trans rfl, (blk_cell BK1017.out 1).trans rfl, (blk_cell BK1017.out 2).trans rfl, (blk_cell BK1017.out 3).trans rfl, (blk_cell BK1017.out 4).trans rfl, (blk_cell BK1017.out 5).trans rfl, (blk_cell BK1017.out 6).trans rfl, (blk_cell BK996.out 0).trans rfl, (blk_cell BK996.out 1).trans rfl, (blk_cell BK996.out 2).trans rfl, (blk_cell BK996.out 3).trans rfl, (blk_cell BK996.out 4).trans rfl, (blk_cell BK996.out 5).trans rfl, (blk_cell BK996.out 6).trans rfl⟩ (fun hHeld => ?_)
    clear hK K
    refine norm_ (a' := ?_) ?_ ?_
    rotate_left
    ·
     show Act.put _ (some 25) _ = _
     simp only [Act.put, List.setIfInBounds_toArray, List.set_cons_zero, List.set_cons_succ, i64_w, i32_w]
     rfl
    refine pure_ (i := 4) (N := some 26) (v := ?_) (a' := ?_) #[true, true, true, true, true] rfl rfl (by kernel_rfl) (fun _ _ _ h => h) (Or.inl ⟨by rfl, ?_⟩) ?_ ?_
    rotate_left
    ·
     intro w'
     go_simp
     with_reducible rfl
    rotate_left
    ·
     simp only [Act.put, List.setIfInBounds_toArray, List.set_cons_zero, List.set_cons_succ, i64_w, i32_w]
     rfl
    refine done_ (by kernel_rfl) ?_
    try go_wp2
    go_ret
    exact ⟨by first | rfl | (simp [errW_none, errW_some] <;> rfl) | (simp [*, errW_none, errW_some] <;> rfl), blq HB.out⟩

/-- What is left to prove of laws_FnExactBookOk: over numbers and lists alone. -/
def laws_FnExactBookOk.Pure : Prop := ∀ (l0_0 : List (S39)) (a0_1 : Int) (a0_2 : Int) (a0_3 : Int) (a0_4 : Int) (a0_5 : Int) (a0_6 : Int), ok_T88 (⟨l0_0, (⟨a0_1, a0_2, a0_3⟩ : S37), a0_4, a0_5, a0_6⟩ : S88) → ∃ k, laws_FnExactBookOk.f k l0_0 a0_1 a0_2 a0_3 a0_4 a0_5 a0_6 = some true

end Go.Proofs.Ytnlioefgpgamdaa.Q
