-- Written for this claim by wip/xprint.py of this repository (by way of the kit's print); Lean checks every line.
import Derived.Test.YtnlioefgpgamdaaQ0
import Derived.Test.YtnlioefgpgamdaaQ26
import Derived.Test.YtnlioefgpgamdaaQ27
import Derived.Test.YtnlioefgpgamdaaQ35
namespace Go.Proofs.Ytnlioefgpgamdaa.Q
open Go.RowKit Go.Proofs.YtnlioefgpgamdaaW.PrintWords Go.Proofs.YtnlioefgpgamdaaW.PrintLast Go.Proofs.YtnlioefgpgamdaaW.PrintMore
attribute [local go_sem] max2_int min2_int max_two min_two max_three min_three max_four min_four   -- for this text's walks alone
set_option linter.unusedVariables false
set_option linter.unusedSimpArgs false

/-! ### laws_FnExactHasCircle: function 8 -/
def laws_FnExactHasCircle.f (k : Nat) (l0 : List (List Int)) (a1 : Int) : Option (Bool) := (laws_szIntSS.f k l0 1048576).bind fun t698 => (if t698 < 0 then (some true) else ((laws_toIntSS.f k l0).bind fun t699 => ((spec_HasCircle.f k t699 a1).bind fun t702 => ((laws_toIntSS.f k l0).bind fun t703 => ((impl_HasCircle.f k t703 a1).bind fun t706 => (if (t706 != t702) = true then (some false) else ((laws_toIntSS.f k l0).bind fun t707 => ((laws_eqIntSS.f k t703 t707).bind fun t710 => (if t710 = true then (some true) else (some false))))))))))
theorem laws_FnExactHasCircle.mono : ∀ a0 a1 k, LeO (laws_FnExactHasCircle.f k a0 a1) (laws_FnExactHasCircle.f (k + 1) a0 a1) := by
 intro a0 a1 k
 unfold laws_FnExactHasCircle.f
 repeat' first
   | (with_reducible exact impl_HasCircle.mono _ _ _)
   | (with_reducible exact laws_eqIntSS.mono _ _ _)
   | (with_reducible exact laws_szIntSS.mono _ _ _)
   | (with_reducible exact laws_toIntSS.mono _ _)
   | (with_reducible exact spec_HasCircle.mono _ _ _)
   | (with_reducible exact LeO.refl _)
   | (with_reducible exact LeO.none _)
   | (with_reducible refine LeO.ite ?_ ?_)
   | (with_reducible refine LeO.bind ?_ (fun _ => ?_))
   | exact impl_HasCircle.mono _ _ _
   | exact laws_eqIntSS.mono _ _ _
   | exact laws_szIntSS.mono _ _ _
   | exact laws_toIntSS.mono _ _
   | exact spec_HasCircle.mono _ _ _
   | exact LeO.none _
   | refine LeO.ite ?_ ?_
   | refine LeO.bind ?_ (fun _ => ?_)
set_option maxHeartbeats 8000000 in
set_option maxRecDepth 100000 in
theorem laws_FnExactHasCircle.calls (k : Nat) (A0 : Option Addr) (c0 : Nat) (l0 : List (List Int)) (a1 : Int) (r : Bool) (w : World) (hr0 : Kd.C (Kd.slice 3 (Kd.int .i64)) w A0 l0.length l0) (hc0 : l0.length ≤ c0) (h : laws_FnExactHasCircle.f k l0 a1 = some r) :
  Calls Try.prog 8 #[.slice A0 l0.length c0, .int .i64 a1] w fun e w' => e = .returned (.bool r) ∧ Below w.heap.size w w' := by
 have HR0 := Aside0.mk hr0
 have HC0 := Aside0.mk hc0
 clear hr0 hc0
 have HB := Aside0.mk (Below.refl w.heap.size w)
 have H : ((laws_szIntSS.f k l0 1048576).bind fun t698 => (if t698 < 0 then (some true) else ((laws_toIntSS.f k l0).bind fun t699 => ((spec_HasCircle.f k t699 a1).bind fun t702 => ((laws_toIntSS.f k l0).bind fun t703 => ((impl_HasCircle.f k t703 a1).bind fun t706 => (if (t706 != t702) = true then (some false) else ((laws_toIntSS.f k l0).bind fun t707 => ((laws_eqIntSS.f k t703 t707).bind fun t710 => (if t710 = true then (some true) else (some false))))))))))) = some r := h
 clear h
 replace H := Option.bind_eq_some_iff.mp H
 obtain ⟨t698, A30, H⟩ := H
 replace H : (if t698 < 0 then (some true) else ((laws_toIntSS.f k l0).bind fun t699 => ((spec_HasCircle.f k t699 a1).bind fun t702 => ((laws_toIntSS.f k l0).bind fun t703 => ((impl_HasCircle.f k t703 a1).bind fun t706 => (if (t706 != t702) = true then (some false) else ((laws_toIntSS.f k l0).bind fun t707 => ((laws_eqIntSS.f k t703 t707).bind fun t710 => (if t710 = true then (some true) else (some false)))))))))) = some r := H
 have A3 := Aside0.mk A30
 clear A30
 by_cases c4 : t698 < 0
 ·
  rw [if_pos c4] at H
  have c4b0 : decide (t698 < 0) = true := decide_eq_true c4
  clear c4
  obtain rfl := Option.some.inj H
  go_enter Try.func8, Try.ntmps8
  go_wp2_with (first | ((with_reducible refine gate_callee (f := 36) rfl ?_); refine gLq (some 11) Try.func36 #[.slice A0 l0.length c0, .int .i64 1048576] ?_; (with_reducible refine (laws_szIntSS.calls k _ _ l0 1048576 t698 _ ?side1 ?side2 A3.out).mono ?_); (case side1 => exact Kd.Cq HR0.out); (case side2 => exact HC0.out); rintro e w' ⟨rfl, ⟨nd, rfl⟩⟩; refine ⟨_, rfl, ?_⟩))
  go_ret
  exact ⟨by first | rfl | (simp [errW_none, errW_some] <;> rfl) | (simp [*, errW_none, errW_some] <;> rfl), blq HB.out⟩
 ·
  rw [if_neg c4] at H
  have c4b0 : decide (t698 < 0) = false := decide_eq_false c4
  clear c4
  replace H := Option.bind_eq_some_iff.mp H
  obtain ⟨t699, A50, H⟩ := H
  replace H : ((spec_HasCircle.f k t699 a1).bind fun t702 => ((laws_toIntSS.f k l0).bind fun t703 => ((impl_HasCircle.f k t703 a1).bind fun t706 => (if (t706 != t702) = true then (some false) else ((laws_toIntSS.f k l0).bind fun t707 => ((laws_eqIntSS.f k t703 t707).bind fun t710 => (if t710 = true then (some true) else (some false)))))))) = some r := H
  have A5 := Aside0.mk A50
  clear A50
  replace H := Option.bind_eq_some_iff.mp H
  obtain ⟨t702, A60, H⟩ := H
  replace H : ((laws_toIntSS.f k l0).bind fun t703 => ((impl_HasCircle.f k t703 a1).bind fun t706 => (if (t706 != t702) = true then (some false) else ((laws_toIntSS.f k l0).bind fun t707 => ((laws_eqIntSS.f k t703 t707).bind fun t710 => (if t710 = true then (some true) else (some false))))))) = some r := H
  have A6 := Aside0.mk A60
  clear A60
  replace H := Option.bind_eq_some_iff.mp H
  obtain ⟨t703, A70, H⟩ := H
  replace H : ((impl_HasCircle.f k t703 a1).bind fun t706 => (if (t706 != t702) = true then (some false) else ((laws_toIntSS.f k l0).bind fun t707 => ((laws_eqIntSS.f k t703 t707).bind fun t710 => (if t710 = true then (some true) else (some false)))))) = some r := H
  have A7 := Aside0.mk A70
  clear A70
  replace H := Option.bind_eq_some_iff.mp H
  obtain ⟨t706, A80, H⟩ := H
  replace H : (if (t706 != t702) = true then (some false) else ((laws_toIntSS.f k l0).bind fun t707 => ((laws_eqIntSS.f k t703 t707).bind fun t710 => (if t710 = true then (some true) else (some false))))) = some r := H
  have A8 := Aside0.mk A80
  clear A80
  by_cases c9 : (t706 != t702) = true
  ·
   rw [if_pos c9] at H
   have c9b0 : (t706 != t702) = true := c9
   have c9b9 : (!(t706 == t702)) = true := c9b0
   (try (have c9b1 : decide (t706 = t702) = false := by simpa using c9))
   (try (have c9b2 : (t706 == t702) = false := by simpa using c9))
   (try (have c9b3 : ¬ (t706 = t702) := by simpa using c9))
   clear c9
   obtain rfl := Option.some.inj H
   go_enter Try.func8, Try.ntmps8
   go_wp2_with (first | ((with_reducible refine gate_callee (f := 36) rfl ?_); refine gLq (some 11) Try.func36 #[.slice A0 l0.length c0, .int .i64 1048576] ?_; (with_reducible refine (laws_szIntSS.calls k _ _ l0 1048576 t698 _ ?side1 ?side2 A3.out).mono ?_); (case side1 => exact Kd.Cq HR0.out); (case side2 => exact HC0.out); rintro e w' ⟨rfl, ⟨nd, rfl⟩⟩; refine ⟨_, rfl, ?_⟩) | ((with_reducible refine gate_callee (f := 38) rfl ?_); refine gLq (some 15) Try.func38 #[.slice A0 l0.length c0] ?_; (with_reducible refine (laws_toIntSS.calls k _ _ l0 t699 _ ?side1 ?side2 A5.out).mono ?_); (case side1 => exact Kd.Cq HR0.out); (case side2 => exact HC0.out); rintro e w10 ⟨v700, rfl, ho0, hb⟩; refine ⟨_, rfl, ?_⟩; have n0_ := Aside0.mk (Kd.S_lower ho0 (below_size (blq HB.out))); have n1_ := Aside0.mk (below_step (blq HB.out) hb); clear HB; have HO701 := n0_; have HB := n1_; clear n0_ n1_; (try clear hb); (try clear hb2); (try clear hk); (try clear hi); (try clear ho0); obtain ⟨Ao11, co11, eo11⟩ := Kd.S_slice HO701.out; subst eo11) | ((with_reducible refine gate_callee (f := 49) rfl ?_); refine gLq (some 17) Try.func49 #[.slice Ao11 t699.length co11, .int .i64 a1] ?_; (with_reducible refine (spec_HasCircle.calls k _ _ t699 a1 t702 _ ?side1 ?side2 A6.out).mono ?_); (case side1 => repeat (first | exact (Kd.S_reads' HO701.out).2.2 | (with_reducible refine Kd.C_alloc ?_ _) | (with_reducible refine Kd.C_drewN ?_ _) | (with_reducible refine Kd.C_drew ?_))); (case side2 => exact (Kd.S_reads' HO701.out).2.1); rintro e w' ⟨rfl, ⟨nd, rfl⟩⟩; refine ⟨_, rfl, ?_⟩) | ((with_reducible refine gate_callee (f := 38) rfl ?_); refine gLq (some 19) Try.func38 #[.slice A0 l0.length c0] ?_; (with_reducible refine (laws_toIntSS.calls k _ _ l0 t703 _ ?side1 ?side2 A7.out).mono ?_); (case side1 => exact Kd.Cq (Kd.C_below HR0.out (blq HB.out))); (case side2 => exact HC0.out); rintro e w12 ⟨v704, rfl, ho0, hb⟩; refine ⟨_, rfl, ?_⟩; have n0_ := Aside0.mk (Kd.S_elder' (by (with_reducible repeat (first | apply Kd.S_alloc | apply Kd.S_drewN | apply Kd.S_drew)); exact HO701.out) (Kd.S_base ho0) hb); have n1_ := Aside0.mk (Kd.S_lower (Kd.S_new' ho0 (Kd.S_lt (by (with_reducible repeat (first | apply Kd.S_alloc | apply Kd.S_drewN | apply Kd.S_drew)); exact HO701.out))) (below_size (blq HB.out))); have n2_ := Aside0.mk (below_step (blq HB.out) hb); clear HO701; clear HB; have HO701 := n0_; have HO705 := n1_; have HB := n2_; clear n0_ n1_ n2_; (try clear hb); (try clear hb2); (try clear hk); (try clear hi); (try clear ho0); obtain ⟨Ao13, co13, eo13⟩ := Kd.S_slice HO705.out; subst eo13) | ((with_reducible refine gate_callee (f := 50) rfl ?_); refine gLq (some 22) Try.func50 #[.slice Ao13 t703.length co13, .int .i64 a1] ?_; (with_reducible refine (impl_HasCircle.calls k _ _ t703 a1 t706 _ ?side1 ?side2 A8.out).mono ?_); (case side1 => repeat (first | exact (Kd.S_reads' HO705.out).2.2 | (with_reducible refine Kd.C_alloc ?_ _) | (with_reducible refine Kd.C_drewN ?_ _) | (with_reducible refine Kd.C_drew ?_))); (case side2 => exact (Kd.S_reads' HO705.out).2.1); rintro e w14 ⟨rfl, hb⟩; refine ⟨_, rfl, ?_⟩; have n0_ := Aside0.mk (Kd.S_below (by (with_reducible repeat (first | apply Kd.S_alloc | apply Kd.S_drewN | apply Kd.S_drew)); exact HO701.out) hb); have n1_ := Aside0.mk (Kd.S_below (by (with_reducible repeat (first | apply Kd.S_alloc | apply Kd.S_drewN | apply Kd.S_drew)); exact HO705.out) hb); have n2_ := Aside0.mk (below_step (blq HB.out) hb); clear HO701; clear HO705; clear HB; have HO701 := n0_; have HO705 := n1_; have HB := n2_; clear n0_ n1_ n2_; (try clear hb); (try clear hb2); (try clear hk); (try clear hi)))
   go_ret
   exact ⟨by first | rfl | (simp [errW_none, errW_some] <;> rfl) | (simp [*, errW_none, errW_some] <;> rfl), blq HB.out⟩
  ·
   rw [if_neg c9] at H
   have c9b0 : (t706 != t702) = false := by simpa using c9
   have c9b9 : (!(t706 == t702)) = false := c9b0
   (try (have c9b1 : decide (t706 = t702) = true := by simpa using c9))
   (try (have c9b2 : (t706 == t702) = true := by simpa using c9))
   clear c9
   replace H := Option.bind_eq_some_iff.mp H
   obtain ⟨t707, A150, H⟩ := H
   replace H : ((laws_eqIntSS.f k t703 t707).bind fun t710 => (if t710 = true then (some true) else (some false))) = some r := H
   have A15 := Aside0.mk A150
   clear A150
   replace H := Option.bind_eq_some_iff.mp H
   obtain ⟨t710, A160, H⟩ := H
   replace H : (if t710 = true then (some true) else (some false)) = some r := H
   have A16 := Aside0.mk A160
   clear A160
   by_cases c17 : t710 = true
   ·
    subst c17
    have H1 : (some true) = some r := by rw [if_pos rfl] at H; exact H
    clear H
    have H := H1
    clear H1
    obtain rfl := Option.some.inj H
    go_enter Try.func8, Try.ntmps8
    go_wp2_with (first | ((with_reducible refine gate_callee (f := 36) rfl ?_); refine gLq (some 11) Try.func36 #[.slice A0 l0.length c0, .int .i64 1048576] ?_; (with_reducible refine (laws_szIntSS.calls k _ _ l0 1048576 t698 _ ?side1 ?side2 A3.out).mono ?_); (case side1 => exact Kd.Cq HR0.out); (case side2 => exact HC0.out); rintro e w' ⟨rfl, ⟨nd, rfl⟩⟩; refine ⟨_, rfl, ?_⟩) | ((with_reducible refine gate_callee (f := 38) rfl ?_); refine gLq (some 15) Try.func38 #[.slice A0 l0.length c0] ?_; (with_reducible refine (laws_toIntSS.calls k _ _ l0 t699 _ ?side1 ?side2 A5.out).mono ?_); (case side1 => exact Kd.Cq HR0.out); (case side2 => exact HC0.out); rintro e w18 ⟨v700, rfl, ho0, hb⟩; refine ⟨_, rfl, ?_⟩; have n0_ := Aside0.mk (Kd.S_lower ho0 (below_size (blq HB.out))); have n1_ := Aside0.mk (below_step (blq HB.out) hb); clear HB; have HO701 := n0_; have HB := n1_; clear n0_ n1_; (try clear hb); (try clear hb2); (try clear hk); (try clear hi); (try clear ho0); obtain ⟨Ao19, co19, eo19⟩ := Kd.S_slice HO701.out; subst eo19) | ((with_reducible refine gate_callee (f := 49) rfl ?_); refine gLq (some 17) Try.func49 #[.slice Ao19 t699.length co19, .int .i64 a1] ?_; (with_reducible refine (spec_HasCircle.calls k _ _ t699 a1 t702 _ ?side1 ?side2 A6.out).mono ?_); (case side1 => repeat (first | exact (Kd.S_reads' HO701.out).2.2 | (with_reducible refine Kd.C_alloc ?_ _) | (with_reducible refine Kd.C_drewN ?_ _) | (with_reducible refine Kd.C_drew ?_))); (case side2 => exact (Kd.S_reads' HO701.out).2.1); rintro e w' ⟨rfl, ⟨nd, rfl⟩⟩; refine ⟨_, rfl, ?_⟩) | ((with_reducible refine gate_callee (f := 38) rfl ?_); refine gLq (some 19) Try.func38 #[.slice A0 l0.length c0] ?_; (with_reducible refine (laws_toIntSS.calls k _ _ l0 t703 _ ?side1 ?side2 A7.out).mono ?_); (case side1 => exact Kd.Cq (Kd.C_below HR0.out (blq HB.out))); (case side2 => exact HC0.out); rintro e w20 ⟨v704, rfl, ho0, hb⟩; refine ⟨_, rfl, ?_⟩; have n0_ := Aside0.mk (Kd.S_elder' (by (with_reducible repeat (first | apply Kd.S_alloc | apply Kd.S_drewN | apply Kd.S_drew)); exact HO701.out) (Kd.S_base ho0) hb); have n1_ := Aside0.mk (Kd.S_lower (Kd.S_new' ho0 (Kd.S_lt (by (with_reducible repeat (first | apply Kd.S_alloc | apply Kd.S_drewN | apply Kd.S_drew)); exact HO701.out))) (below_size (blq HB.out))); have n2_ := Aside0.mk (below_step (blq HB.out) hb); clear HO701; clear HB; have HO701 := n0_; have HO705 := n1_; have HB := n2_; clear n0_ n1_ n2_; (try clear hb); (try clear hb2); (try clear hk); (try clear hi); (try clear ho0); obtain ⟨Ao21, co21, eo21⟩ := Kd.S_slice HO705.out; subst eo21) | ((with_reducible refine gate_callee (f := 50) rfl ?_); refine gLq (some 22) Try.func50 #[.slice Ao21 t703.length co21, .int .i64 a1] ?_; (with_reducible refine (impl_HasCircle.calls k _ _ t703 a1 t706 _ ?side1 ?side2 A8.out).mono ?_); (case side1 => repeat (first | exact (Kd.S_reads' HO705.out).2.2 | (with_reducible refine Kd.C_alloc ?_ _) | (with_reducible refine Kd.C_drewN ?_ _) | (with_reducible refine Kd.C_drew ?_))); (case side2 => exact (Kd.S_reads' HO705.out).2.1); rintro e w22 ⟨rfl, hb⟩; refine ⟨_, rfl, ?_⟩; have n0_ := Aside0.mk (Kd.S_below (by (with_reducible repeat (first | apply Kd.S_alloc | apply Kd.S_drewN | apply Kd.S_drew)); exact HO701.out) hb); have n1_ := Aside0.mk (Kd.S_below (by (with_reducible repeat (first | apply Kd.S_alloc | apply Kd.S_drewN | apply Kd.S_drew)); exact HO705.out) hb); have n2_ := Aside0.mk (below_step (blq HB.out) hb); clear HO701; clear HO705; clear HB; have HO701 := n0_; have HO705 := n1_; have HB := n2_; clear n0_ n1_ n2_; (try clear hb); (try clear hb2); (try clear hk); (try clear hi)) | ((with_reducible refine gate_callee (f := 38) rfl ?_); refine gLq (some 28) Try.func38 #[.slice A0 l0.length c0] ?_; (with_reducible refine (laws_toIntSS.calls k _ _ l0 t707 _ ?side1 ?side2 A15.out).mono ?_); (case side1 => exact Kd.Cq (Kd.C_below HR0.out HB.out)); (case side2 => exact HC0.out); rintro e w23 ⟨v708, rfl, ho0, hb⟩; refine ⟨_, rfl, ?_⟩; have n0_ := Aside0.mk (Kd.S_elder' (by (with_reducible repeat (first | apply Kd.S_alloc | apply Kd.S_drewN | apply Kd.S_drew)); exact HO701.out) (Kd.S_base ho0) hb); have n1_ := Aside0.mk (Kd.S_elder' (by (with_reducible repeat (first | apply Kd.S_alloc | apply Kd.S_drewN | apply Kd.S_drew)); exact HO705.out) (Kd.S_base ho0) hb); have n2_ := Aside0.mk (Kd.S_lower (Kd.S_new' (Kd.S_new' ho0 (Kd.S_lt (by (with_reducible repeat (first | apply Kd.S_alloc | apply Kd.S_drewN | apply Kd.S_drew)); exact HO701.out))) (Kd.S_lt (by (with_reducible repeat (first | apply Kd.S_alloc | apply Kd.S_drewN | apply Kd.S_drew)); exact HO705.out))) (below_size (blq HB.out))); have n3_ := Aside0.mk (below_step (blq HB.out) hb); clear HO701; clear HO705; clear HB; have HO701 := n0_; have HO705 := n1_; have HO709 := n2_; have HB := n3_; clear n0_ n1_ n2_ n3_; (try clear hb); (try clear hb2); (try clear hk); (try clear hi); (try clear ho0); obtain ⟨Ao24, co24, eo24⟩ := Kd.S_slice HO709.out; subst eo24) | ((with_reducible refine gate_callee (f := 40) rfl ?_); refine gLq (some 29) Try.func40 #[.slice Ao21 t703.length co21, .slice Ao24 t707.length co24] ?_; (with_reducible refine (laws_eqIntSS.calls k _ _ t703 _ _ t707 true _ ?side1 ?side2 ?side3 ?side4 A16.out).mono ?_); (case side1 => repeat (first | exact (Kd.S_reads' HO705.out).2.2 | (with_reducible refine Kd.C_alloc ?_ _) | (with_reducible refine Kd.C_drewN ?_ _) | (with_reducible refine Kd.C_drew ?_))); (case side2 => exact (Kd.S_reads' HO705.out).2.1); (case side3 => repeat (first | exact (Kd.S_reads' HO709.out).2.2 | (with_reducible refine Kd.C_alloc ?_ _) | (with_reducible refine Kd.C_drewN ?_ _) | (with_reducible refine Kd.C_drew ?_))); (case side4 => exact (Kd.S_reads' HO709.out).2.1); rintro e w' ⟨rfl, ⟨nd, rfl⟩⟩; refine ⟨_, rfl, ?_⟩))
    go_ret
    exact ⟨by first | rfl | (simp [errW_none, errW_some] <;> rfl) | (simp [*, errW_none, errW_some] <;> rfl), blq HB.out⟩
   ·
    replace c17 := Bool.eq_false_iff.mpr c17
    subst c17
    have H1 : (some false) = some r := by rw [if_neg (show ¬ (false = true) by decide)] at H; exact H
    clear H
    have H := H1
    clear H1
    obtain rfl := Option.some.inj H
    go_enter Try.func8, Try.ntmps8
    go_wp2_with (first | ((with_reducible refine gate_callee (f := 36) rfl ?_); refine gLq (some 11) Try.func36 #[.slice A0 l0.length c0, .int .i64 1048576] ?_; (with_reducible refine (laws_szIntSS.calls k _ _ l0 1048576 t698 _ ?side1 ?side2 A3.out).mono ?_); (case side1 => exact Kd.Cq HR0.out); (case side2 => exact HC0.out); rintro e w' ⟨rfl, ⟨nd, rfl⟩⟩; refine ⟨_, rfl, ?_⟩) | ((with_reducible refine gate_callee (f := 38) rfl ?_); refine gLq (some 15) Try.func38 #[.slice A0 l0.length c0] ?_; (with_reducible refine (laws_toIntSS.calls k _ _ l0 t699 _ ?side1 ?side2 A5.out).mono ?_); (case side1 => exact Kd.Cq HR0.out); (case side2 => exact HC0.out); rintro e w25 ⟨v700, rfl, ho0, hb⟩; refine ⟨_, rfl, ?_⟩; have n0_ := Aside0.mk (Kd.S_lower ho0 (below_size (blq HB.out))); have n1_ := Aside0.mk (below_step (blq HB.out) hb); clear HB; have HO701 := n0_; have HB := n1_; clear n0_ n1_; (try clear hb); (try clear hb2); (try clear hk); (try clear hi); (try clear ho0); obtain ⟨Ao26, co26, eo26⟩ := Kd.S_slice HO701.out; subst eo26) | ((with_reducible refine gate_callee (f := 49) rfl ?_); refine gLq (some 17) Try.func49 #[.slice Ao26 t699.length co26, .int .i64 a1] ?_; (with_reducible refine (spec_HasCircle.calls k _ _ t699 a1 t702 _ ?side1 ?side2 A6.out).mono ?_); (case side1 => repeat (first | exact (Kd.S_reads' HO701.out).2.2 | (with_reducible refine Kd.C_alloc ?_ _) | (with_reducible refine Kd.C_drewN ?_ _) | (with_reducible refine Kd.C_drew ?_))); (case side2 => exact (Kd.S_reads' HO701.out).2.1); rintro e w' ⟨rfl, ⟨nd, rfl⟩⟩; refine ⟨_, rfl, ?_⟩) | ((with_reducible refine gate_callee (f := 38) rfl ?_); refine gLq (some 19) Try.func38 #[.slice A0 l0.length c0] ?_; (with_reducible refine (laws_toIntSS.calls k _ _ l0 t703 _ ?side1 ?side2 A7.out).mono ?_); (case side1 => exact Kd.Cq (Kd.C_below HR0.out (blq HB.out))); (case side2 => exact HC0.out); rintro e w27 ⟨v704, rfl, ho0, hb⟩; refine ⟨_, rfl, ?_⟩; have n0_ := Aside0.mk (Kd.S_elder' (by (with_reducible repeat (first | apply Kd.S_alloc | apply Kd.S_drewN | apply Kd.S_drew)); exact HO701.out) (Kd.S_base ho0) hb); have n1_ := Aside0.mk (Kd.S_lower (Kd.S_new' ho0 (Kd.S_lt (by (with_reducible repeat (first | apply Kd.S_alloc | apply Kd.S_drewN | apply Kd.S_drew)); exact HO701.out))) (below_size (blq HB.out))); have n2_ := Aside0.mk (below_step (blq HB.out) hb); clear HO701; clear HB; have HO701 := n0_; have HO705 := n1_; have HB := n2_; clear n0_ n1_ n2_; (try clear hb); (try clear hb2); (try clear hk); (try clear hi); (try clear ho0); obtain ⟨Ao28, co28, eo28⟩ := Kd.S_slice HO705.out; subst eo28) | ((with_reducible refine gate_callee (f := 50) rfl ?_); refine gLq (some 22) Try.func50 #[.slice Ao28 t703.length co28, .int .i64 a1] ?_; (with_reducible refine (impl_HasCircle.calls k _ _ t703 a1 t706 _ ?side1 ?side2 A8.out).mono ?_); (case side1 => repeat (first | exact (Kd.S_reads' HO705.out).2.2 | (with_reducible refine Kd.C_alloc ?_ _) | (with_reducible refine Kd.C_drewN ?_ _) | (with_reducible refine Kd.C_drew ?_))); (case side2 => exact (Kd.S_reads' HO705.out).2.1); rintro e w29 ⟨rfl, hb⟩; refine ⟨_, rfl, ?_⟩; have n0_ := Aside0.mk (Kd.S_below (by (with_reducible repeat (first | apply Kd.S_alloc | apply Kd.S_drewN | apply Kd.S_drew)); exact HO701.out) hb); have n1_ := Aside0.mk (Kd.S_below (by (with_reducible repeat (first | apply Kd.S_alloc | apply Kd.S_drewN | apply Kd.S_drew)); exact HO705.out) hb); have n2_ := Aside0.mk (below_step (blq HB.out) hb); clear HO701; clear HO705; clear HB; have HO701 := n0_; have HO705 := n1_; have HB := n2_; clear n0_ n1_ n2_; (try clear hb); (try clear hb2); (try clear hk); (try clear hi)) | ((with_reducible refine gate_callee (f := 38) rfl ?_); refine gLq (some 28) Try.func38 #[.slice A0 l0.length c0] ?_; (with_reducible refine (laws_toIntSS.calls k _ _ l0 t707 _ ?side1 ?side2 A15.out).mono ?_); (case side1 => exact Kd.Cq (Kd.C_below HR0.out HB.out)); (case side2 => exact HC0.out); rintro e w30 ⟨v708, rfl, ho0, hb⟩; refine ⟨_, rfl, ?_⟩; have n0_ := Aside0.mk (Kd.S_elder' (by (with_reducible repeat (first | apply Kd.S_alloc | apply Kd.S_drewN | apply Kd.S_drew)); exact HO701.out) (Kd.S_base ho0) hb); have n1_ := Aside0.mk (Kd.S_elder' (by (with_reducible repeat (first | apply Kd.S_alloc | apply Kd.S_drewN | apply Kd.S_drew)); exact HO705.out) (Kd.S_base ho0) hb); have n2_ := Aside0.mk (Kd.S_lower (Kd.S_new' (Kd.S_new' ho0 (Kd.S_lt (by (with_reducible repeat (first | apply Kd.S_alloc | apply Kd.S_drewN | apply Kd.S_drew)); exact HO701.out))) (Kd.S_lt (by (with_reducible repeat (first | apply Kd.S_alloc | apply Kd.S_drewN | apply Kd.S_drew)); exact HO705.out))) (below_size (blq HB.out))); have n3_ := Aside0.mk (below_step (blq HB.out) hb); clear HO701; clear HO705; clear HB; have HO701 := n0_; have HO705 := n1_; have HO709 := n2_; have HB := n3_; clear n0_ n1_ n2_ n3_; (try clear hb); (try clear hb2); (try clear hk); (try clear hi); (try clear ho0); obtain ⟨Ao31, co31, eo31⟩ := Kd.S_slice HO709.out; subst eo31) | ((with_reducible refine gate_callee (f := 40) rfl ?_); refine gLq (some 29) Try.func40 #[.slice Ao28 t703.length co28, .slice Ao31 t707.length co31] ?_; (with_reducible refine (laws_eqIntSS.calls k _ _ t703 _ _ t707 false _ ?side1 ?side2 ?side3 ?side4 A16.out).mono ?_); (case side1 => repeat (first | exact (Kd.S_reads' HO705.out).2.2 | (with_reducible refine Kd.C_alloc ?_ _) | (with_reducible refine Kd.C_drewN ?_ _) | (with_reducible refine Kd.C_drew ?_))); (case side2 => exact (Kd.S_reads' HO705.out).2.1); (case side3 => repeat (first | exact (Kd.S_reads' HO709.out).2.2 | (with_reducible refine Kd.C_alloc ?_ _) | (with_reducible refine Kd.C_drewN ?_ _) | (with_reducible refine Kd.C_drew ?_))); (case side4 => exact (Kd.S_reads' HO709.out).2.1); rintro e w' ⟨rfl, ⟨nd, rfl⟩⟩; refine ⟨_, rfl, ?_⟩))
    go_ret
    exact ⟨by first | rfl | (simp [errW_none, errW_some] <;> rfl) | (simp [*, errW_none, errW_some] <;> rfl), blq HB.out⟩

/-- What is left to prove of laws_FnExactHasCircle: over numbers and lists alone. -/
def laws_FnExactHasCircle.Pure : Prop := ∀ (l0 : List (List Int)) (a1 : Int), (Told.OkL (Told.OkL Told.I64)) l0 → Told.I64 a1 → ∃ k, laws_FnExactHasCircle.f k l0 a1 = some true

end Go.Proofs.Ytnlioefgpgamdaa.Q
