-- Written for this claim by wip/xprint.py of this repository (by way of the kit's print); Lean checks every line.
import Derived.Test.YtnlioefgpgamdaaQ0
import Derived.Test.YtnlioefgpgamdaaQ26
import Derived.Test.YtnlioefgpgamdaaQ27
import Derived.Test.YtnlioefgpgamdaaQ28
namespace Go.Proofs.Ytnlioefgpgamdaa.Q
open Go.RowKit Go.Proofs.YtnlioefgpgamdaaW.PrintWords Go.Proofs.YtnlioefgpgamdaaW.PrintLast Go.Proofs.YtnlioefgpgamdaaW.PrintMore
attribute [local go_sem] max2_int min2_int max_two min_two max_three min_three max_four min_four   -- for this text's walks alone
set_option linter.unusedVariables false
set_option linter.unusedSimpArgs false

/-! ### impl_WinnerByPoints: function 39 (by hand) -/
def impl_WinnerByPoints.f (k : Nat) (l0 : List (List Int)) (a1 : Int) : Option (Int) := (impl_VotesOk.f k l0 a1).bind fun t => if t = true then ((impl_PointsOf.f k l0 a1).bind fun p => if p = [] then none else slices_Index_int_int.f k p (maxI p)) else some (-1)
theorem impl_WinnerByPoints.mono : ∀ a0 a1 k, LeO (impl_WinnerByPoints.f k a0 a1) (impl_WinnerByPoints.f (k + 1) a0 a1) := by
  intro a0 a1 k r h
  unfold impl_WinnerByPoints.f at h ⊢
  obtain ⟨t, h1, h⟩ := Option.bind_eq_some_iff.1 h
  rw [impl_VotesOk.mono _ _ _ _ h1, Option.bind_some]
  cases t with
  | false => exact h
  | true =>
    rw [if_pos rfl] at h ⊢
    obtain ⟨p, h2, h⟩ := Option.bind_eq_some_iff.1 h
    rw [impl_PointsOf.mono _ _ _ _ h2, Option.bind_some]
    by_cases e : p = []
    · rw [if_pos e] at h; cases h
    · rw [if_neg e] at h ⊢; exact slices_Index_int_int.mono _ _ _ _ h
set_option maxHeartbeats 8000000 in
set_option maxRecDepth 100000 in
theorem impl_PointsOf.nil_ (k : Nat) (A0 : Option Addr) (c0 : Nat) (l0 : List (List Int)) (a1 : Int) (w : World) (hr0 : Kd.C (Kd.slice 3 (Kd.int .i64)) w A0 l0.length l0) (hc0 : l0.length ≤ c0) (h : impl_VotesOk.f k l0 a1 = some false) :
    Calls Try.prog 99 #[.slice A0 l0.length c0, .int .i64 a1] w fun e w' => e = .returned (.slice none 0 0) ∧ Below w.heap.size w w' := by
  have HR0 := Aside0.mk hr0
  have HC0 := Aside0.mk hc0
  have A3 := Aside0.mk h
  clear hr0 hc0 h
  have HB := Aside0.mk (Below.refl w.heap.size w)
  go_enter Try.func99, Try.ntmps99
  go_wp2_with (go_at_call 109; (with_reducible refine (impl_VotesOk.calls k A0 c0 l0 a1 false _ ?side1 ?side2 A3.out).mono ?_); (case side1 => exact Kd.Cq HR0.out); (case side2 => exact HC0.out); rintro e w5 ⟨rfl, hb⟩; have n0_ := Aside0.mk (below_step (blq HB.out) hb); clear HB; have HB := n0_; clear n0_ hb)
  go_ret
  exact ⟨rfl, blq HB.out⟩
set_option maxHeartbeats 8000000 in
set_option maxRecDepth 100000 in
theorem impl_WinnerByPoints.calls (k : Nat) (A0 : Option Addr) (c0 : Nat) (l0 : List (List Int)) (a1 : Int) (r : Int) (w : World) (hr0 : Kd.C (Kd.slice 3 (Kd.int .i64)) w A0 l0.length l0) (hc0 : l0.length ≤ c0) (h : impl_WinnerByPoints.f k l0 a1 = some r) :
    Calls Try.prog 39 #[.slice A0 l0.length c0, .int .i64 a1] w fun e w' => e = .returned (.int .i64 r) ∧ Below w.heap.size w w' := by
  have HR0 := Aside0.mk hr0
  have HC0 := Aside0.mk hc0
  clear hr0 hc0
  have HB := Aside0.mk (Below.refl w.heap.size w)
  unfold impl_WinnerByPoints.f at h
  obtain ⟨t, h1, h⟩ := Option.bind_eq_some_iff.1 h
  have A3 := Aside0.mk h1
  clear h1
  cases t with
  | false =>
    rw [if_neg (by decide)] at h
    obtain rfl := Option.some.inj h
    clear h
    have hnq1 : ∀ W, (binOp .eql 27 (.slice none 0 0) (.slice none 0 0)).run Try.prog W = .ok (.bool true) W := fun W => by rw [Lib.run_eql_slice_nil _ _ _ _ _ _ _ _ Try.underlying27]; rfl
    go_enter Try.func39, Try.ntmps39
    go_wp2_with (go_at_call 99; (with_reducible refine (impl_PointsOf.nil_ k A0 c0 l0 a1 _ ?side1 ?side2 A3.out).mono ?_); (case side1 => exact Kd.Cq HR0.out); (case side2 => exact HC0.out); rintro e w5 ⟨rfl, hb⟩; have n0_ := Aside0.mk (below_step (blq HB.out) hb); clear HB; have HB := n0_; clear n0_ hb)
    go_ret
    exact ⟨rfl, blq HB.out⟩
  | true =>
    rw [if_pos rfl] at h
    obtain ⟨p, h2, h⟩ := Option.bind_eq_some_iff.1 h
    by_cases e : p = []
    · rw [if_pos e] at h; cases h
    rw [if_neg e] at h
    have hpos : 0 < p.length := List.length_pos_iff.2 e
    have A4 := Aside0.mk h2
    have A5 := Aside0.mk h
    have HP := Aside0.mk hpos
    clear h2 h e hpos A3
    go_enter Try.func39, Try.ntmps39
    go_wp2_with (first | (go_at_call 99; (with_reducible refine (impl_PointsOf.calls k A0 c0 l0 a1 p _ ?side1 ?side2 A4.out).mono ?_); (case side1 => exact Kd.Cq HR0.out); (case side2 => exact HC0.out); rintro e w5 ⟨v0, rfl, ho, hb⟩; obtain ⟨ad, cp, rfl⟩ := Kd.R_slice1 ho HP.out; have n0_ := Aside0.mk (below_step (blq HB.out) hb); have HX := Aside0.mk (Kd.R_reads' ho).2.2; have HL := Aside0.mk (Kd.R_reads' ho).2.1; clear HB; have HB := n0_; clear n0_ hb ho; have hnq1 : ∀ W, (binOp .eql 27 (.slice (some ad) p.length cp) (.slice none 0 0)).run Try.prog W = .ok (.bool false) W := fun W => by rw [Lib.run_eql_slice_nil _ _ _ _ _ _ _ _ Try.underlying27]; rfl) | (go_at_call 101; (with_reducible refine (maxI.calls (some ad) cp p _ ?side1 ?side2).mono ?_); (case side1 => exact Kd.Cq HX.out); (case side2 => exact HP.out); rintro e w6 ⟨rfl, hb⟩; have n0_ := Aside0.mk (below_step (blq HB.out) hb); have n1_ := Aside0.mk (Kd.C_below (Kd.Cq HX.out) hb); clear HB HX; have HB := n0_; have HX := n1_; clear n0_ n1_ hb) | (go_at_call 100; (with_reducible refine (slices_Index_int_int.calls k (some ad) cp p (maxI p) r _ ?side1 ?side2 A5.out).mono ?_); (case side1 => exact Kd.Cq HX.out); (case side2 => exact HL.out); rintro e w7 ⟨rfl, ⟨nd, rfl⟩⟩))
    go_ret
    exact ⟨rfl, blq HB.out⟩

/-! ### laws_FnExactWinnerByPoints: function 6 -/
def laws_FnExactWinnerByPoints.f (k : Nat) (l0 : List (List Int)) (a1 : Int) : Option (Bool) := (laws_szIntSS.f k l0 1048576).bind fun t497 => (if t497 < 0 then (some true) else ((laws_toIntSS.f k l0).bind fun t498 => ((spec_WinnerByPoints.f k t498 a1).bind fun t501 => ((laws_toIntSS.f k l0).bind fun t502 => ((impl_WinnerByPoints.f k t502 a1).bind fun t505 => (if t505 = t501 then ((laws_toIntSS.f k l0).bind fun t506 => ((laws_eqIntSS.f k t502 t506).bind fun t509 => (if t509 = true then (some true) else (some false)))) else (some false)))))))
theorem laws_FnExactWinnerByPoints.mono : ∀ a0 a1 k, LeO (laws_FnExactWinnerByPoints.f k a0 a1) (laws_FnExactWinnerByPoints.f (k + 1) a0 a1) := by
 intro a0 a1 k
 unfold laws_FnExactWinnerByPoints.f
 repeat' first
   | (with_reducible exact impl_WinnerByPoints.mono _ _ _)
   | (with_reducible exact laws_eqIntSS.mono _ _ _)
   | (with_reducible exact laws_szIntSS.mono _ _ _)
   | (with_reducible exact laws_toIntSS.mono _ _)
   | (with_reducible exact spec_WinnerByPoints.mono _ _ _)
   | (with_reducible exact LeO.refl _)
   | (with_reducible exact LeO.none _)
   | (with_reducible refine LeO.ite ?_ ?_)
   | (with_reducible refine LeO.bind ?_ (fun _ => ?_))
   | exact impl_WinnerByPoints.mono _ _ _
   | exact laws_eqIntSS.mono _ _ _
   | exact laws_szIntSS.mono _ _ _
   | exact laws_toIntSS.mono _ _
   | exact spec_WinnerByPoints.mono _ _ _
   | exact LeO.none _
   | refine LeO.ite ?_ ?_
   | refine LeO.bind ?_ (fun _ => ?_)
set_option maxHeartbeats 8000000 in
set_option maxRecDepth 100000 in
theorem laws_FnExactWinnerByPoints.calls (k : Nat) (A0 : Option Addr) (c0 : Nat) (l0 : List (List Int)) (a1 : Int) (r : Bool) (w : World) (hr0 : Kd.C (Kd.slice 3 (Kd.int .i64)) w A0 l0.length l0) (hc0 : l0.length ≤ c0) (h : laws_FnExactWinnerByPoints.f k l0 a1 = some r) :
  Calls Try.prog 6 #[.slice A0 l0.length c0, .int .i64 a1] w fun e w' => e = .returned (.bool r) ∧ Below w.heap.size w w' := by
 have HR0 := Aside0.mk hr0
 have HC0 := Aside0.mk hc0
 clear hr0 hc0
 have HB := Aside0.mk (Below.refl w.heap.size w)
 have H : ((laws_szIntSS.f k l0 1048576).bind fun t497 => (if t497 < 0 then (some true) else ((laws_toIntSS.f k l0).bind fun t498 => ((spec_WinnerByPoints.f k t498 a1).bind fun t501 => ((laws_toIntSS.f k l0).bind fun t502 => ((impl_WinnerByPoints.f k t502 a1).bind fun t505 => (if t505 = t501 then ((laws_toIntSS.f k l0).bind fun t506 => ((laws_eqIntSS.f k t502 t506).bind fun t509 => (if t509 = true then (some true) else (some false)))) else (some false)))))))) = some r := h
 clear h
 replace H := Option.bind_eq_some_iff.mp H
 obtain ⟨t497, A30, H⟩ := H
 replace H : (if t497 < 0 then (some true) else ((laws_toIntSS.f k l0).bind fun t498 => ((spec_WinnerByPoints.f k t498 a1).bind fun t501 => ((laws_toIntSS.f k l0).bind fun t502 => ((impl_WinnerByPoints.f k t502 a1).bind fun t505 => (if t505 = t501 then ((laws_toIntSS.f k l0).bind fun t506 => ((laws_eqIntSS.f k t502 t506).bind fun t509 => (if t509 = true then (some true) else (some false)))) else (some false))))))) = some r := H
 have A3 := Aside0.mk A30
 clear A30
 by_cases c4 : t497 < 0
 ·
  rw [if_pos c4] at H
  have c4b0 : decide (t497 < 0) = true := decide_eq_true c4
  clear c4
  obtain rfl := Option.some.inj H
  go_enter Try.func6, Try.ntmps6
  go_wp2_with (first | ((with_reducible refine gate_callee (f := 36) rfl ?_); refine gLq (some 11) Try.func36 #[.slice A0 l0.length c0, .int .i64 1048576] ?_; (with_reducible refine (laws_szIntSS.calls k _ _ l0 1048576 t497 _ ?side1 ?side2 A3.out).mono ?_); (case side1 => exact Kd.Cq HR0.out); (case side2 => exact HC0.out); rintro e w' ⟨rfl, ⟨nd, rfl⟩⟩; refine ⟨_, rfl, ?_⟩))
  go_ret
  exact ⟨by first | rfl | (simp [errW_none, errW_some] <;> rfl) | (simp [*, errW_none, errW_some] <;> rfl), blq HB.out⟩
 ·
  rw [if_neg c4] at H
  have c4b0 : decide (t497 < 0) = false := decide_eq_false c4
  clear c4
  replace H := Option.bind_eq_some_iff.mp H
  obtain ⟨t498, A50, H⟩ := H
  replace H : ((spec_WinnerByPoints.f k t498 a1).bind fun t501 => ((laws_toIntSS.f k l0).bind fun t502 => ((impl_WinnerByPoints.f k t502 a1).bind fun t505 => (if t505 = t501 then ((laws_toIntSS.f k l0).bind fun t506 => ((laws_eqIntSS.f k t502 t506).bind fun t509 => (if t509 = true then (some true) else (some false)))) else (some false))))) = some r := H
  have A5 := Aside0.mk A50
  clear A50
  replace H := Option.bind_eq_some_iff.mp H
  obtain ⟨t501, A60, H⟩ := H
  replace H : ((laws_toIntSS.f k l0).bind fun t502 => ((impl_WinnerByPoints.f k t502 a1).bind fun t505 => (if t505 = t501 then ((laws_toIntSS.f k l0).bind fun t506 => ((laws_eqIntSS.f k t502 t506).bind fun t509 => (if t509 = true then (some true) else (some false)))) else (some false)))) = some r := H
  have A6 := Aside0.mk A60
  clear A60
  replace H := Option.bind_eq_some_iff.mp H
  obtain ⟨t502, A70, H⟩ := H
  replace H : ((impl_WinnerByPoints.f k t502 a1).bind fun t505 => (if t505 = t501 then ((laws_toIntSS.f k l0).bind fun t506 => ((laws_eqIntSS.f k t502 t506).bind fun t509 => (if t509 = true then (some true) else (some false)))) else (some false))) = some r := H
  have A7 := Aside0.mk A70
  clear A70
  replace H := Option.bind_eq_some_iff.mp H
  obtain ⟨t505, A80, H⟩ := H
  replace H : (if t505 = t501 then ((laws_toIntSS.f k l0).bind fun t506 => ((laws_eqIntSS.f k t502 t506).bind fun t509 => (if t509 = true then (some true) else (some false)))) else (some false)) = some r := H
  have A8 := Aside0.mk A80
  clear A80
  by_cases c9 : t505 = t501
  ·
   rw [if_pos c9] at H
   have c9b0 : (t505 == t501) = true := beq_iff_eq.mpr c9
   have c9b1 : (t505 != t501) = false := bne_eq_false_iff_eq.mpr c9
   clear c9
   replace H := Option.bind_eq_some_iff.mp H
   obtain ⟨t506, A100, H⟩ := H
   replace H : ((laws_eqIntSS.f k t502 t506).bind fun t509 => (if t509 = true then (some true) else (some false))) = some r := H
   have A10 := Aside0.mk A100
   clear A100
   replace H := Option.bind_eq_some_iff.mp H
   obtain ⟨t509, A110, H⟩ := H
   replace H : (if t509 = true then (some true) else (some false)) = some r := H
   have A11 := Aside0.mk A110
   clear A110
   by_cases c12 : t509 = true
   ·
    subst c12
    have H1 : (some true) = some r := by rw [if_pos rfl] at H; exact H
    clear H
    have H := H1
    clear H1
    obtain rfl := Option.some.inj H
    go_enter Try.func6, Try.ntmps6
    go_wp2_with (first | ((with_reducible refine gate_callee (f := 36) rfl ?_); refine gLq (some 11) Try.func36 #[.slice A0 l0.length c0, .int .i64 1048576] ?_; (with_reducible refine (laws_szIntSS.calls k _ _ l0 1048576 t497 _ ?side1 ?side2 A3.out).mono ?_); (case side1 => exact Kd.Cq HR0.out); (case side2 => exact HC0.out); rintro e w' ⟨rfl, ⟨nd, rfl⟩⟩; refine ⟨_, rfl, ?_⟩) | ((with_reducible refine gate_callee (f := 38) rfl ?_); refine gLq (some 15) Try.func38 #[.slice A0 l0.length c0] ?_; (with_reducible refine (laws_toIntSS.calls k _ _ l0 t498 _ ?side1 ?side2 A5.out).mono ?_); (case side1 => exact Kd.Cq HR0.out); (case side2 => exact HC0.out); rintro e w13 ⟨v499, rfl, ho0, hb⟩; refine ⟨_, rfl, ?_⟩; have n0_ := Aside0.mk (Kd.S_lower ho0 (below_size (blq HB.out))); have n1_ := Aside0.mk (below_step (blq HB.out) hb); clear HB; have HO500 := n0_; have HB := n1_; clear n0_ n1_; (try clear hb); (try clear hb2); (try clear hk); (try clear hi); (try clear ho0); obtain ⟨Ao14, co14, eo14⟩ := Kd.S_slice HO500.out; subst eo14) | ((with_reducible refine gate_callee (f := 37) rfl ?_); refine gLq (some 17) Try.func37 #[.slice Ao14 t498.length co14, .int .i64 a1] ?_; (with_reducible refine (spec_WinnerByPoints.calls k _ _ t498 a1 t501 _ ?side1 ?side2 A6.out).mono ?_); (case side1 => repeat (first | exact (Kd.S_reads' HO500.out).2.2 | (with_reducible refine Kd.C_alloc ?_ _) | (with_reducible refine Kd.C_drewN ?_ _) | (with_reducible refine Kd.C_drew ?_))); (case side2 => exact (Kd.S_reads' HO500.out).2.1); rintro e w15 ⟨rfl, hb⟩; refine ⟨_, rfl, ?_⟩; have n0_ := Aside0.mk (Kd.S_below (by (with_reducible repeat (first | apply Kd.S_alloc | apply Kd.S_drewN | apply Kd.S_drew)); exact HO500.out) hb); have n1_ := Aside0.mk (below_step (blq HB.out) hb); clear HO500; clear HB; have HO500 := n0_; have HB := n1_; clear n0_ n1_; (try clear hb); (try clear hb2); (try clear hk); (try clear hi)) | ((with_reducible refine gate_callee (f := 38) rfl ?_); refine gLq (some 19) Try.func38 #[.slice A0 l0.length c0] ?_; (with_reducible refine (laws_toIntSS.calls k _ _ l0 t502 _ ?side1 ?side2 A7.out).mono ?_); (case side1 => exact Kd.Cq (Kd.C_below HR0.out HB.out)); (case side2 => exact HC0.out); rintro e w16 ⟨v503, rfl, ho0, hb⟩; refine ⟨_, rfl, ?_⟩; have n0_ := Aside0.mk (Kd.S_elder' (by (with_reducible repeat (first | apply Kd.S_alloc | apply Kd.S_drewN | apply Kd.S_drew)); exact HO500.out) (Kd.S_base ho0) hb); have n1_ := Aside0.mk (Kd.S_lower (Kd.S_new' ho0 (Kd.S_lt (by (with_reducible repeat (first | apply Kd.S_alloc | apply Kd.S_drewN | apply Kd.S_drew)); exact HO500.out))) (below_size (blq HB.out))); have n2_ := Aside0.mk (below_step (blq HB.out) hb); clear HO500; clear HB; have HO500 := n0_; have HO504 := n1_; have HB := n2_; clear n0_ n1_ n2_; (try clear hb); (try clear hb2); (try clear hk); (try clear hi); (try clear ho0); obtain ⟨Ao17, co17, eo17⟩ := Kd.S_slice HO504.out; subst eo17) | ((with_reducible refine gate_callee (f := 39) rfl ?_); refine gLq (some 22) Try.func39 #[.slice Ao17 t502.length co17, .int .i64 a1] ?_; (with_reducible refine (impl_WinnerByPoints.calls k _ _ t502 a1 t505 _ ?side1 ?side2 A8.out).mono ?_); (case side1 => repeat (first | exact (Kd.S_reads' HO504.out).2.2 | (with_reducible refine Kd.C_alloc ?_ _) | (with_reducible refine Kd.C_drewN ?_ _) | (with_reducible refine Kd.C_drew ?_))); (case side2 => exact (Kd.S_reads' HO504.out).2.1); rintro e w18 ⟨rfl, hb⟩; refine ⟨_, rfl, ?_⟩; have n0_ := Aside0.mk (Kd.S_below (by (with_reducible repeat (first | apply Kd.S_alloc | apply Kd.S_drewN | apply Kd.S_drew)); exact HO500.out) hb); have n1_ := Aside0.mk (Kd.S_below (by (with_reducible repeat (first | apply Kd.S_alloc | apply Kd.S_drewN | apply Kd.S_drew)); exact HO504.out) hb); have n2_ := Aside0.mk (below_step (blq HB.out) hb); clear HO500; clear HO504; clear HB; have HO500 := n0_; have HO504 := n1_; have HB := n2_; clear n0_ n1_ n2_; (try clear hb); (try clear hb2); (try clear hk); (try clear hi)) | ((with_reducible refine gate_callee (f := 38) rfl ?_); refine gLq (some 28) Try.func38 #[.slice A0 l0.length c0] ?_; (with_reducible refine (laws_toIntSS.calls k _ _ l0 t506 _ ?side1 ?side2 A10.out).mono ?_); (case side1 => exact Kd.Cq (Kd.C_below HR0.out HB.out)); (case side2 => exact HC0.out); rintro e w19 ⟨v507, rfl, ho0, hb⟩; refine ⟨_, rfl, ?_⟩; have n0_ := Aside0.mk (Kd.S_elder' (by (with_reducible repeat (first | apply Kd.S_alloc | apply Kd.S_drewN | apply Kd.S_drew)); exact HO500.out) (Kd.S_base ho0) hb); have n1_ := Aside0.mk (Kd.S_elder' (by (with_reducible repeat (first | apply Kd.S_alloc | apply Kd.S_drewN | apply Kd.S_drew)); exact HO504.out) (Kd.S_base ho0) hb); have n2_ := Aside0.mk (Kd.S_lower (Kd.S_new' (Kd.S_new' ho0 (Kd.S_lt (by (with_reducible repeat (first | apply Kd.S_alloc | apply Kd.S_drewN | apply Kd.S_drew)); exact HO500.out))) (Kd.S_lt (by (with_reducible repeat (first | apply Kd.S_alloc | apply Kd.S_drewN | apply Kd.S_drew)); exact HO504.out))) (below_size (blq HB.out))); have n3_ := Aside0.mk (below_step (blq HB.out) hb); clear HO500; clear HO504; clear HB; have HO500 := n0_; have HO504 := n1_; have HO508 := n2_; have HB := n3_; clear n0_ n1_ n2_ n3_; (try clear hb); (try clear hb2); (try clear hk); (try clear hi); (try clear ho0); obtain ⟨Ao20, co20, eo20⟩ := Kd.S_slice HO508.out; subst eo20) | ((with_reducible refine gate_callee (f := 40) rfl ?_); refine gLq (some 29) Try.func40 #[.slice Ao17 t502.length co17, .slice Ao20 t506.length co20] ?_; (with_reducible refine (laws_eqIntSS.calls k _ _ t502 _ _ t506 true _ ?side1 ?side2 ?side3 ?side4 A11.out).mono ?_); (case side1 => repeat (first | exact (Kd.S_reads' HO504.out).2.2 | (with_reducible refine Kd.C_alloc ?_ _) | (with_reducible refine Kd.C_drewN ?_ _) | (with_reducible refine Kd.C_drew ?_))); (case side2 => exact (Kd.S_reads' HO504.out).2.1); (case side3 => repeat (first | exact (Kd.S_reads' HO508.out).2.2 | (with_reducible refine Kd.C_alloc ?_ _) | (with_reducible refine Kd.C_drewN ?_ _) | (with_reducible refine Kd.C_drew ?_))); (case side4 => exact (Kd.S_reads' HO508.out).2.1); rintro e w' ⟨rfl, ⟨nd, rfl⟩⟩; refine ⟨_, rfl, ?_⟩))
    go_ret
    exact ⟨by first | rfl | (simp [errW_none, errW_some] <;> rfl) | (simp [*, errW_none, errW_some] <;> rfl), blq HB.out⟩
   ·
    replace c12 := Bool.eq_false_iff.mpr c12
    subst c12
    have H1 : (some false) = some r := by rw [if_neg (show ¬ (false = true) by decide)] at H; exact H
    clear H
    have H := H1
    clear H1
    obtain rfl := Option.some.inj H
    go_enter Try.func6, Try.ntmps6
    go_wp2_with (first | ((with_reducible refine gate_callee (f := 36) rfl ?_); refine gLq (some 11) Try.func36 #[.slice A0 l0.length c0, .int .i64 1048576] ?_; (with_reducible refine (laws_szIntSS.calls k _ _ l0 1048576 t497 _ ?side1 ?side2 A3.out).mono ?_); (case side1 => exact Kd.Cq HR0.out); (case side2 => exact HC0.out); rintro e w' ⟨rfl, ⟨nd, rfl⟩⟩; refine ⟨_, rfl, ?_⟩) | ((with_reducible refine gate_callee (f := 38) rfl ?_); refine gLq (some 15) Try.func38 #[.slice A0 l0.length c0] ?_; (with_reducible refine (laws_toIntSS.calls k _ _ l0 t498 _ ?side1 ?side2 A5.out).mono ?_); (case side1 => exact Kd.Cq HR0.out); (case side2 => exact HC0.out); rintro e w21 ⟨v499, rfl, ho0, hb⟩; refine ⟨_, rfl, ?_⟩; have n0_ := Aside0.mk (Kd.S_lower ho0 (below_size (blq HB.out))); have n1_ := Aside0.mk (below_step (blq HB.out) hb); clear HB; have HO500 := n0_; have HB := n1_; clear n0_ n1_; (try clear hb); (try clear hb2); (try clear hk); (try clear hi); (try clear ho0); obtain ⟨Ao22, co22, eo22⟩ := Kd.S_slice HO500.out; subst eo22) | ((with_reducible refine gate_callee (f := 37) rfl ?_); refine gLq (some 17) Try.func37 #[.slice Ao22 t498.length co22, .int .i64 a1] ?_; (with_reducible refine (spec_WinnerByPoints.calls k _ _ t498 a1 t501 _ ?side1 ?side2 A6.out).mono ?_); (case side1 => repeat (first | exact (Kd.S_reads' HO500.out).2.2 | (with_reducible refine Kd.C_alloc ?_ _) | (with_reducible refine Kd.C_drewN ?_ _) | (with_reducible refine Kd.C_drew ?_))); (case side2 => exact (Kd.S_reads' HO500.out).2.1); rintro e w23 ⟨rfl, hb⟩; refine ⟨_, rfl, ?_⟩; have n0_ := Aside0.mk (Kd.S_below (by (with_reducible repeat (first | apply Kd.S_alloc | apply Kd.S_drewN | apply Kd.S_drew)); exact HO500.out) hb); have n1_ := Aside0.mk (below_step (blq HB.out) hb); clear HO500; clear HB; have HO500 := n0_; have HB := n1_; clear n0_ n1_; (try clear hb); (try clear hb2); (try clear hk); (try clear hi)) | ((with_reducible refine gate_callee (f := 38) rfl ?_); refine gLq (some 19) Try.func38 #[.slice A0 l0.length c0] ?_; (with_reducible refine (laws_toIntSS.calls k _ _ l0 t502 _ ?side1 ?side2 A7.out).mono ?_); (case side1 => exact Kd.Cq (Kd.C_below HR0.out HB.out)); (case side2 => exact HC0.out); rintro e w24 ⟨v503, rfl, ho0, hb⟩; refine ⟨_, rfl, ?_⟩; have n0_ := Aside0.mk (Kd.S_elder' (by (with_reducible repeat (first | apply Kd.S_alloc | apply Kd.S_drewN | apply Kd.S_drew)); exact HO500.out) (Kd.S_base ho0) hb); have n1_ := Aside0.mk (Kd.S_lower (Kd.S_new' ho0 (Kd.S_lt (by (with_reducible repeat (first | apply Kd.S_alloc | apply Kd.S_drewN | apply Kd.S_drew)); exact HO500.out))) (below_size (blq HB.out))); have n2_ := Aside0.mk (below_step (blq HB.out) hb); clear HO500; clear HB; have HO500 := n0_; have HO504 := n1_; have HB := n2_; clear n0_ n1_ n2_; (try clear hb); (try clear hb2); (try clear hk); (try clear hi); (try clear ho0); obtain ⟨Ao25, co25, eo25⟩ := Kd.S_slice HO504.out; subst eo25) | ((with_reducible refine gate_callee (f := 39) rfl ?_); refine gLq (some 22) Try.func39 #[.slice Ao25 t502.length co25, .int .i64 a1] ?_; (with_reducible refine (impl_WinnerByPoints.calls k _ _ t502 a1 t505 _ ?side1 ?side2 A8.out).mono ?_); (case side1 => repeat (first | exact (Kd.S_reads' HO504.out).2.2 | (with_reducible refine Kd.C_alloc ?_ _) | (with_reducible refine Kd.C_drewN ?_ _) | (with_reducible refine Kd.C_drew ?_))); (case side2 => exact (Kd.S_reads' HO504.out).2.1); rintro e w26 ⟨rfl, hb⟩; refine ⟨_, rfl, ?_⟩; have n0_ := Aside0.mk (Kd.S_below (by (with_reducible repeat (first | apply Kd.S_alloc | apply Kd.S_drewN | apply Kd.S_drew)); exact HO500.out) hb); have n1_ := Aside0.mk (Kd.S_below (by (with_reducible repeat (first | apply Kd.S_alloc | apply Kd.S_drewN | apply Kd.S_drew)); exact HO504.out) hb); have n2_ := Aside0.mk (below_step (blq HB.out) hb); clear HO500; clear HO504; clear HB; have HO500 := n0_; have HO504 := n1_; have HB := n2_; clear n0_ n1_ n2_; (try clear hb); (try clear hb2); (try clear hk); (try clear hi)) | ((with_reducible refine gate_callee (f := 38) rfl ?_); refine gLq (some 28) Try.func38 #[.slice A0 l0.length c0] ?_; (with_reducible refine (laws_toIntSS.calls k _ _ l0 t506 _ ?side1 ?side2 A10.out).mono ?_); (case side1 => exact Kd.Cq (Kd.C_below HR0.out HB.out)); (case side2 => exact HC0.out); rintro e w27 ⟨v507, rfl, ho0, hb⟩; refine ⟨_, rfl, ?_⟩; have n0_ := Aside0.mk (Kd.S_elder' (by (with_reducible repeat (first | apply Kd.S_alloc | apply Kd.S_drewN | apply Kd.S_drew)); exact HO500.out) (Kd.S_base ho0) hb); have n1_ := Aside0.mk (Kd.S_elder' (by (with_reducible repeat (first | apply Kd.S_alloc | apply Kd.S_drewN | apply Kd.S_drew)); exact HO504.out) (Kd.S_base ho0) hb); have n2_ := Aside0.mk (Kd.S_lower (Kd.S_new' (Kd.S_new' ho0 (Kd.S_lt (by (with_reducible repeat (first | apply Kd.S_alloc | apply Kd.S_drewN | apply Kd.S_drew)); exact HO500.out))) (Kd.S_lt (by (with_reducible repeat (first | apply Kd.S_alloc | apply Kd.S_drewN | apply Kd.S_drew)); exact HO504.out))) (below_size (blq HB.out))); have n3_ := Aside0.mk (below_step (blq HB.out) hb); clear HO500; clear HO504; clear HB; have HO500 := n0_; have HO504 := n1_; have HO508 := n2_; have HB := n3_; clear n0_ n1_ n2_ n3_; (try clear hb); (try clear hb2); (try clear hk); (try clear hi); (try clear ho0); obtain ⟨Ao28, co28, eo28⟩ := Kd.S_slice HO508.out; subst eo28) | ((with_reducible refine gate_callee (f := 40) rfl ?_); refine gLq (some 29) Try.func40 #[.slice Ao25 t502.length co25, .slice Ao28 t506.length co28] ?_; (with_reducible refine (laws_eqIntSS.calls k _ _ t502 _ _ t506 false _ ?side1 ?side2 ?side3 ?side4 A11.out).mono ?_); (case side1 => repeat (first | exact (Kd.S_reads' HO504.out).2.2 | (with_reducible refine Kd.C_alloc ?_ _) | (with_reducible refine Kd.C_drewN ?_ _) | (with_reducible refine Kd.C_drew ?_))); (case side2 => exact (Kd.S_reads' HO504.out).2.1); (case side3 => repeat (first | exact (Kd.S_reads' HO508.out).2.2 | (with_reducible refine Kd.C_alloc ?_ _) | (with_reducible refine Kd.C_drewN ?_ _) | (with_reducible refine Kd.C_drew ?_))); (case side4 => exact (Kd.S_reads' HO508.out).2.1); rintro e w' ⟨rfl, ⟨nd, rfl⟩⟩; refine ⟨_, rfl, ?_⟩))
    go_ret
    exact ⟨by first | rfl | (simp [errW_none, errW_some] <;> rfl) | (simp [*, errW_none, errW_some] <;> rfl), blq HB.out⟩
  ·
   rw [if_neg c9] at H
   have c9b0 : (t505 == t501) = false := beq_eq_false_iff_ne.mpr c9
   have c9b1 : (t505 != t501) = true := bne_iff_ne.mpr c9
   obtain rfl := Option.some.inj H
   go_enter Try.func6, Try.ntmps6
   go_wp2_with (first | ((with_reducible refine gate_callee (f := 36) rfl ?_); refine gLq (some 11) Try.func36 #[.slice A0 l0.length c0, .int .i64 1048576] ?_; (with_reducible refine (laws_szIntSS.calls k _ _ l0 1048576 t497 _ ?side1 ?side2 A3.out).mono ?_); (case side1 => exact Kd.Cq HR0.out); (case side2 => exact HC0.out); rintro e w' ⟨rfl, ⟨nd, rfl⟩⟩; refine ⟨_, rfl, ?_⟩) | ((with_reducible refine gate_callee (f := 38) rfl ?_); refine gLq (some 15) Try.func38 #[.slice A0 l0.length c0] ?_; (with_reducible refine (laws_toIntSS.calls k _ _ l0 t498 _ ?side1 ?side2 A5.out).mono ?_); (case side1 => exact Kd.Cq HR0.out); (case side2 => exact HC0.out); rintro e w29 ⟨v499, rfl, ho0, hb⟩; refine ⟨_, rfl, ?_⟩; have n0_ := Aside0.mk (Kd.S_lower ho0 (below_size (blq HB.out))); have n1_ := Aside0.mk (below_step (blq HB.out) hb); clear HB; have HO500 := n0_; have HB := n1_; clear n0_ n1_; (try clear hb); (try clear hb2); (try clear hk); (try clear hi); (try clear ho0); obtain ⟨Ao30, co30, eo30⟩ := Kd.S_slice HO500.out; subst eo30) | ((with_reducible refine gate_callee (f := 37) rfl ?_); refine gLq (some 17) Try.func37 #[.slice Ao30 t498.length co30, .int .i64 a1] ?_; (with_reducible refine (spec_WinnerByPoints.calls k _ _ t498 a1 t501 _ ?side1 ?side2 A6.out).mono ?_); (case side1 => repeat (first | exact (Kd.S_reads' HO500.out).2.2 | (with_reducible refine Kd.C_alloc ?_ _) | (with_reducible refine Kd.C_drewN ?_ _) | (with_reducible refine Kd.C_drew ?_))); (case side2 => exact (Kd.S_reads' HO500.out).2.1); rintro e w31 ⟨rfl, hb⟩; refine ⟨_, rfl, ?_⟩; have n0_ := Aside0.mk (Kd.S_below (by (with_reducible repeat (first | apply Kd.S_alloc | apply Kd.S_drewN | apply Kd.S_drew)); exact HO500.out) hb); have n1_ := Aside0.mk (below_step (blq HB.out) hb); clear HO500; clear HB; have HO500 := n0_; have HB := n1_; clear n0_ n1_; (try clear hb); (try clear hb2); (try clear hk); (try clear hi)) | ((with_reducible refine gate_callee (f := 38) rfl ?_); refine gLq (some 19) Try.func38 #[.slice A0 l0.length c0] ?_; (with_reducible refine (laws_toIntSS.calls k _ _ l0 t502 _ ?side1 ?side2 A7.out).mono ?_); (case side1 => exact Kd.Cq (Kd.C_below HR0.out HB.out)); (case side2 => exact HC0.out); rintro e w32 ⟨v503, rfl, ho0, hb⟩; refine ⟨_, rfl, ?_⟩; have n0_ := Aside0.mk (Kd.S_elder' (by (with_reducible repeat (first | apply Kd.S_alloc | apply Kd.S_drewN | apply Kd.S_drew)); exact HO500.out) (Kd.S_base ho0) hb); have n1_ := Aside0.mk (Kd.S_lower (Kd.S_new' ho0 (Kd.S_lt (by (with_reducible repeat (first | apply Kd.S_alloc | apply Kd.S_drewN | apply Kd.S_drew)); exact HO500.out))) (below_size (blq HB.out))); have n2_ := Aside0.mk (below_step (blq HB.out) hb); clear HO500; clear HB; have HO500 := n0_; have HO504 := n1_; have HB := n2_; clear n0_ n1_ n2_; (try clear hb); (try clear hb2); (try clear hk); (try clear hi); (try clear ho0); obtain ⟨Ao33, co33, eo33⟩ := Kd.S_slice HO504.out; subst eo33) | ((with_reducible refine gate_callee (f := 39) rfl ?_); refine gLq (some 22) Try.func39 #[.slice Ao33 t502.length co33, .int .i64 a1] ?_; (with_reducible refine (impl_WinnerByPoints.calls k _ _ t502 a1 t505 _ ?side1 ?side2 A8.out).mono ?_); (case side1 => repeat (first | exact (Kd.S_reads' HO504.out).2.2 | (with_reducible refine Kd.C_alloc ?_ _) | (with_reducible refine Kd.C_drewN ?_ _) | (with_reducible refine Kd.C_drew ?_))); (case side2 => exact (Kd.S_reads' HO504.out).2.1); rintro e w34 ⟨rfl, hb⟩; refine ⟨_, rfl, ?_⟩; have n0_ := Aside0.mk (Kd.S_below (by (with_reducible repeat (first | apply Kd.S_alloc | apply Kd.S_drewN | apply Kd.S_drew)); exact HO500.out) hb); have n1_ := Aside0.mk (Kd.S_below (by (with_reducible repeat (first | apply Kd.S_alloc | apply Kd.S_drewN | apply Kd.S_drew)); exact HO504.out) hb); have n2_ := Aside0.mk (below_step (blq HB.out) hb); clear HO500; clear HO504; clear HB; have HO500 := n0_; have HO504 := n1_; have HB := n2_; clear n0_ n1_ n2_; (try clear hb); (try clear hb2); (try clear hk); (try clear hi)))
   go_ret
   exact ⟨by first | rfl | (simp [errW_none, errW_some] <;> rfl) | (simp [*, errW_none, errW_some] <;> rfl), blq HB.out⟩

/-- What is left to prove of laws_FnExactWinnerByPoints: over numbers and lists alone. -/
def laws_FnExactWinnerByPoints.Pure : Prop := ∀ (l0 : List (List Int)) (a1 : Int), (Told.OkL (Told.OkL Told.I64)) l0 → Told.I64 a1 → ∃ k, laws_FnExactWinnerByPoints.f k l0 a1 = some true

end Go.Proofs.Ytnlioefgpgamdaa.Q
