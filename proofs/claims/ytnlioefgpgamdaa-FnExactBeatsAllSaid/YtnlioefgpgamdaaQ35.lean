-- Written for this claim by wip/xprint.py of this repository (by way of the kit's print); Lean checks every line.
import Derived.Test.YtnlioefgpgamdaaQ0
import Derived.Test.YtnlioefgpgamdaaQ9
import Derived.Test.YtnlioefgpgamdaaQ26
import Derived.Test.YtnlioefgpgamdaaQ27
namespace Go.Proofs.Ytnlioefgpgamdaa.Q
open Go.RowKit Go.Proofs.YtnlioefgpgamdaaW.PrintWords Go.Proofs.YtnlioefgpgamdaaW.PrintLast Go.Proofs.YtnlioefgpgamdaaW.PrintMore
attribute [local go_sem] max2_int min2_int max_two min_two max_three min_three max_four min_four   -- for this text's walks alone
set_option linter.unusedVariables false
set_option linter.unusedSimpArgs false

/-! ### spec_Prefers: function 132 -/
mutual
def spec_Prefers.j0 : Nat → List (List Int) → Int → Int → Int → Bool → Option (Int)
 | 0, _, _, _, _, _ => none
 | k + 1, x0, x1, x2, x3, x34 => if x34 = true then (some (-1)) else (spec_Prefers.l0 k x0 x1 x2 x3 0 0)
def spec_Prefers.l0 : Nat → List (List Int) → Int → Int → Int → Int → Int → Option (Int)
 | 0, _, _, _, _, _, _ => none
 | k + 1, x0, x1, x2, x3, x9, x10 => if x10 < (x0.length : Int) then (spec_Prefers.l1 k x0 x1 x2 x3 x9 x10 0) else (some x9)
def spec_Prefers.l1 : Nat → List (List Int) → Int → Int → Int → Int → Int → Int → Option (Int)
 | 0, _, _, _, _, _, _, _ => none
 | k + 1, x0, x1, x2, x3, x9, x10, x11 => if x11 < x1 then (if 0 ≤ x10 then (if x10 < (x0.length : Int) then (if 0 ≤ x11 then (if x11 < ((rd_L3 x0 x10).length : Int) then (if (rd (rd_L3 x0 x10) x11) = x2 then (spec_Prefers.l0 k x0 x1 x2 x3 (wrap64 (x9 + 1)) (wrap64 (x10 + 1))) else (if (rd (rd_L3 x0 x10) x11) = x3 then (spec_Prefers.l0 k x0 x1 x2 x3 x9 (wrap64 (x10 + 1))) else (spec_Prefers.l1 k x0 x1 x2 x3 x9 x10 (wrap64 (x11 + 1))))) else (none)) else (none)) else (none)) else (none)) else (spec_Prefers.l0 k x0 x1 x2 x3 x9 (wrap64 (x10 + 1)))
end
def spec_Prefers.f (k : Nat) (l0 : List (List Int)) (a1 : Int) (a2 : Int) (a3 : Int) : Option (Int) := (spec_VotesOk.f k l0 a1).bind fun t676 => (if t676 = true then ((spec_l01In.f a2 0 (wrap64 (a1 - 1))).bind fun t677 => (if t677 = true then ((spec_l01In.f a3 0 (wrap64 (a1 - 1))).bind fun t678 => (if t678 = true then (spec_Prefers.j0 k l0 a1 a2 a3 (a2 == a3)) else (spec_Prefers.j0 k l0 a1 a2 a3 true))) else (spec_Prefers.j0 k l0 a1 a2 a3 true))) else (spec_Prefers.j0 k l0 a1 a2 a3 true))
theorem spec_Prefers.mono_l : ∀ k, (∀ y0 y1 y2 y3 y4, LeO (spec_Prefers.j0 k y0 y1 y2 y3 y4) (spec_Prefers.j0 (k + 1) y0 y1 y2 y3 y4)) ∧ (∀ y0 y1 y2 y3 y4 y5, LeO (spec_Prefers.l0 k y0 y1 y2 y3 y4 y5) (spec_Prefers.l0 (k + 1) y0 y1 y2 y3 y4 y5)) ∧ (∀ y0 y1 y2 y3 y4 y5 y6, LeO (spec_Prefers.l1 k y0 y1 y2 y3 y4 y5 y6) (spec_Prefers.l1 (k + 1) y0 y1 y2 y3 y4 y5 y6))
 | 0 => ⟨fun _ _ _ _ _ r h => by simp [spec_Prefers.j0] at h, fun _ _ _ _ _ _ r h => by simp [spec_Prefers.l0] at h, fun _ _ _ _ _ _ _ r h => by simp [spec_Prefers.l1] at h⟩
 | k + 1 => by
  obtain ⟨ih0, ih1, ih2⟩ := spec_Prefers.mono_l k
  refine ⟨?_, ?_, ?_⟩
  ·
   intro y0 y1 y2 y3 y4
   unfold spec_Prefers.j0
   repeat' first
   | (with_reducible exact ih0 _ _ _ _ _)
   | (with_reducible exact ih1 _ _ _ _ _ _)
   | (with_reducible exact ih2 _ _ _ _ _ _ _)
   | (with_reducible exact spec_VotesOk.mono _ _ _)
   | (with_reducible exact LeO.refl _)
   | (with_reducible exact LeO.none _)
   | (with_reducible refine LeO.ite ?_ ?_)
   | (with_reducible refine LeO.bind ?_ (fun _ => ?_))
   | exact ih0 _ _ _ _ _
   | exact ih1 _ _ _ _ _ _
   | exact ih2 _ _ _ _ _ _ _
   | exact spec_VotesOk.mono _ _ _
   | exact LeO.none _
   | refine LeO.ite ?_ ?_
   | refine LeO.bind ?_ (fun _ => ?_)
  ·
   intro y0 y1 y2 y3 y4 y5
   unfold spec_Prefers.l0
   repeat' first
   | (with_reducible exact ih0 _ _ _ _ _)
   | (with_reducible exact ih1 _ _ _ _ _ _)
   | (with_reducible exact ih2 _ _ _ _ _ _ _)
   | (with_reducible exact spec_VotesOk.mono _ _ _)
   | (with_reducible exact LeO.refl _)
   | (with_reducible exact LeO.none _)
   | (with_reducible refine LeO.ite ?_ ?_)
   | (with_reducible refine LeO.bind ?_ (fun _ => ?_))
   | exact ih0 _ _ _ _ _
   | exact ih1 _ _ _ _ _ _
   | exact ih2 _ _ _ _ _ _ _
   | exact spec_VotesOk.mono _ _ _
   | exact LeO.none _
   | refine LeO.ite ?_ ?_
   | refine LeO.bind ?_ (fun _ => ?_)
  ·
   intro y0 y1 y2 y3 y4 y5 y6
   unfold spec_Prefers.l1
   repeat' first
   | (with_reducible exact ih0 _ _ _ _ _)
   | (with_reducible exact ih1 _ _ _ _ _ _)
   | (with_reducible exact ih2 _ _ _ _ _ _ _)
   | (with_reducible exact spec_VotesOk.mono _ _ _)
   | (with_reducible exact LeO.refl _)
   | (with_reducible exact LeO.none _)
   | (with_reducible refine LeO.ite ?_ ?_)
   | (with_reducible refine LeO.bind ?_ (fun _ => ?_))
   | exact ih0 _ _ _ _ _
   | exact ih1 _ _ _ _ _ _
   | exact ih2 _ _ _ _ _ _ _
   | exact spec_VotesOk.mono _ _ _
   | exact LeO.none _
   | refine LeO.ite ?_ ?_
   | refine LeO.bind ?_ (fun _ => ?_)
theorem spec_Prefers.mono : ∀ a0 a1 a2 a3 k, LeO (spec_Prefers.f k a0 a1 a2 a3) (spec_Prefers.f (k + 1) a0 a1 a2 a3) := by
 intro a0 a1 a2 a3 k
 obtain ⟨ih0, ih1, ih2⟩ := spec_Prefers.mono_l k
 unfold spec_Prefers.f
 repeat' first
   | (with_reducible exact ih0 _ _ _ _ _)
   | (with_reducible exact ih1 _ _ _ _ _ _)
   | (with_reducible exact ih2 _ _ _ _ _ _ _)
   | (with_reducible exact spec_VotesOk.mono _ _ _)
   | (with_reducible exact LeO.refl _)
   | (with_reducible exact LeO.none _)
   | (with_reducible refine LeO.ite ?_ ?_)
   | (with_reducible refine LeO.bind ?_ (fun _ => ?_))
   | exact ih0 _ _ _ _ _
   | exact ih1 _ _ _ _ _ _
   | exact ih2 _ _ _ _ _ _ _
   | exact spec_VotesOk.mono _ _ _
   | exact LeO.none _
   | refine LeO.ite ?_ ?_
   | refine LeO.bind ?_ (fun _ => ?_)
set_option maxHeartbeats 8000000 in
set_option maxRecDepth 100000 in
theorem spec_Prefers.calls (k : Nat) (A0 : Option Addr) (c0 : Nat) (l0 : List (List Int)) (a1 : Int) (a2 : Int) (a3 : Int) (r : Int) (w : World) (hr0 : Kd.C (Kd.slice 3 (Kd.int .i64)) w A0 l0.length l0) (hc0 : l0.length ≤ c0) (h : spec_Prefers.f k l0 a1 a2 a3 = some r) :
  Calls Try.prog 132 #[.slice A0 l0.length c0, .int .i64 a1, .int .i64 a2, .int .i64 a3] w fun e w' => e = .returned (.int .i64 r) ∧ Drawn0 w w' := by
 have HR0 := Aside0.mk hr0
 have HC0 := Aside0.mk hc0
 clear hr0 hc0
 have H : ((spec_VotesOk.f k l0 a1).bind fun t676 => (if t676 = true then ((spec_l01In.f a2 0 (wrap64 (a1 - 1))).bind fun t677 => (if t677 = true then ((spec_l01In.f a3 0 (wrap64 (a1 - 1))).bind fun t678 => (if t678 = true then (spec_Prefers.j0 k l0 a1 a2 a3 (a2 == a3)) else (spec_Prefers.j0 k l0 a1 a2 a3 true))) else (spec_Prefers.j0 k l0 a1 a2 a3 true))) else (spec_Prefers.j0 k l0 a1 a2 a3 true))) = some r := h
 clear h
 have HC5 := Aside0.mk H
 clear H
 go_enter Try.func132, Try.ntmps132
 go_upto_region 1 with (fail)
 go_cut [34] (fun v34 wc => ∃ (kq : Nat) (x34_4 : Bool), v34 = .bool x34_4 ∧ Aside0 (spec_Prefers.j0 kq l0 a1 a2 a3 x34_4 = some r) ∧ Aside0 (kq ≤ k) ∧ Drawn0 w wc)
 case first =>
  have H := HC5.out
  clear HC5
  replace H := Option.bind_eq_some_iff.mp H
  obtain ⟨t676, A60, H⟩ := H
  replace H : (if t676 = true then ((spec_l01In.f a2 0 (wrap64 (a1 - 1))).bind fun t677 => (if t677 = true then ((spec_l01In.f a3 0 (wrap64 (a1 - 1))).bind fun t678 => (if t678 = true then (spec_Prefers.j0 k l0 a1 a2 a3 (a2 == a3)) else (spec_Prefers.j0 k l0 a1 a2 a3 true))) else (spec_Prefers.j0 k l0 a1 a2 a3 true))) else (spec_Prefers.j0 k l0 a1 a2 a3 true)) = some r := H
  have A6 := Aside0.mk A60
  clear A60
  by_cases c7 : t676 = true
  ·
   subst c7
   have H1 : ((spec_l01In.f a2 0 (wrap64 (a1 - 1))).bind fun t677 => (if t677 = true then ((spec_l01In.f a3 0 (wrap64 (a1 - 1))).bind fun t678 => (if t678 = true then (spec_Prefers.j0 k l0 a1 a2 a3 (a2 == a3)) else (spec_Prefers.j0 k l0 a1 a2 a3 true))) else (spec_Prefers.j0 k l0 a1 a2 a3 true))) = some r := by rw [if_pos rfl] at H; exact H
   clear H
   have H := H1
   clear H1
   replace H := Option.bind_eq_some_iff.mp H
   obtain ⟨t677, A80, H⟩ := H
   replace H : (if t677 = true then ((spec_l01In.f a3 0 (wrap64 (a1 - 1))).bind fun t678 => (if t678 = true then (spec_Prefers.j0 k l0 a1 a2 a3 (a2 == a3)) else (spec_Prefers.j0 k l0 a1 a2 a3 true))) else (spec_Prefers.j0 k l0 a1 a2 a3 true)) = some r := H
   have A8 := Aside0.mk A80
   clear A80
   by_cases c9 : t677 = true
   ·
    subst c9
    have H1 : ((spec_l01In.f a3 0 (wrap64 (a1 - 1))).bind fun t678 => (if t678 = true then (spec_Prefers.j0 k l0 a1 a2 a3 (a2 == a3)) else (spec_Prefers.j0 k l0 a1 a2 a3 true))) = some r := by rw [if_pos rfl] at H; exact H
    clear H
    have H := H1
    clear H1
    replace H := Option.bind_eq_some_iff.mp H
    obtain ⟨t678, A100, H⟩ := H
    replace H : (if t678 = true then (spec_Prefers.j0 k l0 a1 a2 a3 (a2 == a3)) else (spec_Prefers.j0 k l0 a1 a2 a3 true)) = some r := H
    have A10 := Aside0.mk A100
    clear A100
    by_cases c11 : t678 = true
    ·
     subst c11
     have H1 : (spec_Prefers.j0 k l0 a1 a2 a3 (a2 == a3)) = some r := by rw [if_pos rfl] at H; exact H
     clear H
     have H := H1
     clear H1
     have H' := Aside0.mk H
     clear H
     go_wp2_with (first | ((with_reducible refine gate_callee (f := 107) rfl ?_); refine gLq (some 14) Try.func107 #[.slice A0 l0.length c0, .int .i64 a1] ?_; (with_reducible refine (spec_VotesOk.calls k _ _ l0 a1 true _ ?side1 ?side2 A6.out).mono ?_); (case side1 => exact Kd.Cq HR0.out); (case side2 => exact HC0.out); rintro e w' ⟨rfl, ⟨nd, rfl⟩⟩; refine ⟨_, rfl, ?_⟩) | (go_at_call 83; (with_reducible refine (spec_l01In.calls a2 0 (wrap64 (a1 - 1)) true _ A8.out).mono ?_); rintro e w' ⟨rfl, ⟨nd, rfl⟩⟩) | (go_at_call 83; (with_reducible refine (spec_l01In.calls a3 0 (wrap64 (a1 - 1)) true _ A10.out).mono ?_); rintro e w' ⟨rfl, ⟨nd, rfl⟩⟩))
     go_meet
     case rel => exact ⟨_, ((a2 == a3)), (by first | rfl | (simp; done) | (simp [*]; done)), H', ⟨by first | omega | exact Nat.le_refl _⟩, by repeat (first | exact Drawn0.refl _ | apply Drawn0.step)⟩
    ·
     replace c11 := Bool.eq_false_iff.mpr c11
     subst c11
     have H1 : (spec_Prefers.j0 k l0 a1 a2 a3 true) = some r := by rw [if_neg (show ¬ (false = true) by decide)] at H; exact H
     clear H
     have H := H1
     clear H1
     have H' := Aside0.mk H
     clear H
     go_wp2_with (first | ((with_reducible refine gate_callee (f := 107) rfl ?_); refine gLq (some 14) Try.func107 #[.slice A0 l0.length c0, .int .i64 a1] ?_; (with_reducible refine (spec_VotesOk.calls k _ _ l0 a1 true _ ?side1 ?side2 A6.out).mono ?_); (case side1 => exact Kd.Cq HR0.out); (case side2 => exact HC0.out); rintro e w' ⟨rfl, ⟨nd, rfl⟩⟩; refine ⟨_, rfl, ?_⟩) | (go_at_call 83; (with_reducible refine (spec_l01In.calls a2 0 (wrap64 (a1 - 1)) true _ A8.out).mono ?_); rintro e w' ⟨rfl, ⟨nd, rfl⟩⟩) | (go_at_call 83; (with_reducible refine (spec_l01In.calls a3 0 (wrap64 (a1 - 1)) false _ A10.out).mono ?_); rintro e w' ⟨rfl, ⟨nd, rfl⟩⟩))
     go_meet
     case rel => exact ⟨_, (true), (by first | rfl | (simp; done) | (simp [*]; done)), H', ⟨by first | omega | exact Nat.le_refl _⟩, by repeat (first | exact Drawn0.refl _ | apply Drawn0.step)⟩
   ·
    replace c9 := Bool.eq_false_iff.mpr c9
    subst c9
    have H1 : (spec_Prefers.j0 k l0 a1 a2 a3 true) = some r := by rw [if_neg (show ¬ (false = true) by decide)] at H; exact H
    clear H
    have H := H1
    clear H1
    have H' := Aside0.mk H
    clear H
    go_wp2_with (first | ((with_reducible refine gate_callee (f := 107) rfl ?_); refine gLq (some 14) Try.func107 #[.slice A0 l0.length c0, .int .i64 a1] ?_; (with_reducible refine (spec_VotesOk.calls k _ _ l0 a1 true _ ?side1 ?side2 A6.out).mono ?_); (case side1 => exact Kd.Cq HR0.out); (case side2 => exact HC0.out); rintro e w' ⟨rfl, ⟨nd, rfl⟩⟩; refine ⟨_, rfl, ?_⟩) | (go_at_call 83; (with_reducible refine (spec_l01In.calls a2 0 (wrap64 (a1 - 1)) false _ A8.out).mono ?_); rintro e w' ⟨rfl, ⟨nd, rfl⟩⟩))
    go_meet
    case rel => exact ⟨_, (true), (by first | rfl | (simp; done) | (simp [*]; done)), H', ⟨by first | omega | exact Nat.le_refl _⟩, by repeat (first | exact Drawn0.refl _ | apply Drawn0.step)⟩
  ·
   replace c7 := Bool.eq_false_iff.mpr c7
   subst c7
   have H1 : (spec_Prefers.j0 k l0 a1 a2 a3 true) = some r := by rw [if_neg (show ¬ (false = true) by decide)] at H; exact H
   clear H
   have H := H1
   clear H1
   have H' := Aside0.mk H
   clear H
   go_wp2_with (first | ((with_reducible refine gate_callee (f := 107) rfl ?_); refine gLq (some 14) Try.func107 #[.slice A0 l0.length c0, .int .i64 a1] ?_; (with_reducible refine (spec_VotesOk.calls k _ _ l0 a1 false _ ?side1 ?side2 A6.out).mono ?_); (case side1 => exact Kd.Cq HR0.out); (case side2 => exact HC0.out); rintro e w' ⟨rfl, ⟨nd, rfl⟩⟩; refine ⟨_, rfl, ?_⟩))
   go_meet
   case rel => exact ⟨_, (true), (by first | rfl | (simp; done) | (simp [*]; done)), H', ⟨by first | omega | exact Nat.le_refl _⟩, by repeat (first | exact Drawn0.refl _ | apply Drawn0.step)⟩
 case rest =>
  clear HC5
  try clear c1
  try clear p2
  try clear p6
  try clear c7
  try clear c9
  try clear c10
  try clear c11
  obtain ⟨kq, x34_4, rfl, HA, HJ4, ⟨mc4, rfl⟩⟩ := hcut
  cases kq with
  | zero => exact absurd HA.out (by simp [spec_Prefers.j0])
  | succ kj4 =>
   have H := HA.out
   clear HA
   simp only [spec_Prefers.j0] at H
   by_cases c12 : x34_4 = true
   ·
    subst c12
    have H1 : (some (-1)) = some r := by rw [if_pos rfl] at H; exact H
    clear H
    have H := H1
    clear H1
    obtain rfl := Option.some.inj H
    go_wp2
    go_ret
    exact ⟨by first | rfl | (simp; done) | (simp [*]; done), by repeat (first | exact Drawn0.refl _ | apply Drawn0.step)⟩
   ·
    replace c12 := Bool.eq_false_iff.mpr c12
    subst c12
    have H1 : (spec_Prefers.l0 kj4 l0 a1 a2 a3 0 0) = some r := by rw [if_neg (show ¬ (false = true) by decide)] at H; exact H
    clear H
    have H := H1
    clear H1
    have H' := Aside0.mk H
    clear H
    go_wp2
    go_loopg [9, 10] kj4 (fun kq v9 v10 w' => ∃ (x9_2 : Int) (x10_2 : Int), v9 = .int .i64 x9_2 ∧ v10 = .int .i64 x10_2 ∧ Aside0 (spec_Prefers.l0 kq l0 a1 a2 a3 x9_2 x10_2 = some r) ∧ Aside0 (kq ≤ kj4) ∧ Drawn0 w w')
    case atStart => exact ⟨(0), (0), (by first | rfl | (simp; done) | (simp [*]; done)), (by first | rfl | (simp; done) | (simp [*]; done)), H', ⟨Nat.le_refl _⟩, by repeat (first | exact Drawn0.refl _ | apply Drawn0.step)⟩
    case round =>
     clear H'
     try clear c1
     try clear p2
     try clear c4
     try clear p6
     try clear c7
     try clear c9
     try clear c10
     try clear c11
     try clear c12
     try clear p2
     try clear p6
     obtain ⟨x9_2, x10_2, rfl, rfl, HA, HK2, ⟨m2, rfl⟩⟩ := hrel
     cases gk with
     | zero => exact absurd HA.out (by simp [spec_Prefers.l0])
     | succ k2 =>
      have H := HA.out
      clear HA
      simp only [spec_Prefers.l0] at H
      by_cases c13 : x10_2 < (l0.length : Int)
      ·
       rw [if_pos c13] at H
       have c13b0 : decide (x10_2 < (l0.length : Int)) = true := decide_eq_true c13
       clear c13
       have H' := Aside0.mk H
       clear H
       go_wp2
       go_loopg [9, 11] k2 (fun kq v9 v11 w' => ∃ (x9_3 : Int) (x11_3 : Int), v9 = .int .i64 x9_3 ∧ v11 = .int .i64 x11_3 ∧ Aside0 (spec_Prefers.l1 kq l0 a1 a2 a3 x9_3 x10_2 x11_3 = some r) ∧ Aside0 (kq ≤ k2) ∧ Drawn0 w w')
       case atStart => exact ⟨(x9_2), (0), (by first | rfl | (simp; done) | (simp [*]; done)), (by first | rfl | (simp; done) | (simp [*]; done)), H', ⟨Nat.le_refl _⟩, by repeat (first | exact Drawn0.refl _ | apply Drawn0.step)⟩
       case round =>
        clear H'
        try clear c1
        try clear p2
        try clear c4
        try clear p6
        try clear c7
        try clear c9
        try clear c10
        try clear c11
        try clear c12
        try clear c13
        try clear c13b0
        try clear p2
        try clear p6
        obtain ⟨x9_3, x11_3, rfl, rfl, HA, HK3, ⟨m3, rfl⟩⟩ := hrel
        cases gk with
        | zero => exact absurd HA.out (by simp [spec_Prefers.l1])
        | succ k3 =>
         have H := HA.out
         clear HA
         simp only [spec_Prefers.l1] at H
         by_cases c14 : x11_3 < a1
         ·
          rw [if_pos c14] at H
          have c14b0 : decide (x11_3 < a1) = true := decide_eq_true c14
          clear c14
          by_cases c15 : 0 ≤ x10_2
          ·
           rw [if_pos c15] at H
           have c15b0 : decide (0 ≤ x10_2) = true := decide_eq_true c15
           clear c15
           by_cases c16 : x10_2 < (l0.length : Int)
           ·
            rw [if_pos c16] at H
            have c16b0 : decide (x10_2 < (l0.length : Int)) = true := decide_eq_true c16
            clear c16
            by_cases c17 : 0 ≤ x11_3
            ·
             rw [if_pos c17] at H
             have c17b0 : decide (0 ≤ x11_3) = true := decide_eq_true c17
             clear c17
             by_cases c18 : x11_3 < ((rd_L3 l0 x10_2).length : Int)
             ·
              rw [if_pos c18] at H
              have c18b0 : decide (x11_3 < ((rd_L3 l0 x10_2).length : Int)) = true := decide_eq_true c18
              clear c18
              by_cases c19 : (rd (rd_L3 l0 x10_2) x11_3) = a2
              ·
               rw [if_pos c19] at H
               have c19b0 : ((rd (rd_L3 l0 x10_2) x11_3) == a2) = true := beq_iff_eq.mpr c19
               have c19b1 : ((rd (rd_L3 l0 x10_2) x11_3) != a2) = false := bne_eq_false_iff_eq.mpr c19
               clear c19
               have H' := Aside0.mk H
               clear H
               have p679 : 0 ≤ (x10_2 : Int) := of_decide_eq_true (by first | (with_reducible assumption) | assumption)
               have q679 : x10_2 < (l0.length : Int) := of_decide_eq_true (by first | (with_reducible assumption) | assumption)
               obtain ⟨ad679, A679_0, c679_0, e679, hx679_0, hl679_0, hi679_0⟩ := at_L3 HR0.out x10_2 p679 q679
               cases e679
               have HR679_0 := Aside0.mk hi679_0
               have HC679_0 := Aside0.mk hl679_0
               clear hi679_0 hl679_0
               replace p679 := eq_true p679
               replace q679 := eq_true q679
               have p680 : 0 ≤ (x11_3 : Int) := of_decide_eq_true (by first | (with_reducible assumption) | assumption)
               have q680 : x11_3 < ((rd_L3 l0 x10_2).length : Int) := of_decide_eq_true (by first | (with_reducible assumption) | assumption)
               obtain ⟨ad680, e680, hx680_0⟩ := Kd.at_int HR679_0.out x11_3 p680 q680
               cases e680
               replace p680 := eq_true p680
               replace q680 := eq_true q680
               have p681 : 0 ≤ (x10_2 : Int) := of_decide_eq_true (by first | (with_reducible assumption) | assumption)
               have q681 : x10_2 < (l0.length : Int) := of_decide_eq_true (by first | (with_reducible assumption) | assumption)
               obtain ⟨ad681, A681_0, c681_0, e681, hx681_0, hl681_0, hi681_0⟩ := at_L3 HR0.out x10_2 p681 q681
               obtain rfl : ad679 = ad681 := (by injection e681)
               have HR681_0 := Aside0.mk hi681_0
               have HC681_0 := Aside0.mk hl681_0
               clear hi681_0 hl681_0
               replace p681 := eq_true p681
               replace q681 := eq_true q681
               have ea_ := Option.some.inj (hx679_0.symm.trans hx681_0)
               injection ea_ with ea_ en_ ec_
               subst ea_
               subst ec_
               clear en_
               have p682 : 0 ≤ (x11_3 : Int) := of_decide_eq_true (by first | (with_reducible assumption) | assumption)
               have q682 : x11_3 < ((rd_L3 l0 x10_2).length : Int) := of_decide_eq_true (by first | (with_reducible assumption) | assumption)
               obtain ⟨ad682, e682, hx682_0⟩ := Kd.at_int HR681_0.out x11_3 p682 q682
               cases e682
               replace p682 := eq_true p682
               replace q682 := eq_true q682
               go_wp2
               go_roundg k3
               case measure => have := HJ4.out; have := HK2.out; have := HK3.out; omega
               case rel => exact ⟨(wrap64 (x9_3 + 1)), (wrap64 (x10_2 + 1)), (by first | rfl | (simp; done) | (simp [*]; done)), (by first | rfl | (simp; done) | (simp [*]; done)), H', ⟨by have := HJ4.out; have := HK2.out; have := HK3.out; omega⟩, by repeat (first | exact Drawn0.refl _ | apply Drawn0.step)⟩
              ·
               rw [if_neg c19] at H
               have c19b0 : ((rd (rd_L3 l0 x10_2) x11_3) == a2) = false := beq_eq_false_iff_ne.mpr c19
               have c19b1 : ((rd (rd_L3 l0 x10_2) x11_3) != a2) = true := bne_iff_ne.mpr c19
               by_cases c20 : (rd (rd_L3 l0 x10_2) x11_3) = a3
               ·
                rw [if_pos c20] at H
                have c20b0 : ((rd (rd_L3 l0 x10_2) x11_3) == a3) = true := beq_iff_eq.mpr c20
                have c20b1 : ((rd (rd_L3 l0 x10_2) x11_3) != a3) = false := bne_eq_false_iff_eq.mpr c20
                clear c20
                have H' := Aside0.mk H
                clear H
                have p679 : 0 ≤ (x10_2 : Int) := of_decide_eq_true (by first | (with_reducible assumption) | assumption)
                have q679 : x10_2 < (l0.length : Int) := of_decide_eq_true (by first | (with_reducible assumption) | assumption)
                obtain ⟨ad679, A679_0, c679_0, e679, hx679_0, hl679_0, hi679_0⟩ := at_L3 HR0.out x10_2 p679 q679
                cases e679
                have HR679_0 := Aside0.mk hi679_0
                have HC679_0 := Aside0.mk hl679_0
                clear hi679_0 hl679_0
                replace p679 := eq_true p679
                replace q679 := eq_true q679
                have p680 : 0 ≤ (x11_3 : Int) := of_decide_eq_true (by first | (with_reducible assumption) | assumption)
                have q680 : x11_3 < ((rd_L3 l0 x10_2).length : Int) := of_decide_eq_true (by first | (with_reducible assumption) | assumption)
                obtain ⟨ad680, e680, hx680_0⟩ := Kd.at_int HR679_0.out x11_3 p680 q680
                cases e680
                replace p680 := eq_true p680
                replace q680 := eq_true q680
                have p683 : 0 ≤ (x10_2 : Int) := of_decide_eq_true (by first | (with_reducible assumption) | assumption)
                have q683 : x10_2 < (l0.length : Int) := of_decide_eq_true (by first | (with_reducible assumption) | assumption)
                obtain ⟨ad683, A683_0, c683_0, e683, hx683_0, hl683_0, hi683_0⟩ := at_L3 HR0.out x10_2 p683 q683
                obtain rfl : ad679 = ad683 := (by injection e683)
                have HR683_0 := Aside0.mk hi683_0
                have HC683_0 := Aside0.mk hl683_0
                clear hi683_0 hl683_0
                replace p683 := eq_true p683
                replace q683 := eq_true q683
                have ea_ := Option.some.inj (hx679_0.symm.trans hx683_0)
                injection ea_ with ea_ en_ ec_
                subst ea_
                subst ec_
                clear en_
                have p684 : 0 ≤ (x11_3 : Int) := of_decide_eq_true (by first | (with_reducible assumption) | assumption)
                have q684 : x11_3 < ((rd_L3 l0 x10_2).length : Int) := of_decide_eq_true (by first | (with_reducible assumption) | assumption)
                obtain ⟨ad684, e684, hx684_0⟩ := Kd.at_int HR683_0.out x11_3 p684 q684
                cases e684
                replace p684 := eq_true p684
                replace q684 := eq_true q684
                have p685 : 0 ≤ (x10_2 : Int) := of_decide_eq_true (by first | (with_reducible assumption) | assumption)
                have q685 : x10_2 < (l0.length : Int) := of_decide_eq_true (by first | (with_reducible assumption) | assumption)
                obtain ⟨ad685, A685_0, c685_0, e685, hx685_0, hl685_0, hi685_0⟩ := at_L3 HR0.out x10_2 p685 q685
                obtain rfl : ad679 = ad685 := (by injection e685)
                have HR685_0 := Aside0.mk hi685_0
                have HC685_0 := Aside0.mk hl685_0
                clear hi685_0 hl685_0
                replace p685 := eq_true p685
                replace q685 := eq_true q685
                have ea_ := Option.some.inj (hx679_0.symm.trans hx685_0)
                injection ea_ with ea_ en_ ec_
                subst ea_
                subst ec_
                clear en_
                have p686 : 0 ≤ (x11_3 : Int) := of_decide_eq_true (by first | (with_reducible assumption) | assumption)
                have q686 : x11_3 < ((rd_L3 l0 x10_2).length : Int) := of_decide_eq_true (by first | (with_reducible assumption) | assumption)
                obtain ⟨ad686, e686, hx686_0⟩ := Kd.at_int HR685_0.out x11_3 p686 q686
                cases e686
                replace p686 := eq_true p686
                replace q686 := eq_true q686
                go_wp2
                go_roundg k3
                case measure => have := HJ4.out; have := HK2.out; have := HK3.out; omega
                case rel => exact ⟨(x9_3), (wrap64 (x10_2 + 1)), (by first | rfl | (simp; done) | (simp [*]; done)), (by first | rfl | (simp; done) | (simp [*]; done)), H', ⟨by have := HJ4.out; have := HK2.out; have := HK3.out; omega⟩, by repeat (first | exact Drawn0.refl _ | apply Drawn0.step)⟩
               ·
                rw [if_neg c20] at H
                have c20b0 : ((rd (rd_L3 l0 x10_2) x11_3) == a3) = false := beq_eq_false_iff_ne.mpr c20
                have c20b1 : ((rd (rd_L3 l0 x10_2) x11_3) != a3) = true := bne_iff_ne.mpr c20
                have H' := Aside0.mk H
                clear H
                have p679 : 0 ≤ (x10_2 : Int) := of_decide_eq_true (by first | (with_reducible assumption) | assumption)
                have q679 : x10_2 < (l0.length : Int) := of_decide_eq_true (by first | (with_reducible assumption) | assumption)
                obtain ⟨ad679, A679_0, c679_0, e679, hx679_0, hl679_0, hi679_0⟩ := at_L3 HR0.out x10_2 p679 q679
                cases e679
                have HR679_0 := Aside0.mk hi679_0
                have HC679_0 := Aside0.mk hl679_0
                clear hi679_0 hl679_0
                replace p679 := eq_true p679
                replace q679 := eq_true q679
                have p680 : 0 ≤ (x11_3 : Int) := of_decide_eq_true (by first | (with_reducible assumption) | assumption)
                have q680 : x11_3 < ((rd_L3 l0 x10_2).length : Int) := of_decide_eq_true (by first | (with_reducible assumption) | assumption)
                obtain ⟨ad680, e680, hx680_0⟩ := Kd.at_int HR679_0.out x11_3 p680 q680
                cases e680
                replace p680 := eq_true p680
                replace q680 := eq_true q680
                have p683 : 0 ≤ (x10_2 : Int) := of_decide_eq_true (by first | (with_reducible assumption) | assumption)
                have q683 : x10_2 < (l0.length : Int) := of_decide_eq_true (by first | (with_reducible assumption) | assumption)
                obtain ⟨ad683, A683_0, c683_0, e683, hx683_0, hl683_0, hi683_0⟩ := at_L3 HR0.out x10_2 p683 q683
                obtain rfl : ad679 = ad683 := (by injection e683)
                have HR683_0 := Aside0.mk hi683_0
                have HC683_0 := Aside0.mk hl683_0
                clear hi683_0 hl683_0
                replace p683 := eq_true p683
                replace q683 := eq_true q683
                have ea_ := Option.some.inj (hx679_0.symm.trans hx683_0)
                injection ea_ with ea_ en_ ec_
                subst ea_
                subst ec_
                clear en_
                have p684 : 0 ≤ (x11_3 : Int) := of_decide_eq_true (by first | (with_reducible assumption) | assumption)
                have q684 : x11_3 < ((rd_L3 l0 x10_2).length : Int) := of_decide_eq_true (by first | (with_reducible assumption) | assumption)
                obtain ⟨ad684, e684, hx684_0⟩ := Kd.at_int HR683_0.out x11_3 p684 q684
                cases e684
                replace p684 := eq_true p684
                replace q684 := eq_true q684
                have p685 : 0 ≤ (x10_2 : Int) := of_decide_eq_true (by first | (with_reducible assumption) | assumption)
                have q685 : x10_2 < (l0.length : Int) := of_decide_eq_true (by first | (with_reducible assumption) | assumption)
                obtain ⟨ad685, A685_0, c685_0, e685, hx685_0, hl685_0, hi685_0⟩ := at_L3 HR0.out x10_2 p685 q685
                obtain rfl : ad679 = ad685 := (by injection e685)
                have HR685_0 := Aside0.mk hi685_0
                have HC685_0 := Aside0.mk hl685_0
                clear hi685_0 hl685_0
                replace p685 := eq_true p685
                replace q685 := eq_true q685
                have ea_ := Option.some.inj (hx679_0.symm.trans hx685_0)
                injection ea_ with ea_ en_ ec_
                subst ea_
                subst ec_
                clear en_
                have p686 : 0 ≤ (x11_3 : Int) := of_decide_eq_true (by first | (with_reducible assumption) | assumption)
                have q686 : x11_3 < ((rd_L3 l0 x10_2).length : Int) := of_decide_eq_true (by first | (with_reducible assumption) | assumption)
                obtain ⟨ad686, e686, hx686_0⟩ := Kd.at_int HR685_0.out x11_3 p686 q686
                cases e686
                replace p686 := eq_true p686
                replace q686 := eq_true q686
                go_wp2
                go_roundg k3
                case measure => have := HJ4.out; have := HK2.out; have := HK3.out; omega
                case rel => exact ⟨(x9_3), (wrap64 (x11_3 + 1)), (by first | rfl | (simp; done) | (simp [*]; done)), (by first | rfl | (simp; done) | (simp [*]; done)), H', ⟨by have := HJ4.out; have := HK2.out; have := HK3.out; omega⟩, by repeat (first | exact Drawn0.refl _ | apply Drawn0.step)⟩
             ·
              rw [if_neg c18] at H
              exact absurd H (by simp)
            ·
             rw [if_neg c17] at H
             exact absurd H (by simp)
           ·
            rw [if_neg c16] at H
            exact absurd H (by simp)
          ·
           rw [if_neg c15] at H
           exact absurd H (by simp)
         ·
          rw [if_neg c14] at H
          have c14b0 : decide (x11_3 < a1) = false := decide_eq_false c14
          clear c14
          have H' := Aside0.mk H
          clear H
          go_wp2
          go_roundg k3
          case measure => have := HJ4.out; have := HK2.out; have := HK3.out; omega
          case rel => exact ⟨(x9_3), (wrap64 (x10_2 + 1)), (by first | rfl | (simp; done) | (simp [*]; done)), (by first | rfl | (simp; done) | (simp [*]; done)), H', ⟨by have := HJ4.out; have := HK2.out; have := HK3.out; omega⟩, by repeat (first | exact Drawn0.refl _ | apply Drawn0.step)⟩
      ·
       rw [if_neg c13] at H
       have c13b0 : decide (x10_2 < (l0.length : Int)) = false := decide_eq_false c13
       clear c13
       obtain rfl := Option.some.inj H
       go_wp2
       go_ret
       exact ⟨by first | rfl | (simp; done) | (simp [*]; done), by repeat (first | exact Drawn0.refl _ | apply Drawn0.step)⟩

/-! ### spec_l33Wins: function 108 -/
def spec_l33Wins.f (k : Nat) (l0 : List (List Int)) (a1 : Int) (a2 : Int) (a3 : Int) : Option (Bool) := (spec_Prefers.f k l0 a1 a2 a3).bind fun t687 => (some (decide ((wrap64 (2 * t687)) > (l0.length : Int))))
theorem spec_l33Wins.mono : ∀ a0 a1 a2 a3 k, LeO (spec_l33Wins.f k a0 a1 a2 a3) (spec_l33Wins.f (k + 1) a0 a1 a2 a3) := by
 intro a0 a1 a2 a3 k
 unfold spec_l33Wins.f
 repeat' first
   | (with_reducible exact spec_Prefers.mono _ _ _ _ _)
   | (with_reducible exact LeO.refl _)
   | (with_reducible exact LeO.none _)
   | (with_reducible refine LeO.ite ?_ ?_)
   | (with_reducible refine LeO.bind ?_ (fun _ => ?_))
   | exact spec_Prefers.mono _ _ _ _ _
   | exact LeO.none _
   | refine LeO.ite ?_ ?_
   | refine LeO.bind ?_ (fun _ => ?_)
set_option maxHeartbeats 8000000 in
set_option maxRecDepth 100000 in
theorem spec_l33Wins.calls (k : Nat) (A0 : Option Addr) (c0 : Nat) (l0 : List (List Int)) (a1 : Int) (a2 : Int) (a3 : Int) (r : Bool) (w : World) (hr0 : Kd.C (Kd.slice 3 (Kd.int .i64)) w A0 l0.length l0) (hc0 : l0.length ≤ c0) (h : spec_l33Wins.f k l0 a1 a2 a3 = some r) :
  Calls Try.prog 108 #[.slice A0 l0.length c0, .int .i64 a1, .int .i64 a2, .int .i64 a3] w fun e w' => e = .returned (.bool r) ∧ Drawn0 w w' := by
 have HR0 := Aside0.mk hr0
 have HC0 := Aside0.mk hc0
 clear hr0 hc0
 have H : ((spec_Prefers.f k l0 a1 a2 a3).bind fun t687 => (some (decide ((wrap64 (2 * t687)) > (l0.length : Int))))) = some r := h
 clear h
 replace H := Option.bind_eq_some_iff.mp H
 obtain ⟨t687, A50, H⟩ := H
 replace H : (some (decide ((wrap64 (2 * t687)) > (l0.length : Int)))) = some r := H
 have A5 := Aside0.mk A50
 clear A50
 obtain rfl := Option.some.inj H
 go_enter Try.func108, Try.ntmps108
 go_wp2_with (first | ((with_reducible refine gate_callee (f := 132) rfl ?_); refine gLq (some 13) Try.func132 #[.slice A0 l0.length c0, .int .i64 a1, .int .i64 a2, .int .i64 a3] ?_; (with_reducible refine (spec_Prefers.calls k _ _ l0 a1 a2 a3 t687 _ ?side1 ?side2 A5.out).mono ?_); (case side1 => exact Kd.Cq HR0.out); (case side2 => exact HC0.out); rintro e w' ⟨rfl, ⟨nd, rfl⟩⟩; refine ⟨_, rfl, ?_⟩))
 go_ret
 exact ⟨by first | rfl | (simp; done) | (simp [*]; done), by repeat (first | exact Drawn0.refl _ | apply Drawn0.step)⟩

/-! ### impl_prefers: function 136 -/
def impl_prefers.l0 : Nat → Int → Int → Int → List (List Int) → Int → Int → Option (Int)
 | 0, _, _, _, _, _, _ => none
 | k + 1, x1, x2, x7, x10, x11, x12 => if x12 < x11 then (if 0 ≤ x12 then (if x12 < (x10.length : Int) then ((slices_Index_int_int.f k (rd_L3 x10 x12) x1).bind fun t693 => ((slices_Index_int_int.f k (rd_L3 x10 x12) x2).bind fun t694 => (if t693 < t694 then (impl_prefers.l0 k x1 x2 (wrap64 (x7 + 1)) x10 x11 (wrap64 (x12 + 1))) else (impl_prefers.l0 k x1 x2 x7 x10 x11 (wrap64 (x12 + 1)))))) else (none)) else (none)) else (some x7)
def impl_prefers.f (k : Nat) (l0 : List (List Int)) (a1 : Int) (a2 : Int) : Option (Int) := impl_prefers.l0 k a1 a2 0 l0 (l0.length : Int) 0
theorem impl_prefers.mono_l : ∀ k, (∀ y0 y1 y2 y3 y4 y5, LeO (impl_prefers.l0 k y0 y1 y2 y3 y4 y5) (impl_prefers.l0 (k + 1) y0 y1 y2 y3 y4 y5))
 | 0 => fun _ _ _ _ _ _ r h => by simp [impl_prefers.l0] at h
 | k + 1 => by
  have ih0 := impl_prefers.mono_l k
  ·
   intro y0 y1 y2 y3 y4 y5
   unfold impl_prefers.l0
   repeat' first
   | (with_reducible exact ih0 _ _ _ _ _ _)
   | (with_reducible exact slices_Index_int_int.mono _ _ _)
   | (with_reducible exact LeO.refl _)
   | (with_reducible exact LeO.none _)
   | (with_reducible refine LeO.ite ?_ ?_)
   | (with_reducible refine LeO.bind ?_ (fun _ => ?_))
   | exact ih0 _ _ _ _ _ _
   | exact slices_Index_int_int.mono _ _ _
   | exact LeO.none _
   | refine LeO.ite ?_ ?_
   | refine LeO.bind ?_ (fun _ => ?_)
theorem impl_prefers.mono : ∀ a0 a1 a2 k, LeO (impl_prefers.f k a0 a1 a2) (impl_prefers.f (k + 1) a0 a1 a2) := by
 intro a0 a1 a2 k
 have ih0 := impl_prefers.mono_l k
 unfold impl_prefers.f
 repeat' first
   | (with_reducible exact ih0 _ _ _ _ _ _)
   | (with_reducible exact slices_Index_int_int.mono _ _ _)
   | (with_reducible exact LeO.refl _)
   | (with_reducible exact LeO.none _)
   | (with_reducible refine LeO.ite ?_ ?_)
   | (with_reducible refine LeO.bind ?_ (fun _ => ?_))
   | exact ih0 _ _ _ _ _ _
   | exact slices_Index_int_int.mono _ _ _
   | exact LeO.none _
   | refine LeO.ite ?_ ?_
   | refine LeO.bind ?_ (fun _ => ?_)
set_option maxHeartbeats 8000000 in
set_option maxRecDepth 100000 in
theorem impl_prefers.calls (k : Nat) (A0 : Option Addr) (c0 : Nat) (l0 : List (List Int)) (a1 : Int) (a2 : Int) (r : Int) (w : World) (hr0 : Kd.C (Kd.slice 3 (Kd.int .i64)) w A0 l0.length l0) (hc0 : l0.length ≤ c0) (h : impl_prefers.f k l0 a1 a2 = some r) :
  Calls Try.prog 136 #[.slice A0 l0.length c0, .int .i64 a1, .int .i64 a2] w fun e w' => e = .returned (.int .i64 r) ∧ Drawn0 w w' := by
 have HR0 := Aside0.mk hr0
 have HC0 := Aside0.mk hc0
 clear hr0 hc0
 have H : (impl_prefers.l0 k a1 a2 0 l0 (l0.length : Int) 0) = some r := h
 clear h
 have H' := Aside0.mk H
 clear H
 go_enter Try.func136, Try.ntmps136
 go_wp2
 go_loopg [7, 12] k (fun kq v7 v12 w' => ∃ (x7_1 : Int) (x12_1 : Int), v7 = .int .i64 x7_1 ∧ v12 = .int .i64 x12_1 ∧ Aside0 (impl_prefers.l0 kq a1 a2 x7_1 l0 (l0.length : Int) x12_1 = some r) ∧ Aside0 (kq ≤ k) ∧ Drawn0 w w')
 case atStart => exact ⟨(0), (0), (by first | rfl | (simp; done) | (simp [*]; done)), (by first | rfl | (simp; done) | (simp [*]; done)), H', ⟨Nat.le_refl _⟩, by repeat (first | exact Drawn0.refl _ | apply Drawn0.step)⟩
 case round =>
  clear H'
  try clear c1
  try clear p2
  obtain ⟨x7_1, x12_1, rfl, rfl, HA, HK1, ⟨m1, rfl⟩⟩ := hrel
  cases gk with
  | zero => exact absurd HA.out (by simp [impl_prefers.l0])
  | succ k1 =>
   have H := HA.out
   clear HA
   simp only [impl_prefers.l0] at H
   by_cases c4 : x12_1 < (l0.length : Int)
   ·
    rw [if_pos c4] at H
    have c4b0 : decide (x12_1 < (l0.length : Int)) = true := decide_eq_true c4
    clear c4
    by_cases c5 : 0 ≤ x12_1
    ·
     rw [if_pos c5] at H
     have c5b0 : decide (0 ≤ x12_1) = true := decide_eq_true c5
     clear c5
     by_cases c6 : x12_1 < (l0.length : Int)
     ·
      rw [if_pos c6] at H
      have c6b0 : decide (x12_1 < (l0.length : Int)) = true := decide_eq_true c6
      clear c6
      replace H := Option.bind_eq_some_iff.mp H
      obtain ⟨t693, A70, H⟩ := H
      replace H : ((slices_Index_int_int.f k1 (rd_L3 l0 x12_1) a2).bind fun t694 => (if t693 < t694 then (impl_prefers.l0 k1 a1 a2 (wrap64 (x7_1 + 1)) l0 (l0.length : Int) (wrap64 (x12_1 + 1))) else (impl_prefers.l0 k1 a1 a2 x7_1 l0 (l0.length : Int) (wrap64 (x12_1 + 1))))) = some r := H
      have A7 := Aside0.mk A70
      clear A70
      replace H := Option.bind_eq_some_iff.mp H
      obtain ⟨t694, A80, H⟩ := H
      replace H : (if t693 < t694 then (impl_prefers.l0 k1 a1 a2 (wrap64 (x7_1 + 1)) l0 (l0.length : Int) (wrap64 (x12_1 + 1))) else (impl_prefers.l0 k1 a1 a2 x7_1 l0 (l0.length : Int) (wrap64 (x12_1 + 1)))) = some r := H
      have A8 := Aside0.mk A80
      clear A80
      by_cases c9 : t693 < t694
      ·
       rw [if_pos c9] at H
       have c9b0 : decide (t693 < t694) = true := decide_eq_true c9
       clear c9
       have H' := Aside0.mk H
       clear H
       have p692 : 0 ≤ (x12_1 : Int) := of_decide_eq_true (by first | (with_reducible assumption) | assumption)
       have q692 : x12_1 < (l0.length : Int) := of_decide_eq_true (by first | (with_reducible assumption) | assumption)
       obtain ⟨ad692, A692_0, c692_0, e692, hx692_0, hl692_0, hi692_0⟩ := at_L3 HR0.out x12_1 p692 q692
       cases e692
       have HR692_0 := Aside0.mk hi692_0
       have HC692_0 := Aside0.mk hl692_0
       clear hi692_0 hl692_0
       replace p692 := eq_true p692
       replace q692 := eq_true q692
       go_wp2_with (first | ((with_reducible refine gate_callee (f := 100) rfl ?_); refine gLq (some 18) Try.func100 #[.slice A692_0 (rd_L3 l0 x12_1).length c692_0, .int .i64 a1] ?_; (with_reducible refine (slices_Index_int_int.calls k1 _ _ (rd_L3 l0 x12_1) a1 t693 _ ?side1 ?side2 A7.out).mono ?_); (case side1 => exact Kd.Cq HR692_0.out); (case side2 => exact HC692_0.out); rintro e w' ⟨rfl, ⟨nd, rfl⟩⟩; refine ⟨_, rfl, ?_⟩) | ((with_reducible refine gate_callee (f := 100) rfl ?_); refine gLq (some 21) Try.func100 #[.slice A692_0 (rd_L3 l0 x12_1).length c692_0, .int .i64 a2] ?_; (with_reducible refine (slices_Index_int_int.calls k1 _ _ (rd_L3 l0 x12_1) a2 t694 _ ?side1 ?side2 A8.out).mono ?_); (case side1 => exact Kd.Cq HR692_0.out); (case side2 => exact HC692_0.out); rintro e w' ⟨rfl, ⟨nd, rfl⟩⟩; refine ⟨_, rfl, ?_⟩))
       go_roundg k1
       case measure => have := HK1.out; omega
       case rel => exact ⟨(wrap64 (x7_1 + 1)), (wrap64 (x12_1 + 1)), (by first | rfl | (simp; done) | (simp [*]; done)), (by first | rfl | (simp; done) | (simp [*]; done)), H', ⟨by have := HK1.out; omega⟩, by repeat (first | exact Drawn0.refl _ | apply Drawn0.step)⟩
      ·
       rw [if_neg c9] at H
       have c9b0 : decide (t693 < t694) = false := decide_eq_false c9
       clear c9
       have H' := Aside0.mk H
       clear H
       have p692 : 0 ≤ (x12_1 : Int) := of_decide_eq_true (by first | (with_reducible assumption) | assumption)
       have q692 : x12_1 < (l0.length : Int) := of_decide_eq_true (by first | (with_reducible assumption) | assumption)
       obtain ⟨ad692, A692_0, c692_0, e692, hx692_0, hl692_0, hi692_0⟩ := at_L3 HR0.out x12_1 p692 q692
       cases e692
       have HR692_0 := Aside0.mk hi692_0
       have HC692_0 := Aside0.mk hl692_0
       clear hi692_0 hl692_0
       replace p692 := eq_true p692
       replace q692 := eq_true q692
       go_wp2_with (first | ((with_reducible refine gate_callee (f := 100) rfl ?_); refine gLq (some 18) Try.func100 #[.slice A692_0 (rd_L3 l0 x12_1).length c692_0, .int .i64 a1] ?_; (with_reducible refine (slices_Index_int_int.calls k1 _ _ (rd_L3 l0 x12_1) a1 t693 _ ?side1 ?side2 A7.out).mono ?_); (case side1 => exact Kd.Cq HR692_0.out); (case side2 => exact HC692_0.out); rintro e w' ⟨rfl, ⟨nd, rfl⟩⟩; refine ⟨_, rfl, ?_⟩) | ((with_reducible refine gate_callee (f := 100) rfl ?_); refine gLq (some 21) Try.func100 #[.slice A692_0 (rd_L3 l0 x12_1).length c692_0, .int .i64 a2] ?_; (with_reducible refine (slices_Index_int_int.calls k1 _ _ (rd_L3 l0 x12_1) a2 t694 _ ?side1 ?side2 A8.out).mono ?_); (case side1 => exact Kd.Cq HR692_0.out); (case side2 => exact HC692_0.out); rintro e w' ⟨rfl, ⟨nd, rfl⟩⟩; refine ⟨_, rfl, ?_⟩))
       go_roundg k1
       case measure => have := HK1.out; omega
       case rel => exact ⟨(x7_1), (wrap64 (x12_1 + 1)), (by first | rfl | (simp; done) | (simp [*]; done)), (by first | rfl | (simp; done) | (simp [*]; done)), H', ⟨by have := HK1.out; omega⟩, by repeat (first | exact Drawn0.refl _ | apply Drawn0.step)⟩
     ·
      rw [if_neg c6] at H
      exact absurd H (by simp)
    ·
     rw [if_neg c5] at H
     exact absurd H (by simp)
   ·
    rw [if_neg c4] at H
    have c4b0 : decide (x12_1 < (l0.length : Int)) = false := decide_eq_false c4
    clear c4
    obtain rfl := Option.some.inj H
    go_wp2
    go_ret
    exact ⟨by first | rfl | (simp; done) | (simp [*]; done), by repeat (first | exact Drawn0.refl _ | apply Drawn0.step)⟩

/-! ### impl_beats: function 110 -/
def impl_beats.f (k : Nat) (l0 : List (List Int)) (a1 : Int) (a2 : Int) : Option (Bool) := (impl_prefers.f k l0 a1 a2).bind fun t695 => (some (decide ((wrap64 (2 * t695)) > (l0.length : Int))))
theorem impl_beats.mono : ∀ a0 a1 a2 k, LeO (impl_beats.f k a0 a1 a2) (impl_beats.f (k + 1) a0 a1 a2) := by
 intro a0 a1 a2 k
 unfold impl_beats.f
 repeat' first
   | (with_reducible exact impl_prefers.mono _ _ _ _)
   | (with_reducible exact LeO.refl _)
   | (with_reducible exact LeO.none _)
   | (with_reducible refine LeO.ite ?_ ?_)
   | (with_reducible refine LeO.bind ?_ (fun _ => ?_))
   | exact impl_prefers.mono _ _ _ _
   | exact LeO.none _
   | refine LeO.ite ?_ ?_
   | refine LeO.bind ?_ (fun _ => ?_)
set_option maxHeartbeats 8000000 in
set_option maxRecDepth 100000 in
theorem impl_beats.calls (k : Nat) (A0 : Option Addr) (c0 : Nat) (l0 : List (List Int)) (a1 : Int) (a2 : Int) (r : Bool) (w : World) (hr0 : Kd.C (Kd.slice 3 (Kd.int .i64)) w A0 l0.length l0) (hc0 : l0.length ≤ c0) (h : impl_beats.f k l0 a1 a2 = some r) :
  Calls Try.prog 110 #[.slice A0 l0.length c0, .int .i64 a1, .int .i64 a2] w fun e w' => e = .returned (.bool r) ∧ Drawn0 w w' := by
 have HR0 := Aside0.mk hr0
 have HC0 := Aside0.mk hc0
 clear hr0 hc0
 have H : ((impl_prefers.f k l0 a1 a2).bind fun t695 => (some (decide ((wrap64 (2 * t695)) > (l0.length : Int))))) = some r := h
 clear h
 replace H := Option.bind_eq_some_iff.mp H
 obtain ⟨t695, A40, H⟩ := H
 replace H : (some (decide ((wrap64 (2 * t695)) > (l0.length : Int)))) = some r := H
 have A4 := Aside0.mk A40
 clear A40
 obtain rfl := Option.some.inj H
 go_enter Try.func110, Try.ntmps110
 go_wp2_with (first | ((with_reducible refine gate_callee (f := 136) rfl ?_); refine gLq (some 10) Try.func136 #[.slice A0 l0.length c0, .int .i64 a1, .int .i64 a2] ?_; (with_reducible refine (impl_prefers.calls k _ _ l0 a1 a2 t695 _ ?side1 ?side2 A4.out).mono ?_); (case side1 => exact Kd.Cq HR0.out); (case side2 => exact HC0.out); rintro e w' ⟨rfl, ⟨nd, rfl⟩⟩; refine ⟨_, rfl, ?_⟩))
 go_ret
 exact ⟨by first | rfl | (simp; done) | (simp [*]; done), by repeat (first | exact Drawn0.refl _ | apply Drawn0.step)⟩

end Go.Proofs.Ytnlioefgpgamdaa.Q
