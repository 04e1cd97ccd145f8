-- Written for this claim by wip/xprint.py of this repository (by way of the kit's print); Lean checks every line.
import Derived.Test.YtnlioefgpgamdaaQ0
import Derived.Test.YtnlioefgpgamdaaQ26
import Derived.Test.YtnlioefgpgamdaaQ27
import Derived.Test.YtnlioefgpgamdaaQ34
namespace Go.Proofs.Ytnlioefgpgamdaa.Q
open Go.RowKit Go.Proofs.YtnlioefgpgamdaaW.PrintWords Go.Proofs.YtnlioefgpgamdaaW.PrintLast Go.Proofs.YtnlioefgpgamdaaW.PrintMore
attribute [local go_sem] max2_int min2_int max_two min_two max_three min_three max_four min_four   -- for this text's walks alone
set_option linter.unusedVariables false
set_option linter.unusedSimpArgs false

/-! ### spec_HasCircle: function 49 -/
mutual
def spec_HasCircle.l0 : Nat → List (List Int) → Int → Int → Option (Bool)
 | 0, _, _, _ => none
 | k + 1, x0, x1, x5 => if x5 < x1 then ((spec_VotesOk.f k x0 x1).bind fun t686 => (spec_HasCircle.j1 k x0 x1 x5 t686)) else (spec_HasCircle.j1 k x0 x1 x5 false)
def spec_HasCircle.j1 : Nat → List (List Int) → Int → Int → Bool → Option (Bool)
 | 0, _, _, _, _ => none
 | k + 1, x0, x1, x5, x15 => if x15 = true then (spec_HasCircle.l1 k x0 x1 x5 0) else (some false)
def spec_HasCircle.l1 : Nat → List (List Int) → Int → Int → Int → Option (Bool)
 | 0, _, _, _, _ => none
 | k + 1, x0, x1, x5, x6 => if x6 < x1 then (spec_HasCircle.l2 k x0 x1 x5 x6 0) else (spec_HasCircle.l0 k x0 x1 (wrap64 (x5 + 1)))
def spec_HasCircle.l2 : Nat → List (List Int) → Int → Int → Int → Int → Option (Bool)
 | 0, _, _, _, _, _ => none
 | k + 1, x0, x1, x5, x6, x7 => if x7 < x1 then (if x5 = x6 then (spec_HasCircle.l2 k x0 x1 x5 x6 (wrap64 (x7 + 1))) else (if x6 = x7 then (spec_HasCircle.l2 k x0 x1 x5 x6 (wrap64 (x7 + 1))) else (if x5 = x7 then (spec_HasCircle.l2 k x0 x1 x5 x6 (wrap64 (x7 + 1))) else ((spec_l33Wins.f k x0 x1 x5 x6).bind fun t687 => (if t687 = true then ((spec_l33Wins.f k x0 x1 x6 x7).bind fun t688 => (if t688 = true then ((spec_l33Wins.f k x0 x1 x7 x5).bind fun t689 => (if t689 = true then (some true) else (spec_HasCircle.l2 k x0 x1 x5 x6 (wrap64 (x7 + 1))))) else (spec_HasCircle.l2 k x0 x1 x5 x6 (wrap64 (x7 + 1))))) else (spec_HasCircle.l2 k x0 x1 x5 x6 (wrap64 (x7 + 1)))))))) else (spec_HasCircle.l1 k x0 x1 x5 (wrap64 (x6 + 1)))
end
def spec_HasCircle.f (k : Nat) (l0 : List (List Int)) (a1 : Int) : Option (Bool) := spec_HasCircle.l0 k l0 a1 0
theorem spec_HasCircle.mono_l : ∀ k, (∀ y0 y1 y2, LeO (spec_HasCircle.l0 k y0 y1 y2) (spec_HasCircle.l0 (k + 1) y0 y1 y2)) ∧ (∀ y0 y1 y2 y3, LeO (spec_HasCircle.j1 k y0 y1 y2 y3) (spec_HasCircle.j1 (k + 1) y0 y1 y2 y3)) ∧ (∀ y0 y1 y2 y3, LeO (spec_HasCircle.l1 k y0 y1 y2 y3) (spec_HasCircle.l1 (k + 1) y0 y1 y2 y3)) ∧ (∀ y0 y1 y2 y3 y4, LeO (spec_HasCircle.l2 k y0 y1 y2 y3 y4) (spec_HasCircle.l2 (k + 1) y0 y1 y2 y3 y4))
 | 0 => ⟨fun _ _ _ r h => by simp [spec_HasCircle.l0] at h, fun _ _ _ _ r h => by simp [spec_HasCircle.j1] at h, fun _ _ _ _ r h => by simp [spec_HasCircle.l1] at h, fun _ _ _ _ _ r h => by simp [spec_HasCircle.l2] at h⟩
 | k + 1 => by
  obtain ⟨ih0, ih1, ih2, ih3⟩ := spec_HasCircle.mono_l k
  refine ⟨?_, ?_, ?_, ?_⟩
  ·
   intro y0 y1 y2
   unfold spec_HasCircle.l0
   repeat' first
   | (with_reducible exact ih0 _ _ _)
   | (with_reducible exact ih1 _ _ _ _)
   | (with_reducible exact ih2 _ _ _ _)
   | (with_reducible exact ih3 _ _ _ _ _)
   | (with_reducible exact spec_VotesOk.mono _ _ _)
   | (with_reducible exact spec_l33Wins.mono _ _ _ _ _)
   | (with_reducible exact LeO.refl _)
   | (with_reducible exact LeO.none _)
   | (with_reducible refine LeO.ite ?_ ?_)
   | (with_reducible refine LeO.bind ?_ (fun _ => ?_))
   | exact ih0 _ _ _
   | exact ih1 _ _ _ _
   | exact ih2 _ _ _ _
   | exact ih3 _ _ _ _ _
   | exact spec_VotesOk.mono _ _ _
   | exact spec_l33Wins.mono _ _ _ _ _
   | exact LeO.none _
   | refine LeO.ite ?_ ?_
   | refine LeO.bind ?_ (fun _ => ?_)
  ·
   intro y0 y1 y2 y3
   unfold spec_HasCircle.j1
   repeat' first
   | (with_reducible exact ih0 _ _ _)
   | (with_reducible exact ih1 _ _ _ _)
   | (with_reducible exact ih2 _ _ _ _)
   | (with_reducible exact ih3 _ _ _ _ _)
   | (with_reducible exact spec_VotesOk.mono _ _ _)
   | (with_reducible exact spec_l33Wins.mono _ _ _ _ _)
   | (with_reducible exact LeO.refl _)
   | (with_reducible exact LeO.none _)
   | (with_reducible refine LeO.ite ?_ ?_)
   | (with_reducible refine LeO.bind ?_ (fun _ => ?_))
   | exact ih0 _ _ _
   | exact ih1 _ _ _ _
   | exact ih2 _ _ _ _
   | exact ih3 _ _ _ _ _
   | exact spec_VotesOk.mono _ _ _
   | exact spec_l33Wins.mono _ _ _ _ _
   | exact LeO.none _
   | refine LeO.ite ?_ ?_
   | refine LeO.bind ?_ (fun _ => ?_)
  ·
   intro y0 y1 y2 y3
   unfold spec_HasCircle.l1
   repeat' first
   | (with_reducible exact ih0 _ _ _)
   | (with_reducible exact ih1 _ _ _ _)
   | (with_reducible exact ih2 _ _ _ _)
   | (with_reducible exact ih3 _ _ _ _ _)
   | (with_reducible exact spec_VotesOk.mono _ _ _)
   | (with_reducible exact spec_l33Wins.mono _ _ _ _ _)
   | (with_reducible exact LeO.refl _)
   | (with_reducible exact LeO.none _)
   | (with_reducible refine LeO.ite ?_ ?_)
   | (with_reducible refine LeO.bind ?_ (fun _ => ?_))
   | exact ih0 _ _ _
   | exact ih1 _ _ _ _
   | exact ih2 _ _ _ _
   | exact ih3 _ _ _ _ _
   | exact spec_VotesOk.mono _ _ _
   | exact spec_l33Wins.mono _ _ _ _ _
   | exact LeO.none _
   | refine LeO.ite ?_ ?_
   | refine LeO.bind ?_ (fun _ => ?_)
  ·
   intro y0 y1 y2 y3 y4
   unfold spec_HasCircle.l2
   repeat' first
   | (with_reducible exact ih0 _ _ _)
   | (with_reducible exact ih1 _ _ _ _)
   | (with_reducible exact ih2 _ _ _ _)
   | (with_reducible exact ih3 _ _ _ _ _)
   | (with_reducible exact spec_VotesOk.mono _ _ _)
   | (with_reducible exact spec_l33Wins.mono _ _ _ _ _)
   | (with_reducible exact LeO.refl _)
   | (with_reducible exact LeO.none _)
   | (with_reducible refine LeO.ite ?_ ?_)
   | (with_reducible refine LeO.bind ?_ (fun _ => ?_))
   | exact ih0 _ _ _
   | exact ih1 _ _ _ _
   | exact ih2 _ _ _ _
   | exact ih3 _ _ _ _ _
   | exact spec_VotesOk.mono _ _ _
   | exact spec_l33Wins.mono _ _ _ _ _
   | exact LeO.none _
   | refine LeO.ite ?_ ?_
   | refine LeO.bind ?_ (fun _ => ?_)
theorem spec_HasCircle.mono : ∀ a0 a1 k, LeO (spec_HasCircle.f k a0 a1) (spec_HasCircle.f (k + 1) a0 a1) := by
 intro a0 a1 k
 obtain ⟨ih0, ih1, ih2, ih3⟩ := spec_HasCircle.mono_l k
 unfold spec_HasCircle.f
 repeat' first
   | (with_reducible exact ih0 _ _ _)
   | (with_reducible exact ih1 _ _ _ _)
   | (with_reducible exact ih2 _ _ _ _)
   | (with_reducible exact ih3 _ _ _ _ _)
   | (with_reducible exact spec_VotesOk.mono _ _ _)
   | (with_reducible exact spec_l33Wins.mono _ _ _ _ _)
   | (with_reducible exact LeO.refl _)
   | (with_reducible exact LeO.none _)
   | (with_reducible refine LeO.ite ?_ ?_)
   | (with_reducible refine LeO.bind ?_ (fun _ => ?_))
   | exact ih0 _ _ _
   | exact ih1 _ _ _ _
   | exact ih2 _ _ _ _
   | exact ih3 _ _ _ _ _
   | exact spec_VotesOk.mono _ _ _
   | exact spec_l33Wins.mono _ _ _ _ _
   | exact LeO.none _
   | refine LeO.ite ?_ ?_
   | refine LeO.bind ?_ (fun _ => ?_)
set_option maxHeartbeats 8000000 in
set_option maxRecDepth 100000 in
theorem spec_HasCircle.calls (k : Nat) (A0 : Option Addr) (c0 : Nat) (l0 : List (List Int)) (a1 : Int) (r : Bool) (w : World) (hr0 : Kd.C (Kd.slice 3 (Kd.int .i64)) w A0 l0.length l0) (hc0 : l0.length ≤ c0) (h : spec_HasCircle.f k l0 a1 = some r) :
  Calls Try.prog 49 #[.slice A0 l0.length c0, .int .i64 a1] w fun e w' => e = .returned (.bool r) ∧ Drawn0 w w' := by
 have HR0 := Aside0.mk hr0
 have HC0 := Aside0.mk hc0
 clear hr0 hc0
 have H : (spec_HasCircle.l0 k l0 a1 0) = some r := h
 clear h
 have H' := Aside0.mk H
 clear H
 go_enter Try.func49, Try.ntmps49
 go_wp2
 go_loopg [5] k (fun kq v5 w' => ∃ (x5_1 : Int), v5 = .int .i64 x5_1 ∧ Aside0 (spec_HasCircle.l0 kq l0 a1 x5_1 = some r) ∧ Aside0 (kq ≤ k) ∧ Drawn0 w w')
 case atStart => exact ⟨(0), (by first | rfl | (simp; done) | (simp [*]; done)), H', ⟨Nat.le_refl _⟩, by repeat (first | exact Drawn0.refl _ | apply Drawn0.step)⟩
 case round =>
  clear H'
  try clear p2
  obtain ⟨x5_1, rfl, HA, HK1, ⟨m1, rfl⟩⟩ := hrel
  cases gk with
  | zero => exact absurd HA.out (by simp [spec_HasCircle.l0])
  | succ k1 =>
   have H := HA.out
   clear HA
   simp only [spec_HasCircle.l0] at H
   have HC3 := Aside0.mk H
   clear H
   go_upto_region 2 with (fail)
   go_cut [15] (fun v15 wc => ∃ (kq : Nat) (x15_2 : Bool), v15 = .bool x15_2 ∧ Aside0 (spec_HasCircle.j1 kq l0 a1 x5_1 x15_2 = some r) ∧ Aside0 (kq ≤ k1) ∧ Drawn0 w wc)
   case first =>
    have H := HC3.out
    clear HC3
    by_cases c4 : x5_1 < a1
    ·
     rw [if_pos c4] at H
     have c4b0 : decide (x5_1 < a1) = true := decide_eq_true c4
     clear c4
     (first | rw [c4b0] | (simp only [i64_w, i32_w]; rw [c4b0]) | skip)
     replace H := Option.bind_eq_some_iff.mp H
     obtain ⟨t686, A50, H⟩ := H
     replace H : (spec_HasCircle.j1 k1 l0 a1 x5_1 t686) = some r := H
     have A5 := Aside0.mk A50
     clear A50
     have H' := Aside0.mk H
     clear H
     go_wp2_with (first | (go_at_call 107; (with_reducible refine (spec_VotesOk.calls k1 _ _ l0 a1 t686 _ ?side1 ?side2 A5.out).mono ?_); (case side1 => exact Kd.Cq HR0.out); (case side2 => exact HC0.out); rintro e w' ⟨rfl, ⟨nd, rfl⟩⟩))
     go_meet
     case rel => exact ⟨_, (t686), (by first | rfl | (simp; done) | (simp [*]; done)), H', ⟨by have := HK1.out; first | omega | exact Nat.le_refl _⟩, by repeat (first | exact Drawn0.refl _ | apply Drawn0.step)⟩
    ·
     rw [if_neg c4] at H
     have c4b0 : decide (x5_1 < a1) = false := decide_eq_false c4
     clear c4
     (first | rw [c4b0] | (simp only [i64_w, i32_w]; rw [c4b0]) | skip)
     have H' := Aside0.mk H
     clear H
     go_wp2
     go_meet
     case rel => exact ⟨_, (false), (by first | rfl | (simp; done) | (simp [*]; done)), H', ⟨by have := HK1.out; first | omega | exact Nat.le_refl _⟩, by repeat (first | exact Drawn0.refl _ | apply Drawn0.step)⟩
   case rest =>
    clear HC3
    try clear p2
    try clear c4
    try clear c4b0
    try clear p2
    obtain ⟨kq, x15_2, rfl, HA, HJ2, ⟨mc2, rfl⟩⟩ := hcut
    cases kq with
    | zero => exact absurd HA.out (by simp [spec_HasCircle.j1])
    | succ kj2 =>
     have H := HA.out
     clear HA
     simp only [spec_HasCircle.j1] at H
     by_cases c6 : x15_2 = true
     ·
      subst c6
      have H1 : (spec_HasCircle.l1 kj2 l0 a1 x5_1 0) = some r := by rw [if_pos rfl] at H; exact H
      clear H
      have H := H1
      clear H1
      have H' := Aside0.mk H
      clear H
      go_wp2
      go_loopg [6] kj2 (fun kq v6 w' => ∃ (x6_3 : Int), v6 = .int .i64 x6_3 ∧ Aside0 (spec_HasCircle.l1 kq l0 a1 x5_1 x6_3 = some r) ∧ Aside0 (kq ≤ kj2) ∧ Drawn0 w w')
      case atStart => exact ⟨(0), (by first | rfl | (simp; done) | (simp [*]; done)), H', ⟨Nat.le_refl _⟩, by repeat (first | exact Drawn0.refl _ | apply Drawn0.step)⟩
      case round =>
       clear H'
       try clear c2
       try clear p2
       try clear c4
       try clear c4b0
       try clear c6
       try clear p2
       obtain ⟨x6_3, rfl, HA, HK3, ⟨m3, rfl⟩⟩ := hrel
       cases gk with
       | zero => exact absurd HA.out (by simp [spec_HasCircle.l1])
       | succ k3 =>
        have H := HA.out
        clear HA
        simp only [spec_HasCircle.l1] at H
        by_cases c7 : x6_3 < a1
        ·
         rw [if_pos c7] at H
         have c7b0 : decide (x6_3 < a1) = true := decide_eq_true c7
         clear c7
         have H' := Aside0.mk H
         clear H
         go_wp2
         go_loopg [7] k3 (fun kq v7 w' => ∃ (x7_4 : Int), v7 = .int .i64 x7_4 ∧ Aside0 (spec_HasCircle.l2 kq l0 a1 x5_1 x6_3 x7_4 = some r) ∧ Aside0 (kq ≤ k3) ∧ Drawn0 w w')
         case atStart => exact ⟨(0), (by first | rfl | (simp; done) | (simp [*]; done)), H', ⟨Nat.le_refl _⟩, by repeat (first | exact Drawn0.refl _ | apply Drawn0.step)⟩
         case round =>
          clear H'
          try clear c2
          try clear p2
          try clear c4
          try clear c4b0
          try clear c6
          try clear c7
          try clear c7b0
          try clear p2
          obtain ⟨x7_4, rfl, HA, HK4, ⟨m4, rfl⟩⟩ := hrel
          cases gk with
          | zero => exact absurd HA.out (by simp [spec_HasCircle.l2])
          | succ k4 =>
           have H := HA.out
           clear HA
           simp only [spec_HasCircle.l2] at H
           by_cases c8 : x7_4 < a1
           ·
            rw [if_pos c8] at H
            have c8b0 : decide (x7_4 < a1) = true := decide_eq_true c8
            clear c8
            by_cases c9 : x5_1 = x6_3
            ·
             rw [if_pos c9] at H
             have c9b0 : (x5_1 == x6_3) = true := beq_iff_eq.mpr c9
             have c9b1 : (x5_1 != x6_3) = false := bne_eq_false_iff_eq.mpr c9
             clear c9
             have H' := Aside0.mk H
             clear H
             go_wp2
             go_roundg k4
             case measure => have := HK1.out; have := HJ2.out; have := HK3.out; have := HK4.out; omega
             case rel => exact ⟨(wrap64 (x7_4 + 1)), (by first | rfl | (simp; done) | (simp [*]; done)), H', ⟨by have := HK1.out; have := HJ2.out; have := HK3.out; have := HK4.out; omega⟩, by repeat (first | exact Drawn0.refl _ | apply Drawn0.step)⟩
            ·
             rw [if_neg c9] at H
             have c9b0 : (x5_1 == x6_3) = false := beq_eq_false_iff_ne.mpr c9
             have c9b1 : (x5_1 != x6_3) = true := bne_iff_ne.mpr c9
             by_cases c10 : x6_3 = x7_4
             ·
              rw [if_pos c10] at H
              have c10b0 : (x6_3 == x7_4) = true := beq_iff_eq.mpr c10
              have c10b1 : (x6_3 != x7_4) = false := bne_eq_false_iff_eq.mpr c10
              clear c10
              have H' := Aside0.mk H
              clear H
              go_wp2
              go_roundg k4
              case measure => have := HK1.out; have := HJ2.out; have := HK3.out; have := HK4.out; omega
              case rel => exact ⟨(wrap64 (x7_4 + 1)), (by first | rfl | (simp; done) | (simp [*]; done)), H', ⟨by have := HK1.out; have := HJ2.out; have := HK3.out; have := HK4.out; omega⟩, by repeat (first | exact Drawn0.refl _ | apply Drawn0.step)⟩
             ·
              rw [if_neg c10] at H
              have c10b0 : (x6_3 == x7_4) = false := beq_eq_false_iff_ne.mpr c10
              have c10b1 : (x6_3 != x7_4) = true := bne_iff_ne.mpr c10
              by_cases c11 : x5_1 = x7_4
              ·
               rw [if_pos c11] at H
               have c11b0 : (x5_1 == x7_4) = true := beq_iff_eq.mpr c11
               have c11b1 : (x5_1 != x7_4) = false := bne_eq_false_iff_eq.mpr c11
               clear c11
               have H' := Aside0.mk H
               clear H
               go_wp2
               go_roundg k4
               case measure => have := HK1.out; have := HJ2.out; have := HK3.out; have := HK4.out; omega
               case rel => exact ⟨(wrap64 (x7_4 + 1)), (by first | rfl | (simp; done) | (simp [*]; done)), H', ⟨by have := HK1.out; have := HJ2.out; have := HK3.out; have := HK4.out; omega⟩, by repeat (first | exact Drawn0.refl _ | apply Drawn0.step)⟩
              ·
               rw [if_neg c11] at H
               have c11b0 : (x5_1 == x7_4) = false := beq_eq_false_iff_ne.mpr c11
               have c11b1 : (x5_1 != x7_4) = true := bne_iff_ne.mpr c11
               replace H := Option.bind_eq_some_iff.mp H
               obtain ⟨t687, A120, H⟩ := H
               replace H : (if t687 = true then ((spec_l33Wins.f k4 l0 a1 x6_3 x7_4).bind fun t688 => (if t688 = true then ((spec_l33Wins.f k4 l0 a1 x7_4 x5_1).bind fun t689 => (if t689 = true then (some true) else (spec_HasCircle.l2 k4 l0 a1 x5_1 x6_3 (wrap64 (x7_4 + 1))))) else (spec_HasCircle.l2 k4 l0 a1 x5_1 x6_3 (wrap64 (x7_4 + 1))))) else (spec_HasCircle.l2 k4 l0 a1 x5_1 x6_3 (wrap64 (x7_4 + 1)))) = some r := H
               have A12 := Aside0.mk A120
               clear A120
               by_cases c13 : t687 = true
               ·
                subst c13
                have H1 : ((spec_l33Wins.f k4 l0 a1 x6_3 x7_4).bind fun t688 => (if t688 = true then ((spec_l33Wins.f k4 l0 a1 x7_4 x5_1).bind fun t689 => (if t689 = true then (some true) else (spec_HasCircle.l2 k4 l0 a1 x5_1 x6_3 (wrap64 (x7_4 + 1))))) else (spec_HasCircle.l2 k4 l0 a1 x5_1 x6_3 (wrap64 (x7_4 + 1))))) = some r := by rw [if_pos rfl] at H; exact H
                clear H
                have H := H1
                clear H1
                replace H := Option.bind_eq_some_iff.mp H
                obtain ⟨t688, A140, H⟩ := H
                replace H : (if t688 = true then ((spec_l33Wins.f k4 l0 a1 x7_4 x5_1).bind fun t689 => (if t689 = true then (some true) else (spec_HasCircle.l2 k4 l0 a1 x5_1 x6_3 (wrap64 (x7_4 + 1))))) else (spec_HasCircle.l2 k4 l0 a1 x5_1 x6_3 (wrap64 (x7_4 + 1)))) = some r := H
                have A14 := Aside0.mk A140
                clear A140
                by_cases c15 : t688 = true
                ·
                 subst c15
                 have H1 : ((spec_l33Wins.f k4 l0 a1 x7_4 x5_1).bind fun t689 => (if t689 = true then (some true) else (spec_HasCircle.l2 k4 l0 a1 x5_1 x6_3 (wrap64 (x7_4 + 1))))) = some r := by rw [if_pos rfl] at H; exact H
                 clear H
                 have H := H1
                 clear H1
                 replace H := Option.bind_eq_some_iff.mp H
                 obtain ⟨t689, A160, H⟩ := H
                 replace H : (if t689 = true then (some true) else (spec_HasCircle.l2 k4 l0 a1 x5_1 x6_3 (wrap64 (x7_4 + 1)))) = some r := H
                 have A16 := Aside0.mk A160
                 clear A160
                 by_cases c17 : t689 = true
                 ·
                  subst c17
                  have H1 : (some true) = some r := by rw [if_pos rfl] at H; exact H
                  clear H
                  have H := H1
                  clear H1
                  obtain rfl := Option.some.inj H
                  go_wp2_with (first | (go_at_call 108; (with_reducible refine (spec_l33Wins.calls k4 _ _ l0 a1 x5_1 x6_3 true _ ?side1 ?side2 A12.out).mono ?_); (case side1 => exact Kd.Cq HR0.out); (case side2 => exact HC0.out); rintro e w' ⟨rfl, ⟨nd, rfl⟩⟩) | (go_at_call 108; (with_reducible refine (spec_l33Wins.calls k4 _ _ l0 a1 x6_3 x7_4 true _ ?side1 ?side2 A14.out).mono ?_); (case side1 => exact Kd.Cq HR0.out); (case side2 => exact HC0.out); rintro e w' ⟨rfl, ⟨nd, rfl⟩⟩) | (go_at_call 108; (with_reducible refine (spec_l33Wins.calls k4 _ _ l0 a1 x7_4 x5_1 true _ ?side1 ?side2 A16.out).mono ?_); (case side1 => exact Kd.Cq HR0.out); (case side2 => exact HC0.out); rintro e w' ⟨rfl, ⟨nd, rfl⟩⟩))
                  go_ret
                  exact ⟨by first | rfl | (simp; done) | (simp [*]; done), by repeat (first | exact Drawn0.refl _ | apply Drawn0.step)⟩
                 ·
                  replace c17 := Bool.eq_false_iff.mpr c17
                  subst c17
                  have H1 : (spec_HasCircle.l2 k4 l0 a1 x5_1 x6_3 (wrap64 (x7_4 + 1))) = some r := by rw [if_neg (show ¬ (false = true) by decide)] at H; exact H
                  clear H
                  have H := H1
                  clear H1
                  have H' := Aside0.mk H
                  clear H
                  go_wp2_with (first | (go_at_call 108; (with_reducible refine (spec_l33Wins.calls k4 _ _ l0 a1 x5_1 x6_3 true _ ?side1 ?side2 A12.out).mono ?_); (case side1 => exact Kd.Cq HR0.out); (case side2 => exact HC0.out); rintro e w' ⟨rfl, ⟨nd, rfl⟩⟩) | (go_at_call 108; (with_reducible refine (spec_l33Wins.calls k4 _ _ l0 a1 x6_3 x7_4 true _ ?side1 ?side2 A14.out).mono ?_); (case side1 => exact Kd.Cq HR0.out); (case side2 => exact HC0.out); rintro e w' ⟨rfl, ⟨nd, rfl⟩⟩) | (go_at_call 108; (with_reducible refine (spec_l33Wins.calls k4 _ _ l0 a1 x7_4 x5_1 false _ ?side1 ?side2 A16.out).mono ?_); (case side1 => exact Kd.Cq HR0.out); (case side2 => exact HC0.out); rintro e w' ⟨rfl, ⟨nd, rfl⟩⟩))
                  go_roundg k4
                  case measure => have := HK1.out; have := HJ2.out; have := HK3.out; have := HK4.out; omega
                  case rel => exact ⟨(wrap64 (x7_4 + 1)), (by first | rfl | (simp; done) | (simp [*]; done)), H', ⟨by have := HK1.out; have := HJ2.out; have := HK3.out; have := HK4.out; omega⟩, by repeat (first | exact Drawn0.refl _ | apply Drawn0.step)⟩
                ·
                 replace c15 := Bool.eq_false_iff.mpr c15
                 subst c15
                 have H1 : (spec_HasCircle.l2 k4 l0 a1 x5_1 x6_3 (wrap64 (x7_4 + 1))) = some r := by rw [if_neg (show ¬ (false = true) by decide)] at H; exact H
                 clear H
                 have H := H1
                 clear H1
                 have H' := Aside0.mk H
                 clear H
                 go_wp2_with (first | (go_at_call 108; (with_reducible refine (spec_l33Wins.calls k4 _ _ l0 a1 x5_1 x6_3 true _ ?side1 ?side2 A12.out).mono ?_); (case side1 => exact Kd.Cq HR0.out); (case side2 => exact HC0.out); rintro e w' ⟨rfl, ⟨nd, rfl⟩⟩) | (go_at_call 108; (with_reducible refine (spec_l33Wins.calls k4 _ _ l0 a1 x6_3 x7_4 false _ ?side1 ?side2 A14.out).mono ?_); (case side1 => exact Kd.Cq HR0.out); (case side2 => exact HC0.out); rintro e w' ⟨rfl, ⟨nd, rfl⟩⟩))
                 go_roundg k4
                 case measure => have := HK1.out; have := HJ2.out; have := HK3.out; have := HK4.out; omega
                 case rel => exact ⟨(wrap64 (x7_4 + 1)), (by first | rfl | (simp; done) | (simp [*]; done)), H', ⟨by have := HK1.out; have := HJ2.out; have := HK3.out; have := HK4.out; omega⟩, by repeat (first | exact Drawn0.refl _ | apply Drawn0.step)⟩
               ·
                replace c13 := Bool.eq_false_iff.mpr c13
                subst c13
                have H1 : (spec_HasCircle.l2 k4 l0 a1 x5_1 x6_3 (wrap64 (x7_4 + 1))) = some r := by rw [if_neg (show ¬ (false = true) by decide)] at H; exact H
                clear H
                have H := H1
                clear H1
                have H' := Aside0.mk H
                clear H
                go_wp2_with (first | (go_at_call 108; (with_reducible refine (spec_l33Wins.calls k4 _ _ l0 a1 x5_1 x6_3 false _ ?side1 ?side2 A12.out).mono ?_); (case side1 => exact Kd.Cq HR0.out); (case side2 => exact HC0.out); rintro e w' ⟨rfl, ⟨nd, rfl⟩⟩))
                go_roundg k4
                case measure => have := HK1.out; have := HJ2.out; have := HK3.out; have := HK4.out; omega
                case rel => exact ⟨(wrap64 (x7_4 + 1)), (by first | rfl | (simp; done) | (simp [*]; done)), H', ⟨by have := HK1.out; have := HJ2.out; have := HK3.out; have := HK4.out; omega⟩, by repeat (first | exact Drawn0.refl _ | apply Drawn0.step)⟩
           ·
            rw [if_neg c8] at H
            have c8b0 : decide (x7_4 < a1) = false := decide_eq_false c8
            clear c8
            have H' := Aside0.mk H
            clear H
            go_wp2
            go_roundg k4
            case measure => have := HK1.out; have := HJ2.out; have := HK3.out; have := HK4.out; omega
            case rel => exact ⟨(wrap64 (x6_3 + 1)), (by first | rfl | (simp; done) | (simp [*]; done)), H', ⟨by have := HK1.out; have := HJ2.out; have := HK3.out; have := HK4.out; omega⟩, by repeat (first | exact Drawn0.refl _ | apply Drawn0.step)⟩
        ·
         rw [if_neg c7] at H
         have c7b0 : decide (x6_3 < a1) = false := decide_eq_false c7
         clear c7
         have H' := Aside0.mk H
         clear H
         go_wp2
         go_roundg k3
         case measure => have := HK1.out; have := HJ2.out; have := HK3.out; omega
         case rel => exact ⟨(wrap64 (x5_1 + 1)), (by first | rfl | (simp; done) | (simp [*]; done)), H', ⟨by have := HK1.out; have := HJ2.out; have := HK3.out; omega⟩, by repeat (first | exact Drawn0.refl _ | apply Drawn0.step)⟩
     ·
      replace c6 := Bool.eq_false_iff.mpr c6
      subst c6
      have H1 : (some false) = some r := by rw [if_neg (show ¬ (false = true) by decide)] at H; exact H
      clear H
      have H := H1
      clear H1
      obtain rfl := Option.some.inj H
      go_wp2
      go_ret
      exact ⟨by first | rfl | (simp; done) | (simp [*]; done), by repeat (first | exact Drawn0.refl _ | apply Drawn0.step)⟩

/-! ### impl_HasCircle: function 50 -/
mutual
def impl_HasCircle.l0 : Nat → List (List Int) → Int → Int → Int → Option (Bool)
 | 0, _, _, _, _ => none
 | k + 1, x0, x1, x12, x13 => if x13 < x12 then (impl_HasCircle.l1 k x0 x1 x13 x12 x13 x1 0) else (some false)
def impl_HasCircle.l1 : Nat → List (List Int) → Int → Int → Int → Int → Int → Int → Option (Bool)
 | 0, _, _, _, _, _, _, _ => none
 | k + 1, x0, x1, x5, x12, x13, x16, x17 => if x17 < x16 then (impl_HasCircle.l2 k x0 x1 x5 x17 x12 x13 x16 x17 x1 0) else (impl_HasCircle.l0 k x0 x1 x12 (wrap64 (x13 + 1)))
def impl_HasCircle.l2 : Nat → List (List Int) → Int → Int → Int → Int → Int → Int → Int → Int → Int → Option (Bool)
 | 0, _, _, _, _, _, _, _, _, _, _ => none
 | k + 1, x0, x1, x5, x6, x12, x13, x16, x17, x20, x21 => if x21 < x20 then (if x5 = x6 then (impl_HasCircle.l2 k x0 x1 x5 x6 x12 x13 x16 x17 x20 (wrap64 (x21 + 1))) else (if x6 = x21 then (impl_HasCircle.l2 k x0 x1 x5 x6 x12 x13 x16 x17 x20 (wrap64 (x21 + 1))) else (if x5 = x21 then (impl_HasCircle.l2 k x0 x1 x5 x6 x12 x13 x16 x17 x20 (wrap64 (x21 + 1))) else ((impl_beats.f k x0 x5 x6).bind fun t695 => (if t695 = true then ((impl_beats.f k x0 x6 x21).bind fun t696 => (if t696 = true then ((impl_beats.f k x0 x21 x5).bind fun t697 => (if t697 = true then (some true) else (impl_HasCircle.l2 k x0 x1 x5 x6 x12 x13 x16 x17 x20 (wrap64 (x21 + 1))))) else (impl_HasCircle.l2 k x0 x1 x5 x6 x12 x13 x16 x17 x20 (wrap64 (x21 + 1))))) else (impl_HasCircle.l2 k x0 x1 x5 x6 x12 x13 x16 x17 x20 (wrap64 (x21 + 1)))))))) else (impl_HasCircle.l1 k x0 x1 x5 x12 x13 x16 (wrap64 (x17 + 1)))
end
def impl_HasCircle.f (k : Nat) (l0 : List (List Int)) (a1 : Int) : Option (Bool) := (impl_VotesOk.f k l0 a1).bind fun t694 => (if t694 = true then (impl_HasCircle.l0 k l0 a1 a1 0) else (some false))
theorem impl_HasCircle.mono_l : ∀ k, (∀ y0 y1 y2 y3, LeO (impl_HasCircle.l0 k y0 y1 y2 y3) (impl_HasCircle.l0 (k + 1) y0 y1 y2 y3)) ∧ (∀ y0 y1 y2 y3 y4 y5 y6, LeO (impl_HasCircle.l1 k y0 y1 y2 y3 y4 y5 y6) (impl_HasCircle.l1 (k + 1) y0 y1 y2 y3 y4 y5 y6)) ∧ (∀ y0 y1 y2 y3 y4 y5 y6 y7 y8 y9, LeO (impl_HasCircle.l2 k y0 y1 y2 y3 y4 y5 y6 y7 y8 y9) (impl_HasCircle.l2 (k + 1) y0 y1 y2 y3 y4 y5 y6 y7 y8 y9))
 | 0 => ⟨fun _ _ _ _ r h => by simp [impl_HasCircle.l0] at h, fun _ _ _ _ _ _ _ r h => by simp [impl_HasCircle.l1] at h, fun _ _ _ _ _ _ _ _ _ _ r h => by simp [impl_HasCircle.l2] at h⟩
 | k + 1 => by
  obtain ⟨ih0, ih1, ih2⟩ := impl_HasCircle.mono_l k
  refine ⟨?_, ?_, ?_⟩
  ·
   intro y0 y1 y2 y3
   unfold impl_HasCircle.l0
   repeat' first
   | (with_reducible exact ih0 _ _ _ _)
   | (with_reducible exact ih1 _ _ _ _ _ _ _)
   | (with_reducible exact ih2 _ _ _ _ _ _ _ _ _ _)
   | (with_reducible exact impl_VotesOk.mono _ _ _)
   | (with_reducible exact impl_beats.mono _ _ _ _)
   | (with_reducible exact LeO.refl _)
   | (with_reducible exact LeO.none _)
   | (with_reducible refine LeO.ite ?_ ?_)
   | (with_reducible refine LeO.bind ?_ (fun _ => ?_))
   | exact ih0 _ _ _ _
   | exact ih1 _ _ _ _ _ _ _
   | exact ih2 _ _ _ _ _ _ _ _ _ _
   | exact impl_VotesOk.mono _ _ _
   | exact impl_beats.mono _ _ _ _
   | exact LeO.none _
   | refine LeO.ite ?_ ?_
   | refine LeO.bind ?_ (fun _ => ?_)
  ·
   intro y0 y1 y2 y3 y4 y5 y6
   unfold impl_HasCircle.l1
   repeat' first
   | (with_reducible exact ih0 _ _ _ _)
   | (with_reducible exact ih1 _ _ _ _ _ _ _)
   | (with_reducible exact ih2 _ _ _ _ _ _ _ _ _ _)
   | (with_reducible exact impl_VotesOk.mono _ _ _)
   | (with_reducible exact impl_beats.mono _ _ _ _)
   | (with_reducible exact LeO.refl _)
   | (with_reducible exact LeO.none _)
   | (with_reducible refine LeO.ite ?_ ?_)
   | (with_reducible refine LeO.bind ?_ (fun _ => ?_))
   | exact ih0 _ _ _ _
   | exact ih1 _ _ _ _ _ _ _
   | exact ih2 _ _ _ _ _ _ _ _ _ _
   | exact impl_VotesOk.mono _ _ _
   | exact impl_beats.mono _ _ _ _
   | exact LeO.none _
   | refine LeO.ite ?_ ?_
   | refine LeO.bind ?_ (fun _ => ?_)
  ·
   intro y0 y1 y2 y3 y4 y5 y6 y7 y8 y9
   unfold impl_HasCircle.l2
   repeat' first
   | (with_reducible exact ih0 _ _ _ _)
   | (with_reducible exact ih1 _ _ _ _ _ _ _)
   | (with_reducible exact ih2 _ _ _ _ _ _ _ _ _ _)
   | (with_reducible exact impl_VotesOk.mono _ _ _)
   | (with_reducible exact impl_beats.mono _ _ _ _)
   | (with_reducible exact LeO.refl _)
   | (with_reducible exact LeO.none _)
   | (with_reducible refine LeO.ite ?_ ?_)
   | (with_reducible refine LeO.bind ?_ (fun _ => ?_))
   | exact ih0 _ _ _ _
   | exact ih1 _ _ _ _ _ _ _
   | exact ih2 _ _ _ _ _ _ _ _ _ _
   | exact impl_VotesOk.mono _ _ _
   | exact impl_beats.mono _ _ _ _
   | exact LeO.none _
   | refine LeO.ite ?_ ?_
   | refine LeO.bind ?_ (fun _ => ?_)
theorem impl_HasCircle.mono : ∀ a0 a1 k, LeO (impl_HasCircle.f k a0 a1) (impl_HasCircle.f (k + 1) a0 a1) := by
 intro a0 a1 k
 obtain ⟨ih0, ih1, ih2⟩ := impl_HasCircle.mono_l k
 unfold impl_HasCircle.f
 repeat' first
   | (with_reducible exact ih0 _ _ _ _)
   | (with_reducible exact ih1 _ _ _ _ _ _ _)
   | (with_reducible exact ih2 _ _ _ _ _ _ _ _ _ _)
   | (with_reducible exact impl_VotesOk.mono _ _ _)
   | (with_reducible exact impl_beats.mono _ _ _ _)
   | (with_reducible exact LeO.refl _)
   | (with_reducible exact LeO.none _)
   | (with_reducible refine LeO.ite ?_ ?_)
   | (with_reducible refine LeO.bind ?_ (fun _ => ?_))
   | exact ih0 _ _ _ _
   | exact ih1 _ _ _ _ _ _ _
   | exact ih2 _ _ _ _ _ _ _ _ _ _
   | exact impl_VotesOk.mono _ _ _
   | exact impl_beats.mono _ _ _ _
   | exact LeO.none _
   | refine LeO.ite ?_ ?_
   | refine LeO.bind ?_ (fun _ => ?_)
set_option maxHeartbeats 8000000 in
set_option maxRecDepth 100000 in
theorem impl_HasCircle.calls (k : Nat) (A0 : Option Addr) (c0 : Nat) (l0 : List (List Int)) (a1 : Int) (r : Bool) (w : World) (hr0 : Kd.C (Kd.slice 3 (Kd.int .i64)) w A0 l0.length l0) (hc0 : l0.length ≤ c0) (h : impl_HasCircle.f k l0 a1 = some r) :
  Calls Try.prog 50 #[.slice A0 l0.length c0, .int .i64 a1] w fun e w' => e = .returned (.bool r) ∧ Below w.heap.size w w' := by
 have HR0 := Aside0.mk hr0
 have HC0 := Aside0.mk hc0
 clear hr0 hc0
 have HB := Aside0.mk (Below.refl w.heap.size w)
 have H : ((impl_VotesOk.f k l0 a1).bind fun t694 => (if t694 = true then (impl_HasCircle.l0 k l0 a1 a1 0) else (some false))) = some r := h
 clear h
 replace H := Option.bind_eq_some_iff.mp H
 obtain ⟨t694, A30, H⟩ := H
 replace H : (if t694 = true then (impl_HasCircle.l0 k l0 a1 a1 0) else (some false)) = some r := H
 have A3 := Aside0.mk A30
 clear A30
 by_cases c4 : t694 = true
 ·
  subst c4
  have H1 : (impl_HasCircle.l0 k l0 a1 a1 0) = some r := by rw [if_pos rfl] at H; exact H
  clear H
  have H := H1
  clear H1
  have H' := Aside0.mk H
  clear H
  go_enter Try.func50, Try.ntmps50
  go_wp2_with (first | ((with_reducible refine gate_callee (f := 109) rfl ?_); refine gLq (some 10) Try.func109 #[.slice A0 l0.length c0, .int .i64 a1] ?_; (with_reducible refine (impl_VotesOk.calls k _ _ l0 a1 true _ ?side1 ?side2 A3.out).mono ?_); (case side1 => exact Kd.Cq HR0.out); (case side2 => exact HC0.out); rintro e w5 ⟨rfl, hb⟩; refine ⟨_, rfl, ?_⟩; have n0_ := Aside0.mk (below_step (blq HB.out) hb); clear HB; have HB := n0_; clear n0_; (try clear hb); (try clear hb2); (try clear hk); (try clear hi)))
  go_loopg [13] k (fun kq v13 w' => ∃ (x13_1 : Int), v13 = .int .i64 x13_1 ∧ Aside0 (impl_HasCircle.l0 kq l0 a1 a1 x13_1 = some r) ∧ Aside0 (kq ≤ k) ∧ Aside0 (Below w.heap.size w w'))
  case atStart => exact ⟨(0), (by first | rfl | (simp; done) | (simp [*]; done)), H', ⟨Nat.le_refl _⟩, ⟨blq HB.out⟩⟩
  case round =>
   clear H'
   try clear c1
   try clear p2
   try clear c4
   try clear c5
   obtain ⟨x13_1, rfl, HA, HK1, HB⟩ := hrel
   cases gk with
   | zero => exact absurd HA.out (by simp [impl_HasCircle.l0])
   | succ k1 =>
    have H := HA.out
    clear HA
    simp only [impl_HasCircle.l0] at H
    by_cases c6 : x13_1 < a1
    ·
     rw [if_pos c6] at H
     have c6b0 : decide (x13_1 < a1) = true := decide_eq_true c6
     clear c6
     have H' := Aside0.mk H
     clear H
     go_wp2
     go_loopg [17] k1 (fun kq v17 w' => ∃ (x17_2 : Int), v17 = .int .i64 x17_2 ∧ Aside0 (impl_HasCircle.l1 kq l0 a1 x13_1 a1 x13_1 a1 x17_2 = some r) ∧ Aside0 (kq ≤ k1) ∧ Aside0 (Below w.heap.size w w'))
     case atStart => exact ⟨(0), (by first | rfl | (simp; done) | (simp [*]; done)), H', ⟨Nat.le_refl _⟩, ⟨blq HB.out⟩⟩
     case round =>
      clear H'
      try clear c1
      try clear p2
      try clear c4
      try clear c5
      try clear c6
      try clear c6b0
      try clear p2
      obtain ⟨x17_2, rfl, HA, HK2, HB⟩ := hrel
      cases gk with
      | zero => exact absurd HA.out (by simp [impl_HasCircle.l1])
      | succ k2 =>
       have H := HA.out
       clear HA
       simp only [impl_HasCircle.l1] at H
       by_cases c7 : x17_2 < a1
       ·
        rw [if_pos c7] at H
        have c7b0 : decide (x17_2 < a1) = true := decide_eq_true c7
        clear c7
        have H' := Aside0.mk H
        clear H
        go_wp2
        go_loopg [21] k2 (fun kq v21 w' => ∃ (x21_3 : Int), v21 = .int .i64 x21_3 ∧ Aside0 (impl_HasCircle.l2 kq l0 a1 x13_1 x17_2 a1 x13_1 a1 x17_2 a1 x21_3 = some r) ∧ Aside0 (kq ≤ k2) ∧ Aside0 (Below w.heap.size w w'))
        case atStart => exact ⟨(0), (by first | rfl | (simp; done) | (simp [*]; done)), H', ⟨Nat.le_refl _⟩, ⟨blq HB.out⟩⟩
        case round =>
         clear H'
         try clear c1
         try clear p2
         try clear c4
         try clear c5
         try clear c6
         try clear c6b0
         try clear c7
         try clear c7b0
         try clear p2
         obtain ⟨x21_3, rfl, HA, HK3, HB⟩ := hrel
         cases gk with
         | zero => exact absurd HA.out (by simp [impl_HasCircle.l2])
         | succ k3 =>
          have H := HA.out
          clear HA
          simp only [impl_HasCircle.l2] at H
          by_cases c8 : x21_3 < a1
          ·
           rw [if_pos c8] at H
           have c8b0 : decide (x21_3 < a1) = true := decide_eq_true c8
           clear c8
           by_cases c9 : x13_1 = x17_2
           ·
            rw [if_pos c9] at H
            have c9b0 : (x13_1 == x17_2) = true := beq_iff_eq.mpr c9
            have c9b1 : (x13_1 != x17_2) = false := bne_eq_false_iff_eq.mpr c9
            clear c9
            have H' := Aside0.mk H
            clear H
            go_wp2
            go_roundg k3
            case measure => have := HK1.out; have := HK2.out; have := HK3.out; omega
            case rel => exact ⟨(wrap64 (x21_3 + 1)), (by first | rfl | (simp; done) | (simp [*]; done)), H', ⟨by have := HK1.out; have := HK2.out; have := HK3.out; omega⟩, ⟨blq HB.out⟩⟩
           ·
            rw [if_neg c9] at H
            have c9b0 : (x13_1 == x17_2) = false := beq_eq_false_iff_ne.mpr c9
            have c9b1 : (x13_1 != x17_2) = true := bne_iff_ne.mpr c9
            by_cases c10 : x17_2 = x21_3
            ·
             rw [if_pos c10] at H
             have c10b0 : (x17_2 == x21_3) = true := beq_iff_eq.mpr c10
             have c10b1 : (x17_2 != x21_3) = false := bne_eq_false_iff_eq.mpr c10
             clear c10
             have H' := Aside0.mk H
             clear H
             go_wp2
             go_roundg k3
             case measure => have := HK1.out; have := HK2.out; have := HK3.out; omega
             case rel => exact ⟨(wrap64 (x21_3 + 1)), (by first | rfl | (simp; done) | (simp [*]; done)), H', ⟨by have := HK1.out; have := HK2.out; have := HK3.out; omega⟩, ⟨blq HB.out⟩⟩
            ·
             rw [if_neg c10] at H
             have c10b0 : (x17_2 == x21_3) = false := beq_eq_false_iff_ne.mpr c10
             have c10b1 : (x17_2 != x21_3) = true := bne_iff_ne.mpr c10
             by_cases c11 : x13_1 = x21_3
             ·
              rw [if_pos c11] at H
              have c11b0 : (x13_1 == x21_3) = true := beq_iff_eq.mpr c11
              have c11b1 : (x13_1 != x21_3) = false := bne_eq_false_iff_eq.mpr c11
              clear c11
              have H' := Aside0.mk H
              clear H
              go_wp2
              go_roundg k3
              case measure => have := HK1.out; have := HK2.out; have := HK3.out; omega
              case rel => exact ⟨(wrap64 (x21_3 + 1)), (by first | rfl | (simp; done) | (simp [*]; done)), H', ⟨by have := HK1.out; have := HK2.out; have := HK3.out; omega⟩, ⟨blq HB.out⟩⟩
             ·
              rw [if_neg c11] at H
              have c11b0 : (x13_1 == x21_3) = false := beq_eq_false_iff_ne.mpr c11
              have c11b1 : (x13_1 != x21_3) = true := bne_iff_ne.mpr c11
              replace H := Option.bind_eq_some_iff.mp H
              obtain ⟨t695, A120, H⟩ := H
              replace H : (if t695 = true then ((impl_beats.f k3 l0 x17_2 x21_3).bind fun t696 => (if t696 = true then ((impl_beats.f k3 l0 x21_3 x13_1).bind fun t697 => (if t697 = true then (some true) else (impl_HasCircle.l2 k3 l0 a1 x13_1 x17_2 a1 x13_1 a1 x17_2 a1 (wrap64 (x21_3 + 1))))) else (impl_HasCircle.l2 k3 l0 a1 x13_1 x17_2 a1 x13_1 a1 x17_2 a1 (wrap64 (x21_3 + 1))))) else (impl_HasCircle.l2 k3 l0 a1 x13_1 x17_2 a1 x13_1 a1 x17_2 a1 (wrap64 (x21_3 + 1)))) = some r := H
              have A12 := Aside0.mk A120
              clear A120
              by_cases c13 : t695 = true
              ·
               subst c13
               have H1 : ((impl_beats.f k3 l0 x17_2 x21_3).bind fun t696 => (if t696 = true then ((impl_beats.f k3 l0 x21_3 x13_1).bind fun t697 => (if t697 = true then (some true) else (impl_HasCircle.l2 k3 l0 a1 x13_1 x17_2 a1 x13_1 a1 x17_2 a1 (wrap64 (x21_3 + 1))))) else (impl_HasCircle.l2 k3 l0 a1 x13_1 x17_2 a1 x13_1 a1 x17_2 a1 (wrap64 (x21_3 + 1))))) = some r := by rw [if_pos rfl] at H; exact H
               clear H
               have H := H1
               clear H1
               replace H := Option.bind_eq_some_iff.mp H
               obtain ⟨t696, A140, H⟩ := H
               replace H : (if t696 = true then ((impl_beats.f k3 l0 x21_3 x13_1).bind fun t697 => (if t697 = true then (some true) else (impl_HasCircle.l2 k3 l0 a1 x13_1 x17_2 a1 x13_1 a1 x17_2 a1 (wrap64 (x21_3 + 1))))) else (impl_HasCircle.l2 k3 l0 a1 x13_1 x17_2 a1 x13_1 a1 x17_2 a1 (wrap64 (x21_3 + 1)))) = some r := H
               have A14 := Aside0.mk A140
               clear A140
               by_cases c15 : t696 = true
               ·
                subst c15
                have H1 : ((impl_beats.f k3 l0 x21_3 x13_1).bind fun t697 => (if t697 = true then (some true) else (impl_HasCircle.l2 k3 l0 a1 x13_1 x17_2 a1 x13_1 a1 x17_2 a1 (wrap64 (x21_3 + 1))))) = some r := by rw [if_pos rfl] at H; exact H
                clear H
                have H := H1
                clear H1
                replace H := Option.bind_eq_some_iff.mp H
                obtain ⟨t697, A160, H⟩ := H
                replace H : (if t697 = true then (some true) else (impl_HasCircle.l2 k3 l0 a1 x13_1 x17_2 a1 x13_1 a1 x17_2 a1 (wrap64 (x21_3 + 1)))) = some r := H
                have A16 := Aside0.mk A160
                clear A160
                by_cases c17 : t697 = true
                ·
                 subst c17
                 have H1 : (some true) = some r := by rw [if_pos rfl] at H; exact H
                 clear H
                 have H := H1
                 clear H1
                 obtain rfl := Option.some.inj H
                 go_wp2_with (first | (go_at_call 110; (with_reducible refine (impl_beats.calls k3 _ _ l0 x13_1 x17_2 true _ ?side1 ?side2 A12.out).mono ?_); (case side1 => exact Kd.Cq (Kd.C_below HR0.out HB.out)); (case side2 => exact HC0.out); rintro e w' ⟨rfl, ⟨nd, rfl⟩⟩) | (go_at_call 110; (with_reducible refine (impl_beats.calls k3 _ _ l0 x17_2 x21_3 true _ ?side1 ?side2 A14.out).mono ?_); (case side1 => exact Kd.Cq (Kd.C_below HR0.out (blq HB.out))); (case side2 => exact HC0.out); rintro e w' ⟨rfl, ⟨nd, rfl⟩⟩) | (go_at_call 110; (with_reducible refine (impl_beats.calls k3 _ _ l0 x21_3 x13_1 true _ ?side1 ?side2 A16.out).mono ?_); (case side1 => exact Kd.Cq (Kd.C_below HR0.out (blq HB.out))); (case side2 => exact HC0.out); rintro e w' ⟨rfl, ⟨nd, rfl⟩⟩))
                 go_ret
                 exact ⟨by first | rfl | (simp [errW_none, errW_some] <;> rfl) | (simp [*, errW_none, errW_some] <;> rfl), blq HB.out⟩
                ·
                 replace c17 := Bool.eq_false_iff.mpr c17
                 subst c17
                 have H1 : (impl_HasCircle.l2 k3 l0 a1 x13_1 x17_2 a1 x13_1 a1 x17_2 a1 (wrap64 (x21_3 + 1))) = some r := by rw [if_neg (show ¬ (false = true) by decide)] at H; exact H
                 clear H
                 have H := H1
                 clear H1
                 have H' := Aside0.mk H
                 clear H
                 go_wp2_with (first | (go_at_call 110; (with_reducible refine (impl_beats.calls k3 _ _ l0 x13_1 x17_2 true _ ?side1 ?side2 A12.out).mono ?_); (case side1 => exact Kd.Cq (Kd.C_below HR0.out HB.out)); (case side2 => exact HC0.out); rintro e w' ⟨rfl, ⟨nd, rfl⟩⟩) | (go_at_call 110; (with_reducible refine (impl_beats.calls k3 _ _ l0 x17_2 x21_3 true _ ?side1 ?side2 A14.out).mono ?_); (case side1 => exact Kd.Cq (Kd.C_below HR0.out (blq HB.out))); (case side2 => exact HC0.out); rintro e w' ⟨rfl, ⟨nd, rfl⟩⟩) | (go_at_call 110; (with_reducible refine (impl_beats.calls k3 _ _ l0 x21_3 x13_1 false _ ?side1 ?side2 A16.out).mono ?_); (case side1 => exact Kd.Cq (Kd.C_below HR0.out (blq HB.out))); (case side2 => exact HC0.out); rintro e w' ⟨rfl, ⟨nd, rfl⟩⟩))
                 go_roundg k3
                 case measure => have := HK1.out; have := HK2.out; have := HK3.out; omega
                 case rel => exact ⟨(wrap64 (x21_3 + 1)), (by first | rfl | (simp; done) | (simp [*]; done)), H', ⟨by have := HK1.out; have := HK2.out; have := HK3.out; omega⟩, ⟨blq HB.out⟩⟩
               ·
                replace c15 := Bool.eq_false_iff.mpr c15
                subst c15
                have H1 : (impl_HasCircle.l2 k3 l0 a1 x13_1 x17_2 a1 x13_1 a1 x17_2 a1 (wrap64 (x21_3 + 1))) = some r := by rw [if_neg (show ¬ (false = true) by decide)] at H; exact H
                clear H
                have H := H1
                clear H1
                have H' := Aside0.mk H
                clear H
                go_wp2_with (first | (go_at_call 110; (with_reducible refine (impl_beats.calls k3 _ _ l0 x13_1 x17_2 true _ ?side1 ?side2 A12.out).mono ?_); (case side1 => exact Kd.Cq (Kd.C_below HR0.out HB.out)); (case side2 => exact HC0.out); rintro e w' ⟨rfl, ⟨nd, rfl⟩⟩) | (go_at_call 110; (with_reducible refine (impl_beats.calls k3 _ _ l0 x17_2 x21_3 false _ ?side1 ?side2 A14.out).mono ?_); (case side1 => exact Kd.Cq (Kd.C_below HR0.out (blq HB.out))); (case side2 => exact HC0.out); rintro e w' ⟨rfl, ⟨nd, rfl⟩⟩))
                go_roundg k3
                case measure => have := HK1.out; have := HK2.out; have := HK3.out; omega
                case rel => exact ⟨(wrap64 (x21_3 + 1)), (by first | rfl | (simp; done) | (simp [*]; done)), H', ⟨by have := HK1.out; have := HK2.out; have := HK3.out; omega⟩, ⟨blq HB.out⟩⟩
              ·
               replace c13 := Bool.eq_false_iff.mpr c13
               subst c13
               have H1 : (impl_HasCircle.l2 k3 l0 a1 x13_1 x17_2 a1 x13_1 a1 x17_2 a1 (wrap64 (x21_3 + 1))) = some r := by rw [if_neg (show ¬ (false = true) by decide)] at H; exact H
               clear H
               have H := H1
               clear H1
               have H' := Aside0.mk H
               clear H
               go_wp2_with (first | (go_at_call 110; (with_reducible refine (impl_beats.calls k3 _ _ l0 x13_1 x17_2 false _ ?side1 ?side2 A12.out).mono ?_); (case side1 => exact Kd.Cq (Kd.C_below HR0.out HB.out)); (case side2 => exact HC0.out); rintro e w' ⟨rfl, ⟨nd, rfl⟩⟩))
               go_roundg k3
               case measure => have := HK1.out; have := HK2.out; have := HK3.out; omega
               case rel => exact ⟨(wrap64 (x21_3 + 1)), (by first | rfl | (simp; done) | (simp [*]; done)), H', ⟨by have := HK1.out; have := HK2.out; have := HK3.out; omega⟩, ⟨blq HB.out⟩⟩
          ·
           rw [if_neg c8] at H
           have c8b0 : decide (x21_3 < a1) = false := decide_eq_false c8
           clear c8
           have H' := Aside0.mk H
           clear H
           go_wp2
           go_roundg k3
           case measure => have := HK1.out; have := HK2.out; have := HK3.out; omega
           case rel => exact ⟨(wrap64 (x17_2 + 1)), (by first | rfl | (simp; done) | (simp [*]; done)), H', ⟨by have := HK1.out; have := HK2.out; have := HK3.out; omega⟩, ⟨blq HB.out⟩⟩
       ·
        rw [if_neg c7] at H
        have c7b0 : decide (x17_2 < a1) = false := decide_eq_false c7
        clear c7
        have H' := Aside0.mk H
        clear H
        go_wp2
        go_roundg k2
        case measure => have := HK1.out; have := HK2.out; omega
        case rel => exact ⟨(wrap64 (x13_1 + 1)), (by first | rfl | (simp; done) | (simp [*]; done)), H', ⟨by have := HK1.out; have := HK2.out; omega⟩, ⟨blq HB.out⟩⟩
    ·
     rw [if_neg c6] at H
     have c6b0 : decide (x13_1 < a1) = false := decide_eq_false c6
     clear c6
     obtain rfl := Option.some.inj H
     go_wp2
     go_ret
     exact ⟨by first | rfl | (simp [errW_none, errW_some] <;> rfl) | (simp [*, errW_none, errW_some] <;> rfl), blq HB.out⟩
 ·
  replace c4 := Bool.eq_false_iff.mpr c4
  subst c4
  have H1 : (some false) = some r := by rw [if_neg (show ¬ (false = true) by decide)] at H; exact H
  clear H
  have H := H1
  clear H1
  obtain rfl := Option.some.inj H
  go_enter Try.func50, Try.ntmps50
  go_wp2_with (first | ((with_reducible refine gate_callee (f := 109) rfl ?_); refine gLq (some 10) Try.func109 #[.slice A0 l0.length c0, .int .i64 a1] ?_; (with_reducible refine (impl_VotesOk.calls k _ _ l0 a1 false _ ?side1 ?side2 A3.out).mono ?_); (case side1 => exact Kd.Cq HR0.out); (case side2 => exact HC0.out); rintro e w18 ⟨rfl, hb⟩; refine ⟨_, rfl, ?_⟩; have n0_ := Aside0.mk (below_step (blq HB.out) hb); clear HB; have HB := n0_; clear n0_; (try clear hb); (try clear hb2); (try clear hk); (try clear hi)))
  go_ret
  exact ⟨by first | rfl | (simp [errW_none, errW_some] <;> rfl) | (simp [*, errW_none, errW_some] <;> rfl), blq HB.out⟩

end Go.Proofs.Ytnlioefgpgamdaa.Q
