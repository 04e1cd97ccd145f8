-- Written for this claim by wip/xprint.py of this repository (by way of the kit's print); Lean checks every line.
import Derived.Test.YtnlioefgpgamdaaQ0
import Derived.Test.YtnlioefgpgamdaaQ7
import Derived.Test.YtnlioefgpgamdaaQ26
import Derived.Test.YtnlioefgpgamdaaQ27
import Derived.Test.YtnlioefgpgamdaaQ35
namespace Go.Proofs.Ytnlioefgpgamdaa.Q
open Go.RowKit Go.Proofs.YtnlioefgpgamdaaW.PrintWords Go.Proofs.YtnlioefgpgamdaaW.PrintLast Go.Proofs.YtnlioefgpgamdaaW.PrintMore
attribute [local go_sem] max2_int min2_int max_two min_two max_three min_three max_four min_four   -- for this text's walks alone
set_option linter.unusedVariables false
set_option linter.unusedSimpArgs false

/-! ### spec_BeatsAll: function 51 -/
mutual
def spec_BeatsAll.l0 : Nat → List (List Int) → Int → Int → Option (Int)
 | 0, _, _, _ => none
 | k + 1, x0, x1, x5 => if x5 < x1 then ((spec_VotesOk.f k x0 x1).bind fun t713 => (spec_BeatsAll.j1 k x0 x1 x5 t713)) else (spec_BeatsAll.j1 k x0 x1 x5 false)
def spec_BeatsAll.j1 : Nat → List (List Int) → Int → Int → Bool → Option (Int)
 | 0, _, _, _, _ => none
 | k + 1, x0, x1, x5, x15 => if x15 = true then (spec_BeatsAll.l1 k x0 x1 x5 true 0) else (some (-1))
def spec_BeatsAll.l1 : Nat → List (List Int) → Int → Int → Bool → Int → Option (Int)
 | 0, _, _, _, _, _ => none
 | k + 1, x0, x1, x5, x6, x7 => if x7 < x1 then (if x6 = true then (if x5 = x7 then (spec_BeatsAll.l1 k x0 x1 x5 true (wrap64 (x7 + 1))) else ((spec_l33Wins.f k x0 x1 x5 x7).bind fun t714 => (spec_BeatsAll.l1 k x0 x1 x5 t714 (wrap64 (x7 + 1))))) else (spec_BeatsAll.l1 k x0 x1 x5 false (wrap64 (x7 + 1)))) else (if x6 = true then (some x5) else (spec_BeatsAll.l0 k x0 x1 (wrap64 (x5 + 1))))
end
def spec_BeatsAll.f (k : Nat) (l0 : List (List Int)) (a1 : Int) : Option (Int) := spec_BeatsAll.l0 k l0 a1 0
theorem spec_BeatsAll.mono_l : ∀ k, (∀ y0 y1 y2, LeO (spec_BeatsAll.l0 k y0 y1 y2) (spec_BeatsAll.l0 (k + 1) y0 y1 y2)) ∧ (∀ y0 y1 y2 y3, LeO (spec_BeatsAll.j1 k y0 y1 y2 y3) (spec_BeatsAll.j1 (k + 1) y0 y1 y2 y3)) ∧ (∀ y0 y1 y2 y3 y4, LeO (spec_BeatsAll.l1 k y0 y1 y2 y3 y4) (spec_BeatsAll.l1 (k + 1) y0 y1 y2 y3 y4))
 | 0 => ⟨fun _ _ _ r h => by simp [spec_BeatsAll.l0] at h, fun _ _ _ _ r h => by simp [spec_BeatsAll.j1] at h, fun _ _ _ _ _ r h => by simp [spec_BeatsAll.l1] at h⟩
 | k + 1 => by
  obtain ⟨ih0, ih1, ih2⟩ := spec_BeatsAll.mono_l k
  refine ⟨?_, ?_, ?_⟩
  ·
   intro y0 y1 y2
   unfold spec_BeatsAll.l0
   repeat' first
   | (with_reducible exact ih0 _ _ _)
   | (with_reducible exact ih1 _ _ _ _)
   | (with_reducible exact ih2 _ _ _ _ _)
   | (with_reducible exact spec_VotesOk.mono _ _ _)
   | (with_reducible exact spec_l33Wins.mono _ _ _ _ _)
   | (with_reducible exact LeO.refl _)
   | (with_reducible exact LeO.none _)
   | (with_reducible refine LeO.ite ?_ ?_)
   | (with_reducible refine LeO.bind ?_ (fun _ => ?_))
   | exact ih0 _ _ _
   | exact ih1 _ _ _ _
   | exact ih2 _ _ _ _ _
   | exact spec_VotesOk.mono _ _ _
   | exact spec_l33Wins.mono _ _ _ _ _
   | exact LeO.none _
   | refine LeO.ite ?_ ?_
   | refine LeO.bind ?_ (fun _ => ?_)
  ·
   intro y0 y1 y2 y3
   unfold spec_BeatsAll.j1
   repeat' first
   | (with_reducible exact ih0 _ _ _)
   | (with_reducible exact ih1 _ _ _ _)
   | (with_reducible exact ih2 _ _ _ _ _)
   | (with_reducible exact spec_VotesOk.mono _ _ _)
   | (with_reducible exact spec_l33Wins.mono _ _ _ _ _)
   | (with_reducible exact LeO.refl _)
   | (with_reducible exact LeO.none _)
   | (with_reducible refine LeO.ite ?_ ?_)
   | (with_reducible refine LeO.bind ?_ (fun _ => ?_))
   | exact ih0 _ _ _
   | exact ih1 _ _ _ _
   | exact ih2 _ _ _ _ _
   | exact spec_VotesOk.mono _ _ _
   | exact spec_l33Wins.mono _ _ _ _ _
   | exact LeO.none _
   | refine LeO.ite ?_ ?_
   | refine LeO.bind ?_ (fun _ => ?_)
  ·
   intro y0 y1 y2 y3 y4
   unfold spec_BeatsAll.l1
   repeat' first
   | (with_reducible exact ih0 _ _ _)
   | (with_reducible exact ih1 _ _ _ _)
   | (with_reducible exact ih2 _ _ _ _ _)
   | (with_reducible exact spec_VotesOk.mono _ _ _)
   | (with_reducible exact spec_l33Wins.mono _ _ _ _ _)
   | (with_reducible exact LeO.refl _)
   | (with_reducible exact LeO.none _)
   | (with_reducible refine LeO.ite ?_ ?_)
   | (with_reducible refine LeO.bind ?_ (fun _ => ?_))
   | exact ih0 _ _ _
   | exact ih1 _ _ _ _
   | exact ih2 _ _ _ _ _
   | exact spec_VotesOk.mono _ _ _
   | exact spec_l33Wins.mono _ _ _ _ _
   | exact LeO.none _
   | refine LeO.ite ?_ ?_
   | refine LeO.bind ?_ (fun _ => ?_)
theorem spec_BeatsAll.mono : ∀ a0 a1 k, LeO (spec_BeatsAll.f k a0 a1) (spec_BeatsAll.f (k + 1) a0 a1) := by
 intro a0 a1 k
 obtain ⟨ih0, ih1, ih2⟩ := spec_BeatsAll.mono_l k
 unfold spec_BeatsAll.f
 repeat' first
   | (with_reducible exact ih0 _ _ _)
   | (with_reducible exact ih1 _ _ _ _)
   | (with_reducible exact ih2 _ _ _ _ _)
   | (with_reducible exact spec_VotesOk.mono _ _ _)
   | (with_reducible exact spec_l33Wins.mono _ _ _ _ _)
   | (with_reducible exact LeO.refl _)
   | (with_reducible exact LeO.none _)
   | (with_reducible refine LeO.ite ?_ ?_)
   | (with_reducible refine LeO.bind ?_ (fun _ => ?_))
   | exact ih0 _ _ _
   | exact ih1 _ _ _ _
   | exact ih2 _ _ _ _ _
   | exact spec_VotesOk.mono _ _ _
   | exact spec_l33Wins.mono _ _ _ _ _
   | exact LeO.none _
   | refine LeO.ite ?_ ?_
   | refine LeO.bind ?_ (fun _ => ?_)
set_option maxHeartbeats 8000000 in
set_option maxRecDepth 100000 in
theorem spec_BeatsAll.calls (k : Nat) (A0 : Option Addr) (c0 : Nat) (l0 : List (List Int)) (a1 : Int) (r : Int) (w : World) (hr0 : Kd.C (Kd.slice 3 (Kd.int .i64)) w A0 l0.length l0) (hc0 : l0.length ≤ c0) (h : spec_BeatsAll.f k l0 a1 = some r) :
  Calls Try.prog 51 #[.slice A0 l0.length c0, .int .i64 a1] w fun e w' => e = .returned (.int .i64 r) ∧ Drawn0 w w' := by
 have HR0 := Aside0.mk hr0
 have HC0 := Aside0.mk hc0
 clear hr0 hc0
 have H : (spec_BeatsAll.l0 k l0 a1 0) = some r := h
 clear h
 have H' := Aside0.mk H
 clear H
 go_enter Try.func51, Try.ntmps51
 go_wp2
 go_loopg [5] k (fun kq v5 w' => ∃ (x5_1 : Int), v5 = .int .i64 x5_1 ∧ Aside0 (spec_BeatsAll.l0 kq l0 a1 x5_1 = some r) ∧ Aside0 (kq ≤ k) ∧ Drawn0 w w')
 case atStart => exact ⟨(0), (by first | rfl | (simp; done) | (simp [*]; done)), H', ⟨Nat.le_refl _⟩, by repeat (first | exact Drawn0.refl _ | apply Drawn0.step)⟩
 case round =>
  clear H'
  try clear p2
  obtain ⟨x5_1, rfl, HA, HK1, ⟨m1, rfl⟩⟩ := hrel
  cases gk with
  | zero => exact absurd HA.out (by simp [spec_BeatsAll.l0])
  | succ k1 =>
   have H := HA.out
   clear HA
   simp only [spec_BeatsAll.l0] at H
   have HC3 := Aside0.mk H
   clear H
   go_upto_region 2 with (fail)
   go_cut [15] (fun v15 wc => ∃ (kq : Nat) (x15_2 : Bool), v15 = .bool x15_2 ∧ Aside0 (spec_BeatsAll.j1 kq l0 a1 x5_1 x15_2 = some r) ∧ Aside0 (kq ≤ k1) ∧ Drawn0 w wc)
   case first =>
    have H := HC3.out
    clear HC3
    by_cases c4 : x5_1 < a1
    ·
     rw [if_pos c4] at H
     have c4b0 : decide (x5_1 < a1) = true := decide_eq_true c4
     clear c4
     (first | rw [c4b0] | (simp only [i64_w, i32_w]; rw [c4b0]) | skip)
     replace H := Option.bind_eq_some_iff.mp H
     obtain ⟨t713, A50, H⟩ := H
     replace H : (spec_BeatsAll.j1 k1 l0 a1 x5_1 t713) = some r := H
     have A5 := Aside0.mk A50
     clear A50
     have H' := Aside0.mk H
     clear H
     go_wp2_with (first | (go_at_call 107; (with_reducible refine (spec_VotesOk.calls k1 _ _ l0 a1 t713 _ ?side1 ?side2 A5.out).mono ?_); (case side1 => exact Kd.Cq HR0.out); (case side2 => exact HC0.out); rintro e w' ⟨rfl, ⟨nd, rfl⟩⟩))
     go_meet
     case rel => exact ⟨_, (t713), (by first | rfl | (simp; done) | (simp [*]; done)), H', ⟨by have := HK1.out; first | omega | exact Nat.le_refl _⟩, by repeat (first | exact Drawn0.refl _ | apply Drawn0.step)⟩
    ·
     rw [if_neg c4] at H
     have c4b0 : decide (x5_1 < a1) = false := decide_eq_false c4
     clear c4
     (first | rw [c4b0] | (simp only [i64_w, i32_w]; rw [c4b0]) | skip)
     have H' := Aside0.mk H
     clear H
     go_wp2
     go_meet
     case rel => exact ⟨_, (false), (by first | rfl | (simp; done) | (simp [*]; done)), H', ⟨by have := HK1.out; first | omega | exact Nat.le_refl _⟩, by repeat (first | exact Drawn0.refl _ | apply Drawn0.step)⟩
   case rest =>
    clear HC3
    try clear p2
    try clear c4
    try clear c4b0
    try clear c5
    try clear p2
    obtain ⟨kq, x15_2, rfl, HA, HJ2, ⟨mc2, rfl⟩⟩ := hcut
    cases kq with
    | zero => exact absurd HA.out (by simp [spec_BeatsAll.j1])
    | succ kj2 =>
     have H := HA.out
     clear HA
     simp only [spec_BeatsAll.j1] at H
     by_cases c6 : x15_2 = true
     ·
      subst c6
      have H1 : (spec_BeatsAll.l1 kj2 l0 a1 x5_1 true 0) = some r := by rw [if_pos rfl] at H; exact H
      clear H
      have H := H1
      clear H1
      have H' := Aside0.mk H
      clear H
      go_wp2
      go_loopg [6, 7] kj2 (fun kq v6 v7 w' => ∃ (x6_3 : Bool) (x7_3 : Int), v6 = .bool x6_3 ∧ v7 = .int .i64 x7_3 ∧ Aside0 (spec_BeatsAll.l1 kq l0 a1 x5_1 x6_3 x7_3 = some r) ∧ Aside0 (kq ≤ kj2) ∧ Drawn0 w w')
      case atStart => exact ⟨(true), (0), (by first | rfl | (simp; done) | (simp [*]; done)), (by first | rfl | (simp; done) | (simp [*]; done)), H', ⟨Nat.le_refl _⟩, by repeat (first | exact Drawn0.refl _ | apply Drawn0.step)⟩
      case round =>
       clear H'
       try clear c2
       try clear p2
       try clear c4
       try clear c4b0
       try clear c5
       try clear c6
       try clear p2
       obtain ⟨x6_3, x7_3, rfl, rfl, HA, HK3, ⟨m3, rfl⟩⟩ := hrel
       cases gk with
       | zero => exact absurd HA.out (by simp [spec_BeatsAll.l1])
       | succ k3 =>
        have H := HA.out
        clear HA
        simp only [spec_BeatsAll.l1] at H
        by_cases c7 : x7_3 < a1
        ·
         rw [if_pos c7] at H
         have c7b0 : decide (x7_3 < a1) = true := decide_eq_true c7
         clear c7
         by_cases c8 : x6_3 = true
         ·
          subst c8
          have H1 : (if x5_1 = x7_3 then (spec_BeatsAll.l1 k3 l0 a1 x5_1 true (wrap64 (x7_3 + 1))) else ((spec_l33Wins.f k3 l0 a1 x5_1 x7_3).bind fun t714 => (spec_BeatsAll.l1 k3 l0 a1 x5_1 t714 (wrap64 (x7_3 + 1))))) = some r := by rw [if_pos rfl] at H; exact H
          clear H
          have H := H1
          clear H1
          by_cases c9 : x5_1 = x7_3
          ·
           rw [if_pos c9] at H
           have c9b0 : (x5_1 == x7_3) = true := beq_iff_eq.mpr c9
           have c9b1 : (x5_1 != x7_3) = false := bne_eq_false_iff_eq.mpr c9
           clear c9
           have H' := Aside0.mk H
           clear H
           go_wp2
           go_roundg k3
           case measure => have := HK1.out; have := HJ2.out; have := HK3.out; omega
           case rel => exact ⟨(true), (wrap64 (x7_3 + 1)), (by first | rfl | (simp; done) | (simp [*]; done)), (by first | rfl | (simp; done) | (simp [*]; done)), H', ⟨by have := HK1.out; have := HJ2.out; have := HK3.out; omega⟩, by repeat (first | exact Drawn0.refl _ | apply Drawn0.step)⟩
          ·
           rw [if_neg c9] at H
           have c9b0 : (x5_1 == x7_3) = false := beq_eq_false_iff_ne.mpr c9
           have c9b1 : (x5_1 != x7_3) = true := bne_iff_ne.mpr c9
           replace H := Option.bind_eq_some_iff.mp H
           obtain ⟨t714, A100, H⟩ := H
           replace H : (spec_BeatsAll.l1 k3 l0 a1 x5_1 t714 (wrap64 (x7_3 + 1))) = some r := H
           have A10 := Aside0.mk A100
           clear A100
           have H' := Aside0.mk H
           clear H
           go_wp2_with (first | (go_at_call 108; (with_reducible refine (spec_l33Wins.calls k3 _ _ l0 a1 x5_1 x7_3 t714 _ ?side1 ?side2 A10.out).mono ?_); (case side1 => exact Kd.Cq HR0.out); (case side2 => exact HC0.out); rintro e w' ⟨rfl, ⟨nd, rfl⟩⟩))
           go_roundg k3
           case measure => have := HK1.out; have := HJ2.out; have := HK3.out; omega
           case rel => exact ⟨(t714), (wrap64 (x7_3 + 1)), (by first | rfl | (simp; done) | (simp [*]; done)), (by first | rfl | (simp; done) | (simp [*]; done)), H', ⟨by have := HK1.out; have := HJ2.out; have := HK3.out; omega⟩, by repeat (first | exact Drawn0.refl _ | apply Drawn0.step)⟩
         ·
          replace c8 := Bool.eq_false_iff.mpr c8
          subst c8
          have H1 : (spec_BeatsAll.l1 k3 l0 a1 x5_1 false (wrap64 (x7_3 + 1))) = some r := by rw [if_neg (show ¬ (false = true) by decide)] at H; exact H
          clear H
          have H := H1
          clear H1
          have H' := Aside0.mk H
          clear H
          go_wp2
          go_roundg k3
          case measure => have := HK1.out; have := HJ2.out; have := HK3.out; omega
          case rel => exact ⟨(false), (wrap64 (x7_3 + 1)), (by first | rfl | (simp; done) | (simp [*]; done)), (by first | rfl | (simp; done) | (simp [*]; done)), H', ⟨by have := HK1.out; have := HJ2.out; have := HK3.out; omega⟩, by repeat (first | exact Drawn0.refl _ | apply Drawn0.step)⟩
        ·
         rw [if_neg c7] at H
         have c7b0 : decide (x7_3 < a1) = false := decide_eq_false c7
         clear c7
         by_cases c11 : x6_3 = true
         ·
          subst c11
          have H1 : (some x5_1) = some r := by rw [if_pos rfl] at H; exact H
          clear H
          have H := H1
          clear H1
          obtain rfl := Option.some.inj H
          go_wp2
          go_ret
          exact ⟨by first | rfl | (simp; done) | (simp [*]; done), by repeat (first | exact Drawn0.refl _ | apply Drawn0.step)⟩
         ·
          replace c11 := Bool.eq_false_iff.mpr c11
          subst c11
          have H1 : (spec_BeatsAll.l0 k3 l0 a1 (wrap64 (x5_1 + 1))) = some r := by rw [if_neg (show ¬ (false = true) by decide)] at H; exact H
          clear H
          have H := H1
          clear H1
          have H' := Aside0.mk H
          clear H
          go_wp2
          go_roundg k3
          case measure => have := HK1.out; have := HJ2.out; have := HK3.out; omega
          case rel => exact ⟨(wrap64 (x5_1 + 1)), (by first | rfl | (simp; done) | (simp [*]; done)), H', ⟨by have := HK1.out; have := HJ2.out; have := HK3.out; omega⟩, by repeat (first | exact Drawn0.refl _ | apply Drawn0.step)⟩
     ·
      replace c6 := Bool.eq_false_iff.mpr c6
      subst c6
      have H1 : (some (-1)) = some r := by rw [if_neg (show ¬ (false = true) by decide)] at H; exact H
      clear H
      have H := H1
      clear H1
      obtain rfl := Option.some.inj H
      go_wp2
      go_ret
      exact ⟨by first | rfl | (simp; done) | (simp [*]; done), by repeat (first | exact Drawn0.refl _ | apply Drawn0.step)⟩

/-! ### impl_indices: function 112 -/
def impl_indices.l0 : Nat → List Int → Int → Int → Option (List Int)
 | 0, _, _, _ => none
 | k + 1, x3, x6, x7 => if x7 < x6 then (if x3.length < 17592186044416 then (impl_indices.l0 k (x3 ++ [x7]) x6 (wrap64 (x7 + 1))) else (none)) else (some x3)
def impl_indices.f (k : Nat) (a0 : Int) : Option (List Int) := impl_indices.l0 k (([] : List Int)) a0 0
theorem impl_indices.mono_l : ∀ k, (∀ y0 y1 y2, LeO (impl_indices.l0 k y0 y1 y2) (impl_indices.l0 (k + 1) y0 y1 y2))
 | 0 => fun _ _ _ r h => by simp [impl_indices.l0] at h
 | k + 1 => by
  have ih0 := impl_indices.mono_l k
  ·
   intro y0 y1 y2
   unfold impl_indices.l0
   repeat' first
   | (with_reducible exact ih0 _ _ _)
   | (with_reducible exact LeO.refl _)
   | (with_reducible exact LeO.none _)
   | (with_reducible refine LeO.ite ?_ ?_)
   | (with_reducible refine LeO.bind ?_ (fun _ => ?_))
   | exact ih0 _ _ _
   | exact LeO.none _
   | refine LeO.ite ?_ ?_
   | refine LeO.bind ?_ (fun _ => ?_)
theorem impl_indices.mono : ∀ a0 k, LeO (impl_indices.f k a0) (impl_indices.f (k + 1) a0) := by
 intro a0 k
 have ih0 := impl_indices.mono_l k
 unfold impl_indices.f
 repeat' first
   | (with_reducible exact ih0 _ _ _)
   | (with_reducible exact LeO.refl _)
   | (with_reducible exact LeO.none _)
   | (with_reducible refine LeO.ite ?_ ?_)
   | (with_reducible refine LeO.bind ?_ (fun _ => ?_))
   | exact ih0 _ _ _
   | exact LeO.none _
   | refine LeO.ite ?_ ?_
   | refine LeO.bind ?_ (fun _ => ?_)
set_option maxHeartbeats 8000000 in
set_option maxRecDepth 100000 in
theorem impl_indices.calls (k : Nat) (a0 : Int) (r : List Int) (w : World) (h : impl_indices.f k a0 = some r) :
  Calls Try.prog 112 #[.int .i64 a0] w fun e w' => ∃ v0_ : Value, e = .returned (v0_) ∧ Kd.R (Kd.int .i64) 3 w' w.heap.size (fun _ => True) v0_ r ∧ Below w.heap.size w w' := by
 have HB := Aside0.mk (Below.refl w.heap.size w)
 have H : (impl_indices.l0 k (([] : List Int)) a0 0) = some r := h
 clear h
 obtain ⟨y715, hy715⟩ : ∃ y_ : List Int, y_ = (([] : List Int)) := ⟨_, rfl⟩
 replace H : (impl_indices.l0 k y715 a0 0) = some r := by first | (rw [hy715]; with_reducible exact H) | (have H2_ := (Option.bind_some _ _).symm.trans H; rw [hy715]; with_reducible exact H2_) | (have H2_ := (Option.bind_some _ _).symm.trans H; with_reducible exact H2_) | with_reducible exact H | (rw [hy715]; exact H) | exact H
 have Ny715 := Aside0.mk hy715
 clear hy715
 have H' := Aside0.mk H
 clear H
 go_enter Try.func112, Try.ntmps112
 go_wp2_with (first | ((with_reducible refine gate_dst (N := 5) rfl ?_); refine Kd.R_lit (Kd.int .i64) _ 3 ?hg (N := 5) ?hd (xs := ([] : List Int)) (inner := []) (ok := fun _ => True) (okp := fun _ => True) ?hr ?hp (fun _ hk => hk) trivial (Below.refl _ _) (Nat.le_refl _) (by simp) ?_; (case hd => rfl); (case hg => rfl); (case hr => first | (go_simp; done) | (go_simp; rfl)); (case hp => exact (Reps.none _ _)); intro v716 w2 ho3 hb hg_ hnew_; clear hg_ hnew_; (first | rw [← Ny715.out] at ho3 | (simp only [Int.reduceToNat] at ho3; rw [← Ny715.out] at ho3)); have n0_ := Aside0.mk (Kd.R_lower ho3 (below_size (blq HB.out))); have n1_ := Aside0.mk (below_step (blq HB.out) hb); clear HB; have HO717 := n0_; have HB := n1_; clear n0_ n1_; clear hb ho3))
 go_loopg [3, 7] k (fun kq v3 v7 w' => ∃ (x3_1 : List Int) (x7_1 : Int), v7 = .int .i64 x7_1 ∧ Aside0 (impl_indices.l0 kq x3_1 a0 x7_1 = some r) ∧ Aside0 (kq ≤ k) ∧ Aside0 (Kd.R (Kd.int .i64) 3 w' w.heap.size (fun _ => True) v3 x3_1) ∧ Aside0 (Below w.heap.size w w'))
 case atStart => exact ⟨(y715), (0), (by first | rfl | (simp; done) | (simp [*]; done)), H', ⟨Nat.le_refl _⟩, ⟨Kd.Rq HO717.out⟩, ⟨blq HB.out⟩⟩
 case round =>
  clear H'
  try clear c1
  try clear p2
  obtain ⟨x3_1, x7_1, rfl, HA, HK1, HO_3, HB⟩ := hrel
  cases gk with
  | zero => exact absurd HA.out (by simp [impl_indices.l0])
  | succ k1 =>
   have H := HA.out
   clear HA
   simp only [impl_indices.l0] at H
   by_cases c4 : x7_1 < a0
   ·
    rw [if_pos c4] at H
    have c4b0 : decide (x7_1 < a0) = true := decide_eq_true c4
    clear c4
    by_cases c5 : x3_1.length < 17592186044416
    ·
     rw [if_pos c5] at H
     have LMc5 := Aside0.mk c5
     clear c5
     obtain ⟨y718, hy718⟩ : ∃ y_ : List Int, y_ = (x3_1 ++ [x7_1]) := ⟨_, rfl⟩
     replace H : (impl_indices.l0 k1 y718 a0 (wrap64 (x7_1 + 1))) = some r := by first | (rw [hy718]; with_reducible exact H) | (have H2_ := (Option.bind_some _ _).symm.trans H; rw [hy718]; with_reducible exact H2_) | (have H2_ := (Option.bind_some _ _).symm.trans H; with_reducible exact H2_) | with_reducible exact H | (rw [hy718]; exact H) | exact H
     have Ny718 := Aside0.mk hy718
     clear hy718
     have H' := Aside0.mk H
     clear H
     go_wp2_with (first | ((with_reducible refine gate_builtin (b := .append) (xs := #[.tmp 10, .tmp 12]) rfl ?_); at_builtin; refine Kd.R_append (Kd.int .i64) (w0 := w) w.heap.size rfl (.tmp 10) (.tmp 12) 27 3 (.int .i64 0) 8 rfl Try.underlying27 info3 rfl (by decide) (by omega) u3 x3_1 x7_1 [.int .i64 x7_1] (fun _ => True) (fun _ => False) rfl rfl ?aP (fun _ hk => hk.elim) ?aF ?aO ?aB ?aS ?aL ?_; (case aP => exact rfl); (case aB => exact (blq HB.out)); (case aF => exact (fun _ _ => trivial)); (case aO => exact (Kd.Rq HO_3.out)); (case aS => exact (below_size (blq HB.out))); (case aL => have := LMc5.out; omega); intro v719 w6 ho hb hg hat; rw [← Ny718.out] at ho; have n0_ := Aside0.mk (hb); have n1_ := Aside0.mk (ho); clear HB; clear HO_3; have HB := n0_; have HO720 := n1_; clear n0_ n1_; clear ho hb hg hat))
     go_roundg k1
     case measure => have := HK1.out; omega
     case rel => exact ⟨(y718), (wrap64 (x7_1 + 1)), (by first | rfl | (simp; done) | (simp [*]; done)), H', ⟨by have := HK1.out; omega⟩, ⟨Kd.Rq HO720.out⟩, ⟨blq HB.out⟩⟩
    ·
     rw [if_neg c5] at H
     exact absurd H (by simp)
   ·
    rw [if_neg c4] at H
    have c4b0 : decide (x7_1 < a0) = false := decide_eq_false c4
    clear c4
    obtain rfl := Option.some.inj H
    go_wp2
    go_ret
    exact ⟨_, by first | rfl | (simp [errW_none, errW_some] <;> rfl) | (simp [*, errW_none, errW_some] <;> rfl), Kd.Rq HO_3.out, blq HB.out⟩

/-! ### impl_BeatsAll_1_1: function 115 (by hand) -/
set_option maxHeartbeats 8000000 in
set_option maxRecDepth 100000 in
theorem impl_BeatsAll_1_1.calls (k : Nat) (Ba Bv : Nat) (A0 : Option Addr) (c0 : Nat) (l0 : List (List Int)) (a x : Int) (W : World) (h1 : W.cell? ⟨Ba, 0, none⟩ = some (.int .i64 a)) (h2 : W.cell? ⟨Bv, 0, none⟩ = some (.slice A0 l0.length c0)) (hr0 : Kd.C (Kd.slice 3 (Kd.int .i64)) W A0 l0.length l0) (hc0 : l0.length ≤ c0) (h : a ≠ x → (impl_beats.f k l0 a x).isSome = true) :
    Calls Try.prog 115 #[.int .i64 x, .pointer (some ⟨Ba, 0, none⟩), .pointer (some ⟨Bv, 0, none⟩)] W fun e w' => e = .returned (.bool (decide (a ≠ x) && !((impl_beats.f k l0 a x).getD false))) ∧ Below W.heap.size W w' := by
  have HB := Aside0.mk (Below.refl W.heap.size W)
  have HR0 := Aside0.mk hr0
  clear hr0
  by_cases hax : a = x
  · have hq : (decide (a ≠ x) && !((impl_beats.f k l0 a x).getD false)) = false := by simp [hax]
    rw [hq]
    clear hq h
    subst hax
    have HI := Aside0.mk (rfl : a = a)
    go_enter Try.func115, Try.ntmps115
    go_wp2
    go_ret
    exact ⟨by first | rfl | simp, blq HB.out⟩
  · obtain ⟨b, hb0⟩ := Option.isSome_iff_exists.1 (h hax)
    rw [hb0]
    have hq : (decide (a ≠ x) && !((some b).getD false)) = !b := by simp [hax]
    rw [hq]
    have HC := Aside0.mk (impl_beats.calls k A0 c0 l0 a x b W HR0.out hc0 hb0)
    clear hq h hb0
    cases b
    all_goals
      go_enter Try.func115, Try.ntmps115
      go_wp2_with (go_at_call 110; (with_reducible refine HC.out.mono ?_); rintro e w' ⟨rfl, ⟨nd, rfl⟩⟩)
      go_ret
      exact ⟨by first | rfl | (simp; done) | (simp; exact hax) | (simp [hax]; done), blq HB.out⟩

/-! ### impl_BeatsAll_1: function 113 (by hand) -/
set_option maxHeartbeats 8000000 in
set_option maxRecDepth 100000 in
theorem impl_BeatsAll_1.calls (k : Nat) (Bn Bv : Nat) (A0 : Option Addr) (c0 : Nat) (l0 : List (List Int)) (n a : Int) (ix : List Int) (w : World) (h1 : w.cell? ⟨Bn, 0, none⟩ = some (.int .i64 n)) (h2 : w.cell? ⟨Bv, 0, none⟩ = some (.slice A0 l0.length c0)) (hr0 : Kd.C (Kd.slice 3 (Kd.int .i64)) w A0 l0.length l0) (hc0 : l0.length ≤ c0) (hix : impl_indices.f k n = some ix) (h : ∀ b, b ∈ ix → a ≠ b → (impl_beats.f k l0 a b).isSome = true) :
    Calls Try.prog 113 #[.int .i64 a, .pointer (some ⟨Bn, 0, none⟩), .pointer (some ⟨Bv, 0, none⟩)] w fun e w' => e = .returned (.bool (!(ix.any fun b => decide (a ≠ b) && !((impl_beats.f k l0 a b).getD false)))) ∧ Below w.heap.size w w' := by
  have eg : ∀ args w, (callFunc 115 args).run Try.prog w = .ok (.enter 115 args) w := enters_of Try.func115 (by kernel_rfl) rfl
  have HB := Aside0.mk (Below.refl w.heap.size w)
  have HR0 := Aside0.mk hr0
  have HL1 := Aside0.mk (World.block_lt_of_cell? w _ h1)
  have HL2 := Aside0.mk (World.block_lt_of_cell? w _ h2)
  have HCON : Aside0 (∀ (W : World) (Ba : Nat) (A : Option Addr) (c : Nat), Below w.heap.size w W → W.cell? ⟨Ba, 0, none⟩ = some (.int .i64 a) → Kd.C (Kd.int .i64) W A ix.length ix →
      Calls Try.prog 114 #[.slice A ix.length c, .func (.func 115) #[] #[.pointer (some ⟨Ba, 0, none⟩), .pointer (some ⟨Bv, 0, none⟩)]] W fun e w' => e = .returned (.bool (ix.any fun b => decide (a ≠ b) && !((impl_beats.f k l0 a b).getD false))) ∧ Below w.heap.size w w') := by
    refine ⟨fun W Ba A c hb e1 hrow => ?_⟩
    have l1 := World.block_lt_of_cell? W _ e1
    have e2 := (hb.cell (p := ⟨Bv, 0, none⟩) HL2.out).trans h2
    have l2 := World.block_lt_of_cell? W _ e2
    have hq := conFuncI.calls 115 #[.pointer (some ⟨Ba, 0, none⟩), .pointer (some ⟨Bv, 0, none⟩)] (fun b => decide (a ≠ b) && !((impl_beats.f k l0 a b).getD false)) eg A c ix W hrow (fun W' x hx hb' => by
      refine (impl_BeatsAll_1_1.calls k Ba Bv A0 c0 l0 a x W' ((hb'.cell (p := ⟨Ba, 0, none⟩) l1).trans e1) ((hb'.cell (p := ⟨Bv, 0, none⟩) l2).trans e2) (Kd.C_below (Kd.C_below HR0.out hb) hb') hc0 (h x hx)).mono ?_
      rintro e w' ⟨rfl, hb2⟩
      exact ⟨rfl, below_then hb' hb'.size hb2⟩)
    refine hq.mono ?_
    rintro e w' ⟨rfl, hb2⟩
    exact ⟨rfl, below_then hb hb.size hb2⟩
  generalize (ix.any fun b => decide (a ≠ b) && !((impl_beats.f k l0 a b).getD false)) = q at HCON ⊢
  have A3 := Aside0.mk hix
  have H1 := Aside0.mk h1
  clear hix h hr0 h2 h1
  cases q
  all_goals
    go_enter Try.func113, Try.ntmps113
    go_wp2_with (first | ((with_reducible refine gate_dst (N := 3) rfl ?_); refine box_event ?hg (N := 3) ?hd (cs := #[.int .i64 a]) (t := 3) ?hr ?_; (case hd => rfl); (case hg => rfl); (case hr => first | (go_simp; done) | (go_simp; rfl)); intro gb1 hg wb1 hbox hb; have n0_ := Aside0.mk (below_step (blq HB.out) hb); have BK1 := Aside0.mk hbox; clear HB; have HB := n0_; clear n0_ hb hbox hg; have hz1 := (HB.out.cell (p := ⟨Bn, 0, none⟩) HL1.out).trans H1.out) | (go_at_call 112; (with_reducible refine (impl_indices.calls k n ix _ A3.out).mono ?_); rintro e w5 ⟨v0, rfl, ho, hb⟩; obtain ⟨ad, cp, rfl⟩ := Kd.R_slice ho; have e_ := (Kd.R_reads' ho).1; have n0_ := Aside0.mk (below_step (blq HB.out) hb); have HX := Aside0.mk (Kd.R_reads' ho).2.2; have n1_ := Aside0.mk (blk_below (bkq BK1.out) hb); clear HB BK1; have HB := n0_; have BK1 := n1_; clear n0_ n1_ hb ho) | (go_at_call 114; (with_reducible refine (HCON.out _ gb1 ad cp ?side1 ?side2 ?side3).mono ?_); (case side1 => exact blq HB.out); (case side2 => exact (blk_cell (bkq BK1.out) 0).trans rfl); (case side3 => exact Kd.Cq HX.out); rintro e w6 ⟨rfl, hb⟩; clear HB; have HB := Aside0.mk hb; clear hb))
    go_ret
    exact ⟨by first | rfl | simp, blq HB.out⟩

/-! ### impl_BeatsAll: function 52 (by hand) -/
theorem idxBy_agree (p q : Int → Bool) (l : List Int) (h : ∀ x, x ∈ l → p x = q x) : Lib.idxBy (fun _ y => p y) l 0 = Lib.idxBy (fun _ y => q y) l 0 := by
  have gen : ∀ (l : List Int) (i : Nat), (∀ x, x ∈ l → p x = q x) → Lib.idxByFrom (fun _ y => p y) (0 : Int) l i = Lib.idxByFrom (fun _ y => q y) (0 : Int) l i := by
    intro l
    induction l with
    | nil => intro i _; rfl
    | cons x r ih => intro i h; unfold Lib.idxByFrom; rw [h x (List.mem_cons_self ..), ih (i + 1) (fun y hy => h y (List.mem_cons_of_mem _ hy))]
  exact gen l 0 h
def beatAll (k : Nat) (l0 : List (List Int)) (ix : List Int) (a : Int) : Bool := !(ix.any fun b => decide (a ≠ b) && !((impl_beats.f k l0 a b).getD false))
def impl_BeatsAll.f (k : Nat) (l0 : List (List Int)) (a1 : Int) : Option (Int) := (impl_VotesOk.f k l0 a1).bind fun t => if t = true then ((impl_indices.f k a1).bind fun ix => if (ix.all fun a => ix.all fun b => decide (a = b) || (impl_beats.f k l0 a b).isSome) = true then some (Lib.idxBy (fun _ a => beatAll k l0 ix a) ix 0) else none) else some (-1)
theorem impl_BeatsAll.mono : ∀ a0 a1 k, LeO (impl_BeatsAll.f k a0 a1) (impl_BeatsAll.f (k + 1) a0 a1) := by
  intro a0 a1 k r h
  unfold impl_BeatsAll.f at h ⊢
  obtain ⟨t, h1, h⟩ := Option.bind_eq_some_iff.1 h
  rw [impl_VotesOk.mono _ _ _ _ h1, Option.bind_some]
  cases t with
  | false => exact h
  | true =>
    rw [if_pos rfl] at h ⊢
    obtain ⟨ix, h2, h⟩ := Option.bind_eq_some_iff.1 h
    rw [impl_indices.mono _ _ _ h2, Option.bind_some]
    split at h
    case isFalse => cases h
    case isTrue hs =>
      have hm : ∀ a, a ∈ ix → ∀ b, b ∈ ix → a ≠ b → impl_beats.f (k + 1) a0 a b = impl_beats.f k a0 a b ∧ (impl_beats.f k a0 a b).isSome = true := by
        intro a ha b hb hab
        have := List.all_eq_true.1 (List.all_eq_true.1 hs a ha) b hb
        rw [decide_eq_false hab, Bool.false_or] at this
        obtain ⟨y, hy⟩ := Option.isSome_iff_exists.1 this
        exact ⟨by rw [hy]; exact impl_beats.mono _ _ _ k _ hy, this⟩
      have e1 : (ix.all fun a => ix.all fun b => decide (a = b) || (impl_beats.f (k + 1) a0 a b).isSome) = true := by
        rw [List.all_eq_true]; intro a ha; rw [List.all_eq_true]; intro b hb
        by_cases hab : a = b
        · simp [hab]
        · rw [(hm a ha b hb hab).1, (hm a ha b hb hab).2, Bool.or_true]
      rw [if_pos e1, ← h]
      congr 1
      refine idxBy_agree _ _ ix (fun a ha => ?_)
      unfold beatAll
      congr 1
      rw [Bool.eq_iff_iff, List.any_eq_true, List.any_eq_true]
      have hx : ∀ b, b ∈ ix → (decide (a ≠ b) && !((impl_beats.f (k + 1) a0 a b).getD false)) = (decide (a ≠ b) && !((impl_beats.f k a0 a b).getD false)) := by
        intro b hb
        by_cases hab : a = b
        · simp [hab]
        · rw [(hm a ha b hb hab).1]
      exact ⟨fun ⟨b, hb, q⟩ => ⟨b, hb, by rw [← hx b hb]; exact q⟩, fun ⟨b, hb, q⟩ => ⟨b, hb, by rw [hx b hb]; exact q⟩⟩
set_option maxHeartbeats 8000000 in
set_option maxRecDepth 100000 in
theorem impl_BeatsAll.calls (k : Nat) (A0 : Option Addr) (c0 : Nat) (l0 : List (List Int)) (a1 : Int) (r : Int) (w : World) (hr0 : Kd.C (Kd.slice 3 (Kd.int .i64)) w A0 l0.length l0) (hc0 : l0.length ≤ c0) (h : impl_BeatsAll.f k l0 a1 = some r) :
    Calls Try.prog 52 #[.slice A0 l0.length c0, .int .i64 a1] w fun e w' => e = .returned (.int .i64 r) ∧ Below w.heap.size w w' := by
  have eg : ∀ args w, (callFunc 113 args).run Try.prog w = .ok (.enter 113 args) w := enters_of Try.func113 (by kernel_rfl) rfl
  have HR0 := Aside0.mk hr0
  have HC0 := Aside0.mk hc0
  clear hr0 hc0
  have HB := Aside0.mk (Below.refl w.heap.size w)
  unfold impl_BeatsAll.f at h
  obtain ⟨t, h1, h⟩ := Option.bind_eq_some_iff.1 h
  have A3 := Aside0.mk h1
  clear h1
  cases t with
  | false =>
    rw [if_neg (by decide)] at h
    obtain rfl := Option.some.inj h
    clear h
    go_enter Try.func52, Try.ntmps52
    go_wp2_with (first | ((with_reducible refine gate_dst (N := 2) rfl ?_); refine box_event ?hg (N := 2) ?hd (cs := #[.slice A0 l0.length c0]) (t := 60) ?hr ?_; (case hd => rfl); (case hg => rfl); (case hr => first | (go_simp; done) | (go_simp; rfl)); intro gb1 hg wb1 hbox hb; have n0_ := Aside0.mk (below_step (blq HB.out) hb); have BK1 := Aside0.mk hbox; clear HB; have HB := n0_; clear n0_ hb hbox hg) | ((with_reducible refine gate_dst (N := 3) rfl ?_); refine box_event ?hg (N := 3) ?hd (cs := #[.int .i64 a1]) (t := 3) ?hr ?_; (case hd => rfl); (case hg => rfl); (case hr => first | (go_simp; done) | (go_simp; rfl)); intro gb2 hg wb2 hbox hb; have n0_ := Aside0.mk (below_step (blq HB.out) hb); have n1_ := Aside0.mk (blk_below (bkq BK1.out) hb); have BK2 := Aside0.mk hbox; clear HB BK1; have HB := n0_; have BK1 := n1_; clear n0_ n1_ hb hbox hg; have hz1 := (blk_cell BK1.out 0).trans rfl; have hz2 := (blk_cell BK2.out 0).trans rfl) | (go_at_call 109; (with_reducible refine (impl_VotesOk.calls k A0 c0 l0 a1 false _ ?side1 ?side2 A3.out).mono ?_); (case side1 => exact Kd.Cq (Kd.C_below HR0.out HB.out)); (case side2 => exact HC0.out); rintro e w5 ⟨rfl, hb⟩; have n0_ := Aside0.mk (below_step (blq HB.out) hb); clear HB; have HB := n0_; clear n0_ hb))
    go_ret
    exact ⟨rfl, blq HB.out⟩
  | true =>
    rw [if_pos rfl] at h
    obtain ⟨ix, h2, h⟩ := Option.bind_eq_some_iff.1 h
    split at h
    case isFalse => cases h
    case isTrue hs =>
    obtain rfl := Option.some.inj h
    clear h
    have A4 := Aside0.mk h2
    have HCON : Aside0 (∀ (W : World) (Bn Bv : Nat) (A : Option Addr) (c : Nat), Below w.heap.size w W → W.cell? ⟨Bn, 0, none⟩ = some (.int .i64 a1) → W.cell? ⟨Bv, 0, none⟩ = some (.slice A0 l0.length c0) → Kd.C (Kd.int .i64) W A ix.length ix →
        Calls Try.prog 111 #[.slice A ix.length c, .func (.func 113) #[] #[.pointer (some ⟨Bn, 0, none⟩), .pointer (some ⟨Bv, 0, none⟩)]] W fun e w' => e = .returned (.int .i64 (Lib.idxBy (fun _ a => beatAll k l0 ix a) ix 0)) ∧ Below w.heap.size w w') := by
      refine ⟨fun W Bn Bv A c hb e1 e2 hrow => ?_⟩
      have l1 := World.block_lt_of_cell? W _ e1
      have l2 := World.block_lt_of_cell? W _ e2
      have hq := idxFuncI.calls 113 #[.pointer (some ⟨Bn, 0, none⟩), .pointer (some ⟨Bv, 0, none⟩)] (beatAll k l0 ix) eg A c ix W hrow (fun W' x hx hb' => by
        refine (impl_BeatsAll_1.calls k Bn Bv A0 c0 l0 a1 x ix W' ((hb'.cell (p := ⟨Bn, 0, none⟩) l1).trans e1) ((hb'.cell (p := ⟨Bv, 0, none⟩) l2).trans e2) (Kd.C_below (Kd.C_below HR0.out hb) hb') HC0.out A4.out (fun b hb2 hab => by
          have := List.all_eq_true.1 (List.all_eq_true.1 hs x hx) b hb2
          rw [decide_eq_false hab, Bool.false_or] at this
          exact this)).mono ?_
        rintro e w' ⟨rfl, hb2⟩
        exact ⟨rfl, below_then hb' hb'.size hb2⟩)
      refine hq.mono ?_
      rintro e w' ⟨rfl, hb2⟩
      exact ⟨rfl, below_then hb hb.size hb2⟩
    clear hs h2
    generalize Lib.idxBy (fun _ a => beatAll k l0 ix a) ix 0 = q at HCON ⊢
    go_enter Try.func52, Try.ntmps52
    go_wp2_with (first | ((with_reducible refine gate_dst (N := 2) rfl ?_); refine box_event ?hg (N := 2) ?hd (cs := #[.slice A0 l0.length c0]) (t := 60) ?hr ?_; (case hd => rfl); (case hg => rfl); (case hr => first | (go_simp; done) | (go_simp; rfl)); intro gb1 hg wb1 hbox hb; have n0_ := Aside0.mk (below_step (blq HB.out) hb); have BK1 := Aside0.mk hbox; clear HB; have HB := n0_; clear n0_ hb hbox hg) | ((with_reducible refine gate_dst (N := 3) rfl ?_); refine box_event ?hg (N := 3) ?hd (cs := #[.int .i64 a1]) (t := 3) ?hr ?_; (case hd => rfl); (case hg => rfl); (case hr => first | (go_simp; done) | (go_simp; rfl)); intro gb2 hg wb2 hbox hb; have n0_ := Aside0.mk (below_step (blq HB.out) hb); have n1_ := Aside0.mk (blk_below (bkq BK1.out) hb); have BK2 := Aside0.mk hbox; clear HB BK1; have HB := n0_; have BK1 := n1_; clear n0_ n1_ hb hbox hg; have hz1 := (blk_cell BK1.out 0).trans rfl; have hz2 := (blk_cell BK2.out 0).trans rfl) | (go_at_call 109; (with_reducible refine (impl_VotesOk.calls k A0 c0 l0 a1 true _ ?side1 ?side2 A3.out).mono ?_); (case side1 => exact Kd.Cq (Kd.C_below HR0.out HB.out)); (case side2 => exact HC0.out); rintro e w5 ⟨rfl, hb⟩; have n0_ := Aside0.mk (below_step (blq HB.out) hb); have n1_ := Aside0.mk (blk_below (bkq BK1.out) hb); have n2_ := Aside0.mk (blk_below (bkq BK2.out) hb); clear HB BK1 BK2; have HB := n0_; have BK1 := n1_; have BK2 := n2_; clear n0_ n1_ n2_ hb hz1 hz2; have hz1 := (blk_cell BK1.out 0).trans rfl; have hz2 := (blk_cell BK2.out 0).trans rfl) | (go_at_call 112; (with_reducible refine (impl_indices.calls k a1 ix _ A4.out).mono ?_); rintro e w6 ⟨v0, rfl, ho, hb⟩; obtain ⟨ad, cp, rfl⟩ := Kd.R_slice ho; have n0_ := Aside0.mk (below_step (blq HB.out) hb); have n1_ := Aside0.mk (blk_below (bkq BK1.out) hb); have n2_ := Aside0.mk (blk_below (bkq BK2.out) hb); have HX := Aside0.mk (Kd.R_reads' ho).2.2; clear HB BK1 BK2; have HB := n0_; have BK1 := n1_; have BK2 := n2_; clear n0_ n1_ n2_ hb ho hz1 hz2) | (go_at_call 111; (with_reducible refine (HCON.out _ gb2 gb1 ad cp ?side1 ?side2 ?side3 ?side4).mono ?_); (case side1 => exact blq HB.out); (case side2 => exact (blk_cell (bkq BK2.out) 0).trans rfl); (case side3 => exact (blk_cell (bkq BK1.out) 0).trans rfl); (case side4 => exact Kd.Cq HX.out); rintro e w7 ⟨rfl, hb⟩; clear HB; have HB := Aside0.mk hb; clear hb))
    go_ret
    exact ⟨rfl, blq HB.out⟩

/-! ### laws_FnExactBeatsAll: function 9 -/
def laws_FnExactBeatsAll.f (k : Nat) (l0 : List (List Int)) (a1 : Int) : Option (Bool) := (laws_szIntSS.f k l0 1048576).bind fun t721 => (if t721 < 0 then (some true) else ((laws_toIntSS.f k l0).bind fun t722 => ((spec_BeatsAll.f k t722 a1).bind fun t725 => ((laws_toIntSS.f k l0).bind fun t726 => ((impl_BeatsAll.f k t726 a1).bind fun t729 => (if t729 = t725 then ((laws_toIntSS.f k l0).bind fun t730 => ((laws_eqIntSS.f k t726 t730).bind fun t733 => (if t733 = true then (some true) else (some false)))) else (some false)))))))
theorem laws_FnExactBeatsAll.mono : ∀ a0 a1 k, LeO (laws_FnExactBeatsAll.f k a0 a1) (laws_FnExactBeatsAll.f (k + 1) a0 a1) := by
 intro a0 a1 k
 unfold laws_FnExactBeatsAll.f
 repeat' first
   | (with_reducible exact impl_BeatsAll.mono _ _ _)
   | (with_reducible exact laws_eqIntSS.mono _ _ _)
   | (with_reducible exact laws_szIntSS.mono _ _ _)
   | (with_reducible exact laws_toIntSS.mono _ _)
   | (with_reducible exact spec_BeatsAll.mono _ _ _)
   | (with_reducible exact LeO.refl _)
   | (with_reducible exact LeO.none _)
   | (with_reducible refine LeO.ite ?_ ?_)
   | (with_reducible refine LeO.bind ?_ (fun _ => ?_))
   | exact impl_BeatsAll.mono _ _ _
   | exact laws_eqIntSS.mono _ _ _
   | exact laws_szIntSS.mono _ _ _
   | exact laws_toIntSS.mono _ _
   | exact spec_BeatsAll.mono _ _ _
   | exact LeO.none _
   | refine LeO.ite ?_ ?_
   | refine LeO.bind ?_ (fun _ => ?_)
set_option maxHeartbeats 8000000 in
set_option maxRecDepth 100000 in
theorem laws_FnExactBeatsAll.calls (k : Nat) (A0 : Option Addr) (c0 : Nat) (l0 : List (List Int)) (a1 : Int) (r : Bool) (w : World) (hr0 : Kd.C (Kd.slice 3 (Kd.int .i64)) w A0 l0.length l0) (hc0 : l0.length ≤ c0) (h : laws_FnExactBeatsAll.f k l0 a1 = some r) :
  Calls Try.prog 9 #[.slice A0 l0.length c0, .int .i64 a1] w fun e w' => e = .returned (.bool r) ∧ Below w.heap.size w w' := by
 have HR0 := Aside0.mk hr0
 have HC0 := Aside0.mk hc0
 clear hr0 hc0
 have HB := Aside0.mk (Below.refl w.heap.size w)
 have H : ((laws_szIntSS.f k l0 1048576).bind fun t721 => (if t721 < 0 then (some true) else ((laws_toIntSS.f k l0).bind fun t722 => ((spec_BeatsAll.f k t722 a1).bind fun t725 => ((laws_toIntSS.f k l0).bind fun t726 => ((impl_BeatsAll.f k t726 a1).bind fun t729 => (if t729 = t725 then ((laws_toIntSS.f k l0).bind fun t730 => ((laws_eqIntSS.f k t726 t730).bind fun t733 => (if t733 = true then (some true) else (some false)))) else (some false)))))))) = some r := h
 clear h
 replace H := Option.bind_eq_some_iff.mp H
 obtain ⟨t721, A30, H⟩ := H
 replace H : (if t721 < 0 then (some true) else ((laws_toIntSS.f k l0).bind fun t722 => ((spec_BeatsAll.f k t722 a1).bind fun t725 => ((laws_toIntSS.f k l0).bind fun t726 => ((impl_BeatsAll.f k t726 a1).bind fun t729 => (if t729 = t725 then ((laws_toIntSS.f k l0).bind fun t730 => ((laws_eqIntSS.f k t726 t730).bind fun t733 => (if t733 = true then (some true) else (some false)))) else (some false))))))) = some r := H
 have A3 := Aside0.mk A30
 clear A30
 by_cases c4 : t721 < 0
 ·
  rw [if_pos c4] at H
  have c4b0 : decide (t721 < 0) = true := decide_eq_true c4
  clear c4
  obtain rfl := Option.some.inj H
  go_enter Try.func9, Try.ntmps9
  go_wp2_with (first | ((with_reducible refine gate_callee (f := 36) rfl ?_); refine gLq (some 11) Try.func36 #[.slice A0 l0.length c0, .int .i64 1048576] ?_; (with_reducible refine (laws_szIntSS.calls k _ _ l0 1048576 t721 _ ?side1 ?side2 A3.out).mono ?_); (case side1 => exact Kd.Cq HR0.out); (case side2 => exact HC0.out); rintro e w' ⟨rfl, ⟨nd, rfl⟩⟩; refine ⟨_, rfl, ?_⟩))
  go_ret
  exact ⟨by first | rfl | (simp [errW_none, errW_some] <;> rfl) | (simp [*, errW_none, errW_some] <;> rfl), blq HB.out⟩
 ·
  rw [if_neg c4] at H
  have c4b0 : decide (t721 < 0) = false := decide_eq_false c4
  clear c4
  replace H := Option.bind_eq_some_iff.mp H
  obtain ⟨t722, A50, H⟩ := H
  replace H : ((spec_BeatsAll.f k t722 a1).bind fun t725 => ((laws_toIntSS.f k l0).bind fun t726 => ((impl_BeatsAll.f k t726 a1).bind fun t729 => (if t729 = t725 then ((laws_toIntSS.f k l0).bind fun t730 => ((laws_eqIntSS.f k t726 t730).bind fun t733 => (if t733 = true then (some true) else (some false)))) else (some false))))) = some r := H
  have A5 := Aside0.mk A50
  clear A50
  replace H := Option.bind_eq_some_iff.mp H
  obtain ⟨t725, A60, H⟩ := H
  replace H : ((laws_toIntSS.f k l0).bind fun t726 => ((impl_BeatsAll.f k t726 a1).bind fun t729 => (if t729 = t725 then ((laws_toIntSS.f k l0).bind fun t730 => ((laws_eqIntSS.f k t726 t730).bind fun t733 => (if t733 = true then (some true) else (some false)))) else (some false)))) = some r := H
  have A6 := Aside0.mk A60
  clear A60
  replace H := Option.bind_eq_some_iff.mp H
  obtain ⟨t726, A70, H⟩ := H
  replace H : ((impl_BeatsAll.f k t726 a1).bind fun t729 => (if t729 = t725 then ((laws_toIntSS.f k l0).bind fun t730 => ((laws_eqIntSS.f k t726 t730).bind fun t733 => (if t733 = true then (some true) else (some false)))) else (some false))) = some r := H
  have A7 := Aside0.mk A70
  clear A70
  replace H := Option.bind_eq_some_iff.mp H
  obtain ⟨t729, A80, H⟩ := H
  replace H : (if t729 = t725 then ((laws_toIntSS.f k l0).bind fun t730 => ((laws_eqIntSS.f k t726 t730).bind fun t733 => (if t733 = true then (some true) else (some false)))) else (some false)) = some r := H
  have A8 := Aside0.mk A80
  clear A80
  by_cases c9 : t729 = t725
  ·
   rw [if_pos c9] at H
   have c9b0 : (t729 == t725) = true := beq_iff_eq.mpr c9
   have c9b1 : (t729 != t725) = false := bne_eq_false_iff_eq.mpr c9
   clear c9
   replace H := Option.bind_eq_some_iff.mp H
   obtain ⟨t730, A100, H⟩ := H
   replace H : ((laws_eqIntSS.f k t726 t730).bind fun t733 => (if t733 = true then (some true) else (some false))) = some r := H
   have A10 := Aside0.mk A100
   clear A100
   replace H := Option.bind_eq_some_iff.mp H
   obtain ⟨t733, A110, H⟩ := H
   replace H : (if t733 = true then (some true) else (some false)) = some r := H
   have A11 := Aside0.mk A110
   clear A110
   by_cases c12 : t733 = true
   ·
    subst c12
    have H1 : (some true) = some r := by rw [if_pos rfl] at H; exact H
    clear H
    have H := H1
    clear H1
    obtain rfl := Option.some.inj H
    go_enter Try.func9, Try.ntmps9
    go_wp2_with (first | ((with_reducible refine gate_callee (f := 36) rfl ?_); refine gLq (some 11) Try.func36 #[.slice A0 l0.length c0, .int .i64 1048576] ?_; (with_reducible refine (laws_szIntSS.calls k _ _ l0 1048576 t721 _ ?side1 ?side2 A3.out).mono ?_); (case side1 => exact Kd.Cq HR0.out); (case side2 => exact HC0.out); rintro e w' ⟨rfl, ⟨nd, rfl⟩⟩; refine ⟨_, rfl, ?_⟩) | ((with_reducible refine gate_callee (f := 38) rfl ?_); refine gLq (some 15) Try.func38 #[.slice A0 l0.length c0] ?_; (with_reducible refine (laws_toIntSS.calls k _ _ l0 t722 _ ?side1 ?side2 A5.out).mono ?_); (case side1 => exact Kd.Cq HR0.out); (case side2 => exact HC0.out); rintro e w13 ⟨v723, rfl, ho0, hb⟩; refine ⟨_, rfl, ?_⟩; have n0_ := Aside0.mk (Kd.S_lower ho0 (below_size (blq HB.out))); have n1_ := Aside0.mk (below_step (blq HB.out) hb); clear HB; have HO724 := n0_; have HB := n1_; clear n0_ n1_; (try clear hb); (try clear hb2); (try clear hk); (try clear hi); (try clear ho0); obtain ⟨Ao14, co14, eo14⟩ := Kd.S_slice HO724.out; subst eo14) | ((with_reducible refine gate_callee (f := 51) rfl ?_); refine gLq (some 17) Try.func51 #[.slice Ao14 t722.length co14, .int .i64 a1] ?_; (with_reducible refine (spec_BeatsAll.calls k _ _ t722 a1 t725 _ ?side1 ?side2 A6.out).mono ?_); (case side1 => repeat (first | exact (Kd.S_reads' HO724.out).2.2 | (with_reducible refine Kd.C_alloc ?_ _) | (with_reducible refine Kd.C_drewN ?_ _) | (with_reducible refine Kd.C_drew ?_))); (case side2 => exact (Kd.S_reads' HO724.out).2.1); rintro e w' ⟨rfl, ⟨nd, rfl⟩⟩; refine ⟨_, rfl, ?_⟩) | ((with_reducible refine gate_callee (f := 38) rfl ?_); refine gLq (some 19) Try.func38 #[.slice A0 l0.length c0] ?_; (with_reducible refine (laws_toIntSS.calls k _ _ l0 t726 _ ?side1 ?side2 A7.out).mono ?_); (case side1 => exact Kd.Cq (Kd.C_below HR0.out (blq HB.out))); (case side2 => exact HC0.out); rintro e w15 ⟨v727, rfl, ho0, hb⟩; refine ⟨_, rfl, ?_⟩; have n0_ := Aside0.mk (Kd.S_elder' (by (with_reducible repeat (first | apply Kd.S_alloc | apply Kd.S_drewN | apply Kd.S_drew)); exact HO724.out) (Kd.S_base ho0) hb); have n1_ := Aside0.mk (Kd.S_lower (Kd.S_new' ho0 (Kd.S_lt (by (with_reducible repeat (first | apply Kd.S_alloc | apply Kd.S_drewN | apply Kd.S_drew)); exact HO724.out))) (below_size (blq HB.out))); have n2_ := Aside0.mk (below_step (blq HB.out) hb); clear HO724; clear HB; have HO724 := n0_; have HO728 := n1_; have HB := n2_; clear n0_ n1_ n2_; (try clear hb); (try clear hb2); (try clear hk); (try clear hi); (try clear ho0); obtain ⟨Ao16, co16, eo16⟩ := Kd.S_slice HO728.out; subst eo16) | ((with_reducible refine gate_callee (f := 52) rfl ?_); refine gLq (some 22) Try.func52 #[.slice Ao16 t726.length co16, .int .i64 a1] ?_; (with_reducible refine (impl_BeatsAll.calls k _ _ t726 a1 t729 _ ?side1 ?side2 A8.out).mono ?_); (case side1 => repeat (first | exact (Kd.S_reads' HO728.out).2.2 | (with_reducible refine Kd.C_alloc ?_ _) | (with_reducible refine Kd.C_drewN ?_ _) | (with_reducible refine Kd.C_drew ?_))); (case side2 => exact (Kd.S_reads' HO728.out).2.1); rintro e w17 ⟨rfl, hb⟩; refine ⟨_, rfl, ?_⟩; have n0_ := Aside0.mk (Kd.S_below (by (with_reducible repeat (first | apply Kd.S_alloc | apply Kd.S_drewN | apply Kd.S_drew)); exact HO724.out) hb); have n1_ := Aside0.mk (Kd.S_below (by (with_reducible repeat (first | apply Kd.S_alloc | apply Kd.S_drewN | apply Kd.S_drew)); exact HO728.out) hb); have n2_ := Aside0.mk (below_step (blq HB.out) hb); clear HO724; clear HO728; clear HB; have HO724 := n0_; have HO728 := n1_; have HB := n2_; clear n0_ n1_ n2_; (try clear hb); (try clear hb2); (try clear hk); (try clear hi)) | ((with_reducible refine gate_callee (f := 38) rfl ?_); refine gLq (some 28) Try.func38 #[.slice A0 l0.length c0] ?_; (with_reducible refine (laws_toIntSS.calls k _ _ l0 t730 _ ?side1 ?side2 A10.out).mono ?_); (case side1 => exact Kd.Cq (Kd.C_below HR0.out HB.out)); (case side2 => exact HC0.out); rintro e w18 ⟨v731, rfl, ho0, hb⟩; refine ⟨_, rfl, ?_⟩; have n0_ := Aside0.mk (Kd.S_elder' (by (with_reducible repeat (first | apply Kd.S_alloc | apply Kd.S_drewN | apply Kd.S_drew)); exact HO724.out) (Kd.S_base ho0) hb); have n1_ := Aside0.mk (Kd.S_elder' (by (with_reducible repeat (first | apply Kd.S_alloc | apply Kd.S_drewN | apply Kd.S_drew)); exact HO728.out) (Kd.S_base ho0) hb); have n2_ := Aside0.mk (Kd.S_lower (Kd.S_new' (Kd.S_new' ho0 (Kd.S_lt (by (with_reducible repeat (first | apply Kd.S_alloc | apply Kd.S_drewN | apply Kd.S_drew)); exact HO724.out))) (Kd.S_lt (by (with_reducible repeat (first | apply Kd.S_alloc | apply Kd.S_drewN | apply Kd.S_drew)); exact HO728.out))) (below_size (blq HB.out))); have n3_ := Aside0.mk (below_step (blq HB.out) hb); clear HO724; clear HO728; clear HB; have HO724 := n0_; have HO728 := n1_; have HO732 := n2_; have HB := n3_; clear n0_ n1_ n2_ n3_; (try clear hb); (try clear hb2); (try clear hk); (try clear hi); (try clear ho0); obtain ⟨Ao19, co19, eo19⟩ := Kd.S_slice HO732.out; subst eo19) | ((with_reducible refine gate_callee (f := 40) rfl ?_); refine gLq (some 29) Try.func40 #[.slice Ao16 t726.length co16, .slice Ao19 t730.length co19] ?_; (with_reducible refine (laws_eqIntSS.calls k _ _ t726 _ _ t730 true _ ?side1 ?side2 ?side3 ?side4 A11.out).mono ?_); (case side1 => repeat (first | exact (Kd.S_reads' HO728.out).2.2 | (with_reducible refine Kd.C_alloc ?_ _) | (with_reducible refine Kd.C_drewN ?_ _) | (with_reducible refine Kd.C_drew ?_))); (case side2 => exact (Kd.S_reads' HO728.out).2.1); (case side3 => repeat (first | exact (Kd.S_reads' HO732.out).2.2 | (with_reducible refine Kd.C_alloc ?_ _) | (with_reducible refine Kd.C_drewN ?_ _) | (with_reducible refine Kd.C_drew ?_))); (case side4 => exact (Kd.S_reads' HO732.out).2.1); rintro e w' ⟨rfl, ⟨nd, rfl⟩⟩; refine ⟨_, rfl, ?_⟩))
    go_ret
    exact ⟨by first | rfl | (simp [errW_none, errW_some] <;> rfl) | (simp [*, errW_none, errW_some] <;> rfl), blq HB.out⟩
   ·
    replace c12 := Bool.eq_false_iff.mpr c12
    subst c12
    have H1 : (some false) = some r := by rw [if_neg (show ¬ (false = true) by decide)] at H; exact H
    clear H
    have H := H1
    clear H1
    obtain rfl := Option.some.inj H
    go_enter Try.func9, Try.ntmps9
    go_wp2_with (first | ((with_reducible refine gate_callee (f := 36) rfl ?_); refine gLq (some 11) Try.func36 #[.slice A0 l0.length c0, .int .i64 1048576] ?_; (with_reducible refine (laws_szIntSS.calls k _ _ l0 1048576 t721 _ ?side1 ?side2 A3.out).mono ?_); (case side1 => exact Kd.Cq HR0.out); (case side2 => exact HC0.out); rintro e w' ⟨rfl, ⟨nd, rfl⟩⟩; refine ⟨_, rfl, ?_⟩) | ((with_reducible refine gate_callee (f := 38) rfl ?_); refine gLq (some 15) Try.func38 #[.slice A0 l0.length c0] ?_; (with_reducible refine (laws_toIntSS.calls k _ _ l0 t722 _ ?side1 ?side2 A5.out).mono ?_); (case side1 => exact Kd.Cq HR0.out); (case side2 => exact HC0.out); rintro e w20 ⟨v723, rfl, ho0, hb⟩; refine ⟨_, rfl, ?_⟩; have n0_ := Aside0.mk (Kd.S_lower ho0 (below_size (blq HB.out))); have n1_ := Aside0.mk (below_step (blq HB.out) hb); clear HB; have HO724 := n0_; have HB := n1_; clear n0_ n1_; (try clear hb); (try clear hb2); (try clear hk); (try clear hi); (try clear ho0); obtain ⟨Ao21, co21, eo21⟩ := Kd.S_slice HO724.out; subst eo21) | ((with_reducible refine gate_callee (f := 51) rfl ?_); refine gLq (some 17) Try.func51 #[.slice Ao21 t722.length co21, .int .i64 a1] ?_; (with_reducible refine (spec_BeatsAll.calls k _ _ t722 a1 t725 _ ?side1 ?side2 A6.out).mono ?_); (case side1 => repeat (first | exact (Kd.S_reads' HO724.out).2.2 | (with_reducible refine Kd.C_alloc ?_ _) | (with_reducible refine Kd.C_drewN ?_ _) | (with_reducible refine Kd.C_drew ?_))); (case side2 => exact (Kd.S_reads' HO724.out).2.1); rintro e w' ⟨rfl, ⟨nd, rfl⟩⟩; refine ⟨_, rfl, ?_⟩) | ((with_reducible refine gate_callee (f := 38) rfl ?_); refine gLq (some 19) Try.func38 #[.slice A0 l0.length c0] ?_; (with_reducible refine (laws_toIntSS.calls k _ _ l0 t726 _ ?side1 ?side2 A7.out).mono ?_); (case side1 => exact Kd.Cq (Kd.C_below HR0.out (blq HB.out))); (case side2 => exact HC0.out); rintro e w22 ⟨v727, rfl, ho0, hb⟩; refine ⟨_, rfl, ?_⟩; have n0_ := Aside0.mk (Kd.S_elder' (by (with_reducible repeat (first | apply Kd.S_alloc | apply Kd.S_drewN | apply Kd.S_drew)); exact HO724.out) (Kd.S_base ho0) hb); have n1_ := Aside0.mk (Kd.S_lower (Kd.S_new' ho0 (Kd.S_lt (by (with_reducible repeat (first | apply Kd.S_alloc | apply Kd.S_drewN | apply Kd.S_drew)); exact HO724.out))) (below_size (blq HB.out))); have n2_ := Aside0.mk (below_step (blq HB.out) hb); clear HO724; clear HB; have HO724 := n0_; have HO728 := n1_; have HB := n2_; clear n0_ n1_ n2_; (try clear hb); (try clear hb2); (try clear hk); (try clear hi); (try clear ho0); obtain ⟨Ao23, co23, eo23⟩ := Kd.S_slice HO728.out; subst eo23) | ((with_reducible refine gate_callee (f := 52) rfl ?_); refine gLq (some 22) Try.func52 #[.slice Ao23 t726.length co23, .int .i64 a1] ?_; (with_reducible refine (impl_BeatsAll.calls k _ _ t726 a1 t729 _ ?side1 ?side2 A8.out).mono ?_); (case side1 => repeat (first | exact (Kd.S_reads' HO728.out).2.2 | (with_reducible refine Kd.C_alloc ?_ _) | (with_reducible refine Kd.C_drewN ?_ _) | (with_reducible refine Kd.C_drew ?_))); (case side2 => exact (Kd.S_reads' HO728.out).2.1); rintro e w24 ⟨rfl, hb⟩; refine ⟨_, rfl, ?_⟩; have n0_ := Aside0.mk (Kd.S_below (by (with_reducible repeat (first | apply Kd.S_alloc | apply Kd.S_drewN | apply Kd.S_drew)); exact HO724.out) hb); have n1_ := Aside0.mk (Kd.S_below (by (with_reducible repeat (first | apply Kd.S_alloc | apply Kd.S_drewN | apply Kd.S_drew)); exact HO728.out) hb); have n2_ := Aside0.mk (below_step (blq HB.out) hb); clear HO724; clear HO728; clear HB; have HO724 := n0_; have HO728 := n1_; have HB := n2_; clear n0_ n1_ n2_; (try clear hb); (try clear hb2); (try clear hk); (try clear hi)) | ((with_reducible refine gate_callee (f := 38) rfl ?_); refine gLq (some 28) Try.func38 #[.slice A0 l0.length c0] ?_; (with_reducible refine (laws_toIntSS.calls k _ _ l0 t730 _ ?side1 ?side2 A10.out).mono ?_); (case side1 => exact Kd.Cq (Kd.C_below HR0.out HB.out)); (case side2 => exact HC0.out); rintro e w25 ⟨v731, rfl, ho0, hb⟩; refine ⟨_, rfl, ?_⟩; have n0_ := Aside0.mk (Kd.S_elder' (by (with_reducible repeat (first | apply Kd.S_alloc | apply Kd.S_drewN | apply Kd.S_drew)); exact HO724.out) (Kd.S_base ho0) hb); have n1_ := Aside0.mk (Kd.S_elder' (by (with_reducible repeat (first | apply Kd.S_alloc | apply Kd.S_drewN | apply Kd.S_drew)); exact HO728.out) (Kd.S_base ho0) hb); have n2_ := Aside0.mk (Kd.S_lower (Kd.S_new' (Kd.S_new' ho0 (Kd.S_lt (by (with_reducible repeat (first | apply Kd.S_alloc | apply Kd.S_drewN | apply Kd.S_drew)); exact HO724.out))) (Kd.S_lt (by (with_reducible repeat (first | apply Kd.S_alloc | apply Kd.S_drewN | apply Kd.S_drew)); exact HO728.out))) (below_size (blq HB.out))); have n3_ := Aside0.mk (below_step (blq HB.out) hb); clear HO724; clear HO728; clear HB; have HO724 := n0_; have HO728 := n1_; have HO732 := n2_; have HB := n3_; clear n0_ n1_ n2_ n3_; (try clear hb); (try clear hb2); (try clear hk); (try clear hi); (try clear ho0); obtain ⟨Ao26, co26, eo26⟩ := Kd.S_slice HO732.out; subst eo26) | ((with_reducible refine gate_callee (f := 40) rfl ?_); refine gLq (some 29) Try.func40 #[.slice Ao23 t726.length co23, .slice Ao26 t730.length co26] ?_; (with_reducible refine (laws_eqIntSS.calls k _ _ t726 _ _ t730 false _ ?side1 ?side2 ?side3 ?side4 A11.out).mono ?_); (case side1 => repeat (first | exact (Kd.S_reads' HO728.out).2.2 | (with_reducible refine Kd.C_alloc ?_ _) | (with_reducible refine Kd.C_drewN ?_ _) | (with_reducible refine Kd.C_drew ?_))); (case side2 => exact (Kd.S_reads' HO728.out).2.1); (case side3 => repeat (first | exact (Kd.S_reads' HO732.out).2.2 | (with_reducible refine Kd.C_alloc ?_ _) | (with_reducible refine Kd.C_drewN ?_ _) | (with_reducible refine Kd.C_drew ?_))); (case side4 => exact (Kd.S_reads' HO732.out).2.1); rintro e w' ⟨rfl, ⟨nd, rfl⟩⟩; refine ⟨_, rfl, ?_⟩))
    go_ret
    exact ⟨by first | rfl | (simp [errW_none, errW_some] <;> rfl) | (simp [*, errW_none, errW_some] <;> rfl), blq HB.out⟩
  ·
   rw [if_neg c9] at H
   have c9b0 : (t729 == t725) = false := beq_eq_false_iff_ne.mpr c9
   have c9b1 : (t729 != t725) = true := bne_iff_ne.mpr c9
   obtain rfl := Option.some.inj H
   go_enter Try.func9, Try.ntmps9
   go_wp2_with (first | ((with_reducible refine gate_callee (f := 36) rfl ?_); refine gLq (some 11) Try.func36 #[.slice A0 l0.length c0, .int .i64 1048576] ?_; (with_reducible refine (laws_szIntSS.calls k _ _ l0 1048576 t721 _ ?side1 ?side2 A3.out).mono ?_); (case side1 => exact Kd.Cq HR0.out); (case side2 => exact HC0.out); rintro e w' ⟨rfl, ⟨nd, rfl⟩⟩; refine ⟨_, rfl, ?_⟩) | ((with_reducible refine gate_callee (f := 38) rfl ?_); refine gLq (some 15) Try.func38 #[.slice A0 l0.length c0] ?_; (with_reducible refine (laws_toIntSS.calls k _ _ l0 t722 _ ?side1 ?side2 A5.out).mono ?_); (case side1 => exact Kd.Cq HR0.out); (case side2 => exact HC0.out); rintro e w27 ⟨v723, rfl, ho0, hb⟩; refine ⟨_, rfl, ?_⟩; have n0_ := Aside0.mk (Kd.S_lower ho0 (below_size (blq HB.out))); have n1_ := Aside0.mk (below_step (blq HB.out) hb); clear HB; have HO724 := n0_; have HB := n1_; clear n0_ n1_; (try clear hb); (try clear hb2); (try clear hk); (try clear hi); (try clear ho0); obtain ⟨Ao28, co28, eo28⟩ := Kd.S_slice HO724.out; subst eo28) | ((with_reducible refine gate_callee (f := 51) rfl ?_); refine gLq (some 17) Try.func51 #[.slice Ao28 t722.length co28, .int .i64 a1] ?_; (with_reducible refine (spec_BeatsAll.calls k _ _ t722 a1 t725 _ ?side1 ?side2 A6.out).mono ?_); (case side1 => repeat (first | exact (Kd.S_reads' HO724.out).2.2 | (with_reducible refine Kd.C_alloc ?_ _) | (with_reducible refine Kd.C_drewN ?_ _) | (with_reducible refine Kd.C_drew ?_))); (case side2 => exact (Kd.S_reads' HO724.out).2.1); rintro e w' ⟨rfl, ⟨nd, rfl⟩⟩; refine ⟨_, rfl, ?_⟩) | ((with_reducible refine gate_callee (f := 38) rfl ?_); refine gLq (some 19) Try.func38 #[.slice A0 l0.length c0] ?_; (with_reducible refine (laws_toIntSS.calls k _ _ l0 t726 _ ?side1 ?side2 A7.out).mono ?_); (case side1 => exact Kd.Cq (Kd.C_below HR0.out (blq HB.out))); (case side2 => exact HC0.out); rintro e w29 ⟨v727, rfl, ho0, hb⟩; refine ⟨_, rfl, ?_⟩; have n0_ := Aside0.mk (Kd.S_elder' (by (with_reducible repeat (first | apply Kd.S_alloc | apply Kd.S_drewN | apply Kd.S_drew)); exact HO724.out) (Kd.S_base ho0) hb); have n1_ := Aside0.mk (Kd.S_lower (Kd.S_new' ho0 (Kd.S_lt (by (with_reducible repeat (first | apply Kd.S_alloc | apply Kd.S_drewN | apply Kd.S_drew)); exact HO724.out))) (below_size (blq HB.out))); have n2_ := Aside0.mk (below_step (blq HB.out) hb); clear HO724; clear HB; have HO724 := n0_; have HO728 := n1_; have HB := n2_; clear n0_ n1_ n2_; (try clear hb); (try clear hb2); (try clear hk); (try clear hi); (try clear ho0); obtain ⟨Ao30, co30, eo30⟩ := Kd.S_slice HO728.out; subst eo30) | ((with_reducible refine gate_callee (f := 52) rfl ?_); refine gLq (some 22) Try.func52 #[.slice Ao30 t726.length co30, .int .i64 a1] ?_; (with_reducible refine (impl_BeatsAll.calls k _ _ t726 a1 t729 _ ?side1 ?side2 A8.out).mono ?_); (case side1 => repeat (first | exact (Kd.S_reads' HO728.out).2.2 | (with_reducible refine Kd.C_alloc ?_ _) | (with_reducible refine Kd.C_drewN ?_ _) | (with_reducible refine Kd.C_drew ?_))); (case side2 => exact (Kd.S_reads' HO728.out).2.1); rintro e w31 ⟨rfl, hb⟩; refine ⟨_, rfl, ?_⟩; have n0_ := Aside0.mk (Kd.S_below (by (with_reducible repeat (first | apply Kd.S_alloc | apply Kd.S_drewN | apply Kd.S_drew)); exact HO724.out) hb); have n1_ := Aside0.mk (Kd.S_below (by (with_reducible repeat (first | apply Kd.S_alloc | apply Kd.S_drewN | apply Kd.S_drew)); exact HO728.out) hb); have n2_ := Aside0.mk (below_step (blq HB.out) hb); clear HO724; clear HO728; clear HB; have HO724 := n0_; have HO728 := n1_; have HB := n2_; clear n0_ n1_ n2_; (try clear hb); (try clear hb2); (try clear hk); (try clear hi)))
   go_ret
   exact ⟨by first | rfl | (simp [errW_none, errW_some] <;> rfl) | (simp [*, errW_none, errW_some] <;> rfl), blq HB.out⟩

/-- What is left to prove of laws_FnExactBeatsAll: over numbers and lists alone. -/
def laws_FnExactBeatsAll.Pure : Prop := ∀ (l0 : List (List Int)) (a1 : Int), (Told.OkL (Told.OkL Told.I64)) l0 → Told.I64 a1 → ∃ k, laws_FnExactBeatsAll.f k l0 a1 = some true

end Go.Proofs.Ytnlioefgpgamdaa.Q
