-- Written for this claim by wip/xprint.py of this repository (by way of the kit's print); Lean checks every line.
import Derived.Test.YtnlioefgpgamdaaQ0
import Derived.Test.YtnlioefgpgamdaaQ26
import Derived.Test.YtnlioefgpgamdaaQ27
namespace Go.Proofs.Ytnlioefgpgamdaa.Q
open Go.RowKit Go.Proofs.YtnlioefgpgamdaaW.PrintWords Go.Proofs.YtnlioefgpgamdaaW.PrintLast Go.Proofs.YtnlioefgpgamdaaW.PrintMore
attribute [local go_sem] max2_int min2_int max_two min_two max_three min_three max_four min_four   -- for this text's walks alone
set_option linter.unusedVariables false
set_option linter.unusedSimpArgs false

/-! ### spec_PointsOf: function 98 -/
mutual
def spec_PointsOf.l0 : Nat → List (List Int) → Int → List Int → Int → Option (List Int)
 | 0, _, _, _, _ => none
 | k + 1, x0, x1, x5, x6 => if x6 < (x0.length : Int) then (spec_PointsOf.l1 k x0 x1 x5 x6 0) else (some x5)
def spec_PointsOf.l1 : Nat → List (List Int) → Int → List Int → Int → Int → Option (List Int)
 | 0, _, _, _, _, _ => none
 | k + 1, x0, x1, x5, x6, x7 => if x7 < x1 then (if 0 ≤ x6 then (if x6 < (x0.length : Int) then (if 0 ≤ x7 then (if x7 < ((rd_L3 x0 x6).length : Int) then (if 0 ≤ (rd (rd_L3 x0 x6) x7) then (if (rd (rd_L3 x0 x6) x7) < (x5.length : Int) then (spec_PointsOf.l1 k x0 x1 (x5.set ((rd (rd_L3 x0 x6) x7) : Int).toNat (wrap64 ((wrap64 ((wrap64 ((rd x5 (rd (rd_L3 x0 x6) x7)) + x1)) - 1)) - x7))) x6 (wrap64 (x7 + 1))) else (none)) else (none)) else (none)) else (none)) else (none)) else (none)) else (spec_PointsOf.l0 k x0 x1 x5 (wrap64 (x6 + 1)))
end
def spec_PointsOf.f (k : Nat) (l0 : List (List Int)) (a1 : Int) : Option (List Int) := (spec_VotesOk.f k l0 a1).bind fun t456 => (if t456 = true then (if 0 ≤ a1 then (if (a1 : Int).toNat ≤ 35184372088832 then (spec_PointsOf.l0 k l0 a1 (List.replicate (a1 : Int).toNat 0) 0) else (none)) else (none)) else (some (([] : List Int))))
theorem spec_PointsOf.mono_l : ∀ k, (∀ y0 y1 y2 y3, LeO (spec_PointsOf.l0 k y0 y1 y2 y3) (spec_PointsOf.l0 (k + 1) y0 y1 y2 y3)) ∧ (∀ y0 y1 y2 y3 y4, LeO (spec_PointsOf.l1 k y0 y1 y2 y3 y4) (spec_PointsOf.l1 (k + 1) y0 y1 y2 y3 y4))
 | 0 => ⟨fun _ _ _ _ r h => by simp [spec_PointsOf.l0] at h, fun _ _ _ _ _ r h => by simp [spec_PointsOf.l1] at h⟩
 | k + 1 => by
  obtain ⟨ih0, ih1⟩ := spec_PointsOf.mono_l k
  refine ⟨?_, ?_⟩
  ·
   intro y0 y1 y2 y3
   unfold spec_PointsOf.l0
   repeat' first
   | (with_reducible exact ih0 _ _ _ _)
   | (with_reducible exact ih1 _ _ _ _ _)
   | (with_reducible exact spec_VotesOk.mono _ _ _)
   | (with_reducible exact LeO.refl _)
   | (with_reducible exact LeO.none _)
   | (with_reducible refine LeO.ite ?_ ?_)
   | (with_reducible refine LeO.bind ?_ (fun _ => ?_))
   | exact ih0 _ _ _ _
   | exact ih1 _ _ _ _ _
   | exact spec_VotesOk.mono _ _ _
   | exact LeO.none _
   | refine LeO.ite ?_ ?_
   | refine LeO.bind ?_ (fun _ => ?_)
  ·
   intro y0 y1 y2 y3 y4
   unfold spec_PointsOf.l1
   repeat' first
   | (with_reducible exact ih0 _ _ _ _)
   | (with_reducible exact ih1 _ _ _ _ _)
   | (with_reducible exact spec_VotesOk.mono _ _ _)
   | (with_reducible exact LeO.refl _)
   | (with_reducible exact LeO.none _)
   | (with_reducible refine LeO.ite ?_ ?_)
   | (with_reducible refine LeO.bind ?_ (fun _ => ?_))
   | exact ih0 _ _ _ _
   | exact ih1 _ _ _ _ _
   | exact spec_VotesOk.mono _ _ _
   | exact LeO.none _
   | refine LeO.ite ?_ ?_
   | refine LeO.bind ?_ (fun _ => ?_)
theorem spec_PointsOf.mono : ∀ a0 a1 k, LeO (spec_PointsOf.f k a0 a1) (spec_PointsOf.f (k + 1) a0 a1) := by
 intro a0 a1 k
 obtain ⟨ih0, ih1⟩ := spec_PointsOf.mono_l k
 unfold spec_PointsOf.f
 repeat' first
   | (with_reducible exact ih0 _ _ _ _)
   | (with_reducible exact ih1 _ _ _ _ _)
   | (with_reducible exact spec_VotesOk.mono _ _ _)
   | (with_reducible exact LeO.refl _)
   | (with_reducible exact LeO.none _)
   | (with_reducible refine LeO.ite ?_ ?_)
   | (with_reducible refine LeO.bind ?_ (fun _ => ?_))
   | exact ih0 _ _ _ _
   | exact ih1 _ _ _ _ _
   | exact spec_VotesOk.mono _ _ _
   | exact LeO.none _
   | refine LeO.ite ?_ ?_
   | refine LeO.bind ?_ (fun _ => ?_)
set_option maxHeartbeats 8000000 in
set_option maxRecDepth 100000 in
theorem spec_PointsOf.calls (k : Nat) (A0 : Option Addr) (c0 : Nat) (l0 : List (List Int)) (a1 : Int) (r : List Int) (w : World) (hr0 : Kd.C (Kd.slice 3 (Kd.int .i64)) w A0 l0.length l0) (hc0 : l0.length ≤ c0) (h : spec_PointsOf.f k l0 a1 = some r) :
  Calls Try.prog 98 #[.slice A0 l0.length c0, .int .i64 a1] w fun e w' => ∃ v0_ : Value, e = .returned (v0_) ∧ Kd.R (Kd.int .i64) 3 w' w.heap.size (fun _ => True) v0_ r ∧ Below w.heap.size w w' := by
 have HR0 := Aside0.mk hr0
 have HC0 := Aside0.mk hc0
 clear hr0 hc0
 have HB := Aside0.mk (Below.refl w.heap.size w)
 have H : ((spec_VotesOk.f k l0 a1).bind fun t456 => (if t456 = true then (if 0 ≤ a1 then (if (a1 : Int).toNat ≤ 35184372088832 then (spec_PointsOf.l0 k l0 a1 (List.replicate (a1 : Int).toNat 0) 0) else (none)) else (none)) else (some (([] : List Int))))) = some r := h
 clear h
 replace H := Option.bind_eq_some_iff.mp H
 obtain ⟨t456, A30, H⟩ := H
 replace H : (if t456 = true then (if 0 ≤ a1 then (if (a1 : Int).toNat ≤ 35184372088832 then (spec_PointsOf.l0 k l0 a1 (List.replicate (a1 : Int).toNat 0) 0) else (none)) else (none)) else (some (([] : List Int)))) = some r := H
 have A3 := Aside0.mk A30
 clear A30
 by_cases c4 : t456 = true
 ·
  subst c4
  have H1 : (if 0 ≤ a1 then (if (a1 : Int).toNat ≤ 35184372088832 then (spec_PointsOf.l0 k l0 a1 (List.replicate (a1 : Int).toNat 0) 0) else (none)) else (none)) = some r := by rw [if_pos rfl] at H; exact H
  clear H
  have H := H1
  clear H1
  by_cases c5 : 0 ≤ a1
  ·
   rw [if_pos c5] at H
   have c5b0 := eq_true c5
   have c5b1 : decide (0 ≤ a1) = true := decide_eq_true c5
   clear c5
   by_cases c6 : (a1 : Int).toNat ≤ 35184372088832
   ·
    rw [if_pos c6] at H
    have c6b0 := eq_true c6
    have c6b1 : decide ((a1 : Int).toNat ≤ 35184372088832) = true := decide_eq_true c6
    clear c6
    obtain ⟨y460, hy460⟩ : ∃ y_ : List Int, y_ = (List.replicate (a1 : Int).toNat 0) := ⟨_, rfl⟩
    replace H : (spec_PointsOf.l0 k l0 a1 y460 0) = some r := by first | (rw [hy460]; with_reducible exact H) | (have H2_ := (Option.bind_some _ _).symm.trans H; rw [hy460]; with_reducible exact H2_) | (have H2_ := (Option.bind_some _ _).symm.trans H; with_reducible exact H2_) | with_reducible exact H | (rw [hy460]; exact H) | exact H
    have Ny460 := Aside0.mk hy460
    clear hy460
    have H' := Aside0.mk H
    clear H
    go_enter Try.func98, Try.ntmps98
    go_wp2_with (first | ((with_reducible refine gate_callee (f := 107) rfl ?_); refine gLq (some 11) Try.func107 #[.slice A0 l0.length c0, .int .i64 a1] ?_; (with_reducible refine (spec_VotesOk.calls k _ _ l0 a1 true _ ?side1 ?side2 A3.out).mono ?_); (case side1 => exact Kd.Cq HR0.out); (case side2 => exact HC0.out); rintro e w' ⟨rfl, ⟨nd, rfl⟩⟩; refine ⟨_, rfl, ?_⟩) | ((with_reducible refine gate_dst (N := 15) rfl ?_); refine Kd.R_make (Kd.int .i64) _ 3 rfl (N := 15) rfl 27 _ _ rfl a1 rfl rfl Try.underlying27 (.int .i64 0) 8 info3 rfl (by decide) (by omega) 0 (ok := fun _ => True) (okp := fun _ => True) rfl (fun _ hk => hk) trivial (of_decide_eq_true (by first | (with_reducible assumption) | assumption)) (Nat.le_trans (Nat.mul_le_mul_right _ (of_decide_eq_true (by first | (with_reducible assumption) | assumption) : a1.toNat ≤ 35184372088832)) (by omega)) (Below.refl _ _) (Nat.le_refl _) ?_; intro v461 w7 ho8 hb hg_ hnew_; clear hg_ hnew_; (first | rw [← Ny460.out] at ho8 | (simp only [Int.reduceToNat] at ho8; rw [← Ny460.out] at ho8)); have n0_ := Aside0.mk (Kd.R_lower ho8 (below_size (blq HB.out))); have n1_ := Aside0.mk (below_step (blq HB.out) hb); clear HB; have HO462 := n0_; have HB := n1_; clear n0_ n1_; clear hb ho8))
    go_loopg [6] k (fun kq v6 w' => ∃ (x5_1 : List Int) (x6_1 : Int), v6 = .int .i64 x6_1 ∧ Aside0 (spec_PointsOf.l0 kq l0 a1 x5_1 x6_1 = some r) ∧ Aside0 (kq ≤ k) ∧ Aside0 (Kd.R (Kd.int .i64) 3 w' w.heap.size (fun _ => True) v461 x5_1) ∧ Aside0 (Below w.heap.size w w'))
    case atStart => exact ⟨(y460), (0), (by first | rfl | (simp; done) | (simp [*]; done)), H', ⟨Nat.le_refl _⟩, ⟨Kd.Rq HO462.out⟩, ⟨blq HB.out⟩⟩
    case round =>
     clear H'
     try clear c1
     try clear p2
     try clear c4
     try clear c5
     try clear c5b0
     try clear c5b1
     try clear c6
     try clear c6b0
     try clear c6b1
     obtain ⟨x5_1, x6_1, rfl, HA, HK1, HO_5, HB⟩ := hrel
     cases gk with
     | zero => exact absurd HA.out (by simp [spec_PointsOf.l0])
     | succ k1 =>
      have H := HA.out
      clear HA
      simp only [spec_PointsOf.l0] at H
      by_cases c9 : x6_1 < (l0.length : Int)
      ·
       rw [if_pos c9] at H
       have c9b0 : decide (x6_1 < (l0.length : Int)) = true := decide_eq_true c9
       clear c9
       have H' := Aside0.mk H
       clear H
       go_wp2
       go_loopg [7] k1 (fun kq v7 w' => ∃ (x5_2 : List Int) (x7_2 : Int), v7 = .int .i64 x7_2 ∧ Aside0 (spec_PointsOf.l1 kq l0 a1 x5_2 x6_1 x7_2 = some r) ∧ Aside0 (kq ≤ k1) ∧ Aside0 (Kd.R (Kd.int .i64) 3 w' w.heap.size (fun _ => True) v461 x5_2) ∧ Aside0 (Below w.heap.size w w'))
       case atStart => exact ⟨(x5_1), (0), (by first | rfl | (simp; done) | (simp [*]; done)), H', ⟨Nat.le_refl _⟩, ⟨Kd.Rq HO_5.out⟩, ⟨blq HB.out⟩⟩
       case round =>
        clear H'
        try clear c1
        try clear p2
        try clear c4
        try clear c5
        try clear c5b0
        try clear c5b1
        try clear c6
        try clear c6b0
        try clear c6b1
        try clear c9
        try clear c9b0
        try clear p2
        obtain ⟨x5_2, x7_2, rfl, HA, HK2, HO_5, HB⟩ := hrel
        cases gk with
        | zero => exact absurd HA.out (by simp [spec_PointsOf.l1])
        | succ k2 =>
         have H := HA.out
         clear HA
         simp only [spec_PointsOf.l1] at H
         by_cases c10 : x7_2 < a1
         ·
          rw [if_pos c10] at H
          have c10b0 : decide (x7_2 < a1) = true := decide_eq_true c10
          clear c10
          by_cases c11 : 0 ≤ x6_1
          ·
           rw [if_pos c11] at H
           have c11b0 : decide (0 ≤ x6_1) = true := decide_eq_true c11
           clear c11
           by_cases c12 : x6_1 < (l0.length : Int)
           ·
            rw [if_pos c12] at H
            have c12b0 : decide (x6_1 < (l0.length : Int)) = true := decide_eq_true c12
            clear c12
            by_cases c13 : 0 ≤ x7_2
            ·
             rw [if_pos c13] at H
             have c13b0 : decide (0 ≤ x7_2) = true := decide_eq_true c13
             clear c13
             by_cases c14 : x7_2 < ((rd_L3 l0 x6_1).length : Int)
             ·
              rw [if_pos c14] at H
              have c14b0 : decide (x7_2 < ((rd_L3 l0 x6_1).length : Int)) = true := decide_eq_true c14
              clear c14
              by_cases c15 : 0 ≤ (rd (rd_L3 l0 x6_1) x7_2)
              ·
               rw [if_pos c15] at H
               have c15b0 : decide (0 ≤ (rd (rd_L3 l0 x6_1) x7_2)) = true := decide_eq_true c15
               clear c15
               by_cases c16 : (rd (rd_L3 l0 x6_1) x7_2) < (x5_2.length : Int)
               ·
                rw [if_pos c16] at H
                have c16b0 : decide ((rd (rd_L3 l0 x6_1) x7_2) < (x5_2.length : Int)) = true := decide_eq_true c16
                clear c16
                obtain ⟨y466, hy466⟩ : ∃ y_ : List Int, y_ = (x5_2.set ((rd (rd_L3 l0 x6_1) x7_2) : Int).toNat (wrap64 ((wrap64 ((wrap64 ((rd x5_2 (rd (rd_L3 l0 x6_1) x7_2)) + a1)) - 1)) - x7_2))) := ⟨_, rfl⟩
                replace H : (spec_PointsOf.l1 k2 l0 a1 y466 x6_1 (wrap64 (x7_2 + 1))) = some r := by first | (rw [hy466]; with_reducible exact H) | (have H2_ := (Option.bind_some _ _).symm.trans H; rw [hy466]; with_reducible exact H2_) | (have H2_ := (Option.bind_some _ _).symm.trans H; with_reducible exact H2_) | with_reducible exact H | (rw [hy466]; exact H) | exact H
                have Ny466 := Aside0.mk hy466
                clear hy466
                have H' := Aside0.mk H
                clear H
                have p463 : 0 ≤ (x6_1 : Int) := of_decide_eq_true (by first | (with_reducible assumption) | assumption)
                have q463 : x6_1 < (l0.length : Int) := of_decide_eq_true (by first | (with_reducible assumption) | assumption)
                obtain ⟨ad463, A463_0, c463_0, e463, hx463_0, hl463_0, hi463_0⟩ := at_L3 HR0.out x6_1 p463 q463
                cases e463
                replace hx463_0 := (HB.out.cell (World.block_lt_of_cell? w _ hx463_0)).trans hx463_0
                have HR463_0 := Aside0.mk hi463_0
                have HC463_0 := Aside0.mk hl463_0
                clear hi463_0 hl463_0
                replace p463 := eq_true p463
                replace q463 := eq_true q463
                have p464 : 0 ≤ (x7_2 : Int) := of_decide_eq_true (by first | (with_reducible assumption) | assumption)
                have q464 : x7_2 < ((rd_L3 l0 x6_1).length : Int) := of_decide_eq_true (by first | (with_reducible assumption) | assumption)
                obtain ⟨ad464, e464, hx464_0⟩ := Kd.at_int HR463_0.out x7_2 p464 q464
                cases e464
                replace hx464_0 := (HB.out.cell (World.block_lt_of_cell? w _ hx464_0)).trans hx464_0
                replace p464 := eq_true p464
                replace q464 := eq_true q464
                obtain ⟨Ao18, co18, eo18⟩ := Kd.R_slice HO_5.out
                subst eo18
                have p465 : 0 ≤ ((rd (rd_L3 l0 x6_1) x7_2) : Int) := of_decide_eq_true (by first | (with_reducible assumption) | assumption)
                have q465 : (rd (rd_L3 l0 x6_1) x7_2) < (x5_2.length : Int) := of_decide_eq_true (by first | (with_reducible assumption) | assumption)
                obtain ⟨ad465, e465, hx465_0⟩ := Kd.at_int (Kd.R_reads' HO_5.out).2.2 (rd (rd_L3 l0 x6_1) x7_2) p465 q465
                cases e465
                replace p465 := eq_true p465
                replace q465 := eq_true q465
                have p17 : 0 ≤ ((rd (rd_L3 l0 x6_1) x7_2) : Int) := of_decide_eq_true (by first | (with_reducible assumption) | assumption)
                have q17 : ((rd (rd_L3 l0 x6_1) x7_2) : Int) < ((x5_2.length : Int) : Int) := of_decide_eq_true (by first | (with_reducible assumption) | assumption)
                obtain ⟨go17, co17, eo17, gb17, gl17, cl17, HG17⟩ := Kd.R_form HO_5.out (by omega)
                (first | cases eo17 | (injection eo17 with ea_ en_ ec_; (first | subst ea_ | (injection ea_ with ea_; subst ea_)); subst ec_; clear en_))
                have GB17 := Aside0.mk gb17
                have GG17 := Aside0.mk HG17
                clear gb17 gl17 HG17
                (first | simp only [add_plain] at hx465_0 | skip)
                obtain ⟨hx17_0, hf17_0⟩ := Kd.R_celln 0 HO_5.out ((rd (rd_L3 l0 x6_1) x7_2) : Int) p17 q17
                replace p17 := eq_true p17
                replace q17 := eq_true q17
                have HP19 := Kd.R_putg HO_5.out ((rd (rd_L3 l0 x6_1) x7_2) : Int) (wrap64 ((wrap64 ((wrap64 ((rd x5_2 (rd (rd_L3 l0 x6_1) x7_2)) + a1)) - 1)) - x7_2))
                go_wp2_with (first | ((with_reducible refine gate_store (t := 3) (p := 45) rfl ?_); refine store_event (t := 3) (p := 45) (v := ?vo_w20) (w1 := (wr.setCell ⟨go17, ((rd (rd_L3 l0 x6_1) x7_2) : Int).toNat, none⟩ (.int .i64 (wrap64 ((wrap64 ((wrap64 ((rd x5_2 (rd (rd_L3 l0 x6_1) x7_2)) + a1)) - 1)) - x7_2))))) ?hg ?ho ?hn ?hr ?_; (case ho => rfl); (case hg => rfl); (case hn => rfl); (case hr => first | (go_simp; done) | (go_simp; rfl)); intro w20 hw; have hg : wr.grownBy w20 (some go17) := (by rw [hw]; exact HP19.2); have hp_ : Kd.R (Kd.int .i64) 3 w20 w.heap.size (fun _ => True) (.slice (some ⟨go17, 0, none⟩) x5_2.length co18) y466 := (by rw [hw, Ny466.out]; exact HP19.1); clear HP19; have n0_ := Aside0.mk (hp_); have n1_ := Aside0.mk ((by rw [hw]; exact below_set (HB.out) GB17.out : Below w.heap.size w w20)); clear HO_5; clear HB; have HO_5 := n0_; have HB := n1_; clear n0_ n1_; clear hg hw hp_))
                go_roundg k2
                case measure => have := HK1.out; have := HK2.out; omega
                case rel => exact ⟨(y466), (wrap64 (x7_2 + 1)), (by first | rfl | (simp; done) | (simp [*]; done)), H', ⟨by have := HK1.out; have := HK2.out; omega⟩, ⟨Kd.Rq HO_5.out⟩, ⟨blq HB.out⟩⟩
               ·
                rw [if_neg c16] at H
                exact absurd H (by simp)
              ·
               rw [if_neg c15] at H
               exact absurd H (by simp)
             ·
              rw [if_neg c14] at H
              exact absurd H (by simp)
            ·
             rw [if_neg c13] at H
             exact absurd H (by simp)
           ·
            rw [if_neg c12] at H
            exact absurd H (by simp)
          ·
           rw [if_neg c11] at H
           exact absurd H (by simp)
         ·
          rw [if_neg c10] at H
          have c10b0 : decide (x7_2 < a1) = false := decide_eq_false c10
          clear c10
          have H' := Aside0.mk H
          clear H
          go_wp2
          go_roundg k2
          case measure => have := HK1.out; have := HK2.out; omega
          case rel => exact ⟨(x5_2), (wrap64 (x6_1 + 1)), (by first | rfl | (simp; done) | (simp [*]; done)), H', ⟨by have := HK1.out; have := HK2.out; omega⟩, ⟨Kd.Rq HO_5.out⟩, ⟨blq HB.out⟩⟩
      ·
       rw [if_neg c9] at H
       have c9b0 : decide (x6_1 < (l0.length : Int)) = false := decide_eq_false c9
       clear c9
       obtain rfl := Option.some.inj H
       go_wp2
       go_ret
       exact ⟨_, by first | rfl | (simp [errW_none, errW_some] <;> rfl) | (simp [*, errW_none, errW_some] <;> rfl), Kd.Rq HO_5.out, blq HB.out⟩
   ·
    rw [if_neg c6] at H
    exact absurd H (by simp)
  ·
   rw [if_neg c5] at H
   exact absurd H (by simp)
 ·
  replace c4 := Bool.eq_false_iff.mpr c4
  subst c4
  have H1 : (some (([] : List Int))) = some r := by rw [if_neg (show ¬ (false = true) by decide)] at H; exact H
  clear H
  have H := H1
  clear H1
  obtain ⟨y457, hy457⟩ : ∃ y_ : List Int, y_ = (([] : List Int)) := ⟨_, rfl⟩
  replace H : (some y457) = some r := by first | (rw [hy457]; with_reducible exact H) | (have H2_ := (Option.bind_some _ _).symm.trans H; rw [hy457]; with_reducible exact H2_) | (have H2_ := (Option.bind_some _ _).symm.trans H; with_reducible exact H2_) | with_reducible exact H | (rw [hy457]; exact H) | exact H
  have Ny457 := Aside0.mk hy457
  clear hy457
  obtain rfl := Option.some.inj H
  go_enter Try.func98, Try.ntmps98
  go_wp2_with (first | ((with_reducible refine gate_callee (f := 107) rfl ?_); refine gLq (some 11) Try.func107 #[.slice A0 l0.length c0, .int .i64 a1] ?_; (with_reducible refine (spec_VotesOk.calls k _ _ l0 a1 false _ ?side1 ?side2 A3.out).mono ?_); (case side1 => exact Kd.Cq HR0.out); (case side2 => exact HC0.out); rintro e w' ⟨rfl, ⟨nd, rfl⟩⟩; refine ⟨_, rfl, ?_⟩) | ((with_reducible refine gate_dst (N := 13) rfl ?_); refine Kd.R_lit (Kd.int .i64) _ 3 ?hg (N := 13) ?hd (xs := ([] : List Int)) (inner := []) (ok := fun _ => True) (okp := fun _ => True) ?hr ?hp (fun _ hk => hk) trivial (Below.refl _ _) (Nat.le_refl _) (by simp) ?_; (case hd => rfl); (case hg => rfl); (case hr => first | (go_simp; done) | (go_simp; rfl)); (case hp => exact (Reps.none _ _)); intro v458 w21 ho22 hb hg_ hnew_; clear hg_ hnew_; (first | rw [← Ny457.out] at ho22 | (simp only [Int.reduceToNat] at ho22; rw [← Ny457.out] at ho22)); have n0_ := Aside0.mk (Kd.R_lower ho22 (below_size (blq HB.out))); have n1_ := Aside0.mk (below_step (blq HB.out) hb); clear HB; have HO459 := n0_; have HB := n1_; clear n0_ n1_; clear hb ho22))
  go_ret
  exact ⟨_, by first | rfl | (simp [errW_none, errW_some] <;> rfl) | (simp [*, errW_none, errW_some] <;> rfl), Kd.Rq HO459.out, blq HB.out⟩

/-! ### spec_WinnerByPoints: function 37 -/
def spec_WinnerByPoints.l0 : Nat → Int → List Int → Int → Option (Int)
 | 0, _, _, _ => none
 | k + 1, x5, x6, x7 => if x7 < (x6.length : Int) then (if x5 < 0 then (spec_WinnerByPoints.l0 k x7 x6 (wrap64 (x7 + 1))) else (if 0 ≤ x7 then (if 0 ≤ x5 then (if x5 < (x6.length : Int) then (if (rd x6 x7) > (rd x6 x5) then (spec_WinnerByPoints.l0 k x7 x6 (wrap64 (x7 + 1))) else (spec_WinnerByPoints.l0 k x5 x6 (wrap64 (x7 + 1)))) else (none)) else (none)) else (none))) else (some x5)
def spec_WinnerByPoints.f (k : Nat) (l0 : List (List Int)) (a1 : Int) : Option (Int) := (spec_PointsOf.f k l0 a1).bind fun t467 => (spec_WinnerByPoints.l0 k (-1) t467 0)
theorem spec_WinnerByPoints.mono_l : ∀ k, (∀ y0 y1 y2, LeO (spec_WinnerByPoints.l0 k y0 y1 y2) (spec_WinnerByPoints.l0 (k + 1) y0 y1 y2))
 | 0 => fun _ _ _ r h => by simp [spec_WinnerByPoints.l0] at h
 | k + 1 => by
  have ih0 := spec_WinnerByPoints.mono_l k
  ·
   intro y0 y1 y2
   unfold spec_WinnerByPoints.l0
   repeat' first
   | (with_reducible exact ih0 _ _ _)
   | (with_reducible exact spec_PointsOf.mono _ _ _)
   | (with_reducible exact LeO.refl _)
   | (with_reducible exact LeO.none _)
   | (with_reducible refine LeO.ite ?_ ?_)
   | (with_reducible refine LeO.bind ?_ (fun _ => ?_))
   | exact ih0 _ _ _
   | exact spec_PointsOf.mono _ _ _
   | exact LeO.none _
   | refine LeO.ite ?_ ?_
   | refine LeO.bind ?_ (fun _ => ?_)
theorem spec_WinnerByPoints.mono : ∀ a0 a1 k, LeO (spec_WinnerByPoints.f k a0 a1) (spec_WinnerByPoints.f (k + 1) a0 a1) := by
 intro a0 a1 k
 have ih0 := spec_WinnerByPoints.mono_l k
 unfold spec_WinnerByPoints.f
 repeat' first
   | (with_reducible exact ih0 _ _ _)
   | (with_reducible exact spec_PointsOf.mono _ _ _)
   | (with_reducible exact LeO.refl _)
   | (with_reducible exact LeO.none _)
   | (with_reducible refine LeO.ite ?_ ?_)
   | (with_reducible refine LeO.bind ?_ (fun _ => ?_))
   | exact ih0 _ _ _
   | exact spec_PointsOf.mono _ _ _
   | exact LeO.none _
   | refine LeO.ite ?_ ?_
   | refine LeO.bind ?_ (fun _ => ?_)
set_option maxHeartbeats 8000000 in
set_option maxRecDepth 100000 in
theorem spec_WinnerByPoints.calls (k : Nat) (A0 : Option Addr) (c0 : Nat) (l0 : List (List Int)) (a1 : Int) (r : Int) (w : World) (hr0 : Kd.C (Kd.slice 3 (Kd.int .i64)) w A0 l0.length l0) (hc0 : l0.length ≤ c0) (h : spec_WinnerByPoints.f k l0 a1 = some r) :
  Calls Try.prog 37 #[.slice A0 l0.length c0, .int .i64 a1] w fun e w' => e = .returned (.int .i64 r) ∧ Below w.heap.size w w' := by
 have HR0 := Aside0.mk hr0
 have HC0 := Aside0.mk hc0
 clear hr0 hc0
 have HB := Aside0.mk (Below.refl w.heap.size w)
 have H : ((spec_PointsOf.f k l0 a1).bind fun t467 => (spec_WinnerByPoints.l0 k (-1) t467 0)) = some r := h
 clear h
 replace H := Option.bind_eq_some_iff.mp H
 obtain ⟨t467, A30, H⟩ := H
 replace H : (spec_WinnerByPoints.l0 k (-1) t467 0) = some r := H
 have A3 := Aside0.mk A30
 clear A30
 have H' := Aside0.mk H
 clear H
 go_enter Try.func37, Try.ntmps37
 go_wp2_with (first | (go_at_call 98; (with_reducible refine (spec_PointsOf.calls k _ _ l0 a1 t467 _ ?side1 ?side2 A3.out).mono ?_); (case side1 => exact Kd.Cq HR0.out); (case side2 => exact HC0.out); rintro e w4 ⟨v468, rfl, ho0, hb⟩; have n0_ := Aside0.mk (Kd.R_lower ho0 (below_size (blq HB.out))); have n1_ := Aside0.mk (below_step (blq HB.out) hb); clear HB; have HO469 := n0_; have HB := n1_; clear n0_ n1_; (try clear hb); (try clear hb2); (try clear hk); (try clear hi); (try clear ho0)))
 repeat (go_quiet (first | (go_at_call 98; (with_reducible refine (spec_PointsOf.calls k _ _ l0 a1 t467 _ ?side1 ?side2 A3.out).mono ?_); (case side1 => exact Kd.Cq HR0.out); (case side2 => exact HC0.out); rintro e w4 ⟨v468, rfl, ho0, hb⟩; have n0_ := Aside0.mk (Kd.R_lower ho0 (below_size (blq HB.out))); have n1_ := Aside0.mk (below_step (blq HB.out) hb); clear HB; have HO469 := n0_; have HB := n1_; clear n0_ n1_; (try clear hb); (try clear hb2); (try clear hk); (try clear hi); (try clear ho0))); try go_wp2_with (first | (go_at_call 98; (with_reducible refine (spec_PointsOf.calls k _ _ l0 a1 t467 _ ?side1 ?side2 A3.out).mono ?_); (case side1 => exact Kd.Cq HR0.out); (case side2 => exact HC0.out); rintro e w4 ⟨v468, rfl, ho0, hb⟩; have n0_ := Aside0.mk (Kd.R_lower ho0 (below_size (blq HB.out))); have n1_ := Aside0.mk (below_step (blq HB.out) hb); clear HB; have HO469 := n0_; have HB := n1_; clear n0_ n1_; (try clear hb); (try clear hb2); (try clear hk); (try clear hi); (try clear ho0))))
 go_loopg [5, 7] k (fun kq v5 v7 w' => ∃ (x5_1 : Int) (x7_1 : Int), v5 = .int .i64 x5_1 ∧ v7 = .int .i64 x7_1 ∧ Aside0 (spec_WinnerByPoints.l0 kq x5_1 t467 x7_1 = some r) ∧ Aside0 (kq ≤ k) ∧ Aside0 (Kd.R (Kd.int .i64) 3 w' w.heap.size (fun _ => True) v468 t467) ∧ Aside0 (Below w.heap.size w w'))
 case atStart => exact ⟨((-1)), (0), (by first | rfl | (simp; done) | (simp [*]; done)), (by first | rfl | (simp; done) | (simp [*]; done)), H', ⟨Nat.le_refl _⟩, ⟨Kd.Rq HO469.out⟩, ⟨blq HB.out⟩⟩
 case round =>
  clear H'
  try clear p2
  try clear c3
  obtain ⟨x5_1, x7_1, rfl, rfl, HA, HK1, HO_6, HB⟩ := hrel
  cases gk with
  | zero => exact absurd HA.out (by simp [spec_WinnerByPoints.l0])
  | succ k1 =>
   have H := HA.out
   clear HA
   simp only [spec_WinnerByPoints.l0] at H
   by_cases c5 : x7_1 < (t467.length : Int)
   ·
    rw [if_pos c5] at H
    have c5b0 : decide (x7_1 < (t467.length : Int)) = true := decide_eq_true c5
    clear c5
    by_cases c6 : x5_1 < 0
    ·
     rw [if_pos c6] at H
     have c6b0 : decide (x5_1 < 0) = true := decide_eq_true c6
     clear c6
     have H' := Aside0.mk H
     clear H
     obtain ⟨Ao7, co7, eo7⟩ := Kd.R_slice HO_6.out
     subst eo7
     go_wp2
     repeat (go_quiet (fail); try go_wp2)
     go_roundg k1
     case measure => have := HK1.out; omega
     case rel => exact ⟨(x7_1), (wrap64 (x7_1 + 1)), (by first | rfl | (simp; done) | (simp [*]; done)), (by first | rfl | (simp; done) | (simp [*]; done)), H', ⟨by have := HK1.out; omega⟩, ⟨Kd.Rq HO_6.out⟩, ⟨blq HB.out⟩⟩
    ·
     rw [if_neg c6] at H
     have c6b0 : decide (x5_1 < 0) = false := decide_eq_false c6
     clear c6
     by_cases c8 : 0 ≤ x7_1
     ·
      rw [if_pos c8] at H
      have c8b0 : decide (0 ≤ x7_1) = true := decide_eq_true c8
      clear c8
      by_cases c9 : 0 ≤ x5_1
      ·
       rw [if_pos c9] at H
       have c9b0 : decide (0 ≤ x5_1) = true := decide_eq_true c9
       clear c9
       by_cases c10 : x5_1 < (t467.length : Int)
       ·
        rw [if_pos c10] at H
        have c10b0 : decide (x5_1 < (t467.length : Int)) = true := decide_eq_true c10
        clear c10
        by_cases c11 : (rd t467 x7_1) > (rd t467 x5_1)
        ·
         rw [if_pos c11] at H
         have c11b0 : decide ((rd t467 x5_1) < (rd t467 x7_1)) = true := decide_eq_true c11
         clear c11
         have H' := Aside0.mk H
         clear H
         obtain ⟨Ao12, co12, eo12⟩ := Kd.R_slice HO_6.out
         subst eo12
         have p470 : 0 ≤ (x7_1 : Int) := of_decide_eq_true (by first | (with_reducible assumption) | assumption)
         have q470 : x7_1 < (t467.length : Int) := of_decide_eq_true (by first | (with_reducible assumption) | assumption)
         obtain ⟨ad470, e470, hx470_0⟩ := Kd.at_int (Kd.R_reads' HO_6.out).2.2 x7_1 p470 q470
         cases e470
         replace p470 := eq_true p470
         replace q470 := eq_true q470
         have p471 : 0 ≤ (x5_1 : Int) := of_decide_eq_true (by first | (with_reducible assumption) | assumption)
         have q471 : x5_1 < (t467.length : Int) := of_decide_eq_true (by first | (with_reducible assumption) | assumption)
         obtain ⟨ad471, e471, hx471_0⟩ := Kd.at_int (Kd.R_reads' HO_6.out).2.2 x5_1 p471 q471
         obtain rfl : ad470 = ad471 := (by injection e471)
         replace p471 := eq_true p471
         replace q471 := eq_true q471
         go_wp2
         repeat (go_quiet (fail); try go_wp2)
         go_roundg k1
         case measure => have := HK1.out; omega
         case rel => exact ⟨(x7_1), (wrap64 (x7_1 + 1)), (by first | rfl | (simp; done) | (simp [*]; done)), (by first | rfl | (simp; done) | (simp [*]; done)), H', ⟨by have := HK1.out; omega⟩, ⟨Kd.Rq HO_6.out⟩, ⟨blq HB.out⟩⟩
        ·
         rw [if_neg c11] at H
         have c11b0 : decide ((rd t467 x5_1) < (rd t467 x7_1)) = false := decide_eq_false c11
         clear c11
         have H' := Aside0.mk H
         clear H
         obtain ⟨Ao13, co13, eo13⟩ := Kd.R_slice HO_6.out
         subst eo13
         have p470 : 0 ≤ (x7_1 : Int) := of_decide_eq_true (by first | (with_reducible assumption) | assumption)
         have q470 : x7_1 < (t467.length : Int) := of_decide_eq_true (by first | (with_reducible assumption) | assumption)
         obtain ⟨ad470, e470, hx470_0⟩ := Kd.at_int (Kd.R_reads' HO_6.out).2.2 x7_1 p470 q470
         cases e470
         replace p470 := eq_true p470
         replace q470 := eq_true q470
         have p471 : 0 ≤ (x5_1 : Int) := of_decide_eq_true (by first | (with_reducible assumption) | assumption)
         have q471 : x5_1 < (t467.length : Int) := of_decide_eq_true (by first | (with_reducible assumption) | assumption)
         obtain ⟨ad471, e471, hx471_0⟩ := Kd.at_int (Kd.R_reads' HO_6.out).2.2 x5_1 p471 q471
         obtain rfl : ad470 = ad471 := (by injection e471)
         replace p471 := eq_true p471
         replace q471 := eq_true q471
         go_wp2
         repeat (go_quiet (fail); try go_wp2)
         go_roundg k1
         case measure => have := HK1.out; omega
         case rel => exact ⟨(x5_1), (wrap64 (x7_1 + 1)), (by first | rfl | (simp; done) | (simp [*]; done)), (by first | rfl | (simp; done) | (simp [*]; done)), H', ⟨by have := HK1.out; omega⟩, ⟨Kd.Rq HO_6.out⟩, ⟨blq HB.out⟩⟩
       ·
        rw [if_neg c10] at H
        exact absurd H (by simp)
      ·
       rw [if_neg c9] at H
       exact absurd H (by simp)
     ·
      rw [if_neg c8] at H
      exact absurd H (by simp)
   ·
    rw [if_neg c5] at H
    have c5b0 : decide (x7_1 < (t467.length : Int)) = false := decide_eq_false c5
    clear c5
    obtain rfl := Option.some.inj H
    obtain ⟨Ao14, co14, eo14⟩ := Kd.R_slice HO_6.out
    subst eo14
    go_wp2
    repeat (go_quiet (fail); try go_wp2)
    go_ret
    exact ⟨by first | rfl | (simp [errW_none, errW_some] <;> rfl) | (simp [*, errW_none, errW_some] <;> rfl), blq HB.out⟩

/-! ### impl_PointsOf: function 99 -/
mutual
def impl_PointsOf.l0 : Nat → Int → List Int → List (List Int) → Int → Int → Option (List Int)
 | 0, _, _, _, _, _ => none
 | k + 1, x1, x5, x16, x17, x18 => if x18 < x17 then (if 0 ≤ x18 then (if x18 < (x16.length : Int) then (impl_PointsOf.l1 k x1 x5 x16 x17 x18 (rd_L3 x16 x18) ((rd_L3 x16 x18).length : Int) 0) else (none)) else (none)) else (some x5)
def impl_PointsOf.l1 : Nat → Int → List Int → List (List Int) → Int → Int → List Int → Int → Int → Option (List Int)
 | 0, _, _, _, _, _, _, _, _ => none
 | k + 1, x1, x5, x16, x17, x18, x22, x23, x24 => if x24 < x23 then (if 0 ≤ x24 then (if x24 < (x22.length : Int) then (if 0 ≤ (rd x22 x24) then (if (rd x22 x24) < (x5.length : Int) then (impl_PointsOf.l1 k x1 (x5.set ((rd x22 x24) : Int).toNat (wrap64 ((rd x5 (rd x22 x24)) + (wrap64 ((wrap64 (x1 - 1)) - x24))))) x16 x17 x18 x22 x23 (wrap64 (x24 + 1))) else (none)) else (none)) else (none)) else (none)) else (impl_PointsOf.l0 k x1 x5 x16 x17 (wrap64 (x18 + 1)))
end
def impl_PointsOf.f (k : Nat) (l0 : List (List Int)) (a1 : Int) : Option (List Int) := (impl_VotesOk.f k l0 a1).bind fun t486 => (if t486 = true then (if 0 ≤ a1 then (if (a1 : Int).toNat ≤ 35184372088832 then (impl_PointsOf.l0 k a1 (List.replicate (a1 : Int).toNat 0) l0 (l0.length : Int) 0) else (none)) else (none)) else (some ([] : List Int)))
theorem impl_PointsOf.mono_l : ∀ k, (∀ y0 y1 y2 y3 y4, LeO (impl_PointsOf.l0 k y0 y1 y2 y3 y4) (impl_PointsOf.l0 (k + 1) y0 y1 y2 y3 y4)) ∧ (∀ y0 y1 y2 y3 y4 y5 y6 y7, LeO (impl_PointsOf.l1 k y0 y1 y2 y3 y4 y5 y6 y7) (impl_PointsOf.l1 (k + 1) y0 y1 y2 y3 y4 y5 y6 y7))
 | 0 => ⟨fun _ _ _ _ _ r h => by simp [impl_PointsOf.l0] at h, fun _ _ _ _ _ _ _ _ r h => by simp [impl_PointsOf.l1] at h⟩
 | k + 1 => by
  obtain ⟨ih0, ih1⟩ := impl_PointsOf.mono_l k
  refine ⟨?_, ?_⟩
  ·
   intro y0 y1 y2 y3 y4
   unfold impl_PointsOf.l0
   repeat' first
   | (with_reducible exact ih0 _ _ _ _ _)
   | (with_reducible exact ih1 _ _ _ _ _ _ _ _)
   | (with_reducible exact impl_VotesOk.mono _ _ _)
   | (with_reducible exact LeO.refl _)
   | (with_reducible exact LeO.none _)
   | (with_reducible refine LeO.ite ?_ ?_)
   | (with_reducible refine LeO.bind ?_ (fun _ => ?_))
   | exact ih0 _ _ _ _ _
   | exact ih1 _ _ _ _ _ _ _ _
   | exact impl_VotesOk.mono _ _ _
   | exact LeO.none _
   | refine LeO.ite ?_ ?_
   | refine LeO.bind ?_ (fun _ => ?_)
  ·
   intro y0 y1 y2 y3 y4 y5 y6 y7
   unfold impl_PointsOf.l1
   repeat' first
   | (with_reducible exact ih0 _ _ _ _ _)
   | (with_reducible exact ih1 _ _ _ _ _ _ _ _)
   | (with_reducible exact impl_VotesOk.mono _ _ _)
   | (with_reducible exact LeO.refl _)
   | (with_reducible exact LeO.none _)
   | (with_reducible refine LeO.ite ?_ ?_)
   | (with_reducible refine LeO.bind ?_ (fun _ => ?_))
   | exact ih0 _ _ _ _ _
   | exact ih1 _ _ _ _ _ _ _ _
   | exact impl_VotesOk.mono _ _ _
   | exact LeO.none _
   | refine LeO.ite ?_ ?_
   | refine LeO.bind ?_ (fun _ => ?_)
theorem impl_PointsOf.mono : ∀ a0 a1 k, LeO (impl_PointsOf.f k a0 a1) (impl_PointsOf.f (k + 1) a0 a1) := by
 intro a0 a1 k
 obtain ⟨ih0, ih1⟩ := impl_PointsOf.mono_l k
 unfold impl_PointsOf.f
 repeat' first
   | (with_reducible exact ih0 _ _ _ _ _)
   | (with_reducible exact ih1 _ _ _ _ _ _ _ _)
   | (with_reducible exact impl_VotesOk.mono _ _ _)
   | (with_reducible exact LeO.refl _)
   | (with_reducible exact LeO.none _)
   | (with_reducible refine LeO.ite ?_ ?_)
   | (with_reducible refine LeO.bind ?_ (fun _ => ?_))
   | exact ih0 _ _ _ _ _
   | exact ih1 _ _ _ _ _ _ _ _
   | exact impl_VotesOk.mono _ _ _
   | exact LeO.none _
   | refine LeO.ite ?_ ?_
   | refine LeO.bind ?_ (fun _ => ?_)
set_option maxHeartbeats 8000000 in
set_option maxRecDepth 100000 in
theorem impl_PointsOf.calls (k : Nat) (A0 : Option Addr) (c0 : Nat) (l0 : List (List Int)) (a1 : Int) (r : List Int) (w : World) (hr0 : Kd.C (Kd.slice 3 (Kd.int .i64)) w A0 l0.length l0) (hc0 : l0.length ≤ c0) (h : impl_PointsOf.f k l0 a1 = some r) :
  Calls Try.prog 99 #[.slice A0 l0.length c0, .int .i64 a1] w fun e w' => ∃ v0_ : Value, e = .returned (v0_) ∧ Kd.R (Kd.int .i64) 3 w' w.heap.size (fun _ => True) v0_ r ∧ Below w.heap.size w w' := by
 have HR0 := Aside0.mk hr0
 have HC0 := Aside0.mk hc0
 clear hr0 hc0
 have HB := Aside0.mk (Below.refl w.heap.size w)
 have H : ((impl_VotesOk.f k l0 a1).bind fun t486 => (if t486 = true then (if 0 ≤ a1 then (if (a1 : Int).toNat ≤ 35184372088832 then (impl_PointsOf.l0 k a1 (List.replicate (a1 : Int).toNat 0) l0 (l0.length : Int) 0) else (none)) else (none)) else (some ([] : List Int)))) = some r := h
 clear h
 replace H := Option.bind_eq_some_iff.mp H
 obtain ⟨t486, A30, H⟩ := H
 replace H : (if t486 = true then (if 0 ≤ a1 then (if (a1 : Int).toNat ≤ 35184372088832 then (impl_PointsOf.l0 k a1 (List.replicate (a1 : Int).toNat 0) l0 (l0.length : Int) 0) else (none)) else (none)) else (some ([] : List Int))) = some r := H
 have A3 := Aside0.mk A30
 clear A30
 by_cases c4 : t486 = true
 ·
  subst c4
  have H1 : (if 0 ≤ a1 then (if (a1 : Int).toNat ≤ 35184372088832 then (impl_PointsOf.l0 k a1 (List.replicate (a1 : Int).toNat 0) l0 (l0.length : Int) 0) else (none)) else (none)) = some r := by rw [if_pos rfl] at H; exact H
  clear H
  have H := H1
  clear H1
  by_cases c5 : 0 ≤ a1
  ·
   rw [if_pos c5] at H
   have c5b0 := eq_true c5
   have c5b1 : decide (0 ≤ a1) = true := decide_eq_true c5
   clear c5
   by_cases c6 : (a1 : Int).toNat ≤ 35184372088832
   ·
    rw [if_pos c6] at H
    have c6b0 := eq_true c6
    have c6b1 : decide ((a1 : Int).toNat ≤ 35184372088832) = true := decide_eq_true c6
    clear c6
    obtain ⟨y487, hy487⟩ : ∃ y_ : List Int, y_ = (List.replicate (a1 : Int).toNat 0) := ⟨_, rfl⟩
    replace H : (impl_PointsOf.l0 k a1 y487 l0 (l0.length : Int) 0) = some r := by first | (rw [hy487]; with_reducible exact H) | (have H2_ := (Option.bind_some _ _).symm.trans H; rw [hy487]; with_reducible exact H2_) | (have H2_ := (Option.bind_some _ _).symm.trans H; with_reducible exact H2_) | with_reducible exact H | (rw [hy487]; exact H) | exact H
    have Ny487 := Aside0.mk hy487
    clear hy487
    have H' := Aside0.mk H
    clear H
    go_enter Try.func99, Try.ntmps99
    go_wp2_with (first | ((with_reducible refine gate_callee (f := 109) rfl ?_); refine gLq (some 12) Try.func109 #[.slice A0 l0.length c0, .int .i64 a1] ?_; (with_reducible refine (impl_VotesOk.calls k _ _ l0 a1 true _ ?side1 ?side2 A3.out).mono ?_); (case side1 => exact Kd.Cq HR0.out); (case side2 => exact HC0.out); rintro e w7 ⟨rfl, hb⟩; refine ⟨_, rfl, ?_⟩; have n0_ := Aside0.mk (below_step (blq HB.out) hb); clear HB; have HB := n0_; clear n0_; (try clear hb); (try clear hb2); (try clear hk); (try clear hi)) | ((with_reducible refine gate_dst (N := 15) rfl ?_); refine Kd.R_make (Kd.int .i64) _ 3 rfl (N := 15) rfl 27 _ _ rfl a1 rfl rfl Try.underlying27 (.int .i64 0) 8 info3 rfl (by decide) (by omega) 0 (ok := fun _ => True) (okp := fun _ => True) rfl (fun _ hk => hk) trivial (of_decide_eq_true (by first | (with_reducible assumption) | assumption)) (Nat.le_trans (Nat.mul_le_mul_right _ (of_decide_eq_true (by first | (with_reducible assumption) | assumption) : a1.toNat ≤ 35184372088832)) (by omega)) (Below.refl _ _) (Nat.le_refl _) ?_; intro v488 w8 ho9 hb hg_ hnew_; clear hg_ hnew_; (first | rw [← Ny487.out] at ho9 | (simp only [Int.reduceToNat] at ho9; rw [← Ny487.out] at ho9)); have n0_ := Aside0.mk (Kd.R_lower ho9 (below_size (blq HB.out))); have n1_ := Aside0.mk (below_step (blq HB.out) hb); clear HB; have HO489 := n0_; have HB := n1_; clear n0_ n1_; clear hb ho9))
    go_loopg [18] k (fun kq v18 w' => ∃ (x5_1 : List Int) (x18_1 : Int), v18 = .int .i64 x18_1 ∧ Aside0 (impl_PointsOf.l0 kq a1 x5_1 l0 (l0.length : Int) x18_1 = some r) ∧ Aside0 (kq ≤ k) ∧ Aside0 (Kd.R (Kd.int .i64) 3 w' w.heap.size (fun _ => True) v488 x5_1) ∧ Aside0 (Below w.heap.size w w'))
    case atStart => exact ⟨(y487), (0), (by first | rfl | (simp; done) | (simp [*]; done)), H', ⟨Nat.le_refl _⟩, ⟨Kd.Rq HO489.out⟩, ⟨blq HB.out⟩⟩
    case round =>
     clear H'
     try clear c1
     try clear p2
     try clear c4
     try clear c5
     try clear c5b0
     try clear c5b1
     try clear c6
     try clear c6b0
     try clear c6b1
     try clear c9
     obtain ⟨x5_1, x18_1, rfl, HA, HK1, HO_5, HB⟩ := hrel
     cases gk with
     | zero => exact absurd HA.out (by simp [impl_PointsOf.l0])
     | succ k1 =>
      have H := HA.out
      clear HA
      simp only [impl_PointsOf.l0] at H
      by_cases c10 : x18_1 < (l0.length : Int)
      ·
       rw [if_pos c10] at H
       have c10b0 : decide (x18_1 < (l0.length : Int)) = true := decide_eq_true c10
       clear c10
       by_cases c11 : 0 ≤ x18_1
       ·
        rw [if_pos c11] at H
        have c11b0 : decide (0 ≤ x18_1) = true := decide_eq_true c11
        clear c11
        by_cases c12 : x18_1 < (l0.length : Int)
        ·
         rw [if_pos c12] at H
         have c12b0 : decide (x18_1 < (l0.length : Int)) = true := decide_eq_true c12
         clear c12
         have H' := Aside0.mk H
         clear H
         have p490 : 0 ≤ (x18_1 : Int) := of_decide_eq_true (by first | (with_reducible assumption) | assumption)
         have q490 : x18_1 < (l0.length : Int) := of_decide_eq_true (by first | (with_reducible assumption) | assumption)
         obtain ⟨ad490, A490_0, c490_0, e490, hx490_0, hl490_0, hi490_0⟩ := at_L3 HR0.out x18_1 p490 q490
         cases e490
         replace hx490_0 := (HB.out.cell (World.block_lt_of_cell? w _ hx490_0)).trans hx490_0
         have HR490_0 := Aside0.mk hi490_0
         have HC490_0 := Aside0.mk hl490_0
         clear hi490_0 hl490_0
         replace p490 := eq_true p490
         replace q490 := eq_true q490
         go_wp2
         go_loopg [24] k1 (fun kq v24 w' => ∃ (x5_2 : List Int) (x24_2 : Int), v24 = .int .i64 x24_2 ∧ Aside0 (impl_PointsOf.l1 kq a1 x5_2 l0 (l0.length : Int) x18_1 (rd_L3 l0 x18_1) ((rd_L3 l0 x18_1).length : Int) x24_2 = some r) ∧ Aside0 (kq ≤ k1) ∧ Aside0 (Kd.R (Kd.int .i64) 3 w' w.heap.size (fun _ => True) v488 x5_2) ∧ Aside0 (Below w.heap.size w w'))
         case atStart => exact ⟨(x5_1), (0), (by first | rfl | (simp; done) | (simp [*]; done)), H', ⟨Nat.le_refl _⟩, ⟨Kd.Rq HO_5.out⟩, ⟨blq HB.out⟩⟩
         case round =>
          clear H'
          try clear c1
          try clear p2
          try clear c4
          try clear p4
          try clear q4
          try clear hx4
          try clear c5
          try clear c5b0
          try clear c5b1
          try clear c6
          try clear c6b0
          try clear c6b1
          try clear c9
          try clear c10
          try clear c10b0
          try clear c11
          try clear c11b0
          try clear c12
          try clear c12b0
          try clear hx490_0
          try clear p2
          try clear p490
          try clear q490
          obtain ⟨x5_2, x24_2, rfl, HA, HK2, HO_5, HB⟩ := hrel
          cases gk with
          | zero => exact absurd HA.out (by simp [impl_PointsOf.l1])
          | succ k2 =>
           have H := HA.out
           clear HA
           simp only [impl_PointsOf.l1] at H
           by_cases c13 : x24_2 < ((rd_L3 l0 x18_1).length : Int)
           ·
            rw [if_pos c13] at H
            have c13b0 : decide (x24_2 < ((rd_L3 l0 x18_1).length : Int)) = true := decide_eq_true c13
            clear c13
            by_cases c14 : 0 ≤ x24_2
            ·
             rw [if_pos c14] at H
             have c14b0 : decide (0 ≤ x24_2) = true := decide_eq_true c14
             clear c14
             by_cases c15 : x24_2 < ((rd_L3 l0 x18_1).length : Int)
             ·
              rw [if_pos c15] at H
              have c15b0 : decide (x24_2 < ((rd_L3 l0 x18_1).length : Int)) = true := decide_eq_true c15
              clear c15
              by_cases c16 : 0 ≤ (rd (rd_L3 l0 x18_1) x24_2)
              ·
               rw [if_pos c16] at H
               have c16b0 : decide (0 ≤ (rd (rd_L3 l0 x18_1) x24_2)) = true := decide_eq_true c16
               clear c16
               by_cases c17 : (rd (rd_L3 l0 x18_1) x24_2) < (x5_2.length : Int)
               ·
                rw [if_pos c17] at H
                have c17b0 : decide ((rd (rd_L3 l0 x18_1) x24_2) < (x5_2.length : Int)) = true := decide_eq_true c17
                clear c17
                obtain ⟨y493, hy493⟩ : ∃ y_ : List Int, y_ = (x5_2.set ((rd (rd_L3 l0 x18_1) x24_2) : Int).toNat (wrap64 ((rd x5_2 (rd (rd_L3 l0 x18_1) x24_2)) + (wrap64 ((wrap64 (a1 - 1)) - x24_2))))) := ⟨_, rfl⟩
                replace H : (impl_PointsOf.l1 k2 a1 y493 l0 (l0.length : Int) x18_1 (rd_L3 l0 x18_1) ((rd_L3 l0 x18_1).length : Int) (wrap64 (x24_2 + 1))) = some r := by first | (rw [hy493]; with_reducible exact H) | (have H2_ := (Option.bind_some _ _).symm.trans H; rw [hy493]; with_reducible exact H2_) | (have H2_ := (Option.bind_some _ _).symm.trans H; with_reducible exact H2_) | with_reducible exact H | (rw [hy493]; exact H) | exact H
                have Ny493 := Aside0.mk hy493
                clear hy493
                have H' := Aside0.mk H
                clear H
                have p491 : 0 ≤ (x24_2 : Int) := of_decide_eq_true (by first | (with_reducible assumption) | assumption)
                have q491 : x24_2 < ((rd_L3 l0 x18_1).length : Int) := of_decide_eq_true (by first | (with_reducible assumption) | assumption)
                obtain ⟨ad491, e491, hx491_0⟩ := Kd.at_int HR490_0.out x24_2 p491 q491
                cases e491
                replace hx491_0 := (HB.out.cell (World.block_lt_of_cell? w _ hx491_0)).trans hx491_0
                replace p491 := eq_true p491
                replace q491 := eq_true q491
                obtain ⟨Ao19, co19, eo19⟩ := Kd.R_slice HO_5.out
                subst eo19
                have p492 : 0 ≤ ((rd (rd_L3 l0 x18_1) x24_2) : Int) := of_decide_eq_true (by first | (with_reducible assumption) | assumption)
                have q492 : (rd (rd_L3 l0 x18_1) x24_2) < (x5_2.length : Int) := of_decide_eq_true (by first | (with_reducible assumption) | assumption)
                obtain ⟨ad492, e492, hx492_0⟩ := Kd.at_int (Kd.R_reads' HO_5.out).2.2 (rd (rd_L3 l0 x18_1) x24_2) p492 q492
                cases e492
                replace p492 := eq_true p492
                replace q492 := eq_true q492
                have p18 : 0 ≤ ((rd (rd_L3 l0 x18_1) x24_2) : Int) := of_decide_eq_true (by first | (with_reducible assumption) | assumption)
                have q18 : ((rd (rd_L3 l0 x18_1) x24_2) : Int) < ((x5_2.length : Int) : Int) := of_decide_eq_true (by first | (with_reducible assumption) | assumption)
                obtain ⟨go18, co18, eo18, gb18, gl18, cl18, HG18⟩ := Kd.R_form HO_5.out (by omega)
                (first | cases eo18 | (injection eo18 with ea_ en_ ec_; (first | subst ea_ | (injection ea_ with ea_; subst ea_)); subst ec_; clear en_))
                have GB18 := Aside0.mk gb18
                have GG18 := Aside0.mk HG18
                clear gb18 gl18 HG18
                (first | simp only [add_plain] at hx492_0 | skip)
                obtain ⟨hx18_0, hf18_0⟩ := Kd.R_celln 0 HO_5.out ((rd (rd_L3 l0 x18_1) x24_2) : Int) p18 q18
                replace p18 := eq_true p18
                replace q18 := eq_true q18
                have HP20 := Kd.R_putg HO_5.out ((rd (rd_L3 l0 x18_1) x24_2) : Int) (wrap64 ((rd x5_2 (rd (rd_L3 l0 x18_1) x24_2)) + (wrap64 ((wrap64 (a1 - 1)) - x24_2))))
                go_wp2_with (first | ((with_reducible refine gate_store (t := 3) (p := 38) rfl ?_); refine store_event (t := 3) (p := 38) (v := ?vo_w21) (w1 := (wr.setCell ⟨go18, ((rd (rd_L3 l0 x18_1) x24_2) : Int).toNat, none⟩ (.int .i64 (wrap64 ((rd x5_2 (rd (rd_L3 l0 x18_1) x24_2)) + (wrap64 ((wrap64 (a1 - 1)) - x24_2))))))) ?hg ?ho ?hn ?hr ?_; (case ho => rfl); (case hg => rfl); (case hn => rfl); (case hr => first | (go_simp; done) | (go_simp; rfl)); intro w21 hw; have hg : wr.grownBy w21 (some go18) := (by rw [hw]; exact HP20.2); have hp_ : Kd.R (Kd.int .i64) 3 w21 w.heap.size (fun _ => True) (.slice (some ⟨go18, 0, none⟩) x5_2.length co19) y493 := (by rw [hw, Ny493.out]; exact HP20.1); clear HP20; have n0_ := Aside0.mk (hp_); have n1_ := Aside0.mk ((by rw [hw]; exact below_set (HB.out) GB18.out : Below w.heap.size w w21)); clear HO_5; clear HB; have HO_5 := n0_; have HB := n1_; clear n0_ n1_; clear hg hw hp_))
                go_roundg k2
                case measure => have := HK1.out; have := HK2.out; omega
                case rel => exact ⟨(y493), (wrap64 (x24_2 + 1)), (by first | rfl | (simp; done) | (simp [*]; done)), H', ⟨by have := HK1.out; have := HK2.out; omega⟩, ⟨Kd.Rq HO_5.out⟩, ⟨blq HB.out⟩⟩
               ·
                rw [if_neg c17] at H
                exact absurd H (by simp)
              ·
               rw [if_neg c16] at H
               exact absurd H (by simp)
             ·
              rw [if_neg c15] at H
              exact absurd H (by simp)
            ·
             rw [if_neg c14] at H
             exact absurd H (by simp)
           ·
            rw [if_neg c13] at H
            have c13b0 : decide (x24_2 < ((rd_L3 l0 x18_1).length : Int)) = false := decide_eq_false c13
            clear c13
            have H' := Aside0.mk H
            clear H
            go_wp2
            go_roundg k2
            case measure => have := HK1.out; have := HK2.out; omega
            case rel => exact ⟨(x5_2), (wrap64 (x18_1 + 1)), (by first | rfl | (simp; done) | (simp [*]; done)), H', ⟨by have := HK1.out; have := HK2.out; omega⟩, ⟨Kd.Rq HO_5.out⟩, ⟨blq HB.out⟩⟩
        ·
         rw [if_neg c12] at H
         exact absurd H (by simp)
       ·
        rw [if_neg c11] at H
        exact absurd H (by simp)
      ·
       rw [if_neg c10] at H
       have c10b0 : decide (x18_1 < (l0.length : Int)) = false := decide_eq_false c10
       clear c10
       obtain rfl := Option.some.inj H
       go_wp2
       go_ret
       exact ⟨_, by first | rfl | (simp [errW_none, errW_some] <;> rfl) | (simp [*, errW_none, errW_some] <;> rfl), Kd.Rq HO_5.out, blq HB.out⟩
   ·
    rw [if_neg c6] at H
    exact absurd H (by simp)
  ·
   rw [if_neg c5] at H
   exact absurd H (by simp)
 ·
  replace c4 := Bool.eq_false_iff.mpr c4
  subst c4
  have H1 : (some ([] : List Int)) = some r := by rw [if_neg (show ¬ (false = true) by decide)] at H; exact H
  clear H
  have H := H1
  clear H1
  obtain rfl := Option.some.inj H
  go_enter Try.func99, Try.ntmps99
  go_wp2_with (first | ((with_reducible refine gate_callee (f := 109) rfl ?_); refine gLq (some 12) Try.func109 #[.slice A0 l0.length c0, .int .i64 a1] ?_; (with_reducible refine (impl_VotesOk.calls k _ _ l0 a1 false _ ?side1 ?side2 A3.out).mono ?_); (case side1 => exact Kd.Cq HR0.out); (case side2 => exact HC0.out); rintro e w22 ⟨rfl, hb⟩; refine ⟨_, rfl, ?_⟩; have n0_ := Aside0.mk (below_step (blq HB.out) hb); clear HB; have HB := n0_; clear n0_; (try clear hb); (try clear hb2); (try clear hk); (try clear hi)))
  go_ret
  exact ⟨_, by first | rfl | (simp [errW_none, errW_some] <;> rfl) | (simp [*, errW_none, errW_some] <;> rfl), by first | exact Kd.R_nil _ _ _ _ _ | exact Kd.N_nil _ _ _ _ _ | exact Kd.V_nil _ _ _ _ _ | exact Kd.Q_nil _ _ _ _ _ | exact Kd.S_nil _ _ _ _ _, blq HB.out⟩

/-! ### slices_Max_int_int: function 101 (by hand) -/
/-- The greatest of some numbers. -/
def maxI (l : List Int) : Int := (l.drop 1).foldl (fun m y => if m < y then y else m) (l.headD 0)
theorem maxI_one (l : List Int) (h : 1 ≤ l.length) : maxI (l.take 1) = rd l 0 := by
  cases l with
  | nil => simp at h
  | cons x r => rfl
theorem maxI_next (l : List Int) (k : Nat) (h1 : 1 ≤ k) (h : k < l.length) : maxI (l.take (k + 1)) = if maxI (l.take k) < rd l (k : Int) then rd l (k : Int) else maxI (l.take k) := by
  have e : rd l (k : Int) = l[k] := by unfold rd; rw [Int.toNat_natCast, List.getD_eq_getElem?_getD, List.getElem?_eq_getElem h]; rfl
  rw [e, List.take_succ_eq_append_getElem h]
  unfold maxI
  have hl : (l.take k).length = k := by rw [List.length_take]; omega
  rw [List.drop_append_of_le_length (by omega), List.foldl_append]
  have e2 : (l.take k ++ [l[k]]).headD 0 = (l.take k).headD 0 := by
    cases hx : l.take k with
    | nil => rw [hx] at hl; simp at hl; omega
    | cons x r => rfl
  rw [e2]; rfl
set_option maxHeartbeats 8000000 in
set_option maxRecDepth 100000 in
theorem maxI.calls (A0 : Option Addr) (c0 : Nat) (l0 : List Int) (w : World) (hr0 : Kd.C (Kd.int .i64) w A0 l0.length l0) (hn0 : 1 ≤ l0.length) :
    Calls Try.prog 101 #[.slice A0 l0.length c0] w fun e w' => e = .returned (.int .i64 (maxI l0)) ∧ Below w.heap.size w w' := by
  have hn := hr0.2.1
  have HR0 := Aside0.mk hr0
  clear hr0
  have HB := Aside0.mk (Below.refl w.heap.size w)
  have hlt0 : ¬ (l0.length : Int) < 1 := by omega
  have hlz : (0 : Int) < (l0.length : Int) := by omega
  obtain ⟨ad, e0, hcell0⟩ := Kd.at_int HR0.out 0 (by omega) (by omega)
  cases e0
  replace hcell0 : w.cell? ad = some (.int .i64 (rd l0 0)) := by simpa [Addr.add_zero'] using hcell0
  have HM := Aside0.mk (maxI_one l0 hn0)
  go_enter Try.func101, Try.ntmps101
  go_wp2
  go_loopg [3, 4] l0.length (fun gg s3 s4 wr => ∃ (kk : Nat) (m : Int), 1 ≤ kk ∧ kk ≤ l0.length ∧ l0.length - kk ≤ gg ∧ s3 = .int .i64 m ∧ s4 = .int .i64 kk ∧ Aside0 (maxI (l0.take kk) = m) ∧ Aside0 (Below w.heap.size w wr))
  case atStart => exact ⟨1, _, Nat.le_refl _, hn0, by omega, rfl, rfl, HM, ⟨by (repeat (first | (with_reducible first | exact HB.out | apply below_alloc | apply pw_below_drewN | apply below_drew1) | exact HB.out))⟩⟩
  case round =>
    clear HB HM hcell0
    obtain ⟨kk, m, hk1, hkk, hg, rfl, rfl, HM, HB⟩ := hrel
    by_cases hlt : kk < l0.length
    · have hltz : (kk : Int) < (l0.length : Int) := by omega
      obtain ⟨ad', e, hcell⟩ := Kd.at_int HR0.out (kk : Int) (by omega) (by omega)
      cases e
      replace hcell := (HB.out.cell (World.block_lt_of_cell? w _ hcell)).trans hcell
      rw [Int.toNat_natCast] at hcell
      have HN := Aside0.mk (maxI_next l0 kk hk1 hlt)
      rw [HM.out] at HN
      generalize rd l0 (kk : Int) = y at hcell HN
      by_cases cmy : m < y
      all_goals
        first | rw [if_pos cmy] at HN | rw [if_neg cmy] at HN
        go_wp2
        go_roundg (l0.length - (kk + 1))
        case measure => omega
        case rel => exact ⟨kk + 1, _, by omega, by omega, by omega, rfl, by go_num, HN, ⟨by (repeat (first | (with_reducible first | exact HB.out | apply below_alloc | apply pw_below_drewN | apply below_drew1) | exact HB.out))⟩⟩
    · have hltz : ¬ (kk : Int) < (l0.length : Int) := by omega
      have : kk = l0.length := by omega
      subst this
      rw [List.take_length] at HM
      go_wp2
      go_ret
      exact ⟨by rw [HM.out]; rfl, HB.out⟩

end Go.Proofs.Ytnlioefgpgamdaa.Q
