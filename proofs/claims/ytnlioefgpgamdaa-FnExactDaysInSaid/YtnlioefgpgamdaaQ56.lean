-- Written for this claim by wip/xprint.py of this repository (by way of the kit's print); Lean checks every line.
import Derived.Test.YtnlioefgpgamdaaQ0
import Derived.Test.YtnlioefgpgamdaaQ46
import Derived.Test.YtnlioefgpgamdaaQ48
import Derived.Test.YtnlioefgpgamdaaQ55
namespace Go.Proofs.Ytnlioefgpgamdaa.Q
open Go.RowKit Go.Proofs.YtnlioefgpgamdaaW.PrintWords Go.Proofs.YtnlioefgpgamdaaW.PrintLast Go.Proofs.YtnlioefgpgamdaaW.PrintMore
attribute [local go_sem] max2_int min2_int max_two min_two max_three min_three max_four min_four   -- for this text's walks alone
set_option linter.unusedVariables false
set_option linter.unusedSimpArgs false

/-! ### spec_DaysIn: function 75 -/
def spec_DaysIn.l0 : Nat → Int → Int → List (S44) → Int → Int → Int → Int → Int → Int → Option (Int)
 | 0, _, _, _, _, _, _, _, _, _ => none
 | k + 1, x3, x4, x1306000, x1306001, x1306002, x1306003, x1306004, x1306005, x1306006 => if x4 < (x1306000.length : Int) then (if 0 ≤ x4 then (if ((rd_T44 x1306000 x4).f0) = 4 then (spec_DaysIn.l0 k (wrap64 (x3 + 1)) (wrap64 (x4 + 1)) x1306000 x1306001 x1306002 x1306003 x1306004 x1306005 x1306006) else (spec_DaysIn.l0 k x3 (wrap64 (x4 + 1)) x1306000 x1306001 x1306002 x1306003 x1306004 x1306005 x1306006)) else (none)) else (some x3)
def spec_DaysIn.f (k : Nat) (l0_0 : List (S44)) (a0_1 : Int) (a0_2 : Int) (a0_3 : Int) (a0_4 : Int) (a0_5 : Int) (a0_6 : Int) : Option (Int) := (spec_BookOk.f k l0_0 a0_1 a0_2 a0_3 a0_4 a0_5 a0_6).bind fun t1306 => (if t1306 = true then (spec_DaysIn.l0 k 0 0 l0_0 a0_1 a0_2 a0_3 a0_4 a0_5 a0_6) else (some (-1)))
theorem spec_DaysIn.mono_l : ∀ k, (∀ y0 y1 y2 y3 y4 y5 y6 y7 y8, LeO (spec_DaysIn.l0 k y0 y1 y2 y3 y4 y5 y6 y7 y8) (spec_DaysIn.l0 (k + 1) y0 y1 y2 y3 y4 y5 y6 y7 y8))
 | 0 => fun _ _ _ _ _ _ _ _ _ r h => by simp [spec_DaysIn.l0] at h
 | k + 1 => by
  have ih0 := spec_DaysIn.mono_l k
  ·
   intro y0 y1 y2 y3 y4 y5 y6 y7 y8
   unfold spec_DaysIn.l0
   repeat' first
   | (with_reducible exact ih0 _ _ _ _ _ _ _ _ _)
   | (with_reducible exact spec_BookOk.mono _ _ _ _ _ _ _ _)
   | (with_reducible exact LeO.refl _)
   | (with_reducible exact LeO.none _)
   | (with_reducible refine LeO.ite ?_ ?_)
   | (with_reducible refine LeO.bind ?_ (fun _ => ?_))
   | exact ih0 _ _ _ _ _ _ _ _ _
   | exact spec_BookOk.mono _ _ _ _ _ _ _ _
   | exact LeO.none _
   | refine LeO.ite ?_ ?_
   | refine LeO.bind ?_ (fun _ => ?_)
theorem spec_DaysIn.mono : ∀ a0 a1 a2 a3 a4 a5 a6 k, LeO (spec_DaysIn.f k a0 a1 a2 a3 a4 a5 a6) (spec_DaysIn.f (k + 1) a0 a1 a2 a3 a4 a5 a6) := by
 intro a0 a1 a2 a3 a4 a5 a6 k
 have ih0 := spec_DaysIn.mono_l k
 unfold spec_DaysIn.f
 repeat' first
   | (with_reducible exact ih0 _ _ _ _ _ _ _ _ _)
   | (with_reducible exact spec_BookOk.mono _ _ _ _ _ _ _ _)
   | (with_reducible exact LeO.refl _)
   | (with_reducible exact LeO.none _)
   | (with_reducible refine LeO.ite ?_ ?_)
   | (with_reducible refine LeO.bind ?_ (fun _ => ?_))
   | exact ih0 _ _ _ _ _ _ _ _ _
   | exact spec_BookOk.mono _ _ _ _ _ _ _ _
   | exact LeO.none _
   | refine LeO.ite ?_ ?_
   | refine LeO.bind ?_ (fun _ => ?_)
set_option maxHeartbeats 8000000 in
set_option maxRecDepth 100000 in
theorem spec_DaysIn.calls (k : Nat) (A0_0 : Option Addr) (c0_0 : Nat) (l0_0 : List (S44)) (a0_1 : Int) (a0_2 : Int) (a0_3 : Int) (a0_4 : Int) (a0_5 : Int) (a0_6 : Int) (r : Int) (w : World) (hr0_0 : Kd.C k44 w A0_0 l0_0.length l0_0) (hc0_0 : l0_0.length ≤ c0_0) (h : spec_DaysIn.f k l0_0 a0_1 a0_2 a0_3 a0_4 a0_5 a0_6 = some r) :
  Calls Try.prog 75 #[.agg #[.slice A0_0 l0_0.length c0_0, .int .i64 a0_1, .int .i64 a0_2, .int .i64 a0_3, .int .i64 a0_4, .int .i64 a0_5, .int .i64 a0_6]] w fun e w' => e = .returned (.int .i64 r) ∧ Below w.heap.size w w' := by
 have hu93 := Try.underlying93
 have HR0_0 := Aside0.mk hr0_0
 have HC0_0 := Aside0.mk hc0_0
 clear hr0_0 hc0_0
 have HB := Aside0.mk (Below.refl w.heap.size w)
 have H : ((spec_BookOk.f k l0_0 a0_1 a0_2 a0_3 a0_4 a0_5 a0_6).bind fun t1306 => (if t1306 = true then (spec_DaysIn.l0 k 0 0 l0_0 a0_1 a0_2 a0_3 a0_4 a0_5 a0_6) else (some (-1)))) = some r := h
 clear h
 replace H := Option.bind_eq_some_iff.mp H
 obtain ⟨t1306, A20, H⟩ := H
 replace H : (if t1306 = true then (spec_DaysIn.l0 k 0 0 l0_0 a0_1 a0_2 a0_3 a0_4 a0_5 a0_6) else (some (-1))) = some r := H
 have A2 := Aside0.mk A20
 clear A20
 by_cases c3 : t1306 = true
 ·
  subst c3
  have H1 : (spec_DaysIn.l0 k 0 0 l0_0 a0_1 a0_2 a0_3 a0_4 a0_5 a0_6) = some r := by rw [if_pos rfl] at H; exact H
  clear H
  have H := H1
  clear H1
  have H' := Aside0.mk H
  clear H
  go_enter Try.func75, Try.ntmps75
  go_wp2_with (first | ((with_reducible refine gate_dst (N := 1) rfl ?_); refine box_event ?hg (N := 1) ?hd (cs := #[.slice A0_0 l0_0.length c0_0, .int .i64 a0_1, .int .i64 a0_2, .int .i64 a0_3, .int .i64 a0_4, .int .i64 a0_5, .int .i64 a0_6]) (t := 93) ?hr ?_; (case hd => rfl); (case hg => rfl); (case hr => first | (go_simp; done) | (go_simp; rfl)); intro gb1305 hg w4 hbox hb; have n0_ := Aside0.mk (below_step (blq HB.out) hb); have n1_ := Aside0.mk (hbox); have n2_ := Aside0.mk ((sq hg HB.out)); have n3_ := Aside0.mk ((sq hg HB.out)); clear HB; have HB := n0_; have BK1305 := n1_; have GW1305 := n2_; have GE1305 := n3_; clear n0_ n1_ n2_ n3_; clear hb hbox hg; obtain ⟨hcz5_0, hcz5_1, hcz5_2, hcz5_3, hcz5_4, hcz5_5, hcz5_6, hfz5_0, hfz5_1, hfz5_2, hfz5_3, hfz5_4, hfz5_5, hfz5_6⟩ := bq7 BK1305.out) | ((with_reducible refine gate_callee (f := 66) rfl ?_); refine gLq (some 6) Try.func66 #[.agg #[.slice A0_0 l0_0.length c0_0, .int .i64 a0_1, .int .i64 a0_2, .int .i64 a0_3, .int .i64 a0_4, .int .i64 a0_5, .int .i64 a0_6]] ?_; (with_reducible refine (spec_BookOk.calls k _ _ l0_0 a0_1 a0_2 a0_3 a0_4 a0_5 a0_6 true _ ?side1 ?side2 A2.out).mono ?_); (case side1 => exact Kd.Cq (Kd.C_below HR0_0.out HB.out)); (case side2 => exact HC0_0.out); rintro e w6 ⟨rfl, hb⟩; refine ⟨_, rfl, ?_⟩; have n0_ := Aside0.mk (blk_below (bkq BK1305.out) hb); have n1_ := Aside0.mk (below_step (blq HB.out) hb); clear BK1305; clear HB; have BK1305 := n0_; have HB := n1_; clear n0_ n1_; (try clear hb); (try clear hb2); (try clear hk); (try clear hi)))
  go_loopg [3, 4] k (fun kq v3 v4 w' => ∃ (x3_1 : Int) (x4_1 : Int), v3 = .int .i64 x3_1 ∧ v4 = .int .i64 x4_1 ∧ Aside0 (spec_DaysIn.l0 kq x3_1 x4_1 l0_0 a0_1 a0_2 a0_3 a0_4 a0_5 a0_6 = some r) ∧ Aside0 (kq ≤ k) ∧ Aside0 (w'.heap[gb1305]? = some (.cells #[(.slice A0_0 l0_0.length c0_0), .int .i64 a0_1, .int .i64 a0_2, .int .i64 a0_3, .int .i64 a0_4, .int .i64 a0_5, .int .i64 a0_6] 93 (0, 0))) ∧ Aside0 (Below w.heap.size w w'))
  case atStart => exact ⟨(0), (0), (by first | rfl | (simp; done) | (simp [*]; done)), (by first | rfl | (simp; done) | (simp [*]; done)), H', ⟨Nat.le_refl _⟩, ⟨bkq BK1305.out⟩, ⟨blq HB.out⟩⟩
  case round =>
   clear H'
   try clear p2
   try clear c3
   try clear c6
   try clear hcz5_0
   try clear hcz5_1
   try clear hcz5_2
   try clear hcz5_3
   try clear hcz5_4
   try clear hcz5_5
   try clear hcz5_6
   try clear hfz5_0
   try clear hfz5_1
   try clear hfz5_2
   try clear hfz5_3
   try clear hfz5_4
   try clear hfz5_5
   try clear hfz5_6
   obtain ⟨x3_1, x4_1, rfl, rfl, HA, HK1, BK1305, HB⟩ := hrel
   cases gk with
   | zero => exact absurd HA.out (by simp [spec_DaysIn.l0])
   | succ k1 =>
    have H := HA.out
    clear HA
    simp only [spec_DaysIn.l0] at H
    by_cases c7 : x4_1 < (l0_0.length : Int)
    ·
     rw [if_pos c7] at H
     have c7b0 : decide (x4_1 < (l0_0.length : Int)) = true := decide_eq_true c7
     clear c7
     by_cases c8 : 0 ≤ x4_1
     ·
      rw [if_pos c8] at H
      have c8b0 : decide (0 ≤ x4_1) = true := decide_eq_true c8
      clear c8
      by_cases c9 : ((rd_T44 l0_0 x4_1).f0) = 4
      ·
       rw [if_pos c9] at H
       have c9b0 : (((rd_T44 l0_0 x4_1).f0) == 4) = true := beq_iff_eq.mpr c9
       have c9b1 : (((rd_T44 l0_0 x4_1).f0) != 4) = false := bne_eq_false_iff_eq.mpr c9
       clear c9
       have H' := Aside0.mk H
       clear H
       obtain ⟨hcz10_0, hcz10_1, hcz10_2, hcz10_3, hcz10_4, hcz10_5, hcz10_6, hfz10_0, hfz10_1, hfz10_2, hfz10_3, hfz10_4, hfz10_5, hfz10_6⟩ := bq7 BK1305.out
       have p1307 : 0 ≤ (x4_1 : Int) := of_decide_eq_true (by first | (with_reducible assumption) | assumption)
       have q1307 : x4_1 < (l0_0.length : Int) := of_decide_eq_true (by first | (with_reducible assumption) | assumption)
       obtain ⟨ad1307, e1307, hx1307_0, hx1307_1⟩ := at_T44 HR0_0.out x4_1 p1307 q1307
       cases e1307
       replace hx1307_0 := (HB.out.cell (World.block_lt_of_cell? w _ hx1307_0)).trans hx1307_0
       replace hx1307_1 := (HB.out.cell (World.block_lt_of_cell? w _ hx1307_1)).trans hx1307_1
       replace p1307 := eq_true p1307
       replace q1307 := eq_true q1307
       go_wp2
       go_roundg k1
       case measure => have := HK1.out; omega
       case rel => exact ⟨(wrap64 (x3_1 + 1)), (wrap64 (x4_1 + 1)), (by first | rfl | (simp; done) | (simp [*]; done)), (by first | rfl | (simp; done) | (simp [*]; done)), H', ⟨by have := HK1.out; omega⟩, ⟨bkq BK1305.out⟩, ⟨blq HB.out⟩⟩
      ·
       rw [if_neg c9] at H
       have c9b0 : (((rd_T44 l0_0 x4_1).f0) == 4) = false := beq_eq_false_iff_ne.mpr c9
       have c9b1 : (((rd_T44 l0_0 x4_1).f0) != 4) = true := bne_iff_ne.mpr c9
       have H' := Aside0.mk H
       clear H
       obtain ⟨hcz11_0, hcz11_1, hcz11_2, hcz11_3, hcz11_4, hcz11_5, hcz11_6, hfz11_0, hfz11_1, hfz11_2, hfz11_3, hfz11_4, hfz11_5, hfz11_6⟩ := bq7 BK1305.out
       have p1307 : 0 ≤ (x4_1 : Int) := of_decide_eq_true (by first | (with_reducible assumption) | assumption)
       have q1307 : x4_1 < (l0_0.length : Int) := of_decide_eq_true (by first | (with_reducible assumption) | assumption)
       obtain ⟨ad1307, e1307, hx1307_0, hx1307_1⟩ := at_T44 HR0_0.out x4_1 p1307 q1307
       cases e1307
       replace hx1307_0 := (HB.out.cell (World.block_lt_of_cell? w _ hx1307_0)).trans hx1307_0
       replace hx1307_1 := (HB.out.cell (World.block_lt_of_cell? w _ hx1307_1)).trans hx1307_1
       replace p1307 := eq_true p1307
       replace q1307 := eq_true q1307
       go_wp2
       go_roundg k1
       case measure => have := HK1.out; omega
       case rel => exact ⟨(x3_1), (wrap64 (x4_1 + 1)), (by first | rfl | (simp; done) | (simp [*]; done)), (by first | rfl | (simp; done) | (simp [*]; done)), H', ⟨by have := HK1.out; omega⟩, ⟨bkq BK1305.out⟩, ⟨blq HB.out⟩⟩
     ·
      rw [if_neg c8] at H
      exact absurd H (by simp)
    ·
     rw [if_neg c7] at H
     have c7b0 : decide (x4_1 < (l0_0.length : Int)) = false := decide_eq_false c7
     clear c7
     obtain rfl := Option.some.inj H
     obtain ⟨hcz12_0, hcz12_1, hcz12_2, hcz12_3, hcz12_4, hcz12_5, hcz12_6, hfz12_0, hfz12_1, hfz12_2, hfz12_3, hfz12_4, hfz12_5, hfz12_6⟩ := bq7 BK1305.out
     go_wp2
     go_ret
     exact ⟨by first | rfl | (simp [errW_none, errW_some] <;> rfl) | (simp [*, errW_none, errW_some] <;> rfl), blq HB.out⟩
 ·
  replace c3 := Bool.eq_false_iff.mpr c3
  subst c3
  have H1 : (some (-1)) = some r := by rw [if_neg (show ¬ (false = true) by decide)] at H; exact H
  clear H
  have H := H1
  clear H1
  obtain rfl := Option.some.inj H
  go_enter Try.func75, Try.ntmps75
  go_wp2_with (first | ((with_reducible refine gate_dst (N := 1) rfl ?_); refine box_event ?hg (N := 1) ?hd (cs := #[.slice A0_0 l0_0.length c0_0, .int .i64 a0_1, .int .i64 a0_2, .int .i64 a0_3, .int .i64 a0_4, .int .i64 a0_5, .int .i64 a0_6]) (t := 93) ?hr ?_; (case hd => rfl); (case hg => rfl); (case hr => first | (go_simp; done) | (go_simp; rfl)); intro gb1305 hg w13 hbox hb; have n0_ := Aside0.mk (below_step (blq HB.out) hb); have n1_ := Aside0.mk (hbox); have n2_ := Aside0.mk ((sq hg HB.out)); have n3_ := Aside0.mk ((sq hg HB.out)); clear HB; have HB := n0_; have BK1305 := n1_; have GW1305 := n2_; have GE1305 := n3_; clear n0_ n1_ n2_ n3_; clear hb hbox hg; obtain ⟨hcz14_0, hcz14_1, hcz14_2, hcz14_3, hcz14_4, hcz14_5, hcz14_6, hfz14_0, hfz14_1, hfz14_2, hfz14_3, hfz14_4, hfz14_5, hfz14_6⟩ := bq7 BK1305.out) | ((with_reducible refine gate_callee (f := 66) rfl ?_); refine gLq (some 6) Try.func66 #[.agg #[.slice A0_0 l0_0.length c0_0, .int .i64 a0_1, .int .i64 a0_2, .int .i64 a0_3, .int .i64 a0_4, .int .i64 a0_5, .int .i64 a0_6]] ?_; (with_reducible refine (spec_BookOk.calls k _ _ l0_0 a0_1 a0_2 a0_3 a0_4 a0_5 a0_6 false _ ?side1 ?side2 A2.out).mono ?_); (case side1 => exact Kd.Cq (Kd.C_below HR0_0.out HB.out)); (case side2 => exact HC0_0.out); rintro e w15 ⟨rfl, hb⟩; refine ⟨_, rfl, ?_⟩; have n0_ := Aside0.mk (blk_below (bkq BK1305.out) hb); have n1_ := Aside0.mk (below_step (blq HB.out) hb); clear BK1305; clear HB; have BK1305 := n0_; have HB := n1_; clear n0_ n1_; (try clear hb); (try clear hb2); (try clear hk); (try clear hi)))
  go_ret
  exact ⟨by first | rfl | (simp [errW_none, errW_some] <;> rfl) | (simp [*, errW_none, errW_some] <;> rfl), blq HB.out⟩

/-! ### laws_FnExactDaysIn: function 14 -/
def laws_FnExactDaysIn.f (k : Nat) (l0_0 : List (S39)) (a0_1 : Int) (a0_2 : Int) (a0_3 : Int) (a0_4 : Int) (a0_5 : Int) (a0_6 : Int) : Option (Bool) := (laws_szBook.f l0_0 a0_1 a0_2 a0_3 a0_4 a0_5 a0_6 1048576).bind fun t1309 => (if t1309 < 0 then (some true) else ((laws_toBook.f k l0_0 a0_1 a0_2 a0_3 a0_4 a0_5 a0_6).bind fun bt1310 => ((spec_DaysIn.f k bt1310.1 bt1310.2.1 bt1310.2.2.1 bt1310.2.2.2.1 bt1310.2.2.2.2.1 bt1310.2.2.2.2.2.1 bt1310.2.2.2.2.2.2).bind fun t1319 => ((laws_toBook.f k l0_0 a0_1 a0_2 a0_3 a0_4 a0_5 a0_6).bind fun bt1320 => ((impl_DaysIn.f k bt1320.1 bt1320.2.1 bt1320.2.2.1 bt1320.2.2.2.1 bt1320.2.2.2.2.1 bt1320.2.2.2.2.2.1 bt1320.2.2.2.2.2.2).bind fun t1330 => (if t1330 = t1319 then ((laws_toBook.f k l0_0 a0_1 a0_2 a0_3 a0_4 a0_5 a0_6).bind fun bt1331 => ((laws_eqBook.f k bt1320.1 bt1320.2.1 bt1320.2.2.1 bt1320.2.2.2.1 bt1320.2.2.2.2.1 bt1320.2.2.2.2.2.1 bt1320.2.2.2.2.2.2 bt1331.1 bt1331.2.1 bt1331.2.2.1 bt1331.2.2.2.1 bt1331.2.2.2.2.1 bt1331.2.2.2.2.2.1 bt1331.2.2.2.2.2.2).bind fun t1340 => (if t1340 = true then (some true) else (some false)))) else (some false)))))))
theorem laws_FnExactDaysIn.mono : ∀ a0 a1 a2 a3 a4 a5 a6 k, LeO (laws_FnExactDaysIn.f k a0 a1 a2 a3 a4 a5 a6) (laws_FnExactDaysIn.f (k + 1) a0 a1 a2 a3 a4 a5 a6) := by
 intro a0 a1 a2 a3 a4 a5 a6 k
 unfold laws_FnExactDaysIn.f
 repeat' first
   | (with_reducible exact impl_DaysIn.mono _ _ _ _ _ _ _ _)
   | (with_reducible exact laws_eqBook.mono _ _ _ _ _ _ _ _ _ _ _ _ _ _ _)
   | (with_reducible exact laws_toBook.mono _ _ _ _ _ _ _ _)
   | (with_reducible exact spec_DaysIn.mono _ _ _ _ _ _ _ _)
   | (with_reducible exact LeO.refl _)
   | (with_reducible exact LeO.none _)
   | (with_reducible refine LeO.ite ?_ ?_)
   | (with_reducible refine LeO.bind ?_ (fun _ => ?_))
   | exact impl_DaysIn.mono _ _ _ _ _ _ _ _
   | exact laws_eqBook.mono _ _ _ _ _ _ _ _ _ _ _ _ _ _ _
   | exact laws_toBook.mono _ _ _ _ _ _ _ _
   | exact spec_DaysIn.mono _ _ _ _ _ _ _ _
   | exact LeO.none _
   | refine LeO.ite ?_ ?_
   | refine LeO.bind ?_ (fun _ => ?_)
set_option maxHeartbeats 8000000 in
set_option maxRecDepth 100000 in
theorem laws_FnExactDaysIn.calls (k : Nat) (A0_0 : Option Addr) (c0_0 : Nat) (l0_0 : List (S39)) (a0_1 : Int) (a0_2 : Int) (a0_3 : Int) (a0_4 : Int) (a0_5 : Int) (a0_6 : Int) (r : Bool) (w : World) (hr0_0 : Kd.C k39 w A0_0 l0_0.length l0_0) (hc0_0 : l0_0.length ≤ c0_0) (h : laws_FnExactDaysIn.f k l0_0 a0_1 a0_2 a0_3 a0_4 a0_5 a0_6 = some r) :
  Calls Try.prog 14 #[.agg #[.slice A0_0 l0_0.length c0_0, .int .i64 a0_1, .int .i64 a0_2, .int .i64 a0_3, .int .i64 a0_4, .int .i64 a0_5, .int .i64 a0_6]] w fun e w' => e = .returned (.bool r) ∧ Below w.heap.size w w' := by
 have hu88 := Try.underlying88
 have hu93 := Try.underlying93
 have HR0_0 := Aside0.mk hr0_0
 have HC0_0 := Aside0.mk hc0_0
 clear hr0_0 hc0_0
 have HB := Aside0.mk (Below.refl w.heap.size w)
 have H : ((laws_szBook.f l0_0 a0_1 a0_2 a0_3 a0_4 a0_5 a0_6 1048576).bind fun t1309 => (if t1309 < 0 then (some true) else ((laws_toBook.f k l0_0 a0_1 a0_2 a0_3 a0_4 a0_5 a0_6).bind fun bt1310 => ((spec_DaysIn.f k bt1310.1 bt1310.2.1 bt1310.2.2.1 bt1310.2.2.2.1 bt1310.2.2.2.2.1 bt1310.2.2.2.2.2.1 bt1310.2.2.2.2.2.2).bind fun t1319 => ((laws_toBook.f k l0_0 a0_1 a0_2 a0_3 a0_4 a0_5 a0_6).bind fun bt1320 => ((impl_DaysIn.f k bt1320.1 bt1320.2.1 bt1320.2.2.1 bt1320.2.2.2.1 bt1320.2.2.2.2.1 bt1320.2.2.2.2.2.1 bt1320.2.2.2.2.2.2).bind fun t1330 => (if t1330 = t1319 then ((laws_toBook.f k l0_0 a0_1 a0_2 a0_3 a0_4 a0_5 a0_6).bind fun bt1331 => ((laws_eqBook.f k bt1320.1 bt1320.2.1 bt1320.2.2.1 bt1320.2.2.2.1 bt1320.2.2.2.2.1 bt1320.2.2.2.2.2.1 bt1320.2.2.2.2.2.2 bt1331.1 bt1331.2.1 bt1331.2.2.1 bt1331.2.2.2.1 bt1331.2.2.2.2.1 bt1331.2.2.2.2.2.1 bt1331.2.2.2.2.2.2).bind fun t1340 => (if t1340 = true then (some true) else (some false)))) else (some false)))))))) = some r := h
 clear h
 replace H := Option.bind_eq_some_iff.mp H
 obtain ⟨t1309, A20, H⟩ := H
 replace H : (if t1309 < 0 then (some true) else ((laws_toBook.f k l0_0 a0_1 a0_2 a0_3 a0_4 a0_5 a0_6).bind fun bt1310 => ((spec_DaysIn.f k bt1310.1 bt1310.2.1 bt1310.2.2.1 bt1310.2.2.2.1 bt1310.2.2.2.2.1 bt1310.2.2.2.2.2.1 bt1310.2.2.2.2.2.2).bind fun t1319 => ((laws_toBook.f k l0_0 a0_1 a0_2 a0_3 a0_4 a0_5 a0_6).bind fun bt1320 => ((impl_DaysIn.f k bt1320.1 bt1320.2.1 bt1320.2.2.1 bt1320.2.2.2.1 bt1320.2.2.2.2.1 bt1320.2.2.2.2.2.1 bt1320.2.2.2.2.2.2).bind fun t1330 => (if t1330 = t1319 then ((laws_toBook.f k l0_0 a0_1 a0_2 a0_3 a0_4 a0_5 a0_6).bind fun bt1331 => ((laws_eqBook.f k bt1320.1 bt1320.2.1 bt1320.2.2.1 bt1320.2.2.2.1 bt1320.2.2.2.2.1 bt1320.2.2.2.2.2.1 bt1320.2.2.2.2.2.2 bt1331.1 bt1331.2.1 bt1331.2.2.1 bt1331.2.2.2.1 bt1331.2.2.2.2.1 bt1331.2.2.2.2.2.1 bt1331.2.2.2.2.2.2).bind fun t1340 => (if t1340 = true then (some true) else (some false)))) else (some false))))))) = some r := H
 have A2 := Aside0.mk A20
 clear A20
 by_cases c3 : t1309 < 0
 ·
  rw [if_pos c3] at H
  have c3b0 : decide (t1309 < 0) = true := decide_eq_true c3
  clear c3
  obtain rfl := Option.some.inj H
  go_enter Try.func14, Try.ntmps14
  go_wp2_with (first | ((with_reducible refine gate_dst (N := 1) rfl ?_); refine box_event ?hg (N := 1) ?hd (cs := #[.slice A0_0 l0_0.length c0_0, .int .i64 a0_1, .int .i64 a0_2, .int .i64 a0_3, .int .i64 a0_4, .int .i64 a0_5, .int .i64 a0_6]) (t := 88) ?hr ?_; (case hd => rfl); (case hg => rfl); (case hr => first | (go_simp; done) | (go_simp; rfl)); intro gb1308 hg w4 hbox hb; have n0_ := Aside0.mk (below_step (blq HB.out) hb); have n1_ := Aside0.mk (hbox); have n2_ := Aside0.mk ((sq hg HB.out)); have n3_ := Aside0.mk ((sq hg HB.out)); clear HB; have HB := n0_; have BK1308 := n1_; have GW1308 := n2_; have GE1308 := n3_; clear n0_ n1_ n2_ n3_; clear hb hbox hg; obtain ⟨hcz5_0, hcz5_1, hcz5_2, hcz5_3, hcz5_4, hcz5_5, hcz5_6, hfz5_0, hfz5_1, hfz5_2, hfz5_3, hfz5_4, hfz5_5, hfz5_6⟩ := bq7 BK1308.out) | ((with_reducible refine gate_callee (f := 65) rfl ?_); refine gLq (some 9) Try.func65 #[.agg #[.slice A0_0 l0_0.length c0_0, .int .i64 a0_1, .int .i64 a0_2, .int .i64 a0_3, .int .i64 a0_4, .int .i64 a0_5, .int .i64 a0_6], .int .i64 1048576] ?_; (with_reducible refine (laws_szBook.calls _ _ l0_0 a0_1 a0_2 a0_3 a0_4 a0_5 a0_6 1048576 t1309 _ ?side1 ?side2 A2.out).mono ?_); (case side1 => exact Kd.Cq (Kd.C_below HR0_0.out HB.out)); (case side2 => exact HC0_0.out); rintro e w6 ⟨rfl, hb⟩; refine ⟨_, rfl, ?_⟩; have n0_ := Aside0.mk (blk_below (bkq BK1308.out) hb); have n1_ := Aside0.mk (below_step (blq HB.out) hb); clear BK1308; clear HB; have BK1308 := n0_; have HB := n1_; clear n0_ n1_; (try clear hb); (try clear hb2); (try clear hk); (try clear hi)))
  go_ret
  exact ⟨by first | rfl | (simp [errW_none, errW_some] <;> rfl) | (simp [*, errW_none, errW_some] <;> rfl), blq HB.out⟩
 ·
  rw [if_neg c3] at H
  have c3b0 : decide (t1309 < 0) = false := decide_eq_false c3
  clear c3
  replace H := Option.bind_eq_some_iff.mp H
  obtain ⟨⟨t1310, t1313, t1314, t1315, t1316, t1317, t1318⟩, A70, H⟩ := H
  replace H : ((spec_DaysIn.f k t1310 t1313 t1314 t1315 t1316 t1317 t1318).bind fun t1319 => ((laws_toBook.f k l0_0 a0_1 a0_2 a0_3 a0_4 a0_5 a0_6).bind fun bt1320 => ((impl_DaysIn.f k bt1320.1 bt1320.2.1 bt1320.2.2.1 bt1320.2.2.2.1 bt1320.2.2.2.2.1 bt1320.2.2.2.2.2.1 bt1320.2.2.2.2.2.2).bind fun t1330 => (if t1330 = t1319 then ((laws_toBook.f k l0_0 a0_1 a0_2 a0_3 a0_4 a0_5 a0_6).bind fun bt1331 => ((laws_eqBook.f k bt1320.1 bt1320.2.1 bt1320.2.2.1 bt1320.2.2.2.1 bt1320.2.2.2.2.1 bt1320.2.2.2.2.2.1 bt1320.2.2.2.2.2.2 bt1331.1 bt1331.2.1 bt1331.2.2.1 bt1331.2.2.2.1 bt1331.2.2.2.2.1 bt1331.2.2.2.2.2.1 bt1331.2.2.2.2.2.2).bind fun t1340 => (if t1340 = true then (some true) else (some false)))) else (some false))))) = some r := H
  have A7 := Aside0.mk A70
  clear A70
  replace H := Option.bind_eq_some_iff.mp H
  obtain ⟨t1319, A80, H⟩ := H
  replace H : ((laws_toBook.f k l0_0 a0_1 a0_2 a0_3 a0_4 a0_5 a0_6).bind fun bt1320 => ((impl_DaysIn.f k bt1320.1 bt1320.2.1 bt1320.2.2.1 bt1320.2.2.2.1 bt1320.2.2.2.2.1 bt1320.2.2.2.2.2.1 bt1320.2.2.2.2.2.2).bind fun t1330 => (if t1330 = t1319 then ((laws_toBook.f k l0_0 a0_1 a0_2 a0_3 a0_4 a0_5 a0_6).bind fun bt1331 => ((laws_eqBook.f k bt1320.1 bt1320.2.1 bt1320.2.2.1 bt1320.2.2.2.1 bt1320.2.2.2.2.1 bt1320.2.2.2.2.2.1 bt1320.2.2.2.2.2.2 bt1331.1 bt1331.2.1 bt1331.2.2.1 bt1331.2.2.2.1 bt1331.2.2.2.2.1 bt1331.2.2.2.2.2.1 bt1331.2.2.2.2.2.2).bind fun t1340 => (if t1340 = true then (some true) else (some false)))) else (some false)))) = some r := H
  have A8 := Aside0.mk A80
  clear A80
  replace H := Option.bind_eq_some_iff.mp H
  obtain ⟨⟨t1320, t1323, t1324, t1325, t1326, t1327, t1328⟩, A90, H⟩ := H
  replace H : ((impl_DaysIn.f k t1320 t1323 t1324 t1325 t1326 t1327 t1328).bind fun t1330 => (if t1330 = t1319 then ((laws_toBook.f k l0_0 a0_1 a0_2 a0_3 a0_4 a0_5 a0_6).bind fun bt1331 => ((laws_eqBook.f k t1320 t1323 t1324 t1325 t1326 t1327 t1328 bt1331.1 bt1331.2.1 bt1331.2.2.1 bt1331.2.2.2.1 bt1331.2.2.2.2.1 bt1331.2.2.2.2.2.1 bt1331.2.2.2.2.2.2).bind fun t1340 => (if t1340 = true then (some true) else (some false)))) else (some false))) = some r := H
  have A9 := Aside0.mk A90
  clear A90
  replace H := Option.bind_eq_some_iff.mp H
  obtain ⟨t1330, A100, H⟩ := H
  replace H : (if t1330 = t1319 then ((laws_toBook.f k l0_0 a0_1 a0_2 a0_3 a0_4 a0_5 a0_6).bind fun bt1331 => ((laws_eqBook.f k t1320 t1323 t1324 t1325 t1326 t1327 t1328 bt1331.1 bt1331.2.1 bt1331.2.2.1 bt1331.2.2.2.1 bt1331.2.2.2.2.1 bt1331.2.2.2.2.2.1 bt1331.2.2.2.2.2.2).bind fun t1340 => (if t1340 = true then (some true) else (some false)))) else (some false)) = some r := H
  have A10 := Aside0.mk A100
  clear A100
  by_cases c11 : t1330 = t1319
  ·
   rw [if_pos c11] at H
   have c11b0 : (t1330 == t1319) = true := beq_iff_eq.mpr c11
   have c11b1 : (t1330 != t1319) = false := bne_eq_false_iff_eq.mpr c11
   clear c11
   replace H := Option.bind_eq_some_iff.mp H
   obtain ⟨⟨t1331, t1334, t1335, t1336, t1337, t1338, t1339⟩, A120, H⟩ := H
   replace H : ((laws_eqBook.f k t1320 t1323 t1324 t1325 t1326 t1327 t1328 t1331 t1334 t1335 t1336 t1337 t1338 t1339).bind fun t1340 => (if t1340 = true then (some true) else (some false))) = some r := H
   have A12 := Aside0.mk A120
   clear A120
   replace H := Option.bind_eq_some_iff.mp H
   obtain ⟨t1340, A130, H⟩ := H
   replace H : (if t1340 = true then (some true) else (some false)) = some r := H
   have A13 := Aside0.mk A130
   clear A130
   by_cases c14 : t1340 = true
   ·
    subst c14
    have H1 : (some true) = some r := by rw [if_pos rfl] at H; exact H
    clear H
    have H := H1
    clear H1
    obtain rfl := Option.some.inj H
    go_enter Try.func14, Try.ntmps14
    try go_wp2_with (first | ((with_reducible refine gate_dst (N := 1) rfl ?_); refine box_event ?hg (N := 1) ?hd (cs := #[.slice A0_0 l0_0.length c0_0, .int .i64 a0_1, .int .i64 a0_2, .int .i64 a0_3, .int .i64 a0_4, .int .i64 a0_5, .int .i64 a0_6]) (t := 88) ?hr ?_; (case hd => rfl); (case hg => rfl); (case hr => first | (go_simp; done) | (go_simp; rfl)); intro gb1308 hg w15 hbox hb; have n0_ := Aside0.mk (below_step (blq HB.out) hb); have n1_ := Aside0.mk (hbox); have n2_ := Aside0.mk ((sq hg HB.out)); have n3_ := Aside0.mk ((sq hg HB.out)); clear HB; have HB := n0_; have BK1308 := n1_; have GW1308 := n2_; have GE1308 := n3_; clear n0_ n1_ n2_ n3_; clear hb hbox hg; obtain ⟨hcz16_0, hcz16_1, hcz16_2, hcz16_3, hcz16_4, hcz16_5, hcz16_6, hfz16_0, hfz16_1, hfz16_2, hfz16_3, hfz16_4, hfz16_5, hfz16_6⟩ := bq7 BK1308.out) | ((with_reducible refine gate_callee (f := 65) rfl ?_); refine gLq (some 9) Try.func65 #[.agg #[.slice A0_0 l0_0.length c0_0, .int .i64 a0_1, .int .i64 a0_2, .int .i64 a0_3, .int .i64 a0_4, .int .i64 a0_5, .int .i64 a0_6], .int .i64 1048576] ?_; (with_reducible refine (laws_szBook.calls _ _ l0_0 a0_1 a0_2 a0_3 a0_4 a0_5 a0_6 1048576 t1309 _ ?side1 ?side2 A2.out).mono ?_); (case side1 => exact Kd.Cq (Kd.C_below HR0_0.out HB.out)); (case side2 => exact HC0_0.out); rintro e w17 ⟨rfl, hb⟩; refine ⟨_, rfl, ?_⟩; have n0_ := Aside0.mk (blk_below (bkq BK1308.out) hb); have n1_ := Aside0.mk (below_step (blq HB.out) hb); clear BK1308; clear HB; have BK1308 := n0_; have HB := n1_; clear n0_ n1_; (try clear hb); (try clear hb2); (try clear hk); (try clear hi); obtain ⟨hcz18_0, hcz18_1, hcz18_2, hcz18_3, hcz18_4, hcz18_5, hcz18_6, hfz18_0, hfz18_1, hfz18_2, hfz18_3, hfz18_4, hfz18_5, hfz18_6⟩ := bq7 BK1308.out) | ((with_reducible refine gate_callee (f := 67) rfl ?_); refine gLq (some 13) Try.func67 #[.agg #[.slice A0_0 l0_0.length c0_0, .int .i64 a0_1, .int .i64 a0_2, .int .i64 a0_3, .int .i64 a0_4, .int .i64 a0_5, .int .i64 a0_6]] ?_; (with_reducible refine (laws_toBook.calls k _ _ l0_0 a0_1 a0_2 a0_3 a0_4 a0_5 a0_6 t1310 t1313 t1314 t1315 t1316 t1317 t1318 _ ?side1 ?side2 A7.out).mono ?_); (case side1 => exact Kd.Cq (Kd.C_below HR0_0.out HB.out)); (case side2 => exact HC0_0.out); rintro e w19 ⟨v1311, rfl, ho0, hb⟩; refine ⟨_, rfl, ?_⟩; have n0_ := Aside0.mk (Kd.R_lower ho0 (below_size (blq HB.out))); have n1_ := Aside0.mk (blk_below (bkq BK1308.out) hb); have n2_ := Aside0.mk (below_step (blq HB.out) hb); clear BK1308; clear HB; have HO1312 := n0_; have BK1308 := n1_; have HB := n2_; clear n0_ n1_ n2_; (try clear hb); (try clear hb2); (try clear hk); (try clear hi); (try clear ho0); obtain ⟨Ao20, co20, eo20⟩ := Kd.R_slice HO1312.out; subst eo20) | ((with_reducible refine gate_callee (f := 75) rfl ?_); refine gLq (some 14) Try.func75 #[.agg #[.slice Ao20 t1310.length co20, .int .i64 t1313, .int .i64 t1314, .int .i64 t1315, .int .i64 t1316, .int .i64 t1317, .int .i64 t1318]] ?_; (with_reducible refine (spec_DaysIn.calls k _ _ t1310 t1313 t1314 t1315 t1316 t1317 t1318 t1319 _ ?side1 ?side2 A8.out).mono ?_); (case side1 => repeat (first | exact (Kd.R_reads' HO1312.out).2.2 | (with_reducible refine Kd.C_alloc ?_ _) | (with_reducible refine Kd.C_drewN ?_ _) | (with_reducible refine Kd.C_drew ?_))); (case side2 => exact (Kd.R_reads' HO1312.out).2.1); rintro e w21 ⟨rfl, hb⟩; refine ⟨_, rfl, ?_⟩; have n0_ := Aside0.mk (Kd.R_below (Kd.Rq HO1312.out) hb); have n1_ := Aside0.mk (blk_below (bkq BK1308.out) hb); have n2_ := Aside0.mk (below_step (blq HB.out) hb); clear HO1312; clear BK1308; clear HB; have HO1312 := n0_; have BK1308 := n1_; have HB := n2_; clear n0_ n1_ n2_; (try clear hb); (try clear hb2); (try clear hk); (try clear hi); obtain ⟨hcz22_0, hcz22_1, hcz22_2, hcz22_3, hcz22_4, hcz22_5, hcz22_6, hfz22_0, hfz22_1, hfz22_2, hfz22_3, hfz22_4, hfz22_5, hfz22_6⟩ := bq7 BK1308.out) | ((with_reducible refine gate_callee (f := 67) rfl ?_); refine gLq (some 16) Try.func67 #[.agg #[.slice A0_0 l0_0.length c0_0, .int .i64 a0_1, .int .i64 a0_2, .int .i64 a0_3, .int .i64 a0_4, .int .i64 a0_5, .int .i64 a0_6]] ?_; (with_reducible refine (laws_toBook.calls k _ _ l0_0 a0_1 a0_2 a0_3 a0_4 a0_5 a0_6 t1320 t1323 t1324 t1325 t1326 t1327 t1328 _ ?side1 ?side2 A9.out).mono ?_); (case side1 => exact Kd.Cq (Kd.C_below HR0_0.out HB.out)); (case side2 => exact HC0_0.out); rintro e w23 ⟨v1321, rfl, ho0, hb⟩; refine ⟨_, rfl, ?_⟩; have n0_ := Aside0.mk (Kd.R_elder' (Kd.Rq HO1312.out) (Kd.R_base ho0) hb); have n1_ := Aside0.mk (Kd.R_lower (Kd.R_new' ho0 (Kd.R_lt (Kd.Rq HO1312.out))) (below_size (blq HB.out))); have n2_ := Aside0.mk (blk_below (bkq BK1308.out) hb); have n3_ := Aside0.mk (below_step (blq HB.out) hb); clear HO1312; clear BK1308; clear HB; have HO1312 := n0_; have HO1322 := n1_; have BK1308 := n2_; have HB := n3_; clear n0_ n1_ n2_ n3_; (try clear hb); (try clear hb2); (try clear hk); (try clear hi); (try clear ho0)) | ((with_reducible refine gate_dst (N := 5) rfl ?_); refine box_event ?hg (N := 5) ?hd (cs := #[.slice none 0 0, .int .i64 0, .int .i64 0, .int .i64 0, .int .i64 0, .int .i64 0, .int .i64 0]) (t := 93) ?hr ?_; (case hd => rfl); (case hg => rfl); (case hr => first | (go_simp; done) | (go_simp; rfl)); intro gb1329 hg w24 hbox hb; have n0_ := Aside0.mk (Kd.R_below (Kd.Rq HO1312.out) hb); have n1_ := Aside0.mk (Kd.R_below (Kd.Rq HO1322.out) hb); have n2_ := Aside0.mk (blk_below (bkq BK1308.out) hb); have n3_ := Aside0.mk (below_step (blq HB.out) hb); have n4_ := Aside0.mk (hbox); have n5_ := Aside0.mk ((sq hg HB.out)); have n6_ := Aside0.mk ((sq hg HB.out)); have n7_ := Aside0.mk ((by rw [hg]; exact Nat.ne_of_lt (blk_lt (bkq BK1308.out)) : gb1308 ≠ gb1329)); have n8_ := Aside0.mk ((by rw [hg]; exact Nat.ne_of_gt (blk_lt (bkq BK1308.out)) : gb1329 ≠ gb1308)); clear HO1312; clear HO1322; clear BK1308; clear HB; have HO1312 := n0_; have HO1322 := n1_; have BK1308 := n2_; have HB := n3_; have BK1329 := n4_; have GW1329 := n5_; have GE1329 := n6_; have NB1308_1329 := n7_; have NB1329_1308 := n8_; clear n0_ n1_ n2_ n3_ n4_ n5_ n6_ n7_ n8_; clear hb hbox hg; obtain ⟨Ao25, co25, eo25⟩ := Kd.R_slice HO1322.out; subst eo25; have hnb26 := NB1329_1308.out; have hnc26 := NB1308_1329.out; obtain ⟨hcz27_0, hcz27_1, hcz27_2, hcz27_3, hcz27_4, hcz27_5, hcz27_6, hfz27_0, hfz27_1, hfz27_2, hfz27_3, hfz27_4, hfz27_5, hfz27_6⟩ := bq7 BK1329.out) | ((with_reducible refine gate_callee (f := 74) rfl ?_); refine gLq (some 18) Try.func74 #[.agg #[.slice Ao25 t1320.length co25, .int .i64 t1323, .int .i64 t1324, .int .i64 t1325, .int .i64 t1326, .int .i64 t1327, .int .i64 t1328]] ?_; (with_reducible refine (impl_DaysIn.calls k _ _ t1320 t1323 t1324 t1325 t1326 t1327 t1328 t1330 _ ?side1 ?side2 A10.out).mono ?_); (case side1 => refine (Kd.R_reads' (e := 44) (base := w.heap.size) (ok := fun k_ => (True ∧ some k_ ≠ (.slice Ao20 t1310.length co20 : Value).ownBlock)) (n := t1320.length) (c := co25) ?_).2.2; exact (Kd.Rq (Kd.R_mono (Kd.R_far (p := ⟨gb1329, 6, none⟩) (Kd.R_far (p := ⟨gb1329, 5, none⟩) (Kd.R_far (p := ⟨gb1329, 4, none⟩) (Kd.R_far (p := ⟨gb1329, 3, none⟩) (Kd.R_far (p := ⟨gb1329, 2, none⟩) (Kd.R_far (p := ⟨gb1329, 1, none⟩) (Kd.R_far (p := ⟨gb1329, 0, none⟩) (Kd.R_types HO1322.out BK1329.out (by decide)) (fun _ hk => hk.2) (.slice Ao25 t1320.length co25)) (fun _ hk => hk.2) (.int .i64 t1323)) (fun _ hk => hk.2) (.int .i64 t1324)) (fun _ hk => hk.2) (.int .i64 t1325)) (fun _ hk => hk.2) (.int .i64 t1326)) (fun _ hk => hk.2) (.int .i64 t1327)) (fun _ hk => hk.2) (.int .i64 t1328)) (fun _ h_ => h_.1)))); (case side2 => exact (Kd.R_reads' HO1322.out).2.1); rintro e w28 ⟨rfl, hb⟩; refine ⟨_, rfl, ?_⟩; have n0_ := Aside0.mk (Kd.R_below (Kd.Rq (Kd.R_mono (Kd.R_far (p := ⟨gb1329, 6, none⟩) (Kd.R_far (p := ⟨gb1329, 5, none⟩) (Kd.R_far (p := ⟨gb1329, 4, none⟩) (Kd.R_far (p := ⟨gb1329, 3, none⟩) (Kd.R_far (p := ⟨gb1329, 2, none⟩) (Kd.R_far (p := ⟨gb1329, 1, none⟩) (Kd.R_far (p := ⟨gb1329, 0, none⟩) (Kd.R_types HO1312.out BK1329.out (by decide)) (fun _ hk => hk.2) (.slice Ao25 t1320.length co25)) (fun _ hk => hk.2) (.int .i64 t1323)) (fun _ hk => hk.2) (.int .i64 t1324)) (fun _ hk => hk.2) (.int .i64 t1325)) (fun _ hk => hk.2) (.int .i64 t1326)) (fun _ hk => hk.2) (.int .i64 t1327)) (fun _ hk => hk.2) (.int .i64 t1328)) (fun _ h_ => h_.1))) hb); have n1_ := Aside0.mk (Kd.R_below (Kd.Rq (Kd.R_mono (Kd.R_far (p := ⟨gb1329, 6, none⟩) (Kd.R_far (p := ⟨gb1329, 5, none⟩) (Kd.R_far (p := ⟨gb1329, 4, none⟩) (Kd.R_far (p := ⟨gb1329, 3, none⟩) (Kd.R_far (p := ⟨gb1329, 2, none⟩) (Kd.R_far (p := ⟨gb1329, 1, none⟩) (Kd.R_far (p := ⟨gb1329, 0, none⟩) (Kd.R_types HO1322.out BK1329.out (by decide)) (fun _ hk => hk.2) (.slice Ao25 t1320.length co25)) (fun _ hk => hk.2) (.int .i64 t1323)) (fun _ hk => hk.2) (.int .i64 t1324)) (fun _ hk => hk.2) (.int .i64 t1325)) (fun _ hk => hk.2) (.int .i64 t1326)) (fun _ hk => hk.2) (.int .i64 t1327)) (fun _ hk => hk.2) (.int .i64 t1328)) (fun _ h_ => h_.1))) hb); have n2_ := Aside0.mk (blk_below (g := gb1308) (o := .cells #[.slice A0_0 l0_0.length c0_0, .int .i64 a0_1, .int .i64 a0_2, .int .i64 a0_3, .int .i64 a0_4, .int .i64 a0_5, .int .i64 a0_6] 88 (0, 0)) (by (with_reducible repeat (first | refine blk_drewN ?_ _ | refine blk_drew ?_ | refine blk_alloc ?_ _)); refine blk_far ?_ NB1308_1329.out _; (with_reducible repeat (first | refine blk_drewN ?_ _ | refine blk_drew ?_ | refine blk_alloc ?_ _)); refine blk_far ?_ NB1308_1329.out _; (with_reducible repeat (first | refine blk_drewN ?_ _ | refine blk_drew ?_ | refine blk_alloc ?_ _)); refine blk_far ?_ NB1308_1329.out _; (with_reducible repeat (first | refine blk_drewN ?_ _ | refine blk_drew ?_ | refine blk_alloc ?_ _)); refine blk_far ?_ NB1308_1329.out _; (with_reducible repeat (first | refine blk_drewN ?_ _ | refine blk_drew ?_ | refine blk_alloc ?_ _)); refine blk_far ?_ NB1308_1329.out _; (with_reducible repeat (first | refine blk_drewN ?_ _ | refine blk_drew ?_ | refine blk_alloc ?_ _)); refine blk_far ?_ NB1308_1329.out _; (with_reducible repeat (first | refine blk_drewN ?_ _ | refine blk_drew ?_ | refine blk_alloc ?_ _)); refine blk_far ?_ NB1308_1329.out _; (with_reducible repeat (first | refine blk_drewN ?_ _ | refine blk_drew ?_ | refine blk_alloc ?_ _)); exact BK1308.out) hb); have n3_ := Aside0.mk (blk_below (g := gb1329) (o := .cells #[.slice Ao25 t1320.length co25, .int .i64 t1323, .int .i64 t1324, .int .i64 t1325, .int .i64 t1326, .int .i64 t1327, .int .i64 t1328] 93 (0, 0)) (by (with_reducible repeat (first | refine blk_drewN ?_ _ | refine blk_drew ?_ | refine blk_alloc ?_ _)); refine blk_put (cs := #[.slice Ao25 t1320.length co25, .int .i64 t1323, .int .i64 t1324, .int .i64 t1325, .int .i64 t1326, .int .i64 t1327, .int .i64 0]) ?_ 6 _ rfl; (with_reducible repeat (first | refine blk_drewN ?_ _ | refine blk_drew ?_ | refine blk_alloc ?_ _)); refine blk_put (cs := #[.slice Ao25 t1320.length co25, .int .i64 t1323, .int .i64 t1324, .int .i64 t1325, .int .i64 t1326, .int .i64 0, .int .i64 0]) ?_ 5 _ rfl; (with_reducible repeat (first | refine blk_drewN ?_ _ | refine blk_drew ?_ | refine blk_alloc ?_ _)); refine blk_put (cs := #[.slice Ao25 t1320.length co25, .int .i64 t1323, .int .i64 t1324, .int .i64 t1325, .int .i64 0, .int .i64 0, .int .i64 0]) ?_ 4 _ rfl; (with_reducible repeat (first | refine blk_drewN ?_ _ | refine blk_drew ?_ | refine blk_alloc ?_ _)); refine blk_put (cs := #[.slice Ao25 t1320.length co25, .int .i64 t1323, .int .i64 t1324, .int .i64 0, .int .i64 0, .int .i64 0, .int .i64 0]) ?_ 3 _ rfl; (with_reducible repeat (first | refine blk_drewN ?_ _ | refine blk_drew ?_ | refine blk_alloc ?_ _)); refine blk_put (cs := #[.slice Ao25 t1320.length co25, .int .i64 t1323, .int .i64 0, .int .i64 0, .int .i64 0, .int .i64 0, .int .i64 0]) ?_ 2 _ rfl; (with_reducible repeat (first | refine blk_drewN ?_ _ | refine blk_drew ?_ | refine blk_alloc ?_ _)); refine blk_put (cs := #[.slice Ao25 t1320.length co25, .int .i64 0, .int .i64 0, .int .i64 0, .int .i64 0, .int .i64 0, .int .i64 0]) ?_ 1 _ rfl; (with_reducible repeat (first | refine blk_drewN ?_ _ | refine blk_drew ?_ | refine blk_alloc ?_ _)); refine blk_put (cs := #[.slice none 0 0, .int .i64 0, .int .i64 0, .int .i64 0, .int .i64 0, .int .i64 0, .int .i64 0]) ?_ 0 _ rfl; (with_reducible repeat (first | refine blk_drewN ?_ _ | refine blk_drew ?_ | refine blk_alloc ?_ _)); exact BK1329.out) hb); have n4_ := Aside0.mk (below_step (blq HB.out) hb); clear HO1312; clear HO1322; clear BK1308; clear BK1329; clear HB; have HO1312 := n0_; have HO1322 := n1_; have BK1308 := n2_; have BK1329 := n3_; have HB := n4_; clear n0_ n1_ n2_ n3_ n4_; (try clear hb); (try clear hb2); (try clear hk); (try clear hi)))
    have n0_ := Aside0.mk (Kd.R_drew HO1312.out)
    have n1_ := Aside0.mk (Kd.R_drew HO1322.out)
    have n2_ := Aside0.mk (blk_drew BK1308.out)
    have n3_ := Aside0.mk (blk_drew BK1329.out)
    have n4_ := Aside0.mk (below_drew1 HB.out)
    clear HO1312
    clear HO1322
    clear BK1308
    clear BK1329
    clear HB
    have HO1312 := n0_
    have HO1322 := n1_
    have BK1308 := n2_
    have BK1329 := n3_
    have HB := n4_
    clear n0_ n1_ n2_ n3_ n4_
    refine start_ (n := 5) (S := fun w' => w'.cell? ⟨gb1329, 0, none⟩ = some (.slice Ao25 t1320.length co25) ∧ w'.cell? ⟨gb1329, 1, none⟩ = some (.int .i64 t1323) ∧ w'.cell? ⟨gb1329, 2, none⟩ = some (.int .i64 t1324) ∧ w'.cell? ⟨gb1329, 3, none⟩ = some (.int .i64 t1325) ∧ w'.cell? ⟨gb1329, 4, none⟩ = some (.int .i64 t1326) ∧ w'.cell? ⟨gb1329, 5, none⟩ = some (.int .i64 t1327) ∧ w'.cell? ⟨gb1329, 6, none⟩ = some (.int .i64 t1328) ∧ w'.cell? ⟨gb1308, 0, none⟩ = some (.slice A0_0 l0_0.length c0_0) ∧ w'.cell? ⟨gb1308, 1, none⟩ = some (.int .i64 a0_1) ∧ w'.cell? ⟨gb1308, 2, none⟩ = some (.int .i64 a0_2) ∧ w'.cell? ⟨gb1308, 3, none⟩ = some (.int .i64 a0_3) ∧ w'.cell? ⟨gb1308, 4, none⟩ = some (.int .i64 a0_4) ∧ w'.cell? ⟨gb1308, 5, none⟩ = some (.int .i64 a0_5) ∧ w'.cell? ⟨gb1308, 6, none⟩ = some (.int .i64 a0_6)) (ds := []) #[false, false, false, false, false] (by kernel_rfl) rfl rfl ⟨(blk_cell BK1329.out 0).trans rfl, (blk_cell BK1329.out 1).trans rfl, (blk_cell BK1329.out 2).trans rfl, (blk_cell BK1329.out 3).trans rfl, (blk_cell BK1329.out 4).trans rfl, (blk_cell BK1329.out 5).trans rfl, (blk_cell BK1329.out 6).trans rfl, (blk_cell BK1308.out 0).trans rfl, (blk_cell BK1308.out 1).trans rfl, (blk_cell BK1308.out 2).trans rfl, (blk_cell BK1308.out 3).trans rfl, (blk_cell BK1308.out 4).trans rfl, (blk_cell BK1308.out 5).trans rfl, (blk_cell BK1308.out 6).trans rfl⟩ (fun hHeld => ?_)
    generalize w28.drew = w29 at HO1312 HO1322 BK1308 BK1329 HB hHeld ⊢
    refine take_ (i := 0) (N := some 22) (v := ?_) (a' := ?_) #[true, false, false, false, false] rfl rfl (by kernel_rfl) (fun _ _ _ h => h) (Or.inl ⟨by rfl, ?_⟩) hHeld ?_ ?_
    rotate_left
    ·
     rintro w' ⟨s0, s1, s2, s3, s4, s5, s6, s7, s8, s9, s10, s11, s12, s13⟩
     go_simp
     with_reducible rfl
    rotate_left
    ·
     simp only [Act.put, List.setIfInBounds_toArray, List.set_cons_zero, List.set_cons_succ, i64_w, i32_w]
     rfl
    refine take_ (i := 1) (N := some 23) (v := ?_) (a' := ?_) #[true, true, false, false, false] rfl rfl (by kernel_rfl) (fun _ _ _ h => h) (Or.inl ⟨by rfl, ?_⟩) hHeld ?_ ?_
    rotate_left
    ·
     rintro w' ⟨s0, s1, s2, s3, s4, s5, s6, s7, s8, s9, s10, s11, s12, s13⟩
     go_simp
     with_reducible rfl
    rotate_left
    ·
     simp only [Act.put, List.setIfInBounds_toArray, List.set_cons_zero, List.set_cons_succ, i64_w, i32_w]
     rfl
    refine one_ (i := 2) (N := some 24) #[true, true, true, false, false] rfl rfl (by kernel_rfl) (by decide) (fun K hK => ?_)
    refine goes_ Try.func67 (by kernel_rfl) rfl #[.agg #[.slice A0_0 l0_0.length c0_0, .int .i64 a0_1, .int .i64 a0_2, .int .i64 a0_3, .int .i64 a0_4, .int .i64 a0_5, .int .i64 a0_6]] (by rfl) rfl rfl (by (try simp only [List.map_toArray, List.map_cons, List.map_nil]); first | done | rfl | (simp only [List.length_drop, List.length_take]; rfl)) ?_
    with_reducible refine (laws_toBook.calls k _ _ l0_0 a0_1 a0_2 a0_3 a0_4 a0_5 a0_6 t1331 t1334 t1335 t1336 t1337 t1338 t1339 _ ?side1 ?side2 A12.out).mono ?_
    (case side1 => exact Kd.Cq (Kd.C_below HR0_0.out HB.out))
    (case side2 => exact HC0_0.out)
    rintro e w30 ⟨v1332, rfl, ho0, hb⟩
    refine ⟨_, rfl, ?_⟩
    have n0_ := Aside0.mk (Kd.R_elder' (Kd.Rq HO1312.out) (Kd.R_base ho0) hb)
    have n1_ := Aside0.mk (Kd.R_elder' (Kd.Rq HO1322.out) (Kd.R_base ho0) hb)
    have n2_ := Aside0.mk (Kd.R_lower (Kd.R_new' (Kd.R_new' ho0 (Kd.R_lt (Kd.Rq HO1312.out))) (Kd.R_lt (Kd.Rq HO1322.out))) (below_size (blq HB.out)))
    have n3_ := Aside0.mk (blk_below (bkq BK1308.out) hb)
    have n4_ := Aside0.mk (blk_below (bkq BK1329.out) hb)
    have n5_ := Aside0.mk (below_step (blq HB.out) hb)
    clear HO1312
    clear HO1322
    clear BK1308
    clear BK1329
    clear HB
    have HO1312 := n0_
    have HO1322 := n1_
    have HO1333 := n2_
    have BK1308 := n3_
    have BK1329 := n4_
    have HB := n5_
    clear n0_ n1_ n2_ n3_ n4_ n5_
    (try clear hb)
    (try clear hb2)
    (try clear hk)
    (try clear hi)
    (try clear ho0)
    obtain ⟨Ao31, co31, eo31⟩ := Kd.R_slice HO1333.out
    (first | subst eo31 | (injection eo31 with f1_ f2_ f3_; have f4_ := f1_.symm; have f5_ := f3_.symm; clear f1_ f2_ f3_; subst f4_; subst f5_))
    refine hK.out _ _ ⟨(blk_cell BK1329.out 0).trans rfl, (blk_cell BK1329.out 1).trans rfl, (blk_cell BK1329.out 2).trans rfl, (blk_cell BK1329.out 3).trans rfl, (blk_cell BK1329.out 4).trans rfl, (blk_cell BK1329.out 5).trans rfl, (blk_cell BK1329.out 6).trans rfl, (blk_cell BK1308.out 0).trans rfl, (blk_cell BK1308.out 1).trans rfl, (blk_cell BK1308.out 2).trans rfl, (blk_cell BK1308.out 3).trans rfl, (blk_cell BK1308.out 4).trans rfl, (blk_cell BK1308.out 5).trans rfl, (blk_cell BK1308.out 6).trans rfl⟩ (fun hHeld => ?_)
    clear hK K
    refine norm_ (a' := ?_) ?_ ?_
    rotate_left
    ·
     show Act.put _ (some 24) _ = _
     simp only [Act.put, List.setIfInBounds_toArray, List.set_cons_zero, List.set_cons_succ, i64_w, i32_w]
     rfl
    refine one_ (i := 3) (N := some 25) #[true, true, true, true, false] rfl rfl (by kernel_rfl) (by decide) (fun K hK => ?_)
    refine goes_ Try.func69 (by kernel_rfl) rfl #[.agg #[.slice Ao25 t1320.length co25, .int .i64 t1323, .int .i64 t1324, .int .i64 t1325, .int .i64 t1326, .int .i64 t1327, .int .i64 t1328], .agg #[.slice Ao31 t1331.length co31, .int .i64 t1334, .int .i64 t1335, .int .i64 t1336, .int .i64 t1337, .int .i64 t1338, .int .i64 t1339]] (by rfl) rfl rfl (by (try simp only [List.map_toArray, List.map_cons, List.map_nil]); first | done | rfl | (simp only [List.length_drop, List.length_take]; rfl)) ?_
    with_reducible refine (laws_eqBook.calls k _ _ t1320 t1323 t1324 t1325 t1326 t1327 t1328 _ _ t1331 t1334 t1335 t1336 t1337 t1338 t1339 true _ ?side1 ?side2 ?side3 ?side4 A13.out).mono ?_
    (case side1 => repeat (first | exact (Kd.R_reads' HO1322.out).2.2 | (with_reducible refine Kd.C_alloc ?_ _) | (with_reducible refine Kd.C_drewN ?_ _) | (with_reducible refine Kd.C_drew ?_)))
    (case side2 => exact (Kd.R_reads' HO1322.out).2.1)
    (case side3 => repeat (first | exact (Kd.R_reads' HO1333.out).2.2 | (with_reducible refine Kd.C_alloc ?_ _) | (with_reducible refine Kd.C_drewN ?_ _) | (with_reducible refine Kd.C_drew ?_)))
    (case side4 => exact (Kd.R_reads' HO1333.out).2.1)
    rintro e w32 ⟨rfl, hb⟩
    refine ⟨_, rfl, ?_⟩
    have n0_ := Aside0.mk (Kd.R_below (Kd.Rq HO1312.out) hb)
    have n1_ := Aside0.mk (Kd.R_below (Kd.Rq HO1322.out) hb)
    have n2_ := Aside0.mk (Kd.R_below (Kd.Rq HO1333.out) hb)
    have n3_ := Aside0.mk (blk_below (bkq BK1308.out) hb)
    have n4_ := Aside0.mk (blk_below (bkq BK1329.out) hb)
    have n5_ := Aside0.mk (below_step (blq HB.out) hb)
    clear HO1312
    clear HO1322
    clear HO1333
    clear BK1308
    clear BK1329
    clear HB
    have HO1312 := n0_
    have HO1322 := n1_
    have HO1333 := n2_
    have BK1308 := n3_
    have BK1329 := n4_
    have HB := n5_
    clear n0_ n1_ n2_ n3_ n4_ n5_
    (try clear hb)
    (try clear hb2)
    (try clear hk)
    (try clear hi)
    refine hK.out _ _ ⟨(blk_cell BK1329.out 0).trans rfl, (blk_cell BK1329.out 1).trans rfl, (blk_cell BK1329.out 2).trans rfl, (blk_cell BK1329.out 3).trans rfl, (blk_cell BK1329.out 4).trans rfl, (blk_cell BK1329.out 5).trans rfl, (blk_cell BK1329.out 6).trans rfl, (blk_cell BK1308.out 0).trans rfl, (blk_cell BK1308.out 1).trans rfl, (blk_cell BK1308.out 2).trans rfl, (blk_cell BK1308.out 3).trans rfl, (blk_cell BK1308.out 4).trans rfl, (blk_cell BK1308.out 5).trans rfl, (blk_cell BK1308.out 6).trans rfl⟩ (fun hHeld => ?_)
    clear hK K
    refine norm_ (a' := ?_) ?_ ?_
    rotate_left
    ·
     show Act.put _ (some 25) _ = _
     simp only [Act.put, List.setIfInBounds_toArray, List.set_cons_zero, List.set_cons_succ, i64_w, i32_w]
     rfl
    refine pure_ (i := 4) (N := some 26) (v := ?_) (a' := ?_) #[true, true, true, true, true] rfl rfl (by kernel_rfl) (fun _ _ _ h => h) (Or.inl ⟨by rfl, ?_⟩) ?_ ?_
    rotate_left
    ·
     intro w'
     go_simp
     with_reducible rfl
    rotate_left
    ·
     simp only [Act.put, List.setIfInBounds_toArray, List.set_cons_zero, List.set_cons_succ, i64_w, i32_w]
     rfl
    refine done_ (by kernel_rfl) ?_
    try go_wp2
    go_ret
    exact ⟨by first | rfl | (simp [errW_none, errW_some] <;> rfl) | (simp [*, errW_none, errW_some] <;> rfl), blq HB.out⟩
   ·
    replace c14 := Bool.eq_false_iff.mpr c14
    subst c14
    have H1 : (some false) = some r := by rw [if_neg (show ¬ (false = true) by decide)] at H; exact H
    clear H
    have H := H1
    clear H1
    obtain rfl := Option.some.inj H
    go_enter Try.func14, Try.ntmps14
    try go_wp2_with (first | ((with_reducible refine gate_dst (N := 1) rfl ?_); refine box_event ?hg (N := 1) ?hd (cs := #[.slice A0_0 l0_0.length c0_0, .int .i64 a0_1, .int .i64 a0_2, .int .i64 a0_3, .int .i64 a0_4, .int .i64 a0_5, .int .i64 a0_6]) (t := 88) ?hr ?_; (case hd => rfl); (case hg => rfl); (case hr => first | (go_simp; done) | (go_simp; rfl)); intro gb1308 hg w33 hbox hb; have n0_ := Aside0.mk (below_step (blq HB.out) hb); have n1_ := Aside0.mk (hbox); have n2_ := Aside0.mk ((sq hg HB.out)); have n3_ := Aside0.mk ((sq hg HB.out)); clear HB; have HB := n0_; have BK1308 := n1_; have GW1308 := n2_; have GE1308 := n3_; clear n0_ n1_ n2_ n3_; clear hb hbox hg; obtain ⟨hcz34_0, hcz34_1, hcz34_2, hcz34_3, hcz34_4, hcz34_5, hcz34_6, hfz34_0, hfz34_1, hfz34_2, hfz34_3, hfz34_4, hfz34_5, hfz34_6⟩ := bq7 BK1308.out) | ((with_reducible refine gate_callee (f := 65) rfl ?_); refine gLq (some 9) Try.func65 #[.agg #[.slice A0_0 l0_0.length c0_0, .int .i64 a0_1, .int .i64 a0_2, .int .i64 a0_3, .int .i64 a0_4, .int .i64 a0_5, .int .i64 a0_6], .int .i64 1048576] ?_; (with_reducible refine (laws_szBook.calls _ _ l0_0 a0_1 a0_2 a0_3 a0_4 a0_5 a0_6 1048576 t1309 _ ?side1 ?side2 A2.out).mono ?_); (case side1 => exact Kd.Cq (Kd.C_below HR0_0.out HB.out)); (case side2 => exact HC0_0.out); rintro e w35 ⟨rfl, hb⟩; refine ⟨_, rfl, ?_⟩; have n0_ := Aside0.mk (blk_below (bkq BK1308.out) hb); have n1_ := Aside0.mk (below_step (blq HB.out) hb); clear BK1308; clear HB; have BK1308 := n0_; have HB := n1_; clear n0_ n1_; (try clear hb); (try clear hb2); (try clear hk); (try clear hi); obtain ⟨hcz36_0, hcz36_1, hcz36_2, hcz36_3, hcz36_4, hcz36_5, hcz36_6, hfz36_0, hfz36_1, hfz36_2, hfz36_3, hfz36_4, hfz36_5, hfz36_6⟩ := bq7 BK1308.out) | ((with_reducible refine gate_callee (f := 67) rfl ?_); refine gLq (some 13) Try.func67 #[.agg #[.slice A0_0 l0_0.length c0_0, .int .i64 a0_1, .int .i64 a0_2, .int .i64 a0_3, .int .i64 a0_4, .int .i64 a0_5, .int .i64 a0_6]] ?_; (with_reducible refine (laws_toBook.calls k _ _ l0_0 a0_1 a0_2 a0_3 a0_4 a0_5 a0_6 t1310 t1313 t1314 t1315 t1316 t1317 t1318 _ ?side1 ?side2 A7.out).mono ?_); (case side1 => exact Kd.Cq (Kd.C_below HR0_0.out HB.out)); (case side2 => exact HC0_0.out); rintro e w37 ⟨v1311, rfl, ho0, hb⟩; refine ⟨_, rfl, ?_⟩; have n0_ := Aside0.mk (Kd.R_lower ho0 (below_size (blq HB.out))); have n1_ := Aside0.mk (blk_below (bkq BK1308.out) hb); have n2_ := Aside0.mk (below_step (blq HB.out) hb); clear BK1308; clear HB; have HO1312 := n0_; have BK1308 := n1_; have HB := n2_; clear n0_ n1_ n2_; (try clear hb); (try clear hb2); (try clear hk); (try clear hi); (try clear ho0); obtain ⟨Ao38, co38, eo38⟩ := Kd.R_slice HO1312.out; subst eo38) | ((with_reducible refine gate_callee (f := 75) rfl ?_); refine gLq (some 14) Try.func75 #[.agg #[.slice Ao38 t1310.length co38, .int .i64 t1313, .int .i64 t1314, .int .i64 t1315, .int .i64 t1316, .int .i64 t1317, .int .i64 t1318]] ?_; (with_reducible refine (spec_DaysIn.calls k _ _ t1310 t1313 t1314 t1315 t1316 t1317 t1318 t1319 _ ?side1 ?side2 A8.out).mono ?_); (case side1 => repeat (first | exact (Kd.R_reads' HO1312.out).2.2 | (with_reducible refine Kd.C_alloc ?_ _) | (with_reducible refine Kd.C_drewN ?_ _) | (with_reducible refine Kd.C_drew ?_))); (case side2 => exact (Kd.R_reads' HO1312.out).2.1); rintro e w39 ⟨rfl, hb⟩; refine ⟨_, rfl, ?_⟩; have n0_ := Aside0.mk (Kd.R_below (Kd.Rq HO1312.out) hb); have n1_ := Aside0.mk (blk_below (bkq BK1308.out) hb); have n2_ := Aside0.mk (below_step (blq HB.out) hb); clear HO1312; clear BK1308; clear HB; have HO1312 := n0_; have BK1308 := n1_; have HB := n2_; clear n0_ n1_ n2_; (try clear hb); (try clear hb2); (try clear hk); (try clear hi); obtain ⟨hcz40_0, hcz40_1, hcz40_2, hcz40_3, hcz40_4, hcz40_5, hcz40_6, hfz40_0, hfz40_1, hfz40_2, hfz40_3, hfz40_4, hfz40_5, hfz40_6⟩ := bq7 BK1308.out) | ((with_reducible refine gate_callee (f := 67) rfl ?_); refine gLq (some 16) Try.func67 #[.agg #[.slice A0_0 l0_0.length c0_0, .int .i64 a0_1, .int .i64 a0_2, .int .i64 a0_3, .int .i64 a0_4, .int .i64 a0_5, .int .i64 a0_6]] ?_; (with_reducible refine (laws_toBook.calls k _ _ l0_0 a0_1 a0_2 a0_3 a0_4 a0_5 a0_6 t1320 t1323 t1324 t1325 t1326 t1327 t1328 _ ?side1 ?side2 A9.out).mono ?_); (case side1 => exact Kd.Cq (Kd.C_below HR0_0.out HB.out)); (case side2 => exact HC0_0.out); rintro e w41 ⟨v1321, rfl, ho0, hb⟩; refine ⟨_, rfl, ?_⟩; have n0_ := Aside0.mk (Kd.R_elder' (Kd.Rq HO1312.out) (Kd.R_base ho0) hb); have n1_ := Aside0.mk (Kd.R_lower (Kd.R_new' ho0 (Kd.R_lt (Kd.Rq HO1312.out))) (below_size (blq HB.out))); have n2_ := Aside0.mk (blk_below (bkq BK1308.out) hb); have n3_ := Aside0.mk (below_step (blq HB.out) hb); clear HO1312; clear BK1308; clear HB; have HO1312 := n0_; have HO1322 := n1_; have BK1308 := n2_; have HB := n3_; clear n0_ n1_ n2_ n3_; (try clear hb); (try clear hb2); (try clear hk); (try clear hi); (try clear ho0)) | ((with_reducible refine gate_dst (N := 5) rfl ?_); refine box_event ?hg (N := 5) ?hd (cs := #[.slice none 0 0, .int .i64 0, .int .i64 0, .int .i64 0, .int .i64 0, .int .i64 0, .int .i64 0]) (t := 93) ?hr ?_; (case hd => rfl); (case hg => rfl); (case hr => first | (go_simp; done) | (go_simp; rfl)); intro gb1329 hg w42 hbox hb; have n0_ := Aside0.mk (Kd.R_below (Kd.Rq HO1312.out) hb); have n1_ := Aside0.mk (Kd.R_below (Kd.Rq HO1322.out) hb); have n2_ := Aside0.mk (blk_below (bkq BK1308.out) hb); have n3_ := Aside0.mk (below_step (blq HB.out) hb); have n4_ := Aside0.mk (hbox); have n5_ := Aside0.mk ((sq hg HB.out)); have n6_ := Aside0.mk ((sq hg HB.out)); have n7_ := Aside0.mk ((by rw [hg]; exact Nat.ne_of_lt (blk_lt (bkq BK1308.out)) : gb1308 ≠ gb1329)); have n8_ := Aside0.mk ((by rw [hg]; exact Nat.ne_of_gt (blk_lt (bkq BK1308.out)) : gb1329 ≠ gb1308)); clear HO1312; clear HO1322; clear BK1308; clear HB; have HO1312 := n0_; have HO1322 := n1_; have BK1308 := n2_; have HB := n3_; have BK1329 := n4_; have GW1329 := n5_; have GE1329 := n6_; have NB1308_1329 := n7_; have NB1329_1308 := n8_; clear n0_ n1_ n2_ n3_ n4_ n5_ n6_ n7_ n8_; clear hb hbox hg; obtain ⟨Ao43, co43, eo43⟩ := Kd.R_slice HO1322.out; subst eo43; have hnb44 := NB1329_1308.out; have hnc44 := NB1308_1329.out; obtain ⟨hcz45_0, hcz45_1, hcz45_2, hcz45_3, hcz45_4, hcz45_5, hcz45_6, hfz45_0, hfz45_1, hfz45_2, hfz45_3, hfz45_4, hfz45_5, hfz45_6⟩ := bq7 BK1329.out) | ((with_reducible refine gate_callee (f := 74) rfl ?_); refine gLq (some 18) Try.func74 #[.agg #[.slice Ao43 t1320.length co43, .int .i64 t1323, .int .i64 t1324, .int .i64 t1325, .int .i64 t1326, .int .i64 t1327, .int .i64 t1328]] ?_; (with_reducible refine (impl_DaysIn.calls k _ _ t1320 t1323 t1324 t1325 t1326 t1327 t1328 t1330 _ ?side1 ?side2 A10.out).mono ?_); (case side1 => refine (Kd.R_reads' (e := 44) (base := w.heap.size) (ok := fun k_ => (True ∧ some k_ ≠ (.slice Ao38 t1310.length co38 : Value).ownBlock)) (n := t1320.length) (c := co43) ?_).2.2; exact (Kd.Rq (Kd.R_mono (Kd.R_far (p := ⟨gb1329, 6, none⟩) (Kd.R_far (p := ⟨gb1329, 5, none⟩) (Kd.R_far (p := ⟨gb1329, 4, none⟩) (Kd.R_far (p := ⟨gb1329, 3, none⟩) (Kd.R_far (p := ⟨gb1329, 2, none⟩) (Kd.R_far (p := ⟨gb1329, 1, none⟩) (Kd.R_far (p := ⟨gb1329, 0, none⟩) (Kd.R_types HO1322.out BK1329.out (by decide)) (fun _ hk => hk.2) (.slice Ao43 t1320.length co43)) (fun _ hk => hk.2) (.int .i64 t1323)) (fun _ hk => hk.2) (.int .i64 t1324)) (fun _ hk => hk.2) (.int .i64 t1325)) (fun _ hk => hk.2) (.int .i64 t1326)) (fun _ hk => hk.2) (.int .i64 t1327)) (fun _ hk => hk.2) (.int .i64 t1328)) (fun _ h_ => h_.1)))); (case side2 => exact (Kd.R_reads' HO1322.out).2.1); rintro e w46 ⟨rfl, hb⟩; refine ⟨_, rfl, ?_⟩; have n0_ := Aside0.mk (Kd.R_below (Kd.Rq (Kd.R_mono (Kd.R_far (p := ⟨gb1329, 6, none⟩) (Kd.R_far (p := ⟨gb1329, 5, none⟩) (Kd.R_far (p := ⟨gb1329, 4, none⟩) (Kd.R_far (p := ⟨gb1329, 3, none⟩) (Kd.R_far (p := ⟨gb1329, 2, none⟩) (Kd.R_far (p := ⟨gb1329, 1, none⟩) (Kd.R_far (p := ⟨gb1329, 0, none⟩) (Kd.R_types HO1312.out BK1329.out (by decide)) (fun _ hk => hk.2) (.slice Ao43 t1320.length co43)) (fun _ hk => hk.2) (.int .i64 t1323)) (fun _ hk => hk.2) (.int .i64 t1324)) (fun _ hk => hk.2) (.int .i64 t1325)) (fun _ hk => hk.2) (.int .i64 t1326)) (fun _ hk => hk.2) (.int .i64 t1327)) (fun _ hk => hk.2) (.int .i64 t1328)) (fun _ h_ => h_.1))) hb); have n1_ := Aside0.mk (Kd.R_below (Kd.Rq (Kd.R_mono (Kd.R_far (p := ⟨gb1329, 6, none⟩) (Kd.R_far (p := ⟨gb1329, 5, none⟩) (Kd.R_far (p := ⟨gb1329, 4, none⟩) (Kd.R_far (p := ⟨gb1329, 3, none⟩) (Kd.R_far (p := ⟨gb1329, 2, none⟩) (Kd.R_far (p := ⟨gb1329, 1, none⟩) (Kd.R_far (p := ⟨gb1329, 0, none⟩) (Kd.R_types HO1322.out BK1329.out (by decide)) (fun _ hk => hk.2) (.slice Ao43 t1320.length co43)) (fun _ hk => hk.2) (.int .i64 t1323)) (fun _ hk => hk.2) (.int .i64 t1324)) (fun _ hk => hk.2) (.int .i64 t1325)) (fun _ hk => hk.2) (.int .i64 t1326)) (fun _ hk => hk.2) (.int .i64 t1327)) (fun _ hk => hk.2) (.int .i64 t1328)) (fun _ h_ => h_.1))) hb); have n2_ := Aside0.mk (blk_below (g := gb1308) (o := .cells #[.slice A0_0 l0_0.length c0_0, .int .i64 a0_1, .int .i64 a0_2, .int .i64 a0_3, .int .i64 a0_4, .int .i64 a0_5, .int .i64 a0_6] 88 (0, 0)) (by (with_reducible repeat (first | refine blk_drewN ?_ _ | refine blk_drew ?_ | refine blk_alloc ?_ _)); refine blk_far ?_ NB1308_1329.out _; (with_reducible repeat (first | refine blk_drewN ?_ _ | refine blk_drew ?_ | refine blk_alloc ?_ _)); refine blk_far ?_ NB1308_1329.out _; (with_reducible repeat (first | refine blk_drewN ?_ _ | refine blk_drew ?_ | refine blk_alloc ?_ _)); refine blk_far ?_ NB1308_1329.out _; (with_reducible repeat (first | refine blk_drewN ?_ _ | refine blk_drew ?_ | refine blk_alloc ?_ _)); refine blk_far ?_ NB1308_1329.out _; (with_reducible repeat (first | refine blk_drewN ?_ _ | refine blk_drew ?_ | refine blk_alloc ?_ _)); refine blk_far ?_ NB1308_1329.out _; (with_reducible repeat (first | refine blk_drewN ?_ _ | refine blk_drew ?_ | refine blk_alloc ?_ _)); refine blk_far ?_ NB1308_1329.out _; (with_reducible repeat (first | refine blk_drewN ?_ _ | refine blk_drew ?_ | refine blk_alloc ?_ _)); refine blk_far ?_ NB1308_1329.out _; (with_reducible repeat (first | refine blk_drewN ?_ _ | refine blk_drew ?_ | refine blk_alloc ?_ _)); exact BK1308.out) hb); have n3_ := Aside0.mk (blk_below (g := gb1329) (o := .cells #[.slice Ao43 t1320.length co43, .int .i64 t1323, .int .i64 t1324, .int .i64 t1325, .int .i64 t1326, .int .i64 t1327, .int .i64 t1328] 93 (0, 0)) (by (with_reducible repeat (first | refine blk_drewN ?_ _ | refine blk_drew ?_ | refine blk_alloc ?_ _)); refine blk_put (cs := #[.slice Ao43 t1320.length co43, .int .i64 t1323, .int .i64 t1324, .int .i64 t1325, .int .i64 t1326, .int .i64 t1327, .int .i64 0]) ?_ 6 _ rfl; (with_reducible repeat (first | refine blk_drewN ?_ _ | refine blk_drew ?_ | refine blk_alloc ?_ _)); refine blk_put (cs := #[.slice Ao43 t1320.length co43, .int .i64 t1323, .int .i64 t1324, .int .i64 t1325, .int .i64 t1326, .int .i64 0, .int .i64 0]) ?_ 5 _ rfl; (with_reducible repeat (first | refine blk_drewN ?_ _ | refine blk_drew ?_ | refine blk_alloc ?_ _)); refine blk_put (cs := #[.slice Ao43 t1320.length co43, .int .i64 t1323, .int .i64 t1324, .int .i64 t1325, .int .i64 0, .int .i64 0, .int .i64 0]) ?_ 4 _ rfl; (with_reducible repeat (first | refine blk_drewN ?_ _ | refine blk_drew ?_ | refine blk_alloc ?_ _)); refine blk_put (cs := #[.slice Ao43 t1320.length co43, .int .i64 t1323, .int .i64 t1324, .int .i64 0, .int .i64 0, .int .i64 0, .int .i64 0]) ?_ 3 _ rfl; (with_reducible repeat (first | refine blk_drewN ?_ _ | refine blk_drew ?_ | refine blk_alloc ?_ _)); refine blk_put (cs := #[.slice Ao43 t1320.length co43, .int .i64 t1323, .int .i64 0, .int .i64 0, .int .i64 0, .int .i64 0, .int .i64 0]) ?_ 2 _ rfl; (with_reducible repeat (first | refine blk_drewN ?_ _ | refine blk_drew ?_ | refine blk_alloc ?_ _)); refine blk_put (cs := #[.slice Ao43 t1320.length co43, .int .i64 0, .int .i64 0, .int .i64 0, .int .i64 0, .int .i64 0, .int .i64 0]) ?_ 1 _ rfl; (with_reducible repeat (first | refine blk_drewN ?_ _ | refine blk_drew ?_ | refine blk_alloc ?_ _)); refine blk_put (cs := #[.slice none 0 0, .int .i64 0, .int .i64 0, .int .i64 0, .int .i64 0, .int .i64 0, .int .i64 0]) ?_ 0 _ rfl; (with_reducible repeat (first | refine blk_drewN ?_ _ | refine blk_drew ?_ | refine blk_alloc ?_ _)); exact BK1329.out) hb); have n4_ := Aside0.mk (below_step (blq HB.out) hb); clear HO1312; clear HO1322; clear BK1308; clear BK1329; clear HB; have HO1312 := n0_; have HO1322 := n1_; have BK1308 := n2_; have BK1329 := n3_; have HB := n4_; clear n0_ n1_ n2_ n3_ n4_; (try clear hb); (try clear hb2); (try clear hk); (try clear hi)))
    have n0_ := Aside0.mk (Kd.R_drew HO1312.out)
    have n1_ := Aside0.mk (Kd.R_drew HO1322.out)
    have n2_ := Aside0.mk (blk_drew BK1308.out)
    have n3_ := Aside0.mk (blk_drew BK1329.out)
    have n4_ := Aside0.mk (below_drew1 HB.out)
    clear HO1312
    clear HO1322
    clear BK1308
    clear BK1329
    clear HB
    have HO1312 := n0_
    have HO1322 := n1_
    have BK1308 := n2_
    have BK1329 := n3_
    have HB := n4_
    clear n0_ n1_ n2_ n3_ n4_
    refine start_ (n := 5) (S := fun w' => w'.cell? ⟨gb1329, 0, none⟩ = some (.slice Ao43 t1320.length co43) ∧ w'.cell? ⟨gb1329, 1, none⟩ = some (.int .i64 t1323) ∧ w'.cell? ⟨gb1329, 2, none⟩ = some (.int .i64 t1324) ∧ w'.cell? ⟨gb1329, 3, none⟩ = some (.int .i64 t1325) ∧ w'.cell? ⟨gb1329, 4, none⟩ = some (.int .i64 t1326) ∧ w'.cell? ⟨gb1329, 5, none⟩ = some (.int .i64 t1327) ∧ w'.cell? ⟨gb1329, 6, none⟩ = some (.int .i64 t1328) ∧ w'.cell? ⟨gb1308, 0, none⟩ = some (.slice A0_0 l0_0.length c0_0) ∧ w'.cell? ⟨gb1308, 1, none⟩ = some (.int .i64 a0_1) ∧ w'.cell? ⟨gb1308, 2, none⟩ = some (.int .i64 a0_2) ∧ w'.cell? ⟨gb1308, 3, none⟩ = some (.int .i64 a0_3) ∧ w'.cell? ⟨gb1308, 4, none⟩ = some (.int .i64 a0_4) ∧ w'.cell? ⟨gb1308, 5, none⟩ = some (.int .i64 a0_5) ∧ w'.cell? ⟨gb1308, 6, none⟩ = some (.int .i64 a0_6)) (ds := []) #[false, false, false, false, false] (by kernel_rfl) rfl rfl ⟨(blk_cell BK1329.out 0).trans rfl, (blk_cell BK1329.out 1).trans rfl, (blk_cell BK1329.out 2).trans rfl, (blk_cell BK1329.out 3).trans rfl, (blk_cell BK1329.out 4).trans rfl, (blk_cell BK1329.out 5).trans rfl, (blk_cell BK1329.out 6).trans rfl, (blk_cell BK1308.out 0).trans rfl, (blk_cell BK1308.out 1).trans rfl, (blk_cell BK1308.out 2).trans rfl, (blk_cell BK1308.out 3).trans rfl, (blk_cell BK1308.out 4).trans rfl, (blk_cell BK1308.out 5).trans rfl, (blk_cell BK1308.out 6).trans rfl⟩ (fun hHeld => ?_)
    generalize w46.drew = w47 at HO1312 HO1322 BK1308 BK1329 HB hHeld ⊢
    refine take_ (i := 0) (N := some 22) (v := ?_) (a' := ?_) #[true, false, false, false, false] rfl rfl (by kernel_rfl) (fun _ _ _ h => h) (Or.inl ⟨by rfl, ?_⟩) hHeld ?_ ?_
    rotate_left
    ·
     rintro w' ⟨s0, s1, s2, s3, s4, s5, s6, s7, s8, s9, s10, s11, s12, s13⟩
     go_simp
     with_reducible rfl
    rotate_left
    ·
     simp only [Act.put, List.setIfInBounds_toArray, List.set_cons_zero, List.set_cons_succ, i64_w, i32_w]
     rfl
    refine take_ (i := 1) (N := some 23) (v := ?_) (a' := ?_) #[true, true, false, false, false] rfl rfl (by kernel_rfl) (fun _ _ _ h => h) (Or.inl ⟨by rfl, ?_⟩) hHeld ?_ ?_
    rotate_left
    ·
     rintro w' ⟨s0, s1, s2, s3, s4, s5, s6, s7, s8, s9, s10, s11, s12, s13⟩
     go_simp
     with_reducible rfl
    rotate_left
    ·
     simp only [Act.put, List.setIfInBounds_toArray, List.set_cons_zero, List.set_cons_succ, i64_w, i32_w]
     rfl
    refine one_ (i := 2) (N := some 24) #[true, true, true, false, false] rfl rfl (by kernel_rfl) (by decide) (fun K hK => ?_)
    refine goes_ Try.func67 (by kernel_rfl) rfl #[.agg #[.slice A0_0 l0_0.length c0_0, .int .i64 a0_1, .int .i64 a0_2, .int .i64 a0_3, .int .i64 a0_4, .int .i64 a0_5, .int .i64 a0_6]] (by rfl) rfl rfl (by (try simp only [List.map_toArray, List.map_cons, List.map_nil]); first | done | rfl | (simp only [List.length_drop, List.length_take]; rfl)) ?_
    with_reducible refine (laws_toBook.calls k _ _ l0_0 a0_1 a0_2 a0_3 a0_4 a0_5 a0_6 t1331 t1334 t1335 t1336 t1337 t1338 t1339 _ ?side1 ?side2 A12.out).mono ?_
    (case side1 => exact Kd.Cq (Kd.C_below HR0_0.out HB.out))
    (case side2 => exact HC0_0.out)
    rintro e w48 ⟨v1332, rfl, ho0, hb⟩
    refine ⟨_, rfl, ?_⟩
    have n0_ := Aside0.mk (Kd.R_elder' (Kd.Rq HO1312.out) (Kd.R_base ho0) hb)
    have n1_ := Aside0.mk (Kd.R_elder' (Kd.Rq HO1322.out) (Kd.R_base ho0) hb)
    have n2_ := Aside0.mk (Kd.R_lower (Kd.R_new' (Kd.R_new' ho0 (Kd.R_lt (Kd.Rq HO1312.out))) (Kd.R_lt (Kd.Rq HO1322.out))) (below_size (blq HB.out)))
    have n3_ := Aside0.mk (blk_below (bkq BK1308.out) hb)
    have n4_ := Aside0.mk (blk_below (bkq BK1329.out) hb)
    have n5_ := Aside0.mk (below_step (blq HB.out) hb)
    clear HO1312
    clear HO1322
    clear BK1308
    clear BK1329
    clear HB
    have HO1312 := n0_
    have HO1322 := n1_
    have HO1333 := n2_
    have BK1308 := n3_
    have BK1329 := n4_
    have HB := n5_
    clear n0_ n1_ n2_ n3_ n4_ n5_
    (try clear hb)
    (try clear hb2)
    (try clear hk)
    (try clear hi)
    (try clear ho0)
    obtain ⟨Ao49, co49, eo49⟩ := Kd.R_slice HO1333.out
    (first | subst eo49 | (injection eo49 with f1_ f2_ f3_; have f4_ := f1_.symm; have f5_ := f3_.symm; clear f1_ f2_ f3_; subst f4_; subst f5_))
    refine hK.out _ _ ⟨(blk_cell BK1329.out 0).trans rfl, (blk_cell BK1329.out 1).trans rfl, (blk_cell BK1329.out 2).trans rfl, (blk_cell BK1329.out 3).trans rfl, (blk_cell BK1329.out 4).trans rfl, (blk_cell BK1329.out 5).trans rfl, (blk_cell BK1329.out 6).trans rfl, (blk_cell BK1308.out 0).trans rfl, (blk_cell BK1308.out 1).trans rfl, (blk_cell BK1308.out 2).trans rfl, (blk_cell BK1308.out 3).trans rfl, (blk_cell BK1308.out 4).trans rfl, (blk_cell BK1308.out 5).trans rfl, (blk_cell BK1308.out 6).trans rfl⟩ (fun hHeld => ?_)
    clear hK K
    refine norm_ (a' := ?_) ?_ ?_
    rotate_left
    ·
     show Act.put _ (some 24) _ = _
     simp only [Act.put, List.setIfInBounds_toArray, List.set_cons_zero, List.set_cons_succ, i64_w, i32_w]
     rfl
    refine one_ (i := 3) (N := some 25) #[true, true, true, true, false] rfl rfl (by kernel_rfl) (by decide) (fun K hK => ?_)
    refine goes_ Try.func69 (by kernel_rfl) rfl #[.agg #[.slice Ao43 t1320.length co43, .int .i64 t1323, .int .i64 t1324, .int .i64 t1325, .int .i64 t1326, .int .i64 t1327, .int .i64 t1328], .agg #[.slice Ao49 t1331.length co49, .int .i64 t1334, .int .i64 t1335, .int .i64 t1336, .int .i64 t1337, .int .i64 t1338, .int .i64 t1339]] (by rfl) rfl rfl (by (try simp only [List.map_toArray, List.map_cons, List.map_nil]); first | done | rfl | (simp only [List.length_drop, List.length_take]; rfl)) ?_
    with_reducible refine (laws_eqBook.calls k _ _ t1320 t1323 t1324 t1325 t1326 t1327 t1328 _ _ t1331 t1334 t1335 t1336 t1337 t1338 t1339 false _ ?side1 ?side2 ?side3 ?side4 A13.out).mono ?_
    (case side1 => repeat (first | exact (Kd.R_reads' HO1322.out).2.2 | (with_reducible refine Kd.C_alloc ?_ _) | (with_reducible refine Kd.C_drewN ?_ _) | (with_reducible refine Kd.C_drew ?_)))
    (case side2 => exact (Kd.R_reads' HO1322.out).2.1)
    (case side3 => repeat (first | exact (Kd.R_reads' HO1333.out).2.2 | (with_reducible refine Kd.C_alloc ?_ _) | (with_reducible refine Kd.C_drewN ?_ _) | (with_reducible refine Kd.C_drew ?_)))
    (case side4 => exact (Kd.R_reads' HO1333.out).2.1)
    rintro e w50 ⟨rfl, hb⟩
    refine ⟨_, rfl, ?_⟩
    have n0_ := Aside0.mk (Kd.R_below (Kd.Rq HO1312.out) hb)
    have n1_ := Aside0.mk (Kd.R_below (Kd.Rq HO1322.out) hb)
    have n2_ := Aside0.mk (Kd.R_below (Kd.Rq HO1333.out) hb)
    have n3_ := Aside0.mk (blk_below (bkq BK1308.out) hb)
    have n4_ := Aside0.mk (blk_below (bkq BK1329.out) hb)
    have n5_ := Aside0.mk (below_step (blq HB.out) hb)
    clear HO1312
    clear HO1322
    clear HO1333
    clear BK1308
    clear BK1329
    clear HB
    have HO1312 := n0_
    have HO1322 := n1_
    have HO1333 := n2_
    have BK1308 := n3_
    have BK1329 := n4_
    have HB := n5_
    clear n0_ n1_ n2_ n3_ n4_ n5_
    (try clear hb)
    (try clear hb2)
    (try clear hk)
    (try clear hi)
    refine hK.out _ _ ⟨(blk_cell BK1329.out 0).trans rfl, (blk_cell BK1329.out 1).trans rfl, (blk_cell BK1329.out 2).trans rfl, (blk_cell BK1329.out 3).trans rfl, (blk_cell BK1329.out 4).trans rfl, (blk_cell BK1329.out 5).trans rfl, (blk_cell BK1329.out 6).trans rfl, (blk_cell BK1308.out 0).trans rfl, (blk_cell BK1308.out 1).trans rfl, (blk_cell BK1308.out 2).trans rfl, (blk_cell BK1308.out 3).trans rfl, (blk_cell BK1308.out 4).trans rfl, (blk_cell BK1308.out 5).trans rfl, (blk_cell BK1308.out 6).trans rfl⟩ (fun hHeld => ?_)
    clear hK K
    refine norm_ (a' := ?_) ?_ ?_
    rotate_left
    ·
     show Act.put _ (some 25) _ = _
     simp only [Act.put, List.setIfInBounds_toArray, List.set_cons_zero, List.set_cons_succ, i64_w, i32_w]
     rfl
    refine pure_ (i := 4) (N := some 26) (v := ?_) (a' := ?_) #[true, true, true, true, true] rfl rfl (by kernel_rfl) (fun _ _ _ h => h) (Or.inl ⟨by rfl, ?_⟩) ?_ ?_
    rotate_left
    ·
     intro w'
     go_simp
     with_reducible rfl
    rotate_left
    ·
     simp only [Act.put, List.setIfInBounds_toArray, List.set_cons_zero, List.set_cons_succ, i64_w, i32_w]
     rfl
    refine done_ (by kernel_rfl) ?_
    try go_wp2
    go_ret
    exact ⟨by first | rfl | (simp [errW_none, errW_some] <;> rfl) | (simp [*, errW_none, errW_some] <;> rfl), blq HB.out⟩
  ·
   rw [if_neg c11] at H
   have c11b0 : (t1330 == t1319) = false := beq_eq_false_iff_ne.mpr c11
   have c11b1 : (t1330 != t1319) = true := bne_iff_ne.mpr c11
   obtain rfl := Option.some.inj H
   go_enter Try.func14, Try.ntmps14
   go_wp2_with (first | ((with_reducible refine gate_dst (N := 1) rfl ?_); refine box_event ?hg (N := 1) ?hd (cs := #[.slice A0_0 l0_0.length c0_0, .int .i64 a0_1, .int .i64 a0_2, .int .i64 a0_3, .int .i64 a0_4, .int .i64 a0_5, .int .i64 a0_6]) (t := 88) ?hr ?_; (case hd => rfl); (case hg => rfl); (case hr => first | (go_simp; done) | (go_simp; rfl)); intro gb1308 hg w51 hbox hb; have n0_ := Aside0.mk (below_step (blq HB.out) hb); have n1_ := Aside0.mk (hbox); have n2_ := Aside0.mk ((sq hg HB.out)); have n3_ := Aside0.mk ((sq hg HB.out)); clear HB; have HB := n0_; have BK1308 := n1_; have GW1308 := n2_; have GE1308 := n3_; clear n0_ n1_ n2_ n3_; clear hb hbox hg; obtain ⟨hcz52_0, hcz52_1, hcz52_2, hcz52_3, hcz52_4, hcz52_5, hcz52_6, hfz52_0, hfz52_1, hfz52_2, hfz52_3, hfz52_4, hfz52_5, hfz52_6⟩ := bq7 BK1308.out) | ((with_reducible refine gate_callee (f := 65) rfl ?_); refine gLq (some 9) Try.func65 #[.agg #[.slice A0_0 l0_0.length c0_0, .int .i64 a0_1, .int .i64 a0_2, .int .i64 a0_3, .int .i64 a0_4, .int .i64 a0_5, .int .i64 a0_6], .int .i64 1048576] ?_; (with_reducible refine (laws_szBook.calls _ _ l0_0 a0_1 a0_2 a0_3 a0_4 a0_5 a0_6 1048576 t1309 _ ?side1 ?side2 A2.out).mono ?_); (case side1 => exact Kd.Cq (Kd.C_below HR0_0.out HB.out)); (case side2 => exact HC0_0.out); rintro e w53 ⟨rfl, hb⟩; refine ⟨_, rfl, ?_⟩; have n0_ := Aside0.mk (blk_below (bkq BK1308.out) hb); have n1_ := Aside0.mk (below_step (blq HB.out) hb); clear BK1308; clear HB; have BK1308 := n0_; have HB := n1_; clear n0_ n1_; (try clear hb); (try clear hb2); (try clear hk); (try clear hi); obtain ⟨hcz54_0, hcz54_1, hcz54_2, hcz54_3, hcz54_4, hcz54_5, hcz54_6, hfz54_0, hfz54_1, hfz54_2, hfz54_3, hfz54_4, hfz54_5, hfz54_6⟩ := bq7 BK1308.out) | ((with_reducible refine gate_callee (f := 67) rfl ?_); refine gLq (some 13) Try.func67 #[.agg #[.slice A0_0 l0_0.length c0_0, .int .i64 a0_1, .int .i64 a0_2, .int .i64 a0_3, .int .i64 a0_4, .int .i64 a0_5, .int .i64 a0_6]] ?_; (with_reducible refine (laws_toBook.calls k _ _ l0_0 a0_1 a0_2 a0_3 a0_4 a0_5 a0_6 t1310 t1313 t1314 t1315 t1316 t1317 t1318 _ ?side1 ?side2 A7.out).mono ?_); (case side1 => exact Kd.Cq (Kd.C_below HR0_0.out HB.out)); (case side2 => exact HC0_0.out); rintro e w55 ⟨v1311, rfl, ho0, hb⟩; refine ⟨_, rfl, ?_⟩; have n0_ := Aside0.mk (Kd.R_lower ho0 (below_size (blq HB.out))); have n1_ := Aside0.mk (blk_below (bkq BK1308.out) hb); have n2_ := Aside0.mk (below_step (blq HB.out) hb); clear BK1308; clear HB; have HO1312 := n0_; have BK1308 := n1_; have HB := n2_; clear n0_ n1_ n2_; (try clear hb); (try clear hb2); (try clear hk); (try clear hi); (try clear ho0); obtain ⟨Ao56, co56, eo56⟩ := Kd.R_slice HO1312.out; subst eo56) | ((with_reducible refine gate_callee (f := 75) rfl ?_); refine gLq (some 14) Try.func75 #[.agg #[.slice Ao56 t1310.length co56, .int .i64 t1313, .int .i64 t1314, .int .i64 t1315, .int .i64 t1316, .int .i64 t1317, .int .i64 t1318]] ?_; (with_reducible refine (spec_DaysIn.calls k _ _ t1310 t1313 t1314 t1315 t1316 t1317 t1318 t1319 _ ?side1 ?side2 A8.out).mono ?_); (case side1 => repeat (first | exact (Kd.R_reads' HO1312.out).2.2 | (with_reducible refine Kd.C_alloc ?_ _) | (with_reducible refine Kd.C_drewN ?_ _) | (with_reducible refine Kd.C_drew ?_))); (case side2 => exact (Kd.R_reads' HO1312.out).2.1); rintro e w57 ⟨rfl, hb⟩; refine ⟨_, rfl, ?_⟩; have n0_ := Aside0.mk (Kd.R_below (Kd.Rq HO1312.out) hb); have n1_ := Aside0.mk (blk_below (bkq BK1308.out) hb); have n2_ := Aside0.mk (below_step (blq HB.out) hb); clear HO1312; clear BK1308; clear HB; have HO1312 := n0_; have BK1308 := n1_; have HB := n2_; clear n0_ n1_ n2_; (try clear hb); (try clear hb2); (try clear hk); (try clear hi); obtain ⟨hcz58_0, hcz58_1, hcz58_2, hcz58_3, hcz58_4, hcz58_5, hcz58_6, hfz58_0, hfz58_1, hfz58_2, hfz58_3, hfz58_4, hfz58_5, hfz58_6⟩ := bq7 BK1308.out) | ((with_reducible refine gate_callee (f := 67) rfl ?_); refine gLq (some 16) Try.func67 #[.agg #[.slice A0_0 l0_0.length c0_0, .int .i64 a0_1, .int .i64 a0_2, .int .i64 a0_3, .int .i64 a0_4, .int .i64 a0_5, .int .i64 a0_6]] ?_; (with_reducible refine (laws_toBook.calls k _ _ l0_0 a0_1 a0_2 a0_3 a0_4 a0_5 a0_6 t1320 t1323 t1324 t1325 t1326 t1327 t1328 _ ?side1 ?side2 A9.out).mono ?_); (case side1 => exact Kd.Cq (Kd.C_below HR0_0.out HB.out)); (case side2 => exact HC0_0.out); rintro e w59 ⟨v1321, rfl, ho0, hb⟩; refine ⟨_, rfl, ?_⟩; have n0_ := Aside0.mk (Kd.R_elder' (Kd.Rq HO1312.out) (Kd.R_base ho0) hb); have n1_ := Aside0.mk (Kd.R_lower (Kd.R_new' ho0 (Kd.R_lt (Kd.Rq HO1312.out))) (below_size (blq HB.out))); have n2_ := Aside0.mk (blk_below (bkq BK1308.out) hb); have n3_ := Aside0.mk (below_step (blq HB.out) hb); clear HO1312; clear BK1308; clear HB; have HO1312 := n0_; have HO1322 := n1_; have BK1308 := n2_; have HB := n3_; clear n0_ n1_ n2_ n3_; (try clear hb); (try clear hb2); (try clear hk); (try clear hi); (try clear ho0)) | ((with_reducible refine gate_dst (N := 5) rfl ?_); refine box_event ?hg (N := 5) ?hd (cs := #[.slice none 0 0, .int .i64 0, .int .i64 0, .int .i64 0, .int .i64 0, .int .i64 0, .int .i64 0]) (t := 93) ?hr ?_; (case hd => rfl); (case hg => rfl); (case hr => first | (go_simp; done) | (go_simp; rfl)); intro gb1329 hg w60 hbox hb; have n0_ := Aside0.mk (Kd.R_below (Kd.Rq HO1312.out) hb); have n1_ := Aside0.mk (Kd.R_below (Kd.Rq HO1322.out) hb); have n2_ := Aside0.mk (blk_below (bkq BK1308.out) hb); have n3_ := Aside0.mk (below_step (blq HB.out) hb); have n4_ := Aside0.mk (hbox); have n5_ := Aside0.mk ((sq hg HB.out)); have n6_ := Aside0.mk ((sq hg HB.out)); have n7_ := Aside0.mk ((by rw [hg]; exact Nat.ne_of_lt (blk_lt (bkq BK1308.out)) : gb1308 ≠ gb1329)); have n8_ := Aside0.mk ((by rw [hg]; exact Nat.ne_of_gt (blk_lt (bkq BK1308.out)) : gb1329 ≠ gb1308)); clear HO1312; clear HO1322; clear BK1308; clear HB; have HO1312 := n0_; have HO1322 := n1_; have BK1308 := n2_; have HB := n3_; have BK1329 := n4_; have GW1329 := n5_; have GE1329 := n6_; have NB1308_1329 := n7_; have NB1329_1308 := n8_; clear n0_ n1_ n2_ n3_ n4_ n5_ n6_ n7_ n8_; clear hb hbox hg; obtain ⟨Ao61, co61, eo61⟩ := Kd.R_slice HO1322.out; subst eo61; have hnb62 := NB1329_1308.out; have hnc62 := NB1308_1329.out; obtain ⟨hcz63_0, hcz63_1, hcz63_2, hcz63_3, hcz63_4, hcz63_5, hcz63_6, hfz63_0, hfz63_1, hfz63_2, hfz63_3, hfz63_4, hfz63_5, hfz63_6⟩ := bq7 BK1329.out) | ((with_reducible refine gate_callee (f := 74) rfl ?_); refine gLq (some 18) Try.func74 #[.agg #[.slice Ao61 t1320.length co61, .int .i64 t1323, .int .i64 t1324, .int .i64 t1325, .int .i64 t1326, .int .i64 t1327, .int .i64 t1328]] ?_; (with_reducible refine (impl_DaysIn.calls k _ _ t1320 t1323 t1324 t1325 t1326 t1327 t1328 t1330 _ ?side1 ?side2 A10.out).mono ?_); (case side1 => refine (Kd.R_reads' (e := 44) (base := w.heap.size) (ok := fun k_ => (True ∧ some k_ ≠ (.slice Ao56 t1310.length co56 : Value).ownBlock)) (n := t1320.length) (c := co61) ?_).2.2; exact (Kd.Rq (Kd.R_mono (Kd.R_far (p := ⟨gb1329, 6, none⟩) (Kd.R_far (p := ⟨gb1329, 5, none⟩) (Kd.R_far (p := ⟨gb1329, 4, none⟩) (Kd.R_far (p := ⟨gb1329, 3, none⟩) (Kd.R_far (p := ⟨gb1329, 2, none⟩) (Kd.R_far (p := ⟨gb1329, 1, none⟩) (Kd.R_far (p := ⟨gb1329, 0, none⟩) (Kd.R_types HO1322.out BK1329.out (by decide)) (fun _ hk => hk.2) (.slice Ao61 t1320.length co61)) (fun _ hk => hk.2) (.int .i64 t1323)) (fun _ hk => hk.2) (.int .i64 t1324)) (fun _ hk => hk.2) (.int .i64 t1325)) (fun _ hk => hk.2) (.int .i64 t1326)) (fun _ hk => hk.2) (.int .i64 t1327)) (fun _ hk => hk.2) (.int .i64 t1328)) (fun _ h_ => h_.1)))); (case side2 => exact (Kd.R_reads' HO1322.out).2.1); rintro e w64 ⟨rfl, hb⟩; refine ⟨_, rfl, ?_⟩; have n0_ := Aside0.mk (Kd.R_below (Kd.Rq (Kd.R_mono (Kd.R_far (p := ⟨gb1329, 6, none⟩) (Kd.R_far (p := ⟨gb1329, 5, none⟩) (Kd.R_far (p := ⟨gb1329, 4, none⟩) (Kd.R_far (p := ⟨gb1329, 3, none⟩) (Kd.R_far (p := ⟨gb1329, 2, none⟩) (Kd.R_far (p := ⟨gb1329, 1, none⟩) (Kd.R_far (p := ⟨gb1329, 0, none⟩) (Kd.R_types HO1312.out BK1329.out (by decide)) (fun _ hk => hk.2) (.slice Ao61 t1320.length co61)) (fun _ hk => hk.2) (.int .i64 t1323)) (fun _ hk => hk.2) (.int .i64 t1324)) (fun _ hk => hk.2) (.int .i64 t1325)) (fun _ hk => hk.2) (.int .i64 t1326)) (fun _ hk => hk.2) (.int .i64 t1327)) (fun _ hk => hk.2) (.int .i64 t1328)) (fun _ h_ => h_.1))) hb); have n1_ := Aside0.mk (Kd.R_below (Kd.Rq (Kd.R_mono (Kd.R_far (p := ⟨gb1329, 6, none⟩) (Kd.R_far (p := ⟨gb1329, 5, none⟩) (Kd.R_far (p := ⟨gb1329, 4, none⟩) (Kd.R_far (p := ⟨gb1329, 3, none⟩) (Kd.R_far (p := ⟨gb1329, 2, none⟩) (Kd.R_far (p := ⟨gb1329, 1, none⟩) (Kd.R_far (p := ⟨gb1329, 0, none⟩) (Kd.R_types HO1322.out BK1329.out (by decide)) (fun _ hk => hk.2) (.slice Ao61 t1320.length co61)) (fun _ hk => hk.2) (.int .i64 t1323)) (fun _ hk => hk.2) (.int .i64 t1324)) (fun _ hk => hk.2) (.int .i64 t1325)) (fun _ hk => hk.2) (.int .i64 t1326)) (fun _ hk => hk.2) (.int .i64 t1327)) (fun _ hk => hk.2) (.int .i64 t1328)) (fun _ h_ => h_.1))) hb); have n2_ := Aside0.mk (blk_below (g := gb1308) (o := .cells #[.slice A0_0 l0_0.length c0_0, .int .i64 a0_1, .int .i64 a0_2, .int .i64 a0_3, .int .i64 a0_4, .int .i64 a0_5, .int .i64 a0_6] 88 (0, 0)) (by (with_reducible repeat (first | refine blk_drewN ?_ _ | refine blk_drew ?_ | refine blk_alloc ?_ _)); refine blk_far ?_ NB1308_1329.out _; (with_reducible repeat (first | refine blk_drewN ?_ _ | refine blk_drew ?_ | refine blk_alloc ?_ _)); refine blk_far ?_ NB1308_1329.out _; (with_reducible repeat (first | refine blk_drewN ?_ _ | refine blk_drew ?_ | refine blk_alloc ?_ _)); refine blk_far ?_ NB1308_1329.out _; (with_reducible repeat (first | refine blk_drewN ?_ _ | refine blk_drew ?_ | refine blk_alloc ?_ _)); refine blk_far ?_ NB1308_1329.out _; (with_reducible repeat (first | refine blk_drewN ?_ _ | refine blk_drew ?_ | refine blk_alloc ?_ _)); refine blk_far ?_ NB1308_1329.out _; (with_reducible repeat (first | refine blk_drewN ?_ _ | refine blk_drew ?_ | refine blk_alloc ?_ _)); refine blk_far ?_ NB1308_1329.out _; (with_reducible repeat (first | refine blk_drewN ?_ _ | refine blk_drew ?_ | refine blk_alloc ?_ _)); refine blk_far ?_ NB1308_1329.out _; (with_reducible repeat (first | refine blk_drewN ?_ _ | refine blk_drew ?_ | refine blk_alloc ?_ _)); exact BK1308.out) hb); have n3_ := Aside0.mk (blk_below (g := gb1329) (o := .cells #[.slice Ao61 t1320.length co61, .int .i64 t1323, .int .i64 t1324, .int .i64 t1325, .int .i64 t1326, .int .i64 t1327, .int .i64 t1328] 93 (0, 0)) (by (with_reducible repeat (first | refine blk_drewN ?_ _ | refine blk_drew ?_ | refine blk_alloc ?_ _)); refine blk_put (cs := #[.slice Ao61 t1320.length co61, .int .i64 t1323, .int .i64 t1324, .int .i64 t1325, .int .i64 t1326, .int .i64 t1327, .int .i64 0]) ?_ 6 _ rfl; (with_reducible repeat (first | refine blk_drewN ?_ _ | refine blk_drew ?_ | refine blk_alloc ?_ _)); refine blk_put (cs := #[.slice Ao61 t1320.length co61, .int .i64 t1323, .int .i64 t1324, .int .i64 t1325, .int .i64 t1326, .int .i64 0, .int .i64 0]) ?_ 5 _ rfl; (with_reducible repeat (first | refine blk_drewN ?_ _ | refine blk_drew ?_ | refine blk_alloc ?_ _)); refine blk_put (cs := #[.slice Ao61 t1320.length co61, .int .i64 t1323, .int .i64 t1324, .int .i64 t1325, .int .i64 0, .int .i64 0, .int .i64 0]) ?_ 4 _ rfl; (with_reducible repeat (first | refine blk_drewN ?_ _ | refine blk_drew ?_ | refine blk_alloc ?_ _)); refine blk_put (cs := #[.slice Ao61 t1320.length co61, .int .i64 t1323, .int .i64 t1324, .int .i64 0, .int .i64 0, .int .i64 0, .int .i64 0]) ?_ 3 _ rfl; (with_reducible repeat (first | refine blk_drewN ?_ _ | refine blk_drew ?_ | refine blk_alloc ?_ _)); refine blk_put (cs := #[.slice Ao61 t1320.length co61, .int .i64 t1323, .int .i64 0, .int .i64 0, .int .i64 0, .int .i64 0, .int .i64 0]) ?_ 2 _ rfl; (with_reducible repeat (first | refine blk_drewN ?_ _ | refine blk_drew ?_ | refine blk_alloc ?_ _)); refine blk_put (cs := #[.slice Ao61 t1320.length co61, .int .i64 0, .int .i64 0, .int .i64 0, .int .i64 0, .int .i64 0, .int .i64 0]) ?_ 1 _ rfl; (with_reducible repeat (first | refine blk_drewN ?_ _ | refine blk_drew ?_ | refine blk_alloc ?_ _)); refine blk_put (cs := #[.slice none 0 0, .int .i64 0, .int .i64 0, .int .i64 0, .int .i64 0, .int .i64 0, .int .i64 0]) ?_ 0 _ rfl; (with_reducible repeat (first | refine blk_drewN ?_ _ | refine blk_drew ?_ | refine blk_alloc ?_ _)); exact BK1329.out) hb); have n4_ := Aside0.mk (below_step (blq HB.out) hb); clear HO1312; clear HO1322; clear BK1308; clear BK1329; clear HB; have HO1312 := n0_; have HO1322 := n1_; have BK1308 := n2_; have BK1329 := n3_; have HB := n4_; clear n0_ n1_ n2_ n3_ n4_; (try clear hb); (try clear hb2); (try clear hk); (try clear hi)))
   go_ret
   exact ⟨by first | rfl | (simp [errW_none, errW_some] <;> rfl) | (simp [*, errW_none, errW_some] <;> rfl), blq HB.out⟩

/-- What is left to prove of laws_FnExactDaysIn: over numbers and lists alone. -/
def laws_FnExactDaysIn.Pure : Prop := ∀ (l0_0 : List (S39)) (a0_1 : Int) (a0_2 : Int) (a0_3 : Int) (a0_4 : Int) (a0_5 : Int) (a0_6 : Int), ok_T88 (⟨l0_0, (⟨a0_1, a0_2, a0_3⟩ : S37), a0_4, a0_5, a0_6⟩ : S88) → ∃ k, laws_FnExactDaysIn.f k l0_0 a0_1 a0_2 a0_3 a0_4 a0_5 a0_6 = some true

end Go.Proofs.Ytnlioefgpgamdaa.Q
