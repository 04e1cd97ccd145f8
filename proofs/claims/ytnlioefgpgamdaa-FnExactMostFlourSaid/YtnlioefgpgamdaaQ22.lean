-- Written for this claim by wip/xprint.py of this repository (by way of the kit's print); Lean checks every line.
import Derived.Test.YtnlioefgpgamdaaQ0
import Derived.Test.YtnlioefgpgamdaaQ18
import Derived.Test.YtnlioefgpgamdaaQ19
import Derived.Test.YtnlioefgpgamdaaQ21
import Derived.Test.YtnlioefgpgamdaaQ24
namespace Go.Proofs.Ytnlioefgpgamdaa.Q
open Go.RowKit Go.Proofs.YtnlioefgpgamdaaW.PrintWords Go.Proofs.YtnlioefgpgamdaaW.PrintLast Go.Proofs.YtnlioefgpgamdaaW.PrintMore
attribute [local go_sem] max2_int min2_int max_two min_two max_three min_three max_four min_four   -- for this text's walks alone
set_option linter.unusedVariables false
set_option linter.unusedSimpArgs false

/-! ### spec_MostFlour: function 31 -/
mutual
def spec_MostFlour.j0 : Nat → Bool → List Int → Int → Int → Int → Option (Int)
 | 0, _, _, _, _, _ => none
 | k + 1, x15, x372000, x373000, x373001, x373002 => if x15 = true then (some (-1)) else (spec_MostFlour.l0 k 0 1000000 x372000 x373000 x373001 x373002)
def spec_MostFlour.l0 : Nat → Int → Int → List Int → Int → Int → Int → Option (Int)
 | 0, _, _, _, _, _, _ => none
 | k + 1, x5, x6, x372000, x373000, x373001, x373002 => if x5 < x6 then ((spec_FirstMissing.f k x372000 x373000 x373001 x373002 (wrap64 (Int.tdiv (wrap64 ((wrap64 (x5 + x6)) + 1)) 2))).bind fun t375 => (if t375 < 0 then (spec_MostFlour.l0 k (wrap64 (Int.tdiv (wrap64 ((wrap64 (x5 + x6)) + 1)) 2)) x6 x372000 x373000 x373001 x373002) else (spec_MostFlour.l0 k x5 (wrap64 ((wrap64 (Int.tdiv (wrap64 ((wrap64 (x5 + x6)) + 1)) 2)) - 1)) x372000 x373000 x373001 x373002))) else (some x5)
end
def spec_MostFlour.f (k : Nat) (l0_0 : List Int) (a1_0 : Int) (a1_1 : Int) (a1_2 : Int) : Option (Int) := (spec_StoreOk.f k l0_0).bind fun t373 => (if t373 = true then ((spec_DoughOk.f a1_0 a1_1 a1_2).bind fun t374 => (spec_MostFlour.j0 k (!t374) l0_0 a1_0 a1_1 a1_2)) else (spec_MostFlour.j0 k true l0_0 a1_0 a1_1 a1_2))
theorem spec_MostFlour.mono_l : ∀ k, (∀ y0 y1 y2 y3 y4, LeO (spec_MostFlour.j0 k y0 y1 y2 y3 y4) (spec_MostFlour.j0 (k + 1) y0 y1 y2 y3 y4)) ∧ (∀ y0 y1 y2 y3 y4 y5, LeO (spec_MostFlour.l0 k y0 y1 y2 y3 y4 y5) (spec_MostFlour.l0 (k + 1) y0 y1 y2 y3 y4 y5))
 | 0 => ⟨fun _ _ _ _ _ r h => by simp [spec_MostFlour.j0] at h, fun _ _ _ _ _ _ r h => by simp [spec_MostFlour.l0] at h⟩
 | k + 1 => by
  obtain ⟨ih0, ih1⟩ := spec_MostFlour.mono_l k
  refine ⟨?_, ?_⟩
  ·
   intro y0 y1 y2 y3 y4
   unfold spec_MostFlour.j0
   repeat' first
   | (with_reducible exact ih0 _ _ _ _ _)
   | (with_reducible exact ih1 _ _ _ _ _ _)
   | (with_reducible exact spec_FirstMissing.mono _ _ _ _ _ _)
   | (with_reducible exact spec_StoreOk.mono _ _)
   | (with_reducible exact LeO.refl _)
   | (with_reducible exact LeO.none _)
   | (with_reducible refine LeO.ite ?_ ?_)
   | (with_reducible refine LeO.bind ?_ (fun _ => ?_))
   | exact ih0 _ _ _ _ _
   | exact ih1 _ _ _ _ _ _
   | exact spec_FirstMissing.mono _ _ _ _ _ _
   | exact spec_StoreOk.mono _ _
   | exact LeO.none _
   | refine LeO.ite ?_ ?_
   | refine LeO.bind ?_ (fun _ => ?_)
  ·
   intro y0 y1 y2 y3 y4 y5
   unfold spec_MostFlour.l0
   repeat' first
   | (with_reducible exact ih0 _ _ _ _ _)
   | (with_reducible exact ih1 _ _ _ _ _ _)
   | (with_reducible exact spec_FirstMissing.mono _ _ _ _ _ _)
   | (with_reducible exact spec_StoreOk.mono _ _)
   | (with_reducible exact LeO.refl _)
   | (with_reducible exact LeO.none _)
   | (with_reducible refine LeO.ite ?_ ?_)
   | (with_reducible refine LeO.bind ?_ (fun _ => ?_))
   | exact ih0 _ _ _ _ _
   | exact ih1 _ _ _ _ _ _
   | exact spec_FirstMissing.mono _ _ _ _ _ _
   | exact spec_StoreOk.mono _ _
   | exact LeO.none _
   | refine LeO.ite ?_ ?_
   | refine LeO.bind ?_ (fun _ => ?_)
theorem spec_MostFlour.mono : ∀ a0 a1 a2 a3 k, LeO (spec_MostFlour.f k a0 a1 a2 a3) (spec_MostFlour.f (k + 1) a0 a1 a2 a3) := by
 intro a0 a1 a2 a3 k
 obtain ⟨ih0, ih1⟩ := spec_MostFlour.mono_l k
 unfold spec_MostFlour.f
 repeat' first
   | (with_reducible exact ih0 _ _ _ _ _)
   | (with_reducible exact ih1 _ _ _ _ _ _)
   | (with_reducible exact spec_FirstMissing.mono _ _ _ _ _ _)
   | (with_reducible exact spec_StoreOk.mono _ _)
   | (with_reducible exact LeO.refl _)
   | (with_reducible exact LeO.none _)
   | (with_reducible refine LeO.ite ?_ ?_)
   | (with_reducible refine LeO.bind ?_ (fun _ => ?_))
   | exact ih0 _ _ _ _ _
   | exact ih1 _ _ _ _ _ _
   | exact spec_FirstMissing.mono _ _ _ _ _ _
   | exact spec_StoreOk.mono _ _
   | exact LeO.none _
   | refine LeO.ite ?_ ?_
   | refine LeO.bind ?_ (fun _ => ?_)
set_option maxHeartbeats 8000000 in
set_option maxRecDepth 100000 in
theorem spec_MostFlour.calls (k : Nat) (A0_0 : Option Addr) (c0_0 : Nat) (l0_0 : List Int) (a1_0 : Int) (a1_1 : Int) (a1_2 : Int) (r : Int) (w : World) (hr0_0 : Kd.C (Kd.int .i64) w A0_0 l0_0.length l0_0) (hc0_0 : l0_0.length ≤ c0_0) (h : spec_MostFlour.f k l0_0 a1_0 a1_1 a1_2 = some r) :
  Calls Try.prog 31 #[.agg #[.slice A0_0 l0_0.length c0_0], .agg #[.int .i64 a1_0, .int .i64 a1_1, .int .i64 a1_2]] w fun e w' => e = .returned (.int .i64 r) ∧ Below w.heap.size w w' := by
 have hu54 := Try.underlying54
 have hu56 := Try.underlying56
 have HR0_0 := Aside0.mk hr0_0
 have HC0_0 := Aside0.mk hc0_0
 clear hr0_0 hc0_0
 have HB := Aside0.mk (Below.refl w.heap.size w)
 have H : ((spec_StoreOk.f k l0_0).bind fun t373 => (if t373 = true then ((spec_DoughOk.f a1_0 a1_1 a1_2).bind fun t374 => (spec_MostFlour.j0 k (!t374) l0_0 a1_0 a1_1 a1_2)) else (spec_MostFlour.j0 k true l0_0 a1_0 a1_1 a1_2))) = some r := h
 clear h
 have HC3 := Aside0.mk H
 clear H
 go_enter Try.func31, Try.ntmps31
 go_upto_region 1 with (first | ((with_reducible refine gate_dst (N := 2) rfl ?_); refine box_event ?hg (N := 2) ?hd (cs := #[.slice A0_0 l0_0.length c0_0]) (t := 54) ?hr ?_; (case hd => rfl); (case hg => rfl); (case hr => first | (go_simp; done) | (go_simp; rfl)); intro gb371 hg w4 hbox hb; have n0_ := Aside0.mk (below_step (blq HB.out) hb); have n1_ := Aside0.mk (hbox); have n2_ := Aside0.mk ((sq hg HB.out)); have n3_ := Aside0.mk ((sq hg HB.out)); clear HB; have HB := n0_; have BK371 := n1_; have GW371 := n2_; have GE371 := n3_; clear n0_ n1_ n2_ n3_; clear hb hbox hg) | ((with_reducible refine gate_dst (N := 3) rfl ?_); refine box_event ?hg (N := 3) ?hd (cs := #[.int .i64 a1_0, .int .i64 a1_1, .int .i64 a1_2]) (t := 56) ?hr ?_; (case hd => rfl); (case hg => rfl); (case hr => first | (go_simp; done) | (go_simp; rfl)); intro gb372 hg w5 hbox hb; have n0_ := Aside0.mk (blk_below (bkq BK371.out) hb); have n1_ := Aside0.mk (below_step (blq HB.out) hb); have n2_ := Aside0.mk (hbox); have n3_ := Aside0.mk ((sq hg HB.out)); have n4_ := Aside0.mk ((sq hg HB.out)); have n5_ := Aside0.mk ((by rw [hg]; exact Nat.ne_of_lt (blk_lt (bkq BK371.out)) : gb371 ≠ gb372)); have n6_ := Aside0.mk ((by rw [hg]; exact Nat.ne_of_gt (blk_lt (bkq BK371.out)) : gb372 ≠ gb371)); clear BK371; clear HB; have BK371 := n0_; have HB := n1_; have BK372 := n2_; have GW372 := n3_; have GE372 := n4_; have NB371_372 := n5_; have NB372_371 := n6_; clear n0_ n1_ n2_ n3_ n4_ n5_ n6_; clear hb hbox hg))
 (try simp only [Act.put, List.setIfInBounds_toArray, List.set_cons_zero, List.set_cons_succ])
 go_cut [15] (fun v15 wc => ∃ (kq : Nat) (x15_2 : Bool), v15 = .bool x15_2 ∧ Aside0 (spec_MostFlour.j0 kq x15_2 l0_0 a1_0 a1_1 a1_2 = some r) ∧ Aside0 (kq ≤ k) ∧ Aside0 (wc.heap[gb371]? = some (.cells #[(.slice A0_0 l0_0.length c0_0)] 54 (0, 0))) ∧ Aside0 (wc.heap[gb372]? = some (.cells #[.int .i64 a1_0, .int .i64 a1_1, .int .i64 a1_2] 56 (0, 0))) ∧ Aside0 (Below w.heap.size w wc))
 case first =>
  have H := HC3.out
  clear HC3
  replace H := Option.bind_eq_some_iff.mp H
  obtain ⟨t373, A60, H⟩ := H
  replace H : (if t373 = true then ((spec_DoughOk.f a1_0 a1_1 a1_2).bind fun t374 => (spec_MostFlour.j0 k (!t374) l0_0 a1_0 a1_1 a1_2)) else (spec_MostFlour.j0 k true l0_0 a1_0 a1_1 a1_2)) = some r := H
  have A6 := Aside0.mk A60
  clear A60
  by_cases c7 : t373 = true
  ·
   subst c7
   have H1 : ((spec_DoughOk.f a1_0 a1_1 a1_2).bind fun t374 => (spec_MostFlour.j0 k (!t374) l0_0 a1_0 a1_1 a1_2)) = some r := by rw [if_pos rfl] at H; exact H
   clear H
   have H := H1
   clear H1
   replace H := Option.bind_eq_some_iff.mp H
   obtain ⟨t374, A80, H⟩ := H
   replace H : (spec_MostFlour.j0 k (!t374) l0_0 a1_0 a1_1 a1_2) = some r := H
   have A8 := Aside0.mk A80
   clear A80
   have H' := Aside0.mk H
   clear H
   have hnb9 := NB371_372.out
   have hnc9 := NB372_371.out
   have hcz10_0 : w5.cell? ⟨gb371, 0, none⟩ = some (.slice A0_0 l0_0.length c0_0) := (blk_cell BK371.out 0).trans rfl
   have hfz10_0 := blk_frozen BK371.out 0
   go_wp2_with (first | ((with_reducible refine gate_callee (f := 92) rfl ?_); refine goesL_ (some 9) rfl rfl Try.func92 (by kernel_rfl) rfl #[.agg #[.slice A0_0 l0_0.length c0_0]] rfl (by (try simp only [List.map_toArray, List.map_cons, List.map_nil]); first | done | rfl | (simp only [List.length_drop, List.length_take]; rfl)) ?_; (with_reducible refine (spec_StoreOk.calls k _ _ l0_0 true _ ?side1 ?side2 A6.out).mono ?_); (case side1 => repeat (first | exact (Kd.C_below HR0_0.out HB.out) | (with_reducible refine Kd.C_alloc ?_ _) | (with_reducible refine Kd.C_drewN ?_ _) | (with_reducible refine Kd.C_drew ?_))); (case side2 => exact HC0_0.out); rintro e w11 ⟨rfl, hb⟩; refine ⟨_, rfl, ?_⟩; have n0_ := Aside0.mk (blk_below (bkq BK371.out) hb); have n1_ := Aside0.mk (blk_below (bkq BK372.out) hb); have n2_ := Aside0.mk (below_step (blq HB.out) hb); clear BK371; clear BK372; clear HB; have BK371 := n0_; have BK372 := n1_; have HB := n2_; clear n0_ n1_ n2_; (try clear hb); (try clear hb2); (try clear hk); (try clear hi); have hcz12_0 : w11.cell? ⟨gb372, 0, none⟩ = some (.int .i64 a1_0) := (blk_cell BK372.out 0).trans rfl; have hcz12_1 : w11.cell? ⟨gb372, 1, none⟩ = some (.int .i64 a1_1) := (blk_cell BK372.out 1).trans rfl; have hcz12_2 : w11.cell? ⟨gb372, 2, none⟩ = some (.int .i64 a1_2) := (blk_cell BK372.out 2).trans rfl; have hfz12_0 := blk_frozen BK372.out 0; have hfz12_1 := blk_frozen BK372.out 1; have hfz12_2 := blk_frozen BK372.out 2) | (go_at_call 93; (with_reducible refine (spec_DoughOk.calls a1_0 a1_1 a1_2 t374 _ A8.out).mono ?_); rintro e w13 ⟨rfl, hb⟩; have n0_ := Aside0.mk (blk_below (bkq BK371.out) hb); have n1_ := Aside0.mk (blk_below (bkq BK372.out) hb); have n2_ := Aside0.mk (below_step (blq HB.out) hb); clear BK371; clear BK372; clear HB; have BK371 := n0_; have BK372 := n1_; have HB := n2_; clear n0_ n1_ n2_; (try clear hb); (try clear hb2); (try clear hk); (try clear hi)))
   go_meet
   case rel => exact ⟨_, (!t374), (by first | rfl | (simp; done) | (simp [*]; done)), H', ⟨by first | omega | exact Nat.le_refl _⟩, ⟨bkq BK371.out⟩, ⟨bkq BK372.out⟩, ⟨blq HB.out⟩⟩
  ·
   replace c7 := Bool.eq_false_iff.mpr c7
   subst c7
   have H1 : (spec_MostFlour.j0 k true l0_0 a1_0 a1_1 a1_2) = some r := by rw [if_neg (show ¬ (false = true) by decide)] at H; exact H
   clear H
   have H := H1
   clear H1
   have H' := Aside0.mk H
   clear H
   have hnb14 := NB371_372.out
   have hnc14 := NB372_371.out
   have hcz15_0 : w5.cell? ⟨gb371, 0, none⟩ = some (.slice A0_0 l0_0.length c0_0) := (blk_cell BK371.out 0).trans rfl
   have hfz15_0 := blk_frozen BK371.out 0
   go_wp2_with (first | ((with_reducible refine gate_callee (f := 92) rfl ?_); refine goesL_ (some 9) rfl rfl Try.func92 (by kernel_rfl) rfl #[.agg #[.slice A0_0 l0_0.length c0_0]] rfl (by (try simp only [List.map_toArray, List.map_cons, List.map_nil]); first | done | rfl | (simp only [List.length_drop, List.length_take]; rfl)) ?_; (with_reducible refine (spec_StoreOk.calls k _ _ l0_0 false _ ?side1 ?side2 A6.out).mono ?_); (case side1 => repeat (first | exact (Kd.C_below HR0_0.out HB.out) | (with_reducible refine Kd.C_alloc ?_ _) | (with_reducible refine Kd.C_drewN ?_ _) | (with_reducible refine Kd.C_drew ?_))); (case side2 => exact HC0_0.out); rintro e w16 ⟨rfl, hb⟩; refine ⟨_, rfl, ?_⟩; have n0_ := Aside0.mk (blk_below (bkq BK371.out) hb); have n1_ := Aside0.mk (blk_below (bkq BK372.out) hb); have n2_ := Aside0.mk (below_step (blq HB.out) hb); clear BK371; clear BK372; clear HB; have BK371 := n0_; have BK372 := n1_; have HB := n2_; clear n0_ n1_ n2_; (try clear hb); (try clear hb2); (try clear hk); (try clear hi)))
   go_meet
   case rel => exact ⟨_, (true), (by first | rfl | (simp; done) | (simp [*]; done)), H', ⟨by first | omega | exact Nat.le_refl _⟩, ⟨bkq BK371.out⟩, ⟨bkq BK372.out⟩, ⟨blq HB.out⟩⟩
 case rest =>
  clear HC3
  try clear c1
  try clear p2
  try clear c3
  try clear c7
  try clear c9
  try clear c14
  try clear hcz10_0
  try clear hcz12_0
  try clear hcz12_1
  try clear hcz12_2
  try clear hcz15_0
  try clear hfz10_0
  try clear hfz12_0
  try clear hfz12_1
  try clear hfz12_2
  try clear hfz15_0
  obtain ⟨kq, x15_2, rfl, HA, HJ2, BK371, BK372, HB⟩ := hcut
  cases kq with
  | zero => exact absurd HA.out (by simp [spec_MostFlour.j0])
  | succ kj2 =>
   have H := HA.out
   clear HA
   simp only [spec_MostFlour.j0] at H
   by_cases c17 : x15_2 = true
   ·
    subst c17
    have H1 : (some (-1)) = some r := by rw [if_pos rfl] at H; exact H
    clear H
    have H := H1
    clear H1
    obtain rfl := Option.some.inj H
    go_wp2
    go_ret
    exact ⟨by first | rfl | (simp [errW_none, errW_some] <;> rfl) | (simp [*, errW_none, errW_some] <;> rfl), blq HB.out⟩
   ·
    replace c17 := Bool.eq_false_iff.mpr c17
    subst c17
    have H1 : (spec_MostFlour.l0 kj2 0 1000000 l0_0 a1_0 a1_1 a1_2) = some r := by rw [if_neg (show ¬ (false = true) by decide)] at H; exact H
    clear H
    have H := H1
    clear H1
    have H' := Aside0.mk H
    clear H
    go_wp2
    go_loopg [5, 6] kj2 (fun kq v5 v6 w' => ∃ (x5_2 : Int) (x6_2 : Int), v5 = .int .i64 x5_2 ∧ v6 = .int .i64 x6_2 ∧ Aside0 (spec_MostFlour.l0 kq x5_2 x6_2 l0_0 a1_0 a1_1 a1_2 = some r) ∧ Aside0 (kq ≤ kj2) ∧ Aside0 (w'.heap[gb371]? = some (.cells #[(.slice A0_0 l0_0.length c0_0)] 54 (0, 0))) ∧ Aside0 (w'.heap[gb372]? = some (.cells #[.int .i64 a1_0, .int .i64 a1_1, .int .i64 a1_2] 56 (0, 0))) ∧ Aside0 (Below w.heap.size w w'))
    case atStart => exact ⟨(0), (1000000), (by first | rfl | (simp; done) | (simp [*]; done)), (by first | rfl | (simp; done) | (simp [*]; done)), H', ⟨Nat.le_refl _⟩, ⟨bkq BK371.out⟩, ⟨bkq BK372.out⟩, ⟨blq HB.out⟩⟩
    case round =>
     clear H'
     try clear c1
     try clear p2
     try clear c3
     try clear c7
     try clear c9
     try clear c14
     try clear c17
     try clear hcz10_0
     try clear hcz12_0
     try clear hcz12_1
     try clear hcz12_2
     try clear hcz15_0
     try clear hfz10_0
     try clear hfz12_0
     try clear hfz12_1
     try clear hfz12_2
     try clear hfz15_0
     try clear p2
     obtain ⟨x5_2, x6_2, rfl, rfl, HA, HK2, BK371, BK372, HB⟩ := hrel
     cases gk with
     | zero => exact absurd HA.out (by simp [spec_MostFlour.l0])
     | succ k2 =>
      have H := HA.out
      clear HA
      simp only [spec_MostFlour.l0] at H
      by_cases c18 : x5_2 < x6_2
      ·
       rw [if_pos c18] at H
       have c18b0 : decide (x5_2 < x6_2) = true := decide_eq_true c18
       clear c18
       replace H := Option.bind_eq_some_iff.mp H
       obtain ⟨t375, A190, H⟩ := H
       replace H : (if t375 < 0 then (spec_MostFlour.l0 k2 (wrap64 (Int.tdiv (wrap64 ((wrap64 (x5_2 + x6_2)) + 1)) 2)) x6_2 l0_0 a1_0 a1_1 a1_2) else (spec_MostFlour.l0 k2 x5_2 (wrap64 ((wrap64 (Int.tdiv (wrap64 ((wrap64 (x5_2 + x6_2)) + 1)) 2)) - 1)) l0_0 a1_0 a1_1 a1_2)) = some r := H
       have A19 := Aside0.mk A190
       clear A190
       have HF20 := Aside0.mk H
       clear H
       have hnb21 := NB371_372.out
       have hnc21 := NB372_371.out
       have hcz22_0 : wr.cell? ⟨gb371, 0, none⟩ = some (.slice A0_0 l0_0.length c0_0) := (blk_cell BK371.out 0).trans rfl
       have hfz22_0 := blk_frozen BK371.out 0
       have hcz23_0 : wr.cell? ⟨gb372, 0, none⟩ = some (.int .i64 a1_0) := (blk_cell BK372.out 0).trans rfl
       have hcz23_1 : wr.cell? ⟨gb372, 1, none⟩ = some (.int .i64 a1_1) := (blk_cell BK372.out 1).trans rfl
       have hcz23_2 : wr.cell? ⟨gb372, 2, none⟩ = some (.int .i64 a1_2) := (blk_cell BK372.out 2).trans rfl
       have hfz23_0 := blk_frozen BK372.out 0
       have hfz23_1 := blk_frozen BK372.out 1
       have hfz23_2 := blk_frozen BK372.out 2
       go_upto_if 28 with (first | ((with_reducible refine gate_callee (f := 94) rfl ?_); refine goesL_ (some 27) rfl rfl Try.func94 (by kernel_rfl) rfl #[.agg #[.slice A0_0 l0_0.length c0_0], .agg #[.int .i64 a1_0, .int .i64 a1_1, .int .i64 a1_2], .int .i64 (wrap64 (Int.tdiv (wrap64 ((wrap64 (x5_2 + x6_2)) + 1)) 2))] rfl (by (try simp only [List.map_toArray, List.map_cons, List.map_nil]); first | done | rfl | (simp only [List.length_drop, List.length_take]; rfl)) ?_; (with_reducible refine (spec_FirstMissing.calls k2 _ _ l0_0 a1_0 a1_1 a1_2 (wrap64 (Int.tdiv (wrap64 ((wrap64 (x5_2 + x6_2)) + 1)) 2)) t375 _ ?side1 ?side2 A19.out).mono ?_); (case side1 => repeat (first | exact (Kd.C_below HR0_0.out HB.out) | (with_reducible refine Kd.C_alloc ?_ _) | (with_reducible refine Kd.C_drewN ?_ _) | (with_reducible refine Kd.C_drew ?_))); (case side2 => exact HC0_0.out); rintro e w24 ⟨rfl, hb⟩; refine ⟨_, rfl, ?_⟩; have n0_ := Aside0.mk (blk_below (bkq BK371.out) hb); have n1_ := Aside0.mk (blk_below (bkq BK372.out) hb); have n2_ := Aside0.mk (below_step (blq HB.out) hb); clear BK371; clear BK372; clear HB; have BK371 := n0_; have BK372 := n1_; have HB := n2_; clear n0_ n1_ n2_; (try clear hb); (try clear hb2); (try clear hk); (try clear hi)))
       have H := HF20.out
       clear HF20
       by_cases c25 : t375 < 0
       ·
        rw [if_pos c25] at H
        have c25b0 : decide (t375 < 0) = true := decide_eq_true c25
        clear c25
        (first | rw [c25b0] | (simp only [i64_w, i32_w]; rw [c25b0]) | skip)
        have H' := Aside0.mk H
        clear H
        go_wp2
        go_roundg k2
        case measure => have := HJ2.out; have := HK2.out; omega
        case rel => exact ⟨(wrap64 (Int.tdiv (wrap64 ((wrap64 (x5_2 + x6_2)) + 1)) 2)), (x6_2), (by first | rfl | (simp; done) | (simp [*]; done)), (by first | rfl | (simp; done) | (simp [*]; done)), H', ⟨by have := HJ2.out; have := HK2.out; omega⟩, ⟨bkq BK371.out⟩, ⟨bkq BK372.out⟩, ⟨blq HB.out⟩⟩
       ·
        rw [if_neg c25] at H
        have c25b0 : decide (t375 < 0) = false := decide_eq_false c25
        clear c25
        (first | rw [c25b0] | (simp only [i64_w, i32_w]; rw [c25b0]) | skip)
        have H' := Aside0.mk H
        clear H
        go_wp2
        go_roundg k2
        case measure => have := HJ2.out; have := HK2.out; omega
        case rel => exact ⟨(x5_2), (wrap64 ((wrap64 (Int.tdiv (wrap64 ((wrap64 (x5_2 + x6_2)) + 1)) 2)) - 1)), (by first | rfl | (simp; done) | (simp [*]; done)), (by first | rfl | (simp; done) | (simp [*]; done)), H', ⟨by have := HJ2.out; have := HK2.out; omega⟩, ⟨bkq BK371.out⟩, ⟨bkq BK372.out⟩, ⟨blq HB.out⟩⟩
      ·
       rw [if_neg c18] at H
       have c18b0 : decide (x5_2 < x6_2) = false := decide_eq_false c18
       clear c18
       obtain rfl := Option.some.inj H
       go_wp2
       go_ret
       exact ⟨by first | rfl | (simp [errW_none, errW_some] <;> rfl) | (simp [*, errW_none, errW_some] <;> rfl), blq HB.out⟩

/-! ### laws_FnExactMostFlour: function 5 -/
def laws_FnExactMostFlour.f (k : Nat) (l0_0 : List Int) (a1_0 : Int) (a1_1 : Int) (a1_2 : Int) : Option (Bool) := (laws_szStock.f l0_0 1048576).bind fun t425 => (if t425 < 0 then (some true) else ((laws_toStock.f k l0_0).bind fun t426 => ((laws_toDough.f a1_0 a1_1 a1_2).bind fun bt429 => ((spec_MostFlour.f k t426 bt429.1 bt429.2.1 bt429.2.2).bind fun t432 => ((laws_toStock.f k l0_0).bind fun t433 => ((laws_toDough.f a1_0 a1_1 a1_2).bind fun bt437 => ((impl_MostFlour.f k t433 bt437.1 bt437.2.1 bt437.2.2).bind fun t440 => (if t440 = t432 then ((laws_toStock.f k l0_0).bind fun t441 => ((laws_eqStock.f k t433 t441).bind fun t444 => (if t444 = true then (some true) else (some false)))) else (some false)))))))))
theorem laws_FnExactMostFlour.mono : ∀ a0 a1 a2 a3 k, LeO (laws_FnExactMostFlour.f k a0 a1 a2 a3) (laws_FnExactMostFlour.f (k + 1) a0 a1 a2 a3) := by
 intro a0 a1 a2 a3 k
 unfold laws_FnExactMostFlour.f
 repeat' first
   | (with_reducible exact impl_MostFlour.mono _ _ _ _ _)
   | (with_reducible exact laws_eqStock.mono _ _ _)
   | (with_reducible exact laws_toStock.mono _ _)
   | (with_reducible exact spec_MostFlour.mono _ _ _ _ _)
   | (with_reducible exact LeO.refl _)
   | (with_reducible exact LeO.none _)
   | (with_reducible refine LeO.ite ?_ ?_)
   | (with_reducible refine LeO.bind ?_ (fun _ => ?_))
   | exact impl_MostFlour.mono _ _ _ _ _
   | exact laws_eqStock.mono _ _ _
   | exact laws_toStock.mono _ _
   | exact spec_MostFlour.mono _ _ _ _ _
   | exact LeO.none _
   | refine LeO.ite ?_ ?_
   | refine LeO.bind ?_ (fun _ => ?_)
set_option maxHeartbeats 8000000 in
set_option maxRecDepth 100000 in
theorem laws_FnExactMostFlour.calls (k : Nat) (A0_0 : Option Addr) (c0_0 : Nat) (l0_0 : List Int) (a1_0 : Int) (a1_1 : Int) (a1_2 : Int) (r : Bool) (w : World) (hr0_0 : Kd.C (Kd.int .i64) w A0_0 l0_0.length l0_0) (hc0_0 : l0_0.length ≤ c0_0) (h : laws_FnExactMostFlour.f k l0_0 a1_0 a1_1 a1_2 = some r) :
  Calls Try.prog 5 #[.agg #[.slice A0_0 l0_0.length c0_0], .agg #[.int .i64 a1_0, .int .i64 a1_1, .int .i64 a1_2]] w fun e w' => e = .returned (.bool r) ∧ Below w.heap.size w w' := by
 have hu49 := Try.underlying49
 have hu51 := Try.underlying51
 have hu54 := Try.underlying54
 have HR0_0 := Aside0.mk hr0_0
 have HC0_0 := Aside0.mk hc0_0
 clear hr0_0 hc0_0
 have HB := Aside0.mk (Below.refl w.heap.size w)
 have H : ((laws_szStock.f l0_0 1048576).bind fun t425 => (if t425 < 0 then (some true) else ((laws_toStock.f k l0_0).bind fun t426 => ((laws_toDough.f a1_0 a1_1 a1_2).bind fun bt429 => ((spec_MostFlour.f k t426 bt429.1 bt429.2.1 bt429.2.2).bind fun t432 => ((laws_toStock.f k l0_0).bind fun t433 => ((laws_toDough.f a1_0 a1_1 a1_2).bind fun bt437 => ((impl_MostFlour.f k t433 bt437.1 bt437.2.1 bt437.2.2).bind fun t440 => (if t440 = t432 then ((laws_toStock.f k l0_0).bind fun t441 => ((laws_eqStock.f k t433 t441).bind fun t444 => (if t444 = true then (some true) else (some false)))) else (some false)))))))))) = some r := h
 clear h
 replace H := Option.bind_eq_some_iff.mp H
 obtain ⟨t425, A30, H⟩ := H
 replace H : (if t425 < 0 then (some true) else ((laws_toStock.f k l0_0).bind fun t426 => ((laws_toDough.f a1_0 a1_1 a1_2).bind fun bt429 => ((spec_MostFlour.f k t426 bt429.1 bt429.2.1 bt429.2.2).bind fun t432 => ((laws_toStock.f k l0_0).bind fun t433 => ((laws_toDough.f a1_0 a1_1 a1_2).bind fun bt437 => ((impl_MostFlour.f k t433 bt437.1 bt437.2.1 bt437.2.2).bind fun t440 => (if t440 = t432 then ((laws_toStock.f k l0_0).bind fun t441 => ((laws_eqStock.f k t433 t441).bind fun t444 => (if t444 = true then (some true) else (some false)))) else (some false))))))))) = some r := H
 have A3 := Aside0.mk A30
 clear A30
 have HF4 := Aside0.mk H
 clear H
 go_enter Try.func5, Try.ntmps5
 go_upto_if 13 with (first | ((with_reducible refine gate_dst (N := 2) rfl ?_); refine box_event ?hg (N := 2) ?hd (cs := #[.slice A0_0 l0_0.length c0_0]) (t := 49) ?hr ?_; (case hd => rfl); (case hg => rfl); (case hr => first | (go_simp; done) | (go_simp; rfl)); intro gb423 hg w5 hbox hb; have n0_ := Aside0.mk (below_step (blq HB.out) hb); have n1_ := Aside0.mk (hbox); have n2_ := Aside0.mk ((sq hg HB.out)); have n3_ := Aside0.mk ((sq hg HB.out)); clear HB; have HB := n0_; have BK423 := n1_; have GW423 := n2_; have GE423 := n3_; clear n0_ n1_ n2_ n3_; clear hb hbox hg) | ((with_reducible refine gate_dst (N := 3) rfl ?_); refine box_event ?hg (N := 3) ?hd (cs := #[.int .i64 a1_0, .int .i64 a1_1, .int .i64 a1_2]) (t := 51) ?hr ?_; (case hd => rfl); (case hg => rfl); (case hr => first | (go_simp; done) | (go_simp; rfl)); intro gb424 hg w6 hbox hb; have n0_ := Aside0.mk (blk_below (bkq BK423.out) hb); have n1_ := Aside0.mk (below_step (blq HB.out) hb); have n2_ := Aside0.mk (hbox); have n3_ := Aside0.mk ((sq hg HB.out)); have n4_ := Aside0.mk ((sq hg HB.out)); have n5_ := Aside0.mk ((by rw [hg]; exact Nat.ne_of_lt (blk_lt (bkq BK423.out)) : gb423 ≠ gb424)); have n6_ := Aside0.mk ((by rw [hg]; exact Nat.ne_of_gt (blk_lt (bkq BK423.out)) : gb424 ≠ gb423)); clear BK423; clear HB; have BK423 := n0_; have HB := n1_; have BK424 := n2_; have GW424 := n3_; have GE424 := n4_; have NB423_424 := n5_; have NB424_423 := n6_; clear n0_ n1_ n2_ n3_ n4_ n5_ n6_; clear hb hbox hg; have hnb7 := NB423_424.out; have hnc7 := NB424_423.out; have hcz8_0 : w6.cell? ⟨gb423, 0, none⟩ = some (.slice A0_0 l0_0.length c0_0) := (blk_cell BK423.out 0).trans rfl; have hfz8_0 := blk_frozen BK423.out 0) | ((with_reducible refine gate_callee (f := 30) rfl ?_); refine goesL_ (some 11) rfl rfl Try.func30 (by kernel_rfl) rfl #[.agg #[.slice A0_0 l0_0.length c0_0], .int .i64 1048576] rfl (by (try simp only [List.map_toArray, List.map_cons, List.map_nil]); first | done | rfl | (simp only [List.length_drop, List.length_take]; rfl)) ?_; (with_reducible refine (laws_szStock.calls _ _ l0_0 1048576 t425 _ ?side1 ?side2 A3.out).mono ?_); (case side1 => repeat (first | exact (Kd.C_below HR0_0.out HB.out) | (with_reducible refine Kd.C_alloc ?_ _) | (with_reducible refine Kd.C_drewN ?_ _) | (with_reducible refine Kd.C_drew ?_))); (case side2 => exact HC0_0.out); rintro e w9 ⟨rfl, hb⟩; refine ⟨_, rfl, ?_⟩; have n0_ := Aside0.mk (blk_below (bkq BK423.out) hb); have n1_ := Aside0.mk (blk_below (bkq BK424.out) hb); have n2_ := Aside0.mk (below_step (blq HB.out) hb); clear BK423; clear BK424; clear HB; have BK423 := n0_; have BK424 := n1_; have HB := n2_; clear n0_ n1_ n2_; (try clear hb); (try clear hb2); (try clear hk); (try clear hi)))
 have H := HF4.out
 clear HF4
 by_cases c10 : t425 < 0
 ·
  rw [if_pos c10] at H
  have c10b0 : decide (t425 < 0) = true := decide_eq_true c10
  clear c10
  (first | rw [c10b0] | (simp only [i64_w, i32_w]; rw [c10b0]) | skip)
  obtain rfl := Option.some.inj H
  go_wp2
  go_ret
  exact ⟨by first | rfl | (simp [errW_none, errW_some] <;> rfl) | (simp [*, errW_none, errW_some] <;> rfl), blq HB.out⟩
 ·
  rw [if_neg c10] at H
  have c10b0 : decide (t425 < 0) = false := decide_eq_false c10
  clear c10
  (first | rw [c10b0] | (simp only [i64_w, i32_w]; rw [c10b0]) | skip)
  replace H := Option.bind_eq_some_iff.mp H
  obtain ⟨t426, A110, H⟩ := H
  replace H : ((laws_toDough.f a1_0 a1_1 a1_2).bind fun bt429 => ((spec_MostFlour.f k t426 bt429.1 bt429.2.1 bt429.2.2).bind fun t432 => ((laws_toStock.f k l0_0).bind fun t433 => ((laws_toDough.f a1_0 a1_1 a1_2).bind fun bt437 => ((impl_MostFlour.f k t433 bt437.1 bt437.2.1 bt437.2.2).bind fun t440 => (if t440 = t432 then ((laws_toStock.f k l0_0).bind fun t441 => ((laws_eqStock.f k t433 t441).bind fun t444 => (if t444 = true then (some true) else (some false)))) else (some false))))))) = some r := H
  have A11 := Aside0.mk A110
  clear A110
  replace H := Option.bind_eq_some_iff.mp H
  obtain ⟨⟨t429, t430, t431⟩, A120, H⟩ := H
  replace H : ((spec_MostFlour.f k t426 t429 t430 t431).bind fun t432 => ((laws_toStock.f k l0_0).bind fun t433 => ((laws_toDough.f a1_0 a1_1 a1_2).bind fun bt437 => ((impl_MostFlour.f k t433 bt437.1 bt437.2.1 bt437.2.2).bind fun t440 => (if t440 = t432 then ((laws_toStock.f k l0_0).bind fun t441 => ((laws_eqStock.f k t433 t441).bind fun t444 => (if t444 = true then (some true) else (some false)))) else (some false)))))) = some r := H
  have A12 := Aside0.mk A120
  clear A120
  replace H := Option.bind_eq_some_iff.mp H
  obtain ⟨t432, A130, H⟩ := H
  replace H : ((laws_toStock.f k l0_0).bind fun t433 => ((laws_toDough.f a1_0 a1_1 a1_2).bind fun bt437 => ((impl_MostFlour.f k t433 bt437.1 bt437.2.1 bt437.2.2).bind fun t440 => (if t440 = t432 then ((laws_toStock.f k l0_0).bind fun t441 => ((laws_eqStock.f k t433 t441).bind fun t444 => (if t444 = true then (some true) else (some false)))) else (some false))))) = some r := H
  have A13 := Aside0.mk A130
  clear A130
  replace H := Option.bind_eq_some_iff.mp H
  obtain ⟨t433, A140, H⟩ := H
  replace H : ((laws_toDough.f a1_0 a1_1 a1_2).bind fun bt437 => ((impl_MostFlour.f k t433 bt437.1 bt437.2.1 bt437.2.2).bind fun t440 => (if t440 = t432 then ((laws_toStock.f k l0_0).bind fun t441 => ((laws_eqStock.f k t433 t441).bind fun t444 => (if t444 = true then (some true) else (some false)))) else (some false)))) = some r := H
  have A14 := Aside0.mk A140
  clear A140
  replace H := Option.bind_eq_some_iff.mp H
  obtain ⟨⟨t437, t438, t439⟩, A150, H⟩ := H
  replace H : ((impl_MostFlour.f k t433 t437 t438 t439).bind fun t440 => (if t440 = t432 then ((laws_toStock.f k l0_0).bind fun t441 => ((laws_eqStock.f k t433 t441).bind fun t444 => (if t444 = true then (some true) else (some false)))) else (some false))) = some r := H
  have A15 := Aside0.mk A150
  clear A150
  replace H := Option.bind_eq_some_iff.mp H
  obtain ⟨t440, A160, H⟩ := H
  replace H : (if t440 = t432 then ((laws_toStock.f k l0_0).bind fun t441 => ((laws_eqStock.f k t433 t441).bind fun t444 => (if t444 = true then (some true) else (some false)))) else (some false)) = some r := H
  have A16 := Aside0.mk A160
  clear A160
  have HF17 := Aside0.mk H
  clear H
  try go_wp2
  have n0_ := Aside0.mk (blk_drew BK423.out)
  have n1_ := Aside0.mk (blk_drew BK424.out)
  have n2_ := Aside0.mk (below_drew1 HB.out)
  clear BK423
  clear BK424
  clear HB
  have BK423 := n0_
  have BK424 := n1_
  have HB := n2_
  clear n0_ n1_ n2_
  refine start_ (n := 6) (S := fun w' => w'.cell? ⟨gb423, 0, none⟩ = some (.slice A0_0 l0_0.length c0_0) ∧ w'.cell? ⟨gb424, 0, none⟩ = some (.int .i64 a1_0) ∧ w'.cell? ⟨gb424, 1, none⟩ = some (.int .i64 a1_1) ∧ w'.cell? ⟨gb424, 2, none⟩ = some (.int .i64 a1_2)) (ds := []) #[false, false, false, false, false, false] (by kernel_rfl) rfl rfl ⟨(blk_cell BK423.out 0).trans rfl, (blk_cell BK424.out 0).trans rfl, (blk_cell BK424.out 1).trans rfl, (blk_cell BK424.out 2).trans rfl⟩ (fun hHeld => ?_)
  generalize w9.drew = w18 at BK423 BK424 HB hHeld ⊢
  refine take_ (i := 0) (N := some 14) (v := ?_) (a' := ?_) #[true, false, false, false, false, false] rfl rfl (by kernel_rfl) (fun _ _ _ h => h) (Or.inl ⟨by rfl, ?_⟩) hHeld ?_ ?_
  rotate_left
  ·
   rintro w' ⟨s0, s1, s2, s3⟩
   go_simp
   with_reducible rfl
  rotate_left
  ·
   simp only [Act.put, List.setIfInBounds_toArray, List.set_cons_zero, List.set_cons_succ, i64_w, i32_w]
   rfl
  refine take_ (i := 2) (N := some 16) (v := ?_) (a' := ?_) #[true, false, true, false, false, false] rfl rfl (by kernel_rfl) (fun _ _ _ h => h) (Or.inl ⟨by rfl, ?_⟩) hHeld ?_ ?_
  rotate_left
  ·
   rintro w' ⟨s0, s1, s2, s3⟩
   go_simp
   with_reducible rfl
  rotate_left
  ·
   simp only [Act.put, List.setIfInBounds_toArray, List.set_cons_zero, List.set_cons_succ, i64_w, i32_w]
   rfl
  refine one_ (i := 1) (N := some 15) #[true, true, true, false, false, false] rfl rfl (by kernel_rfl) (by decide) (fun K hK => ?_)
  refine goes_ Try.func32 (by kernel_rfl) rfl #[.agg #[.slice A0_0 l0_0.length c0_0]] (by rfl) rfl rfl (by (try simp only [List.map_toArray, List.map_cons, List.map_nil]); first | done | rfl | (simp only [List.length_drop, List.length_take]; rfl)) ?_
  with_reducible refine (laws_toStock.calls k _ _ l0_0 t426 _ ?side1 ?side2 A11.out).mono ?_
  (case side1 => repeat (first | exact (Kd.C_below HR0_0.out HB.out) | (with_reducible refine Kd.C_alloc ?_ _) | (with_reducible refine Kd.C_drewN ?_ _) | (with_reducible refine Kd.C_drew ?_)))
  (case side2 => exact HC0_0.out)
  rintro e w19 ⟨v427, rfl, ho0, hb⟩
  refine ⟨_, rfl, ?_⟩
  have n0_ := Aside0.mk (Kd.R_lower ho0 (below_size (blq HB.out)))
  have n1_ := Aside0.mk (blk_below (bkq BK423.out) hb)
  have n2_ := Aside0.mk (blk_below (bkq BK424.out) hb)
  have n3_ := Aside0.mk (below_step (blq HB.out) hb)
  clear BK423
  clear BK424
  clear HB
  have HO428 := n0_
  have BK423 := n1_
  have BK424 := n2_
  have HB := n3_
  clear n0_ n1_ n2_ n3_
  (try clear hb)
  (try clear hb2)
  (try clear hk)
  (try clear hi)
  (try clear ho0)
  refine hK.out _ _ ⟨(blk_cell BK423.out 0).trans rfl, (blk_cell BK424.out 0).trans rfl, (blk_cell BK424.out 1).trans rfl, (blk_cell BK424.out 2).trans rfl⟩ (fun hHeld => ?_)
  clear hK K
  refine norm_ (a' := ?_) ?_ ?_
  rotate_left
  ·
   show Act.put _ (some 15) _ = _
   simp only [Act.put, List.setIfInBounds_toArray, List.set_cons_zero, List.set_cons_succ, i64_w, i32_w]
   rfl
  refine one_ (i := 3) (N := some 17) #[true, true, true, true, false, false] rfl rfl (by kernel_rfl) (by decide) (fun K hK => ?_)
  refine goes_ Try.func33 (by kernel_rfl) rfl #[.agg #[.int .i64 a1_0, .int .i64 a1_1, .int .i64 a1_2]] (by rfl) rfl rfl (by (try simp only [List.map_toArray, List.map_cons, List.map_nil]); first | done | rfl | (simp only [List.length_drop, List.length_take]; rfl)) ?_
  with_reducible refine (laws_toDough.calls a1_0 a1_1 a1_2 t429 t430 t431 _ A12.out).mono ?_
  rintro e w20 ⟨rfl, hb⟩
  refine ⟨_, rfl, ?_⟩
  have n0_ := Aside0.mk (Kd.R_below (Kd.Rq HO428.out) hb)
  have n1_ := Aside0.mk (blk_below (bkq BK423.out) hb)
  have n2_ := Aside0.mk (blk_below (bkq BK424.out) hb)
  have n3_ := Aside0.mk (below_step (blq HB.out) hb)
  clear HO428
  clear BK423
  clear BK424
  clear HB
  have HO428 := n0_
  have BK423 := n1_
  have BK424 := n2_
  have HB := n3_
  clear n0_ n1_ n2_ n3_
  (try clear hb)
  (try clear hb2)
  (try clear hk)
  (try clear hi)
  obtain ⟨Ao21, co21, eo21⟩ := Kd.R_slice HO428.out
  (first | subst eo21 | (injection eo21 with f1_ f2_ f3_; have f4_ := f1_.symm; have f5_ := f3_.symm; clear f1_ f2_ f3_; subst f4_; subst f5_))
  refine hK.out _ _ ⟨(blk_cell BK423.out 0).trans rfl, (blk_cell BK424.out 0).trans rfl, (blk_cell BK424.out 1).trans rfl, (blk_cell BK424.out 2).trans rfl⟩ (fun hHeld => ?_)
  clear hK K
  refine norm_ (a' := ?_) ?_ ?_
  rotate_left
  ·
   show Act.put _ (some 17) _ = _
   simp only [Act.put, List.setIfInBounds_toArray, List.set_cons_zero, List.set_cons_succ, i64_w, i32_w]
   rfl
  refine one_ (i := 4) (N := some 18) #[true, true, true, true, true, false] rfl rfl (by kernel_rfl) (by decide) (fun K hK => ?_)
  refine goes_ Try.func31 (by kernel_rfl) rfl #[.agg #[.slice Ao21 t426.length co21], .agg #[.int .i64 t429, .int .i64 t430, .int .i64 t431]] (by rfl) rfl rfl (by (try simp only [List.map_toArray, List.map_cons, List.map_nil]); first | done | rfl | (simp only [List.length_drop, List.length_take]; rfl)) ?_
  with_reducible refine (spec_MostFlour.calls k _ _ t426 t429 t430 t431 t432 _ ?side1 ?side2 A13.out).mono ?_
  (case side1 => repeat (first | exact (Kd.R_reads' HO428.out).2.2 | (with_reducible refine Kd.C_alloc ?_ _) | (with_reducible refine Kd.C_drewN ?_ _) | (with_reducible refine Kd.C_drew ?_)))
  (case side2 => exact (Kd.R_reads' HO428.out).2.1)
  rintro e w22 ⟨rfl, hb⟩
  refine ⟨_, rfl, ?_⟩
  have n0_ := Aside0.mk (Kd.R_below (Kd.Rq HO428.out) hb)
  have n1_ := Aside0.mk (blk_below (bkq BK423.out) hb)
  have n2_ := Aside0.mk (blk_below (bkq BK424.out) hb)
  have n3_ := Aside0.mk (below_step (blq HB.out) hb)
  clear HO428
  clear BK423
  clear BK424
  clear HB
  have HO428 := n0_
  have BK423 := n1_
  have BK424 := n2_
  have HB := n3_
  clear n0_ n1_ n2_ n3_
  (try clear hb)
  (try clear hb2)
  (try clear hk)
  (try clear hi)
  refine hK.out _ _ ⟨(blk_cell BK423.out 0).trans rfl, (blk_cell BK424.out 0).trans rfl, (blk_cell BK424.out 1).trans rfl, (blk_cell BK424.out 2).trans rfl⟩ (fun hHeld => ?_)
  clear hK K
  refine norm_ (a' := ?_) ?_ ?_
  rotate_left
  ·
   show Act.put _ (some 18) _ = _
   simp only [Act.put, List.setIfInBounds_toArray, List.set_cons_zero, List.set_cons_succ, i64_w, i32_w]
   rfl
  refine pure_ (i := 5) (N := some 6) (v := ?_) (a' := ?_) #[true, true, true, true, true, true] rfl rfl (by kernel_rfl) (fun _ _ _ h => h) (Or.inl ⟨by rfl, ?_⟩) ?_ ?_
  rotate_left
  ·
   intro w'
   go_simp
   with_reducible rfl
  rotate_left
  ·
   simp only [Act.put, List.setIfInBounds_toArray, List.set_cons_zero, List.set_cons_succ, i64_w, i32_w]
   rfl
  refine done_ (by kernel_rfl) ?_
  have hnb23 := NB423_424.out
  have hnc23 := NB424_423.out
  have hcz24_0 : w22.cell? ⟨gb423, 0, none⟩ = some (.slice A0_0 l0_0.length c0_0) := (blk_cell BK423.out 0).trans rfl
  have hfz24_0 := blk_frozen BK423.out 0
  try go_wp2_with (first | ((with_reducible refine gate_callee (f := 32) rfl ?_); refine goesL_ (some 20) rfl rfl Try.func32 (by kernel_rfl) rfl #[.agg #[.slice A0_0 l0_0.length c0_0]] rfl (by (try simp only [List.map_toArray, List.map_cons, List.map_nil]); first | done | rfl | (simp only [List.length_drop, List.length_take]; rfl)) ?_; (with_reducible refine (laws_toStock.calls k _ _ l0_0 t433 _ ?side1 ?side2 A14.out).mono ?_); (case side1 => repeat (first | exact (Kd.C_below HR0_0.out HB.out) | (with_reducible refine Kd.C_alloc ?_ _) | (with_reducible refine Kd.C_drewN ?_ _) | (with_reducible refine Kd.C_drew ?_))); (case side2 => exact HC0_0.out); rintro e w25 ⟨v434, rfl, ho0, hb⟩; refine ⟨_, rfl, ?_⟩; have n0_ := Aside0.mk (Kd.R_elder' (Kd.Rq HO428.out) (Kd.R_base ho0) hb); have n1_ := Aside0.mk (Kd.R_lower (Kd.R_new' ho0 (Kd.R_lt (Kd.Rq HO428.out))) (below_size (blq HB.out))); have n2_ := Aside0.mk (blk_below (bkq BK423.out) hb); have n3_ := Aside0.mk (blk_below (bkq BK424.out) hb); have n4_ := Aside0.mk (below_step (blq HB.out) hb); clear HO428; clear BK423; clear BK424; clear HB; have HO428 := n0_; have HO435 := n1_; have BK423 := n2_; have BK424 := n3_; have HB := n4_; clear n0_ n1_ n2_ n3_ n4_; (try clear hb); (try clear hb2); (try clear hk); (try clear hi); (try clear ho0)) | ((with_reducible refine gate_dst (N := 7) rfl ?_); refine box_event ?hg (N := 7) ?hd (cs := #[.slice none 0 0]) (t := 54) ?hr ?_; (case hd => rfl); (case hg => rfl); (case hr => first | (go_simp; done) | (go_simp; rfl)); intro gb436 hg w26 hbox hb; have n0_ := Aside0.mk (Kd.R_below (Kd.Rq HO428.out) hb); have n1_ := Aside0.mk (Kd.R_below (Kd.Rq HO435.out) hb); have n2_ := Aside0.mk (blk_below (bkq BK423.out) hb); have n3_ := Aside0.mk (blk_below (bkq BK424.out) hb); have n4_ := Aside0.mk (below_step (blq HB.out) hb); have n5_ := Aside0.mk (hbox); have n6_ := Aside0.mk ((sq hg HB.out)); have n7_ := Aside0.mk ((sq hg HB.out)); have n8_ := Aside0.mk ((by rw [hg]; exact Nat.ne_of_lt (blk_lt (bkq BK423.out)) : gb423 ≠ gb436)); have n9_ := Aside0.mk ((by rw [hg]; exact Nat.ne_of_gt (blk_lt (bkq BK423.out)) : gb436 ≠ gb423)); have n10_ := Aside0.mk ((by rw [hg]; exact Nat.ne_of_lt (blk_lt (bkq BK424.out)) : gb424 ≠ gb436)); have n11_ := Aside0.mk ((by rw [hg]; exact Nat.ne_of_gt (blk_lt (bkq BK424.out)) : gb436 ≠ gb424)); clear HO428; clear HO435; clear BK423; clear BK424; clear HB; have HO428 := n0_; have HO435 := n1_; have BK423 := n2_; have BK424 := n3_; have HB := n4_; have BK436 := n5_; have GW436 := n6_; have GE436 := n7_; have NB423_436 := n8_; have NB436_423 := n9_; have NB424_436 := n10_; have NB436_424 := n11_; clear n0_ n1_ n2_ n3_ n4_ n5_ n6_ n7_ n8_ n9_ n10_ n11_; clear hb hbox hg; obtain ⟨Ao27, co27, eo27⟩ := Kd.R_slice HO435.out; subst eo27; have hnb28 := NB436_423.out; have hnc28 := NB423_436.out; have hnb29 := NB436_424.out; have hnc29 := NB424_436.out; have hcz30_0 : w26.cell? ⟨gb436, 0, none⟩ = some (.slice none 0 0) := (blk_cell BK436.out 0).trans rfl; have hfz30_0 := blk_frozen BK436.out 0))
  have n0_ : Aside0 (Kd.R (Kd.int .i64) 3 (w26.setCell ⟨gb436, 0, none⟩ (.slice Ao27 t433.length co27)) w.heap.size (fun k_ => some k_ ≠ (.slice Ao27 t433.length co27 : Value).ownBlock) (.slice Ao21 t426.length co21) t426) := ⟨Kd.Rq (Kd.R_mono (Kd.R_far (p := ⟨gb436, 0, none⟩) (Kd.R_types HO428.out BK436.out (by decide)) (fun _ hk => hk.2) (.slice Ao27 t433.length co27)) (fun _ hk => hk.1.2))⟩
  have n1_ : Aside0 (Kd.R (Kd.int .i64) 3 (w26.setCell ⟨gb436, 0, none⟩ (.slice Ao27 t433.length co27)) w.heap.size (fun k_ => some k_ ≠ (.slice Ao21 t426.length co21 : Value).ownBlock) (.slice Ao27 t433.length co27) t433) := ⟨Kd.Rq (Kd.R_mono (Kd.R_far (p := ⟨gb436, 0, none⟩) (Kd.R_types HO435.out BK436.out (by decide)) (fun _ hk => hk.2) (.slice Ao27 t433.length co27)) (fun _ hk => hk.1.2))⟩
  have n2_ : Aside0 ((w26.setCell ⟨gb436, 0, none⟩ (.slice Ao27 t433.length co27)).heap[gb423]? = some (.cells #[.slice A0_0 l0_0.length c0_0] 49 (0, 0))) := ⟨by (with_reducible repeat (first | refine blk_drewN ?_ _ | refine blk_drew ?_ | refine blk_alloc ?_ _)); refine blk_far ?_ NB423_436.out _; (with_reducible repeat (first | refine blk_drewN ?_ _ | refine blk_drew ?_ | refine blk_alloc ?_ _)); exact BK423.out⟩
  have n3_ : Aside0 ((w26.setCell ⟨gb436, 0, none⟩ (.slice Ao27 t433.length co27)).heap[gb424]? = some (.cells #[.int .i64 a1_0, .int .i64 a1_1, .int .i64 a1_2] 51 (0, 0))) := ⟨by (with_reducible repeat (first | refine blk_drewN ?_ _ | refine blk_drew ?_ | refine blk_alloc ?_ _)); refine blk_far ?_ NB424_436.out _; (with_reducible repeat (first | refine blk_drewN ?_ _ | refine blk_drew ?_ | refine blk_alloc ?_ _)); exact BK424.out⟩
  have n4_ : Aside0 ((w26.setCell ⟨gb436, 0, none⟩ (.slice Ao27 t433.length co27)).heap[gb436]? = some (.cells #[.slice Ao27 t433.length co27] 54 (0, 0))) := ⟨by (with_reducible repeat (first | refine blk_drewN ?_ _ | refine blk_drew ?_ | refine blk_alloc ?_ _)); refine blk_put (cs := #[.slice none 0 0]) ?_ 0 _ rfl; (with_reducible repeat (first | refine blk_drewN ?_ _ | refine blk_drew ?_ | refine blk_alloc ?_ _)); exact BK436.out⟩
  have n5_ : Aside0 (Below w.heap.size w (w26.setCell ⟨gb436, 0, none⟩ (.slice Ao27 t433.length co27))) := ⟨blq HB.out⟩
  (try clear HO428)
  (try clear HO435)
  (try clear BK423)
  (try clear BK424)
  (try clear BK436)
  (try clear HB)
  generalize (w26.setCell ⟨gb436, 0, none⟩ (.slice Ao27 t433.length co27)) = w31 at n0_ n1_ n2_ n3_ n4_ n5_ ⊢
  have HO428 := n0_
  have HO435 := n1_
  have BK423 := n2_
  have BK424 := n3_
  have BK436 := n4_
  have HB := n5_
  clear n0_ n1_ n2_ n3_ n4_ n5_
  have n0_ := Aside0.mk (Kd.R_drew HO428.out)
  have n1_ := Aside0.mk (Kd.R_drew HO435.out)
  have n2_ := Aside0.mk (blk_drew BK423.out)
  have n3_ := Aside0.mk (blk_drew BK424.out)
  have n4_ := Aside0.mk (blk_drew BK436.out)
  have n5_ := Aside0.mk (below_drew1 HB.out)
  clear HO428
  clear HO435
  clear BK423
  clear BK424
  clear BK436
  clear HB
  have HO428 := n0_
  have HO435 := n1_
  have BK423 := n2_
  have BK424 := n3_
  have BK436 := n4_
  have HB := n5_
  clear n0_ n1_ n2_ n3_ n4_ n5_
  refine start_ (n := 5) (S := fun w' => w'.cell? ⟨gb436, 0, none⟩ = some (.slice Ao27 t433.length co27) ∧ w'.cell? ⟨gb424, 0, none⟩ = some (.int .i64 a1_0) ∧ w'.cell? ⟨gb424, 1, none⟩ = some (.int .i64 a1_1) ∧ w'.cell? ⟨gb424, 2, none⟩ = some (.int .i64 a1_2)) (ds := []) #[false, false, false, false, false] (by kernel_rfl) rfl rfl ⟨(blk_cell BK436.out 0).trans rfl, (blk_cell BK424.out 0).trans rfl, (blk_cell BK424.out 1).trans rfl, (blk_cell BK424.out 2).trans rfl⟩ (fun hHeld => ?_)
  generalize w31.drew = w32 at HO428 HO435 BK423 BK424 BK436 HB hHeld ⊢
  refine take_ (i := 0) (N := some 21) (v := ?_) (a' := ?_) #[true, false, false, false, false] rfl rfl (by kernel_rfl) (fun _ _ _ h => h) (Or.inl ⟨by rfl, ?_⟩) hHeld ?_ ?_
  rotate_left
  ·
   rintro w' ⟨s0, s1, s2, s3⟩
   go_simp
   with_reducible rfl
  rotate_left
  ·
   simp only [Act.put, List.setIfInBounds_toArray, List.set_cons_zero, List.set_cons_succ, i64_w, i32_w]
   rfl
  refine take_ (i := 1) (N := some 22) (v := ?_) (a' := ?_) #[true, true, false, false, false] rfl rfl (by kernel_rfl) (fun _ _ _ h => h) (Or.inl ⟨by rfl, ?_⟩) hHeld ?_ ?_
  rotate_left
  ·
   rintro w' ⟨s0, s1, s2, s3⟩
   go_simp
   with_reducible rfl
  rotate_left
  ·
   simp only [Act.put, List.setIfInBounds_toArray, List.set_cons_zero, List.set_cons_succ, i64_w, i32_w]
   rfl
  refine one_ (i := 2) (N := some 23) #[true, true, true, false, false] rfl rfl (by kernel_rfl) (by decide) (fun K hK => ?_)
  refine goes_ Try.func33 (by kernel_rfl) rfl #[.agg #[.int .i64 a1_0, .int .i64 a1_1, .int .i64 a1_2]] (by rfl) rfl rfl (by (try simp only [List.map_toArray, List.map_cons, List.map_nil]); first | done | rfl | (simp only [List.length_drop, List.length_take]; rfl)) ?_
  with_reducible refine (laws_toDough.calls a1_0 a1_1 a1_2 t437 t438 t439 _ A15.out).mono ?_
  rintro e w33 ⟨rfl, hb⟩
  refine ⟨_, rfl, ?_⟩
  have n0_ := Aside0.mk (Kd.R_below (Kd.Rq HO428.out) hb)
  have n1_ := Aside0.mk (Kd.R_below (Kd.Rq HO435.out) hb)
  have n2_ := Aside0.mk (blk_below (bkq BK423.out) hb)
  have n3_ := Aside0.mk (blk_below (bkq BK424.out) hb)
  have n4_ := Aside0.mk (blk_below (bkq BK436.out) hb)
  have n5_ := Aside0.mk (below_step (blq HB.out) hb)
  clear HO428
  clear HO435
  clear BK423
  clear BK424
  clear BK436
  clear HB
  have HO428 := n0_
  have HO435 := n1_
  have BK423 := n2_
  have BK424 := n3_
  have BK436 := n4_
  have HB := n5_
  clear n0_ n1_ n2_ n3_ n4_ n5_
  (try clear hb)
  (try clear hb2)
  (try clear hk)
  (try clear hi)
  refine hK.out _ _ ⟨(blk_cell BK436.out 0).trans rfl, (blk_cell BK424.out 0).trans rfl, (blk_cell BK424.out 1).trans rfl, (blk_cell BK424.out 2).trans rfl⟩ (fun hHeld => ?_)
  clear hK K
  refine norm_ (a' := ?_) ?_ ?_
  rotate_left
  ·
   show Act.put _ (some 23) _ = _
   simp only [Act.put, List.setIfInBounds_toArray, List.set_cons_zero, List.set_cons_succ, i64_w, i32_w]
   rfl
  refine one_ (i := 3) (N := some 24) #[true, true, true, true, false] rfl rfl (by kernel_rfl) (by decide) (fun K hK => ?_)
  refine goes_ Try.func34 (by kernel_rfl) rfl #[.agg #[.slice Ao27 t433.length co27], .agg #[.int .i64 t437, .int .i64 t438, .int .i64 t439]] (by rfl) rfl rfl (by (try simp only [List.map_toArray, List.map_cons, List.map_nil]); first | done | rfl | (simp only [List.length_drop, List.length_take]; rfl)) ?_
  with_reducible refine (impl_MostFlour.calls k _ _ t433 t437 t438 t439 t440 _ ?side1 ?side2 A16.out).mono ?_
  (case side1 => repeat (first | exact (Kd.R_reads' HO435.out).2.2 | (with_reducible refine Kd.C_alloc ?_ _) | (with_reducible refine Kd.C_drewN ?_ _) | (with_reducible refine Kd.C_drew ?_)))
  (case side2 => exact (Kd.R_reads' HO435.out).2.1)
  rintro e w34 ⟨rfl, hb⟩
  refine ⟨_, rfl, ?_⟩
  have n0_ := Aside0.mk (Kd.R_below (Kd.Rq HO428.out) hb)
  have n1_ := Aside0.mk (Kd.R_below (Kd.Rq HO435.out) hb)
  have n2_ := Aside0.mk (blk_below (bkq BK423.out) hb)
  have n3_ := Aside0.mk (blk_below (bkq BK424.out) hb)
  have n4_ := Aside0.mk (blk_below (bkq BK436.out) hb)
  have n5_ := Aside0.mk (below_step (blq HB.out) hb)
  clear HO428
  clear HO435
  clear BK423
  clear BK424
  clear BK436
  clear HB
  have HO428 := n0_
  have HO435 := n1_
  have BK423 := n2_
  have BK424 := n3_
  have BK436 := n4_
  have HB := n5_
  clear n0_ n1_ n2_ n3_ n4_ n5_
  (try clear hb)
  (try clear hb2)
  (try clear hk)
  (try clear hi)
  refine hK.out _ _ ⟨(blk_cell BK436.out 0).trans rfl, (blk_cell BK424.out 0).trans rfl, (blk_cell BK424.out 1).trans rfl, (blk_cell BK424.out 2).trans rfl⟩ (fun hHeld => ?_)
  clear hK K
  refine norm_ (a' := ?_) ?_ ?_
  rotate_left
  ·
   show Act.put _ (some 24) _ = _
   simp only [Act.put, List.setIfInBounds_toArray, List.set_cons_zero, List.set_cons_succ, i64_w, i32_w]
   rfl
  refine pure_ (i := 4) (N := some 8) (v := ?_) (a' := ?_) #[true, true, true, true, true] rfl rfl (by kernel_rfl) (fun _ _ _ h => h) (Or.inl ⟨by rfl, ?_⟩) ?_ ?_
  rotate_left
  ·
   intro w'
   go_simp
   with_reducible rfl
  rotate_left
  ·
   simp only [Act.put, List.setIfInBounds_toArray, List.set_cons_zero, List.set_cons_succ, i64_w, i32_w]
   rfl
  refine done_ (by kernel_rfl) ?_
  go_upto_if 27 with (fail)
  have H := HF17.out
  clear HF17
  by_cases c35 : t440 = t432
  ·
   rw [if_pos c35] at H
   have c35b0 : (t440 == t432) = true := beq_iff_eq.mpr c35
   have c35b1 : (t440 != t432) = false := bne_eq_false_iff_eq.mpr c35
   clear c35
   (first | rw [c35b0] | (simp only [i64_w, i32_w]; rw [c35b0]) | skip)
   replace H := Option.bind_eq_some_iff.mp H
   obtain ⟨t441, A360, H⟩ := H
   replace H : ((laws_eqStock.f k t433 t441).bind fun t444 => (if t444 = true then (some true) else (some false))) = some r := H
   have A36 := Aside0.mk A360
   clear A360
   replace H := Option.bind_eq_some_iff.mp H
   obtain ⟨t444, A370, H⟩ := H
   replace H : (if t444 = true then (some true) else (some false)) = some r := H
   have A37 := Aside0.mk A370
   clear A370
   have HF38 := Aside0.mk H
   clear H
   try go_wp2
   have n0_ := Aside0.mk (Kd.R_drew HO428.out)
   have n1_ := Aside0.mk (Kd.R_drew HO435.out)
   have n2_ := Aside0.mk (blk_drew BK423.out)
   have n3_ := Aside0.mk (blk_drew BK424.out)
   have n4_ := Aside0.mk (blk_drew BK436.out)
   have n5_ := Aside0.mk (below_drew1 HB.out)
   clear HO428
   clear HO435
   clear BK423
   clear BK424
   clear BK436
   clear HB
   have HO428 := n0_
   have HO435 := n1_
   have BK423 := n2_
   have BK424 := n3_
   have BK436 := n4_
   have HB := n5_
   clear n0_ n1_ n2_ n3_ n4_ n5_
   refine start_ (n := 5) (S := fun w' => w'.cell? ⟨gb436, 0, none⟩ = some (.slice Ao27 t433.length co27) ∧ w'.cell? ⟨gb423, 0, none⟩ = some (.slice A0_0 l0_0.length c0_0)) (ds := []) #[false, false, false, false, false] (by kernel_rfl) rfl rfl ⟨(blk_cell BK436.out 0).trans rfl, (blk_cell BK423.out 0).trans rfl⟩ (fun hHeld => ?_)
   generalize w34.drew = w39 at HO428 HO435 BK423 BK424 BK436 HB hHeld ⊢
   refine take_ (i := 0) (N := some 28) (v := ?_) (a' := ?_) #[true, false, false, false, false] rfl rfl (by kernel_rfl) (fun _ _ _ h => h) (Or.inl ⟨by rfl, ?_⟩) hHeld ?_ ?_
   rotate_left
   ·
    rintro w' ⟨s0, s1⟩
    go_simp
    with_reducible rfl
   rotate_left
   ·
    simp only [Act.put, List.setIfInBounds_toArray, List.set_cons_zero, List.set_cons_succ, i64_w, i32_w]
    rfl
   refine take_ (i := 1) (N := some 29) (v := ?_) (a' := ?_) #[true, true, false, false, false] rfl rfl (by kernel_rfl) (fun _ _ _ h => h) (Or.inl ⟨by rfl, ?_⟩) hHeld ?_ ?_
   rotate_left
   ·
    rintro w' ⟨s0, s1⟩
    go_simp
    with_reducible rfl
   rotate_left
   ·
    simp only [Act.put, List.setIfInBounds_toArray, List.set_cons_zero, List.set_cons_succ, i64_w, i32_w]
    rfl
   refine one_ (i := 2) (N := some 30) #[true, true, true, false, false] rfl rfl (by kernel_rfl) (by decide) (fun K hK => ?_)
   refine goes_ Try.func32 (by kernel_rfl) rfl #[.agg #[.slice A0_0 l0_0.length c0_0]] (by rfl) rfl rfl (by (try simp only [List.map_toArray, List.map_cons, List.map_nil]); first | done | rfl | (simp only [List.length_drop, List.length_take]; rfl)) ?_
   with_reducible refine (laws_toStock.calls k _ _ l0_0 t441 _ ?side1 ?side2 A36.out).mono ?_
   (case side1 => repeat (first | exact (Kd.C_below HR0_0.out HB.out) | (with_reducible refine Kd.C_alloc ?_ _) | (with_reducible refine Kd.C_drewN ?_ _) | (with_reducible refine Kd.C_drew ?_)))
   (case side2 => exact HC0_0.out)
   rintro e w40 ⟨v442, rfl, ho0, hb⟩
   refine ⟨_, rfl, ?_⟩
   have n0_ := Aside0.mk (Kd.R_elder' (Kd.Rq HO428.out) (Kd.R_base ho0) hb)
   have n1_ := Aside0.mk (Kd.R_elder' (Kd.Rq HO435.out) (Kd.R_base ho0) hb)
   have n2_ := Aside0.mk (Kd.R_lower (Kd.R_new' (Kd.R_new' ho0 (Kd.R_lt (Kd.Rq HO428.out))) (Kd.R_lt (Kd.Rq HO435.out))) (below_size (blq HB.out)))
   have n3_ := Aside0.mk (blk_below (bkq BK423.out) hb)
   have n4_ := Aside0.mk (blk_below (bkq BK424.out) hb)
   have n5_ := Aside0.mk (blk_below (bkq BK436.out) hb)
   have n6_ := Aside0.mk (below_step (blq HB.out) hb)
   clear HO428
   clear HO435
   clear BK423
   clear BK424
   clear BK436
   clear HB
   have HO428 := n0_
   have HO435 := n1_
   have HO443 := n2_
   have BK423 := n3_
   have BK424 := n4_
   have BK436 := n5_
   have HB := n6_
   clear n0_ n1_ n2_ n3_ n4_ n5_ n6_
   (try clear hb)
   (try clear hb2)
   (try clear hk)
   (try clear hi)
   (try clear ho0)
   obtain ⟨Ao41, co41, eo41⟩ := Kd.R_slice HO443.out
   (first | subst eo41 | (injection eo41 with f1_ f2_ f3_; have f4_ := f1_.symm; have f5_ := f3_.symm; clear f1_ f2_ f3_; subst f4_; subst f5_))
   refine hK.out _ _ ⟨(blk_cell BK436.out 0).trans rfl, (blk_cell BK423.out 0).trans rfl⟩ (fun hHeld => ?_)
   clear hK K
   refine norm_ (a' := ?_) ?_ ?_
   rotate_left
   ·
    show Act.put _ (some 30) _ = _
    simp only [Act.put, List.setIfInBounds_toArray, List.set_cons_zero, List.set_cons_succ, i64_w, i32_w]
    rfl
   refine one_ (i := 3) (N := some 31) #[true, true, true, true, false] rfl rfl (by kernel_rfl) (by decide) (fun K hK => ?_)
   refine goes_ Try.func35 (by kernel_rfl) rfl #[.agg #[.slice Ao27 t433.length co27], .agg #[.slice Ao41 t441.length co41]] (by rfl) rfl rfl (by (try simp only [List.map_toArray, List.map_cons, List.map_nil]); first | done | rfl | (simp only [List.length_drop, List.length_take]; rfl)) ?_
   with_reducible refine (laws_eqStock.calls k _ _ t433 _ _ t441 t444 _ ?side1 ?side2 ?side3 ?side4 A37.out).mono ?_
   (case side1 => repeat (first | exact (Kd.R_reads' HO435.out).2.2 | (with_reducible refine Kd.C_alloc ?_ _) | (with_reducible refine Kd.C_drewN ?_ _) | (with_reducible refine Kd.C_drew ?_)))
   (case side2 => exact (Kd.R_reads' HO435.out).2.1)
   (case side3 => repeat (first | exact (Kd.R_reads' HO443.out).2.2 | (with_reducible refine Kd.C_alloc ?_ _) | (with_reducible refine Kd.C_drewN ?_ _) | (with_reducible refine Kd.C_drew ?_)))
   (case side4 => exact (Kd.R_reads' HO443.out).2.1)
   rintro e w42 ⟨rfl, hb⟩
   refine ⟨_, rfl, ?_⟩
   have n0_ := Aside0.mk (Kd.R_below (Kd.Rq HO428.out) hb)
   have n1_ := Aside0.mk (Kd.R_below (Kd.Rq HO435.out) hb)
   have n2_ := Aside0.mk (Kd.R_below (Kd.Rq HO443.out) hb)
   have n3_ := Aside0.mk (blk_below (bkq BK423.out) hb)
   have n4_ := Aside0.mk (blk_below (bkq BK424.out) hb)
   have n5_ := Aside0.mk (blk_below (bkq BK436.out) hb)
   have n6_ := Aside0.mk (below_step (blq HB.out) hb)
   clear HO428
   clear HO435
   clear HO443
   clear BK423
   clear BK424
   clear BK436
   clear HB
   have HO428 := n0_
   have HO435 := n1_
   have HO443 := n2_
   have BK423 := n3_
   have BK424 := n4_
   have BK436 := n5_
   have HB := n6_
   clear n0_ n1_ n2_ n3_ n4_ n5_ n6_
   (try clear hb)
   (try clear hb2)
   (try clear hk)
   (try clear hi)
   refine hK.out _ _ ⟨(blk_cell BK436.out 0).trans rfl, (blk_cell BK423.out 0).trans rfl⟩ (fun hHeld => ?_)
   clear hK K
   refine norm_ (a' := ?_) ?_ ?_
   rotate_left
   ·
    show Act.put _ (some 31) _ = _
    simp only [Act.put, List.setIfInBounds_toArray, List.set_cons_zero, List.set_cons_succ, i64_w, i32_w]
    rfl
   refine pure_ (i := 4) (N := some 32) (v := ?_) (a' := ?_) #[true, true, true, true, true] rfl rfl (by kernel_rfl) (fun _ _ _ h => h) (Or.inl ⟨by rfl, ?_⟩) ?_ ?_
   rotate_left
   ·
    intro w'
    go_simp
    with_reducible rfl
   rotate_left
   ·
    simp only [Act.put, List.setIfInBounds_toArray, List.set_cons_zero, List.set_cons_succ, i64_w, i32_w]
    rfl
   refine done_ (by kernel_rfl) ?_
   go_upto_if 32 with (fail)
   have H := HF38.out
   clear HF38
   by_cases c43 : t444 = true
   ·
    subst c43
    have H1 : (some true) = some r := by rw [if_pos rfl] at H; exact H
    clear H
    have H := H1
    clear H1
    obtain rfl := Option.some.inj H
    go_wp2
    go_ret
    exact ⟨by first | rfl | (simp [errW_none, errW_some] <;> rfl) | (simp [*, errW_none, errW_some] <;> rfl), blq HB.out⟩
   ·
    replace c43 := Bool.eq_false_iff.mpr c43
    subst c43
    have H1 : (some false) = some r := by rw [if_neg (show ¬ (false = true) by decide)] at H; exact H
    clear H
    have H := H1
    clear H1
    obtain rfl := Option.some.inj H
    go_wp2
    go_ret
    exact ⟨by first | rfl | (simp [errW_none, errW_some] <;> rfl) | (simp [*, errW_none, errW_some] <;> rfl), blq HB.out⟩
  ·
   rw [if_neg c35] at H
   have c35b0 : (t440 == t432) = false := beq_eq_false_iff_ne.mpr c35
   have c35b1 : (t440 != t432) = true := bne_iff_ne.mpr c35
   (first | rw [c35b0] | (simp only [i64_w, i32_w]; rw [c35b0]) | skip)
   obtain rfl := Option.some.inj H
   go_wp2
   go_ret
   exact ⟨by first | rfl | (simp [errW_none, errW_some] <;> rfl) | (simp [*, errW_none, errW_some] <;> rfl), blq HB.out⟩

/-- What is left to prove of laws_FnExactMostFlour: over numbers and lists alone. -/
def laws_FnExactMostFlour.Pure : Prop := ∀ (l0_0 : List Int) (a1_0 : Int) (a1_1 : Int) (a1_2 : Int), ok_T49 (⟨l0_0⟩ : S49) → ok_T51 (⟨a1_0, a1_1, a1_2⟩ : S51) → ∃ k, laws_FnExactMostFlour.f k l0_0 a1_0 a1_1 a1_2 = some true

end Go.Proofs.Ytnlioefgpgamdaa.Q
