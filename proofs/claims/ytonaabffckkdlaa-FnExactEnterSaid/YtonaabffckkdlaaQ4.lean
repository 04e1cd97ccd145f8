-- Written for this claim by wip/xprint.py of this repository (by way of the kit's print); Lean checks every line.
import Derived.Test.YtonaabffckkdlaaQ0
import Derived.Test.YtonaabffckkdlaaQ3
namespace Go.Proofs.Ytonaabffckkdlaa.Q
open Go.RowKit Go.Proofs.YtonaabffckkdlaaW.PrintWords Go.Proofs.YtonaabffckkdlaaW.PrintLast Go.Proofs.YtonaabffckkdlaaW.PrintMore
attribute [local go_sem] max2_int min2_int max_two min_two max_three min_three max_four min_four   -- for this text's walks alone
set_option linter.unusedVariables false
set_option linter.unusedSimpArgs false

/-! ### spec_EventOn: function 95 -/
def spec_EventOn.j0 : Nat → Bool → Int → Int → Int → Int → Int → Option (Int × Int × Int × Int × Int × Int × Bool)
 | 0, _, _, _, _, _, _ => none
 | k + 1, x24, x120000, x120001, x120002, x121000, x121001 => if x24 = true then (some (x120000, x120001, x120002, 0, 0, 0, false)) else (if x121000 = 1 then ((spec_RackOk.f (wrap64 (x120000 + x121001)) x120001 x120002).bind fun t125 => (if t125 = true then (some (wrap64 (x120000 + x121001), x120001, x120002, x121001, 0, 0, true)) else (some (x120000, x120001, x120002, 0, 0, 0, false)))) else (if x121000 = 2 then ((spec_SellFresh.f x120000 x120001 x120002 x121001).bind fun bt126 => (if bt126.2.2.2 = x121001 then (some (bt126.1, bt126.2.1, bt126.2.2.1, 0, bt126.2.2.2, 0, true)) else (some (x120000, x120001, x120002, 0, 0, 0, false)))) else (if x121000 = 3 then ((spec_SellCheap.f x120000 x120001 x120002 x121001).bind fun bt131 => (if bt131.2.2.2 = x121001 then (some (bt131.1, bt131.2.1, bt131.2.2.1, 0, bt131.2.2.2, 0, true)) else (some (x120000, x120001, x120002, 0, 0, 0, false)))) else (if x121000 = 4 then ((spec_NextMorning.f x120000 x120001 x120002 0).bind fun bt136 => (if x121001 = 0 then (some (bt136.1, bt136.2.1, bt136.2.2.1, 0, 0, bt136.2.2.2, true)) else (some (x120000, x120001, x120002, 0, 0, 0, false)))) else (some (x120000, x120001, x120002, 0, 0, 0, false))))))
def spec_EventOn.f (k : Nat) (a0_0 : Int) (a0_1 : Int) (a0_2 : Int) (a1_0 : Int) (a1_1 : Int) : Option (Int × Int × Int × Int × Int × Int × Bool) := (spec_RackOk.f a0_0 a0_1 a0_2).bind fun t122 => (if t122 = true then ((spec_l01In.f a1_1 0 1000).bind fun t123 => (spec_EventOn.j0 k (!t123) a0_0 a0_1 a0_2 a1_0 a1_1)) else (spec_EventOn.j0 k true a0_0 a0_1 a0_2 a1_0 a1_1))
theorem spec_EventOn.mono_l : ∀ k, (∀ y0 y1 y2 y3 y4 y5, LeO (spec_EventOn.j0 k y0 y1 y2 y3 y4 y5) (spec_EventOn.j0 (k + 1) y0 y1 y2 y3 y4 y5))
 | 0 => fun _ _ _ _ _ _ r h => by simp [spec_EventOn.j0] at h
 | k + 1 => by
  have ih0 := spec_EventOn.mono_l k
  ·
   intro y0 y1 y2 y3 y4 y5
   unfold spec_EventOn.j0
   repeat' first
   | (with_reducible exact ih0 _ _ _ _ _ _)
   | (with_reducible exact LeO.refl _)
   | (with_reducible exact LeO.none _)
   | (with_reducible refine LeO.ite ?_ ?_)
   | (with_reducible refine LeO.bind ?_ (fun _ => ?_))
   | exact ih0 _ _ _ _ _ _
   | exact LeO.none _
   | refine LeO.ite ?_ ?_
   | refine LeO.bind ?_ (fun _ => ?_)
theorem spec_EventOn.mono : ∀ a0 a1 a2 a3 a4 k, LeO (spec_EventOn.f k a0 a1 a2 a3 a4) (spec_EventOn.f (k + 1) a0 a1 a2 a3 a4) := by
 intro a0 a1 a2 a3 a4 k
 have ih0 := spec_EventOn.mono_l k
 unfold spec_EventOn.f
 repeat' first
   | (with_reducible exact ih0 _ _ _ _ _ _)
   | (with_reducible exact LeO.refl _)
   | (with_reducible exact LeO.none _)
   | (with_reducible refine LeO.ite ?_ ?_)
   | (with_reducible refine LeO.bind ?_ (fun _ => ?_))
   | exact ih0 _ _ _ _ _ _
   | exact LeO.none _
   | refine LeO.ite ?_ ?_
   | refine LeO.bind ?_ (fun _ => ?_)
def spec_EventOn.T7 : Bool × List (List Nat × List Nat) := (true, [([], []), ([], []), ([1], [1]), ([0, 0], [0]), ([2, 3, 0, 1, 2, 3], [2]), ([4, 0, 1, 2, 3, 4], []), ([5, 0, 1, 2, 3, 4, 5], []), ([6, 0, 1, 2, 3, 4, 5, 6], [])])
def spec_EventOn.B7 : List Nat := [0, 0, 2, 1, 15, 31, 63, 127]
theorem spec_EventOn.tab7 : rtab .any (opsOf Try.f95 7) = spec_EventOn.T7 := by kernel_rfl
theorem spec_EventOn.bits7 : waitsOk spec_EventOn.T7.2 spec_EventOn.B7 = true := by kernel_rfl
set_option maxHeartbeats 8000000 in
set_option maxRecDepth 100000 in
theorem spec_EventOn.calls (k : Nat) (a0_0 : Int) (a0_1 : Int) (a0_2 : Int) (a1_0 : Int) (a1_1 : Int) (r1 : Int) (r2 : Int) (r3 : Int) (r4 : Int) (r5 : Int) (r6 : Int) (r7 : Bool) (w : World) (h : spec_EventOn.f k a0_0 a0_1 a0_2 a1_0 a1_1 = some (r1, r2, r3, r4, r5, r6, r7)) :
  Calls Try.prog 95 #[.agg #[.int .i64 a0_0, .int .i64 a0_1, .int .i64 a0_2], .agg #[.int .i64 a1_0, .int .i64 a1_1]] w fun e w' => e = .returned (.tuple #[.agg #[.int .i64 r1, .int .i64 r2, .int .i64 r3], .int .i64 r4, .int .i64 r5, .int .i64 r6, .bool r7]) ∧ Below w.heap.size w w' := by
 have hu29 := Try.underlying29
 have hu41 := Try.underlying41
 have HB := Aside0.mk (Below.refl w.heap.size w)
 have H : ((spec_RackOk.f a0_0 a0_1 a0_2).bind fun t122 => (if t122 = true then ((spec_l01In.f a1_1 0 1000).bind fun t123 => (spec_EventOn.j0 k (!t123) a0_0 a0_1 a0_2 a1_0 a1_1)) else (spec_EventOn.j0 k true a0_0 a0_1 a0_2 a1_0 a1_1))) = some (r1, r2, r3, r4, r5, r6, r7) := h
 clear h
 have HC3 := Aside0.mk H
 clear H
 go_enter Try.func95, Try.ntmps95
 go_upto_region 1 with (first | ((with_reducible refine gate_dst (N := 2) rfl ?_); refine box_event ?hg (N := 2) ?hd (cs := #[.int .i64 a0_0, .int .i64 a0_1, .int .i64 a0_2]) (t := 29) ?hr ?_; (case hd => rfl); (case hg => rfl); (case hr => first | (go_simp; done) | (go_simp; rfl)); intro gb119 hg w4 hbox hb; have BK119 := Aside0.mk (hbox); have GW119 := sQ hg HB; have GE119 := sQ hg HB; replace HB := hbs HB hb; clear hb hbox hg) | ((with_reducible refine gate_dst (N := 3) rfl ?_); refine box_event ?hg (N := 3) ?hd (cs := #[.int .i64 a1_0, .int .i64 a1_1]) (t := 41) ?hr ?_; (case hd => rfl); (case hg => rfl); (case hr => first | (go_simp; done) | (go_simp; rfl)); intro gb120 hg w5 hbox hb; have BK120 := Aside0.mk (hbox); have GW120 := sQ hg HB; have GE120 := sQ hg HB; have NB119_120 := qL hg BK119; have NB120_119 := qG hg BK119; replace BK119 := bkb BK119 hb; replace HB := hbs HB hb; clear hb hbox hg) | ((with_reducible refine gate_dst (N := 4) rfl ?_); refine box_event ?hg (N := 4) ?hd (cs := #[.int .i64 0, .int .i64 0, .int .i64 0]) (t := 29) ?hr ?_; (case hd => rfl); (case hg => rfl); (case hr => first | (go_simp; done) | (go_simp; rfl)); intro gb121 hg w6 hbox hb; have BK121 := Aside0.mk (hbox); have GW121 := sQ hg HB; have GE121 := sQ hg HB; have NB119_121 := qL hg BK119; have NB121_119 := qG hg BK119; have NB120_121 := qL hg BK120; have NB121_120 := qG hg BK120; replace BK119 := bkb BK119 hb; replace BK120 := bkb BK120 hb; replace HB := hbs HB hb; clear hb hbox hg))
 (try simp only [Act.put, List.setIfInBounds_toArray, List.set_cons_zero, List.set_cons_succ])
 go_cut [24] (fun v24 wc => ∃ (kq : Nat) (x24_2 : Bool), v24 = .bool x24_2 ∧ Aside0 (spec_EventOn.j0 kq x24_2 a0_0 a0_1 a0_2 a1_0 a1_1 = some (r1, r2, r3, r4, r5, r6, r7)) ∧ Aside0 (kq ≤ k) ∧ Aside0 (wc.heap[gb119]? = some (.cells #[.int .i64 a0_0, .int .i64 a0_1, .int .i64 a0_2] 29 (0, 0))) ∧ Aside0 (wc.heap[gb120]? = some (.cells #[.int .i64 a1_0, .int .i64 a1_1] 41 (0, 0))) ∧ Aside0 (wc.heap[gb121]? = some (.cells #[.int .i64 0, .int .i64 0, .int .i64 0] 29 (0, 0))) ∧ Aside0 (Below w.heap.size w wc))
 case first =>
  have H := HC3.out
  clear HC3
  replace H := Option.bind_eq_some_iff.mp H
  obtain ⟨t122, A70, H⟩ := H
  replace H : (if t122 = true then ((spec_l01In.f a1_1 0 1000).bind fun t123 => (spec_EventOn.j0 k (!t123) a0_0 a0_1 a0_2 a1_0 a1_1)) else (spec_EventOn.j0 k true a0_0 a0_1 a0_2 a1_0 a1_1)) = some (r1, r2, r3, r4, r5, r6, r7) := H
  have A7 := Aside0.mk A70
  clear A70
  by_cases c8 : t122 = true
  ·
   subst c8
   have H1 : ((spec_l01In.f a1_1 0 1000).bind fun t123 => (spec_EventOn.j0 k (!t123) a0_0 a0_1 a0_2 a1_0 a1_1)) = some (r1, r2, r3, r4, r5, r6, r7) := by rw [if_pos rfl] at H; exact H
   clear H
   have H := H1
   clear H1
   replace H := Option.bind_eq_some_iff.mp H
   obtain ⟨t123, A90, H⟩ := H
   replace H : (spec_EventOn.j0 k (!t123) a0_0 a0_1 a0_2 a1_0 a1_1) = some (r1, r2, r3, r4, r5, r6, r7) := H
   have A9 := Aside0.mk A90
   clear A90
   have H' := Aside0.mk H
   clear H
   obtain ⟨_, _, _, _⟩ := ne4 NB119_120 NB120_119 NB119_121 NB121_119
   obtain ⟨hcz12_0, hcz12_1, hcz12_2, hfz12_0, hfz12_1, hfz12_2⟩ := bq3 BK119.out
   go_wp2_with (first | ((with_reducible refine gate_callee (f := 111) rfl ?_); refine gLq (some 17) Try.func111 #[.agg #[.int .i64 a0_0, .int .i64 a0_1, .int .i64 a0_2]] ?_; (with_reducible refine (spec_RackOk.calls a0_0 a0_1 a0_2 true _ A7.out).mono ?_); rintro e w13 ⟨rfl, hb⟩; refine ⟨_, rfl, ?_⟩; replace BK119 := bkb BK119 hb; replace BK120 := bkb BK120 hb; replace BK121 := bkb BK121 hb; replace HB := hbs HB hb; (try clear hb); (try clear hb2); (try clear hk); (try clear hi); obtain ⟨_, _⟩ := ne2 NB120_121 NB121_120; obtain ⟨hcz15_0, hcz15_1, hfz15_0, hfz15_1⟩ := bq2 BK120.out) | (go_at_call 66; (with_reducible refine (spec_l01In.calls a1_1 0 1000 t123 _ A9.out).mono ?_); rintro e w' ⟨rfl, ⟨nd, rfl⟩⟩))
   go_meet
   case rel => exact ⟨_, (!t123), (by first | rfl | (simp; done) | (simp [*]; done)), H', ⟨by first | omega | exact Nat.le_refl _⟩, ⟨bkq BK119.out⟩, ⟨bkq BK120.out⟩, ⟨bkq BK121.out⟩, ⟨blq HB.out⟩⟩
  ·
   replace c8 := Bool.eq_false_iff.mpr c8
   subst c8
   have H1 : (spec_EventOn.j0 k true a0_0 a0_1 a0_2 a1_0 a1_1) = some (r1, r2, r3, r4, r5, r6, r7) := by rw [if_neg (show ¬ (false = true) by decide)] at H; exact H
   clear H
   have H := H1
   clear H1
   have H' := Aside0.mk H
   clear H
   obtain ⟨_, _, _, _⟩ := ne4 NB119_120 NB120_119 NB119_121 NB121_119
   obtain ⟨hcz18_0, hcz18_1, hcz18_2, hfz18_0, hfz18_1, hfz18_2⟩ := bq3 BK119.out
   go_wp2_with (first | ((with_reducible refine gate_callee (f := 111) rfl ?_); refine gLq (some 17) Try.func111 #[.agg #[.int .i64 a0_0, .int .i64 a0_1, .int .i64 a0_2]] ?_; (with_reducible refine (spec_RackOk.calls a0_0 a0_1 a0_2 false _ A7.out).mono ?_); rintro e w19 ⟨rfl, hb⟩; refine ⟨_, rfl, ?_⟩; replace BK119 := bkb BK119 hb; replace BK120 := bkb BK120 hb; replace BK121 := bkb BK121 hb; replace HB := hbs HB hb; (try clear hb); (try clear hb2); (try clear hk); (try clear hi)))
   go_meet
   case rel => exact ⟨_, (true), (by first | rfl | (simp; done) | (simp [*]; done)), H', ⟨by first | omega | exact Nat.le_refl _⟩, ⟨bkq BK119.out⟩, ⟨bkq BK120.out⟩, ⟨bkq BK121.out⟩, ⟨blq HB.out⟩⟩
 case rest =>
  clear HC3
  try clear c1
  try clear p2
  try clear c8
  try clear c9
  try clear c10
  try clear c11
  try clear c14
  try clear c16
  try clear c17
  try clear hcz12_0 hcz12_1 hcz12_2 hfz12_0 hfz12_1 hfz12_2
  try clear hcz15_0 hcz15_1 hfz15_0 hfz15_1
  try clear hcz18_0 hcz18_1 hcz18_2 hfz18_0 hfz18_1 hfz18_2
  obtain ⟨kq, x24_2, rfl, HA, HJ2, BK119, BK120, BK121, HB⟩ := hcut
  cases kq with
  | zero => exact absurd HA.out (by simp [spec_EventOn.j0])
  | succ kj2 =>
   have H := HA.out
   clear HA
   simp only [spec_EventOn.j0] at H
   by_cases c20 : x24_2 = true
   ·
    subst c20
    have H1 : (some (a0_0, a0_1, a0_2, 0, 0, 0, false)) = some (r1, r2, r3, r4, r5, r6, r7) := by rw [if_pos rfl] at H; exact H
    clear H
    have H := H1
    clear H1
    simp only [Option.some.injEq, Prod.mk.injEq] at H
    obtain ⟨rfl, rfl, rfl, rfl, rfl, rfl, rfl⟩ := H
    obtain ⟨_, _, _, _⟩ := ne4 NB119_120 NB120_119 NB119_121 NB121_119
    obtain ⟨hcz23_0, hcz23_1, hcz23_2, hfz23_0, hfz23_1, hfz23_2⟩ := bq3 BK119.out
    obtain ⟨_, _⟩ := ne2 NB121_120 NB120_121
    obtain ⟨hcz25_0, hcz25_1, hcz25_2, hfz25_0, hfz25_1, hfz25_2⟩ := bq3 BK121.out
    go_wp2
    refine bodyPost_ret (results_list (rs := [.cell 4 29, .tmp 5, .tmp 6, .tmp 7, .tmp 8]) rfl (by simp) (.cell gb121 29 #[.int .i64 a0_0, .int .i64 a0_1, .int .i64 a0_2] (0, 0) _ rfl (by (with_reducible repeat (first | refine blk_drewN ?_ _ | refine blk_drew ?_ | refine blk_alloc ?_ _)); refine blk_put (cs := #[.int .i64 a0_0, .int .i64 a0_1, .int .i64 0]) ?_ 2 _ rfl; (with_reducible repeat (first | refine blk_drewN ?_ _ | refine blk_drew ?_ | refine blk_alloc ?_ _)); refine blk_put (cs := #[.int .i64 a0_0, .int .i64 0, .int .i64 0]) ?_ 1 _ rfl; (with_reducible repeat (first | refine blk_drewN ?_ _ | refine blk_drew ?_ | refine blk_alloc ?_ _)); refine blk_put (cs := #[.int .i64 0, .int .i64 0, .int .i64 0]) ?_ 0 _ rfl; (with_reducible repeat (first | refine blk_drewN ?_ _ | refine blk_drew ?_ | refine blk_alloc ?_ _)); exact BK121.out) Try.underlying29 rfl (by kernel_rfl) (.tmp (.tmp (.tmp (.tmp .nil)))))) rfl ?_
    exact ⟨by first | rfl | (simp [errW_none, errW_some] <;> rfl) | (simp [*, errW_none, errW_some] <;> rfl), blq HB.out⟩
   ·
    replace c20 := Bool.eq_false_iff.mpr c20
    subst c20
    have H1 : (if a1_0 = 1 then ((spec_RackOk.f (wrap64 (a0_0 + a1_1)) a0_1 a0_2).bind fun t125 => (if t125 = true then (some (wrap64 (a0_0 + a1_1), a0_1, a0_2, a1_1, 0, 0, true)) else (some (a0_0, a0_1, a0_2, 0, 0, 0, false)))) else (if a1_0 = 2 then ((spec_SellFresh.f a0_0 a0_1 a0_2 a1_1).bind fun bt126 => (if bt126.2.2.2 = a1_1 then (some (bt126.1, bt126.2.1, bt126.2.2.1, 0, bt126.2.2.2, 0, true)) else (some (a0_0, a0_1, a0_2, 0, 0, 0, false)))) else (if a1_0 = 3 then ((spec_SellCheap.f a0_0 a0_1 a0_2 a1_1).bind fun bt131 => (if bt131.2.2.2 = a1_1 then (some (bt131.1, bt131.2.1, bt131.2.2.1, 0, bt131.2.2.2, 0, true)) else (some (a0_0, a0_1, a0_2, 0, 0, 0, false)))) else (if a1_0 = 4 then ((spec_NextMorning.f a0_0 a0_1 a0_2 0).bind fun bt136 => (if a1_1 = 0 then (some (bt136.1, bt136.2.1, bt136.2.2.1, 0, 0, bt136.2.2.2, true)) else (some (a0_0, a0_1, a0_2, 0, 0, 0, false)))) else (some (a0_0, a0_1, a0_2, 0, 0, 0, false)))))) = some (r1, r2, r3, r4, r5, r6, r7) := by rw [if_neg (show ¬ (false = true) by decide)] at H; exact H
    clear H
    have H := H1
    clear H1
    by_cases c26 : a1_0 = 1
    ·
     rw [if_pos c26] at H
     have c26b0 : (a1_0 == 1) = true := beq_iff_eq.mpr c26
     have c26b1 : (a1_0 != 1) = false := bne_eq_false_iff_eq.mpr c26
     clear c26
     replace H := Option.bind_eq_some_iff.mp H
     obtain ⟨t125, A270, H⟩ := H
     replace H : (if t125 = true then (some (wrap64 (a0_0 + a1_1), a0_1, a0_2, a1_1, 0, 0, true)) else (some (a0_0, a0_1, a0_2, 0, 0, 0, false))) = some (r1, r2, r3, r4, r5, r6, r7) := H
     have A27 := Aside0.mk A270
     clear A270
     have HF28 := Aside0.mk H
     clear H
     obtain ⟨_, _, _, _⟩ := ne4 NB120_119 NB119_120 NB120_121 NB121_120
     obtain ⟨hcz31_0, hcz31_1, hfz31_0, hfz31_1⟩ := bq2 BK120.out
     obtain ⟨_, _⟩ := ne2 NB119_121 NB121_119
     obtain ⟨hcz33_0, hcz33_1, hcz33_2, hfz33_0, hfz33_1, hfz33_2⟩ := bq3 BK119.out
     go_upto_if 41 with (first | ((with_reducible refine gate_dst (N := 9) rfl ?_); refine box_event ?hg (N := 9) ?hd (cs := #[.int .i64 0, .int .i64 0, .int .i64 0]) (t := 29) ?hr ?_; (case hd => rfl); (case hg => rfl); (case hr => first | (go_simp; done) | (go_simp; rfl)); intro gb124 hg w34 hbox hb; have BK124 := Aside0.mk (hbox); have GW124 := sQ hg HB; have GE124 := sQ hg HB; have NB119_124 := qL hg BK119; have NB124_119 := qG hg BK119; have NB120_124 := qL hg BK120; have NB124_120 := qG hg BK120; have NB121_124 := qL hg BK121; have NB124_121 := qG hg BK121; replace BK119 := bkb BK119 hb; replace BK120 := bkb BK120 hb; replace BK121 := bkb BK121 hb; replace HB := hbs HB hb; clear hb hbox hg; obtain ⟨_, _, _, _, _, _⟩ := ne6 NB124_119 NB119_124 NB124_120 NB120_124 NB124_121 NB121_124; obtain ⟨hcz38_0, hcz38_1, hcz38_2, hfz38_0, hfz38_1, hfz38_2⟩ := bq3 BK124.out) | ((with_reducible refine gate_callee (f := 111) rfl ?_); refine gLq (some 41) Try.func111 #[.agg #[.int .i64 (wrap64 (a0_0 + a1_1)), .int .i64 a0_1, .int .i64 a0_2]] ?_; (with_reducible refine (spec_RackOk.calls (wrap64 (a0_0 + a1_1)) a0_1 a0_2 t125 _ A27.out).mono ?_); rintro e w39 ⟨rfl, hb⟩; refine ⟨_, rfl, ?_⟩; replace BK119 := Aside0.mk (blk_below (g := gb119) (o := .cells #[.int .i64 a0_0, .int .i64 a0_1, .int .i64 a0_2] 29 (0, 0)) (qk BK119.out) hb); replace BK120 := Aside0.mk (blk_below (g := gb120) (o := .cells #[.int .i64 a1_0, .int .i64 a1_1] 41 (0, 0)) (qk BK120.out) hb); replace BK121 := Aside0.mk (blk_below (g := gb121) (o := .cells #[.int .i64 0, .int .i64 0, .int .i64 0] 29 (0, 0)) (qk BK121.out) hb); replace BK124 := Aside0.mk (blk_below (g := gb124) (o := .cells #[.int .i64 (wrap64 (a0_0 + a1_1)), .int .i64 a0_1, .int .i64 a0_2] 29 (0, 0)) (by (with_reducible repeat (first | refine blk_drewN ?_ _ | refine blk_drew ?_ | refine blk_alloc ?_ _)); refine blk_put (cs := #[.int .i64 (wrap64 (a0_0 + a1_1)), .int .i64 a0_1, .int .i64 0]) ?_ 2 _ rfl; (with_reducible repeat (first | refine blk_drewN ?_ _ | refine blk_drew ?_ | refine blk_alloc ?_ _)); refine blk_put (cs := #[.int .i64 (wrap64 (a0_0 + a1_1)), .int .i64 0, .int .i64 0]) ?_ 1 _ rfl; (with_reducible repeat (first | refine blk_drewN ?_ _ | refine blk_drew ?_ | refine blk_alloc ?_ _)); refine blk_put (cs := #[.int .i64 0, .int .i64 0, .int .i64 0]) ?_ 0 _ rfl; (with_reducible repeat (first | refine blk_drewN ?_ _ | refine blk_drew ?_ | refine blk_alloc ?_ _)); exact BK124.out) hb); replace HB := hbs HB hb; (try clear hb); (try clear hb2); (try clear hk); (try clear hi)))
     have H := HF28.out
     clear HF28
     by_cases c40 : t125 = true
     ·
      subst c40
      have H1 : (some (wrap64 (a0_0 + a1_1), a0_1, a0_2, a1_1, 0, 0, true)) = some (r1, r2, r3, r4, r5, r6, r7) := by rw [if_pos rfl] at H; exact H
      clear H
      have H := H1
      clear H1
      simp only [Option.some.injEq, Prod.mk.injEq] at H
      obtain ⟨rfl, rfl, rfl, rfl, rfl, rfl, rfl⟩ := H
      try go_wp2
      replace BK119 := Aside0.mk (blk_drew BK119.out)
      replace BK120 := Aside0.mk (blk_drew BK120.out)
      replace BK121 := Aside0.mk (blk_drew BK121.out)
      replace BK124 := Aside0.mk (blk_drew BK124.out)
      replace HB := Aside0.mk (below_drew1 HB.out)
      refine start_ (n := 8) (S := fun w' => w'.cell? ⟨gb124, 0, none⟩ = some (.int .i64 (wrap64 (a0_0 + a1_1))) ∧ w'.cell? ⟨gb124, 1, none⟩ = some (.int .i64 a0_1) ∧ w'.cell? ⟨gb124, 2, none⟩ = some (.int .i64 a0_2) ∧ w'.cell? ⟨gb120, 0, none⟩ = some (.int .i64 a1_0) ∧ w'.cell? ⟨gb120, 1, none⟩ = some (.int .i64 a1_1)) (ds := []) #[false, false, false, false, false, false, false, false] (by kernel_rfl) rfl rfl ⟨bc BK124 0, bc BK124 1, bc BK124 2, bc BK120 0, bc BK120 1⟩ (fun hHeld => ?_); refine with_tabW spec_EventOn.tab7 spec_EventOn.bits7 (fun HT_ HW_ => ?_)
      generalize w39.drew = w41 at BK119 BK120 BK121 BK124 HB hHeld ⊢
      refine pure_ (i := 1) (N := some 43) (v := ?_) (a' := ?_) #[false, true, false, false, false, false, false, false] rfl rfl (any_of HT_.out (by kernel_rfl)) (fun _ _ _ h => h) (Or.inl ⟨by rfl, ?_⟩) ?_ ?_
      rotate_left
      ·
       intro w'
       go_simp
       with_reducible rfl
      rotate_left
      ·
       simp only [Act.put, List.setIfInBounds_toArray, List.set_cons_zero, List.set_cons_succ, i64_w, i32_w]
       rfl
      refine take_ (i := 0) (N := some 42) (v := ?_) (a' := ?_) #[true, true, false, false, false, false, false, false] rfl rfl (take_ofW HT_.out HW_.out (by kernel_rfl)) (fun _ _ _ h => h) (Or.inl ⟨by rfl, ?_⟩) hHeld ?_ ?_
      rotate_left
      ·
       rintro w' ⟨s0, s1, s2, s3, s4⟩
       go_simp
       with_reducible rfl
      rotate_left
      ·
       simp only [Act.put, List.setIfInBounds_toArray, List.set_cons_zero, List.set_cons_succ, i64_w, i32_w]
       rfl
      refine take_ (i := 2) (N := some 44) (v := ?_) (a' := ?_) #[true, true, true, false, false, false, false, false] rfl rfl (take_ofW HT_.out HW_.out (by kernel_rfl)) (fun _ _ _ h => h) (Or.inl ⟨by rfl, ?_⟩) hHeld ?_ ?_
      rotate_left
      ·
       rintro w' ⟨s0, s1, s2, s3, s4⟩
       go_simp
       with_reducible rfl
      rotate_left
      ·
       simp only [Act.put, List.setIfInBounds_toArray, List.set_cons_zero, List.set_cons_succ, i64_w, i32_w]
       rfl
      refine one_ (i := 3) (N := none) #[true, true, true, true, false, false, false, false] rfl rfl (one_of HT_.out (by kernel_rfl)) (by decide) (fun K hK => ?_)
      have hs42 : w41.cell? ⟨gb121, 0, none⟩ = some (.int .i64 0) := bc BK121 0
      have hfs42 := blk_frozen BK121.out 0
      have hns42_0 := NB119_121.out
      have hns42_1 := NB120_121.out
      have hns42_3 := NB124_121.out
      have hms42_0 := NB121_119.out
      have hms42_1 := NB121_120.out
      have hms42_3 := NB121_124.out
      have hs43 : w41.cell? ⟨gb121, 1, none⟩ = some (.int .i64 0) := bc BK121 1
      have hfs43 := blk_frozen BK121.out 1
      have hns43_0 := NB119_121.out
      have hns43_1 := NB120_121.out
      have hns43_3 := NB124_121.out
      have hms43_0 := NB121_119.out
      have hms43_1 := NB121_120.out
      have hms43_3 := NB121_124.out
      have hs44 : w41.cell? ⟨gb121, 2, none⟩ = some (.int .i64 0) := bc BK121 2
      have hfs44 := blk_frozen BK121.out 2
      have hns44_0 := NB119_121.out
      have hns44_1 := NB120_121.out
      have hns44_3 := NB124_121.out
      have hms44_0 := NB121_119.out
      have hms44_1 := NB121_120.out
      have hms44_3 := NB121_124.out
      refine skip_ (w1 := ?_) (by rfl) rfl ?_ ?_
      rotate_left
      ·
       go_simp
       rfl
      refine hK.out _ _ ⟨((cf NB124_121).trans (((cf NB124_121).trans (((cf NB124_121).trans (hHeld.1)))))), ((cf NB124_121).trans (((cf NB124_121).trans (((cf NB124_121).trans (hHeld.2.1)))))), ((cf NB124_121).trans (((cf NB124_121).trans (((cf NB124_121).trans (hHeld.2.2.1)))))), ((cf NB120_121).trans (((cf NB120_121).trans (((cf NB120_121).trans (hHeld.2.2.2.1)))))), ((cf NB120_121).trans (((cf NB120_121).trans (((cf NB120_121).trans (hHeld.2.2.2.2))))))⟩ (fun hHeld => ?_)
      clear hK K
      refine pure_ (i := 4) (N := some 5) (v := ?_) (a' := ?_) #[true, true, true, true, true, false, false, false] rfl rfl (any_of HT_.out (by kernel_rfl)) (fun _ _ _ h => h) (Or.inl ⟨by rfl, ?_⟩) ?_ ?_
      rotate_left
      ·
       intro w'
       go_simp
       with_reducible rfl
      rotate_left
      ·
       simp only [Act.put, List.setIfInBounds_toArray, List.set_cons_zero, List.set_cons_succ, i64_w, i32_w]
       rfl
      refine pure_ (i := 5) (N := some 6) (v := ?_) (a' := ?_) #[true, true, true, true, true, true, false, false] rfl rfl (any_of HT_.out (by kernel_rfl)) (fun _ _ _ h => h) (Or.inl ⟨by rfl, ?_⟩) ?_ ?_
      rotate_left
      ·
       intro w'
       go_simp
       with_reducible rfl
      rotate_left
      ·
       simp only [Act.put, List.setIfInBounds_toArray, List.set_cons_zero, List.set_cons_succ, i64_w, i32_w]
       rfl
      refine pure_ (i := 6) (N := some 7) (v := ?_) (a' := ?_) #[true, true, true, true, true, true, true, false] rfl rfl (any_of HT_.out (by kernel_rfl)) (fun _ _ _ h => h) (Or.inl ⟨by rfl, ?_⟩) ?_ ?_
      rotate_left
      ·
       intro w'
       go_simp
       with_reducible rfl
      rotate_left
      ·
       simp only [Act.put, List.setIfInBounds_toArray, List.set_cons_zero, List.set_cons_succ, i64_w, i32_w]
       rfl
      refine pure_ (i := 7) (N := some 8) (v := ?_) (a' := ?_) #[true, true, true, true, true, true, true, true] rfl rfl (any_of HT_.out (by kernel_rfl)) (fun _ _ _ h => h) (Or.inl ⟨by rfl, ?_⟩) ?_ ?_
      rotate_left
      ·
       intro w'
       go_simp
       with_reducible rfl
      rotate_left
      ·
       simp only [Act.put, List.setIfInBounds_toArray, List.set_cons_zero, List.set_cons_succ, i64_w, i32_w]
       rfl
      refine done_ (done_of HT_.out (by kernel_rfl)) ?_
      try go_wp2
      refine bodyPost_ret (results_list (rs := [.cell 4 29, .tmp 5, .tmp 6, .tmp 7, .tmp 8]) rfl (by simp) (.cell gb121 29 #[.int .i64 (wrap64 (a0_0 + a1_1)), .int .i64 a0_1, .int .i64 a0_2] (0, 0) _ rfl (by (with_reducible repeat (first | refine blk_drewN ?_ _ | refine blk_drew ?_ | refine blk_alloc ?_ _)); refine blk_put (cs := #[.int .i64 (wrap64 (a0_0 + a1_1)), .int .i64 a0_1, .int .i64 0]) ?_ 2 _ rfl; (with_reducible repeat (first | refine blk_drewN ?_ _ | refine blk_drew ?_ | refine blk_alloc ?_ _)); refine blk_put (cs := #[.int .i64 (wrap64 (a0_0 + a1_1)), .int .i64 0, .int .i64 0]) ?_ 1 _ rfl; (with_reducible repeat (first | refine blk_drewN ?_ _ | refine blk_drew ?_ | refine blk_alloc ?_ _)); refine blk_put (cs := #[.int .i64 0, .int .i64 0, .int .i64 0]) ?_ 0 _ rfl; (with_reducible repeat (first | refine blk_drewN ?_ _ | refine blk_drew ?_ | refine blk_alloc ?_ _)); exact BK121.out) Try.underlying29 rfl (by kernel_rfl) (.tmp (.tmp (.tmp (.tmp .nil)))))) rfl ?_
      exact ⟨by first | rfl | (simp [errW_none, errW_some] <;> rfl) | (simp [*, errW_none, errW_some] <;> rfl), blq HB.out⟩
     ·
      replace c40 := Bool.eq_false_iff.mpr c40
      subst c40
      have H1 : (some (a0_0, a0_1, a0_2, 0, 0, 0, false)) = some (r1, r2, r3, r4, r5, r6, r7) := by rw [if_neg (show ¬ (false = true) by decide)] at H; exact H
      clear H
      have H := H1
      clear H1
      simp only [Option.some.injEq, Prod.mk.injEq] at H
      obtain ⟨rfl, rfl, rfl, rfl, rfl, rfl, rfl⟩ := H
      obtain ⟨_, _, _, _, _, _⟩ := ne6 NB119_120 NB120_119 NB119_121 NB121_119 NB119_124 NB124_119
      obtain ⟨hcz48_0, hcz48_1, hcz48_2, hfz48_0, hfz48_1, hfz48_2⟩ := bq3 BK119.out
      obtain ⟨_, _, _, _⟩ := ne4 NB121_120 NB120_121 NB121_124 NB124_121
      obtain ⟨hcz51_0, hcz51_1, hcz51_2, hfz51_0, hfz51_1, hfz51_2⟩ := bq3 BK121.out
      go_wp2
      refine bodyPost_ret (results_list (rs := [.cell 4 29, .tmp 5, .tmp 6, .tmp 7, .tmp 8]) rfl (by simp) (.cell gb121 29 #[.int .i64 a0_0, .int .i64 a0_1, .int .i64 a0_2] (0, 0) _ rfl (by (with_reducible repeat (first | refine blk_drewN ?_ _ | refine blk_drew ?_ | refine blk_alloc ?_ _)); refine blk_put (cs := #[.int .i64 a0_0, .int .i64 a0_1, .int .i64 0]) ?_ 2 _ rfl; (with_reducible repeat (first | refine blk_drewN ?_ _ | refine blk_drew ?_ | refine blk_alloc ?_ _)); refine blk_put (cs := #[.int .i64 a0_0, .int .i64 0, .int .i64 0]) ?_ 1 _ rfl; (with_reducible repeat (first | refine blk_drewN ?_ _ | refine blk_drew ?_ | refine blk_alloc ?_ _)); refine blk_put (cs := #[.int .i64 0, .int .i64 0, .int .i64 0]) ?_ 0 _ rfl; (with_reducible repeat (first | refine blk_drewN ?_ _ | refine blk_drew ?_ | refine blk_alloc ?_ _)); exact BK121.out) Try.underlying29 rfl (by kernel_rfl) (.tmp (.tmp (.tmp (.tmp .nil)))))) rfl ?_
      exact ⟨by first | rfl | (simp [errW_none, errW_some] <;> rfl) | (simp [*, errW_none, errW_some] <;> rfl), blq HB.out⟩
    ·
     rw [if_neg c26] at H
     have c26b0 : (a1_0 == 1) = false := beq_eq_false_iff_ne.mpr c26
     have c26b1 : (a1_0 != 1) = true := bne_iff_ne.mpr c26
     by_cases c52 : a1_0 = 2
     ·
      rw [if_pos c52] at H
      have c52b0 : (a1_0 == 2) = true := beq_iff_eq.mpr c52
      have c52b1 : (a1_0 != 2) = false := bne_eq_false_iff_eq.mpr c52
      clear c52
      replace H := Option.bind_eq_some_iff.mp H
      obtain ⟨⟨t126, t127, t128, t129⟩, A530, H⟩ := H
      replace H : (if t129 = a1_1 then (some (t126, t127, t128, 0, t129, 0, true)) else (some (a0_0, a0_1, a0_2, 0, 0, 0, false))) = some (r1, r2, r3, r4, r5, r6, r7) := H
      have A53 := Aside0.mk A530
      clear A530
      have HF54 := Aside0.mk H
      clear H
      obtain ⟨_, _, _, _⟩ := ne4 NB120_119 NB119_120 NB120_121 NB121_120
      obtain ⟨hcz57_0, hcz57_1, hfz57_0, hfz57_1⟩ := bq2 BK120.out
      obtain ⟨_, _⟩ := ne2 NB119_121 NB121_119
      obtain ⟨hcz59_0, hcz59_1, hcz59_2, hfz59_0, hfz59_1, hfz59_2⟩ := bq3 BK119.out
      go_upto_if 57 with (first | ((with_reducible refine gate_callee (f := 112) rfl ?_); refine gLq (some 51) Try.func112 #[.agg #[.int .i64 a0_0, .int .i64 a0_1, .int .i64 a0_2], .int .i64 a1_1] ?_; (with_reducible refine (spec_SellFresh.calls a0_0 a0_1 a0_2 a1_1 t126 t127 t128 t129 _ A53.out).mono ?_); rintro e w60 ⟨rfl, hb⟩; refine ⟨_, rfl, ?_⟩; replace BK119 := bkb BK119 hb; replace BK120 := bkb BK120 hb; replace BK121 := bkb BK121 hb; replace HB := hbs HB hb; (try clear hb); (try clear hb2); (try clear hk); (try clear hi)) | ((with_reducible refine gate_dst (N := 10) rfl ?_); refine box_event ?hg (N := 10) ?hd (cs := #[.int .i64 0, .int .i64 0, .int .i64 0]) (t := 29) ?hr ?_; (case hd => rfl); (case hg => rfl); (case hr => first | (go_simp; done) | (go_simp; rfl)); intro gb130 hg w61 hbox hb; have BK130 := Aside0.mk (hbox); have GW130 := sQ hg HB; have GE130 := sQ hg HB; have NB119_130 := qL hg BK119; have NB130_119 := qG hg BK119; have NB120_130 := qL hg BK120; have NB130_120 := qG hg BK120; have NB121_130 := qL hg BK121; have NB130_121 := qG hg BK121; replace BK119 := bkb BK119 hb; replace BK120 := bkb BK120 hb; replace BK121 := bkb BK121 hb; replace HB := hbs HB hb; clear hb hbox hg; obtain ⟨_, _, _, _, _, _⟩ := ne6 NB130_119 NB119_130 NB130_120 NB120_130 NB130_121 NB121_130; obtain ⟨hcz65_0, hcz65_1, hcz65_2, hfz65_0, hfz65_1, hfz65_2⟩ := bq3 BK130.out; obtain ⟨hcz66_0, hcz66_1, hfz66_0, hfz66_1⟩ := bq2 BK120.out))
      have H := HF54.out
      clear HF54
      by_cases c67 : t129 = a1_1
      ·
       rw [if_pos c67] at H
       have c67b0 : (t129 == a1_1) = true := beq_iff_eq.mpr c67
       have c67b1 : (t129 != a1_1) = false := bne_eq_false_iff_eq.mpr c67
       clear c67
       (first | rw [c67b0] | (simp only [i64_w, i32_w]; rw [c67b0]) | skip)
       simp only [Option.some.injEq, Prod.mk.injEq] at H
       obtain ⟨rfl, rfl, rfl, rfl, rfl, rfl, rfl⟩ := H
       obtain ⟨_, _, _, _, _, _⟩ := ne6 NB130_119 NB119_130 NB130_120 NB120_130 NB130_121 NB121_130
       obtain ⟨hcz71_0, hcz71_1, hcz71_2, hfz71_0, hfz71_1, hfz71_2⟩ := bq3 BK130.out
       obtain ⟨_, _, _, _⟩ := ne4 NB121_119 NB119_121 NB121_120 NB120_121
       obtain ⟨hcz74_0, hcz74_1, hcz74_2, hfz74_0, hfz74_1, hfz74_2⟩ := bq3 BK121.out
       go_wp2
       refine bodyPost_ret (results_list (rs := [.cell 4 29, .tmp 5, .tmp 6, .tmp 7, .tmp 8]) rfl (by simp) (.cell gb121 29 #[.int .i64 t126, .int .i64 t127, .int .i64 t128] (0, 0) _ rfl (by (with_reducible repeat (first | refine blk_drewN ?_ _ | refine blk_drew ?_ | refine blk_alloc ?_ _)); refine blk_put (cs := #[.int .i64 t126, .int .i64 t127, .int .i64 0]) ?_ 2 _ rfl; (with_reducible repeat (first | refine blk_drewN ?_ _ | refine blk_drew ?_ | refine blk_alloc ?_ _)); refine blk_put (cs := #[.int .i64 t126, .int .i64 0, .int .i64 0]) ?_ 1 _ rfl; (with_reducible repeat (first | refine blk_drewN ?_ _ | refine blk_drew ?_ | refine blk_alloc ?_ _)); refine blk_put (cs := #[.int .i64 0, .int .i64 0, .int .i64 0]) ?_ 0 _ rfl; (with_reducible repeat (first | refine blk_drewN ?_ _ | refine blk_drew ?_ | refine blk_alloc ?_ _)); refine blk_far ?_ NB121_130.out _; (with_reducible repeat (first | refine blk_drewN ?_ _ | refine blk_drew ?_ | refine blk_alloc ?_ _)); refine blk_far ?_ NB121_130.out _; (with_reducible repeat (first | refine blk_drewN ?_ _ | refine blk_drew ?_ | refine blk_alloc ?_ _)); refine blk_far ?_ NB121_130.out _; (with_reducible repeat (first | refine blk_drewN ?_ _ | refine blk_drew ?_ | refine blk_alloc ?_ _)); exact BK121.out) Try.underlying29 rfl (by kernel_rfl) (.tmp (.tmp (.tmp (.tmp .nil)))))) rfl ?_
       exact ⟨by first | rfl | (simp [errW_none, errW_some] <;> rfl) | (simp [*, errW_none, errW_some] <;> rfl), blq HB.out⟩
      ·
       rw [if_neg c67] at H
       have c67b0 : (t129 == a1_1) = false := beq_eq_false_iff_ne.mpr c67
       have c67b1 : (t129 != a1_1) = true := bne_iff_ne.mpr c67
       (first | rw [c67b0] | (simp only [i64_w, i32_w]; rw [c67b0]) | skip)
       simp only [Option.some.injEq, Prod.mk.injEq] at H
       obtain ⟨rfl, rfl, rfl, rfl, rfl, rfl, rfl⟩ := H
       obtain ⟨_, _, _, _, _, _⟩ := ne6 NB119_120 NB120_119 NB119_121 NB121_119 NB119_130 NB130_119
       obtain ⟨hcz78_0, hcz78_1, hcz78_2, hfz78_0, hfz78_1, hfz78_2⟩ := bq3 BK119.out
       obtain ⟨_, _, _, _⟩ := ne4 NB121_120 NB120_121 NB121_130 NB130_121
       obtain ⟨hcz81_0, hcz81_1, hcz81_2, hfz81_0, hfz81_1, hfz81_2⟩ := bq3 BK121.out
       go_wp2
       refine bodyPost_ret (results_list (rs := [.cell 4 29, .tmp 5, .tmp 6, .tmp 7, .tmp 8]) rfl (by simp) (.cell gb121 29 #[.int .i64 a0_0, .int .i64 a0_1, .int .i64 a0_2] (0, 0) _ rfl (by (with_reducible repeat (first | refine blk_drewN ?_ _ | refine blk_drew ?_ | refine blk_alloc ?_ _)); refine blk_put (cs := #[.int .i64 a0_0, .int .i64 a0_1, .int .i64 0]) ?_ 2 _ rfl; (with_reducible repeat (first | refine blk_drewN ?_ _ | refine blk_drew ?_ | refine blk_alloc ?_ _)); refine blk_put (cs := #[.int .i64 a0_0, .int .i64 0, .int .i64 0]) ?_ 1 _ rfl; (with_reducible repeat (first | refine blk_drewN ?_ _ | refine blk_drew ?_ | refine blk_alloc ?_ _)); refine blk_put (cs := #[.int .i64 0, .int .i64 0, .int .i64 0]) ?_ 0 _ rfl; (with_reducible repeat (first | refine blk_drewN ?_ _ | refine blk_drew ?_ | refine blk_alloc ?_ _)); refine blk_far ?_ NB121_130.out _; (with_reducible repeat (first | refine blk_drewN ?_ _ | refine blk_drew ?_ | refine blk_alloc ?_ _)); refine blk_far ?_ NB121_130.out _; (with_reducible repeat (first | refine blk_drewN ?_ _ | refine blk_drew ?_ | refine blk_alloc ?_ _)); refine blk_far ?_ NB121_130.out _; (with_reducible repeat (first | refine blk_drewN ?_ _ | refine blk_drew ?_ | refine blk_alloc ?_ _)); exact BK121.out) Try.underlying29 rfl (by kernel_rfl) (.tmp (.tmp (.tmp (.tmp .nil)))))) rfl ?_
       exact ⟨by first | rfl | (simp [errW_none, errW_some] <;> rfl) | (simp [*, errW_none, errW_some] <;> rfl), blq HB.out⟩
     ·
      rw [if_neg c52] at H
      have c52b0 : (a1_0 == 2) = false := beq_eq_false_iff_ne.mpr c52
      have c52b1 : (a1_0 != 2) = true := bne_iff_ne.mpr c52
      by_cases c82 : a1_0 = 3
      ·
       rw [if_pos c82] at H
       have c82b0 : (a1_0 == 3) = true := beq_iff_eq.mpr c82
       have c82b1 : (a1_0 != 3) = false := bne_eq_false_iff_eq.mpr c82
       clear c82
       replace H := Option.bind_eq_some_iff.mp H
       obtain ⟨⟨t131, t132, t133, t134⟩, A830, H⟩ := H
       replace H : (if t134 = a1_1 then (some (t131, t132, t133, 0, t134, 0, true)) else (some (a0_0, a0_1, a0_2, 0, 0, 0, false))) = some (r1, r2, r3, r4, r5, r6, r7) := H
       have A83 := Aside0.mk A830
       clear A830
       have HF84 := Aside0.mk H
       clear H
       obtain ⟨_, _, _, _⟩ := ne4 NB120_119 NB119_120 NB120_121 NB121_120
       obtain ⟨hcz87_0, hcz87_1, hfz87_0, hfz87_1⟩ := bq2 BK120.out
       obtain ⟨_, _⟩ := ne2 NB119_121 NB121_119
       obtain ⟨hcz89_0, hcz89_1, hcz89_2, hfz89_0, hfz89_1, hfz89_2⟩ := bq3 BK119.out
       go_upto_if 72 with (first | ((with_reducible refine gate_callee (f := 113) rfl ?_); refine gLq (some 66) Try.func113 #[.agg #[.int .i64 a0_0, .int .i64 a0_1, .int .i64 a0_2], .int .i64 a1_1] ?_; (with_reducible refine (spec_SellCheap.calls a0_0 a0_1 a0_2 a1_1 t131 t132 t133 t134 _ A83.out).mono ?_); rintro e w90 ⟨rfl, hb⟩; refine ⟨_, rfl, ?_⟩; replace BK119 := bkb BK119 hb; replace BK120 := bkb BK120 hb; replace BK121 := bkb BK121 hb; replace HB := hbs HB hb; (try clear hb); (try clear hb2); (try clear hk); (try clear hi)) | ((with_reducible refine gate_dst (N := 12) rfl ?_); refine box_event ?hg (N := 12) ?hd (cs := #[.int .i64 0, .int .i64 0, .int .i64 0]) (t := 29) ?hr ?_; (case hd => rfl); (case hg => rfl); (case hr => first | (go_simp; done) | (go_simp; rfl)); intro gb135 hg w91 hbox hb; have BK135 := Aside0.mk (hbox); have GW135 := sQ hg HB; have GE135 := sQ hg HB; have NB119_135 := qL hg BK119; have NB135_119 := qG hg BK119; have NB120_135 := qL hg BK120; have NB135_120 := qG hg BK120; have NB121_135 := qL hg BK121; have NB135_121 := qG hg BK121; replace BK119 := bkb BK119 hb; replace BK120 := bkb BK120 hb; replace BK121 := bkb BK121 hb; replace HB := hbs HB hb; clear hb hbox hg; obtain ⟨_, _, _, _, _, _⟩ := ne6 NB135_119 NB119_135 NB135_120 NB120_135 NB135_121 NB121_135; obtain ⟨hcz95_0, hcz95_1, hcz95_2, hfz95_0, hfz95_1, hfz95_2⟩ := bq3 BK135.out; obtain ⟨hcz96_0, hcz96_1, hfz96_0, hfz96_1⟩ := bq2 BK120.out))
       have H := HF84.out
       clear HF84
       by_cases c97 : t134 = a1_1
       ·
        rw [if_pos c97] at H
        have c97b0 : (t134 == a1_1) = true := beq_iff_eq.mpr c97
        have c97b1 : (t134 != a1_1) = false := bne_eq_false_iff_eq.mpr c97
        clear c97
        (first | rw [c97b0] | (simp only [i64_w, i32_w]; rw [c97b0]) | skip)
        simp only [Option.some.injEq, Prod.mk.injEq] at H
        obtain ⟨rfl, rfl, rfl, rfl, rfl, rfl, rfl⟩ := H
        obtain ⟨_, _, _, _, _, _⟩ := ne6 NB135_119 NB119_135 NB135_120 NB120_135 NB135_121 NB121_135
        obtain ⟨hcz101_0, hcz101_1, hcz101_2, hfz101_0, hfz101_1, hfz101_2⟩ := bq3 BK135.out
        obtain ⟨_, _, _, _⟩ := ne4 NB121_119 NB119_121 NB121_120 NB120_121
        obtain ⟨hcz104_0, hcz104_1, hcz104_2, hfz104_0, hfz104_1, hfz104_2⟩ := bq3 BK121.out
        go_wp2
        refine bodyPost_ret (results_list (rs := [.cell 4 29, .tmp 5, .tmp 6, .tmp 7, .tmp 8]) rfl (by simp) (.cell gb121 29 #[.int .i64 t131, .int .i64 t132, .int .i64 t133] (0, 0) _ rfl (by (with_reducible repeat (first | refine blk_drewN ?_ _ | refine blk_drew ?_ | refine blk_alloc ?_ _)); refine blk_put (cs := #[.int .i64 t131, .int .i64 t132, .int .i64 0]) ?_ 2 _ rfl; (with_reducible repeat (first | refine blk_drewN ?_ _ | refine blk_drew ?_ | refine blk_alloc ?_ _)); refine blk_put (cs := #[.int .i64 t131, .int .i64 0, .int .i64 0]) ?_ 1 _ rfl; (with_reducible repeat (first | refine blk_drewN ?_ _ | refine blk_drew ?_ | refine blk_alloc ?_ _)); refine blk_put (cs := #[.int .i64 0, .int .i64 0, .int .i64 0]) ?_ 0 _ rfl; (with_reducible repeat (first | refine blk_drewN ?_ _ | refine blk_drew ?_ | refine blk_alloc ?_ _)); refine blk_far ?_ NB121_135.out _; (with_reducible repeat (first | refine blk_drewN ?_ _ | refine blk_drew ?_ | refine blk_alloc ?_ _)); refine blk_far ?_ NB121_135.out _; (with_reducible repeat (first | refine blk_drewN ?_ _ | refine blk_drew ?_ | refine blk_alloc ?_ _)); refine blk_far ?_ NB121_135.out _; (with_reducible repeat (first | refine blk_drewN ?_ _ | refine blk_drew ?_ | refine blk_alloc ?_ _)); exact BK121.out) Try.underlying29 rfl (by kernel_rfl) (.tmp (.tmp (.tmp (.tmp .nil)))))) rfl ?_
        exact ⟨by first | rfl | (simp [errW_none, errW_some] <;> rfl) | (simp [*, errW_none, errW_some] <;> rfl), blq HB.out⟩
       ·
        rw [if_neg c97] at H
        have c97b0 : (t134 == a1_1) = false := beq_eq_false_iff_ne.mpr c97
        have c97b1 : (t134 != a1_1) = true := bne_iff_ne.mpr c97
        (first | rw [c97b0] | (simp only [i64_w, i32_w]; rw [c97b0]) | skip)
        simp only [Option.some.injEq, Prod.mk.injEq] at H
        obtain ⟨rfl, rfl, rfl, rfl, rfl, rfl, rfl⟩ := H
        obtain ⟨_, _, _, _, _, _⟩ := ne6 NB119_120 NB120_119 NB119_121 NB121_119 NB119_135 NB135_119
        obtain ⟨hcz108_0, hcz108_1, hcz108_2, hfz108_0, hfz108_1, hfz108_2⟩ := bq3 BK119.out
        obtain ⟨_, _, _, _⟩ := ne4 NB121_120 NB120_121 NB121_135 NB135_121
        obtain ⟨hcz111_0, hcz111_1, hcz111_2, hfz111_0, hfz111_1, hfz111_2⟩ := bq3 BK121.out
        go_wp2
        refine bodyPost_ret (results_list (rs := [.cell 4 29, .tmp 5, .tmp 6, .tmp 7, .tmp 8]) rfl (by simp) (.cell gb121 29 #[.int .i64 a0_0, .int .i64 a0_1, .int .i64 a0_2] (0, 0) _ rfl (by (with_reducible repeat (first | refine blk_drewN ?_ _ | refine blk_drew ?_ | refine blk_alloc ?_ _)); refine blk_put (cs := #[.int .i64 a0_0, .int .i64 a0_1, .int .i64 0]) ?_ 2 _ rfl; (with_reducible repeat (first | refine blk_drewN ?_ _ | refine blk_drew ?_ | refine blk_alloc ?_ _)); refine blk_put (cs := #[.int .i64 a0_0, .int .i64 0, .int .i64 0]) ?_ 1 _ rfl; (with_reducible repeat (first | refine blk_drewN ?_ _ | refine blk_drew ?_ | refine blk_alloc ?_ _)); refine blk_put (cs := #[.int .i64 0, .int .i64 0, .int .i64 0]) ?_ 0 _ rfl; (with_reducible repeat (first | refine blk_drewN ?_ _ | refine blk_drew ?_ | refine blk_alloc ?_ _)); refine blk_far ?_ NB121_135.out _; (with_reducible repeat (first | refine blk_drewN ?_ _ | refine blk_drew ?_ | refine blk_alloc ?_ _)); refine blk_far ?_ NB121_135.out _; (with_reducible repeat (first | refine blk_drewN ?_ _ | refine blk_drew ?_ | refine blk_alloc ?_ _)); refine blk_far ?_ NB121_135.out _; (with_reducible repeat (first | refine blk_drewN ?_ _ | refine blk_drew ?_ | refine blk_alloc ?_ _)); exact BK121.out) Try.underlying29 rfl (by kernel_rfl) (.tmp (.tmp (.tmp (.tmp .nil)))))) rfl ?_
        exact ⟨by first | rfl | (simp [errW_none, errW_some] <;> rfl) | (simp [*, errW_none, errW_some] <;> rfl), blq HB.out⟩
      ·
       rw [if_neg c82] at H
       have c82b0 : (a1_0 == 3) = false := beq_eq_false_iff_ne.mpr c82
       have c82b1 : (a1_0 != 3) = true := bne_iff_ne.mpr c82
       by_cases c112 : a1_0 = 4
       ·
        rw [if_pos c112] at H
        have c112b0 : (a1_0 == 4) = true := beq_iff_eq.mpr c112
        have c112b1 : (a1_0 != 4) = false := bne_eq_false_iff_eq.mpr c112
        clear c112
        replace H := Option.bind_eq_some_iff.mp H
        obtain ⟨⟨t136, t137, t138, t139⟩, A1130, H⟩ := H
        replace H : (if a1_1 = 0 then (some (t136, t137, t138, 0, 0, t139, true)) else (some (a0_0, a0_1, a0_2, 0, 0, 0, false))) = some (r1, r2, r3, r4, r5, r6, r7) := H
        have A113 := Aside0.mk A1130
        clear A1130
        have HF114 := Aside0.mk H
        clear H
        obtain ⟨_, _, _, _⟩ := ne4 NB120_119 NB119_120 NB120_121 NB121_120
        obtain ⟨hcz117_0, hcz117_1, hfz117_0, hfz117_1⟩ := bq2 BK120.out
        obtain ⟨_, _⟩ := ne2 NB119_121 NB121_119
        obtain ⟨hcz119_0, hcz119_1, hcz119_2, hfz119_0, hfz119_1, hfz119_2⟩ := bq3 BK119.out
        go_upto_if 84 with (first | ((with_reducible refine gate_callee (f := 114) rfl ?_); refine gLq (some 79) Try.func114 #[.agg #[.int .i64 a0_0, .int .i64 a0_1, .int .i64 a0_2], .int .i64 0] ?_; (with_reducible refine (spec_NextMorning.calls a0_0 a0_1 a0_2 0 t136 t137 t138 t139 _ A113.out).mono ?_); rintro e w120 ⟨rfl, hb⟩; refine ⟨_, rfl, ?_⟩; replace BK119 := bkb BK119 hb; replace BK120 := bkb BK120 hb; replace BK121 := bkb BK121 hb; replace HB := hbs HB hb; (try clear hb); (try clear hb2); (try clear hk); (try clear hi)) | ((with_reducible refine gate_dst (N := 14) rfl ?_); refine box_event ?hg (N := 14) ?hd (cs := #[.int .i64 0, .int .i64 0, .int .i64 0]) (t := 29) ?hr ?_; (case hd => rfl); (case hg => rfl); (case hr => first | (go_simp; done) | (go_simp; rfl)); intro gb140 hg w121 hbox hb; have BK140 := Aside0.mk (hbox); have GW140 := sQ hg HB; have GE140 := sQ hg HB; have NB119_140 := qL hg BK119; have NB140_119 := qG hg BK119; have NB120_140 := qL hg BK120; have NB140_120 := qG hg BK120; have NB121_140 := qL hg BK121; have NB140_121 := qG hg BK121; replace BK119 := bkb BK119 hb; replace BK120 := bkb BK120 hb; replace BK121 := bkb BK121 hb; replace HB := hbs HB hb; clear hb hbox hg; obtain ⟨_, _, _, _, _, _⟩ := ne6 NB140_119 NB119_140 NB140_120 NB120_140 NB140_121 NB121_140; obtain ⟨hcz125_0, hcz125_1, hcz125_2, hfz125_0, hfz125_1, hfz125_2⟩ := bq3 BK140.out; obtain ⟨hcz126_0, hcz126_1, hfz126_0, hfz126_1⟩ := bq2 BK120.out))
        have H := HF114.out
        clear HF114
        by_cases c127 : a1_1 = 0
        ·
         rw [if_pos c127] at H
         have c127b0 : (a1_1 == 0) = true := beq_iff_eq.mpr c127
         have c127b1 : (a1_1 != 0) = false := bne_eq_false_iff_eq.mpr c127
         clear c127
         (first | rw [c127b0] | (simp only [i64_w, i32_w]; rw [c127b0]) | skip)
         simp only [Option.some.injEq, Prod.mk.injEq] at H
         obtain ⟨rfl, rfl, rfl, rfl, rfl, rfl, rfl⟩ := H
         obtain ⟨_, _, _, _, _, _⟩ := ne6 NB140_119 NB119_140 NB140_120 NB120_140 NB140_121 NB121_140
         obtain ⟨hcz131_0, hcz131_1, hcz131_2, hfz131_0, hfz131_1, hfz131_2⟩ := bq3 BK140.out
         obtain ⟨_, _, _, _⟩ := ne4 NB121_119 NB119_121 NB121_120 NB120_121
         obtain ⟨hcz134_0, hcz134_1, hcz134_2, hfz134_0, hfz134_1, hfz134_2⟩ := bq3 BK121.out
         go_wp2
         refine bodyPost_ret (results_list (rs := [.cell 4 29, .tmp 5, .tmp 6, .tmp 7, .tmp 8]) rfl (by simp) (.cell gb121 29 #[.int .i64 t136, .int .i64 t137, .int .i64 t138] (0, 0) _ rfl (by (with_reducible repeat (first | refine blk_drewN ?_ _ | refine blk_drew ?_ | refine blk_alloc ?_ _)); refine blk_put (cs := #[.int .i64 t136, .int .i64 t137, .int .i64 0]) ?_ 2 _ rfl; (with_reducible repeat (first | refine blk_drewN ?_ _ | refine blk_drew ?_ | refine blk_alloc ?_ _)); refine blk_put (cs := #[.int .i64 t136, .int .i64 0, .int .i64 0]) ?_ 1 _ rfl; (with_reducible repeat (first | refine blk_drewN ?_ _ | refine blk_drew ?_ | refine blk_alloc ?_ _)); refine blk_put (cs := #[.int .i64 0, .int .i64 0, .int .i64 0]) ?_ 0 _ rfl; (with_reducible repeat (first | refine blk_drewN ?_ _ | refine blk_drew ?_ | refine blk_alloc ?_ _)); refine blk_far ?_ NB121_140.out _; (with_reducible repeat (first | refine blk_drewN ?_ _ | refine blk_drew ?_ | refine blk_alloc ?_ _)); refine blk_far ?_ NB121_140.out _; (with_reducible repeat (first | refine blk_drewN ?_ _ | refine blk_drew ?_ | refine blk_alloc ?_ _)); refine blk_far ?_ NB121_140.out _; (with_reducible repeat (first | refine blk_drewN ?_ _ | refine blk_drew ?_ | refine blk_alloc ?_ _)); exact BK121.out) Try.underlying29 rfl (by kernel_rfl) (.tmp (.tmp (.tmp (.tmp .nil)))))) rfl ?_
         exact ⟨by first | rfl | (simp [errW_none, errW_some] <;> rfl) | (simp [*, errW_none, errW_some] <;> rfl), blq HB.out⟩
        ·
         rw [if_neg c127] at H
         have c127b0 : (a1_1 == 0) = false := beq_eq_false_iff_ne.mpr c127
         have c127b1 : (a1_1 != 0) = true := bne_iff_ne.mpr c127
         (first | rw [c127b0] | (simp only [i64_w, i32_w]; rw [c127b0]) | skip)
         simp only [Option.some.injEq, Prod.mk.injEq] at H
         obtain ⟨rfl, rfl, rfl, rfl, rfl, rfl, rfl⟩ := H
         obtain ⟨_, _, _, _, _, _⟩ := ne6 NB119_120 NB120_119 NB119_121 NB121_119 NB119_140 NB140_119
         obtain ⟨hcz138_0, hcz138_1, hcz138_2, hfz138_0, hfz138_1, hfz138_2⟩ := bq3 BK119.out
         obtain ⟨_, _, _, _⟩ := ne4 NB121_120 NB120_121 NB121_140 NB140_121
         obtain ⟨hcz141_0, hcz141_1, hcz141_2, hfz141_0, hfz141_1, hfz141_2⟩ := bq3 BK121.out
         go_wp2
         refine bodyPost_ret (results_list (rs := [.cell 4 29, .tmp 5, .tmp 6, .tmp 7, .tmp 8]) rfl (by simp) (.cell gb121 29 #[.int .i64 a0_0, .int .i64 a0_1, .int .i64 a0_2] (0, 0) _ rfl (by (with_reducible repeat (first | refine blk_drewN ?_ _ | refine blk_drew ?_ | refine blk_alloc ?_ _)); refine blk_put (cs := #[.int .i64 a0_0, .int .i64 a0_1, .int .i64 0]) ?_ 2 _ rfl; (with_reducible repeat (first | refine blk_drewN ?_ _ | refine blk_drew ?_ | refine blk_alloc ?_ _)); refine blk_put (cs := #[.int .i64 a0_0, .int .i64 0, .int .i64 0]) ?_ 1 _ rfl; (with_reducible repeat (first | refine blk_drewN ?_ _ | refine blk_drew ?_ | refine blk_alloc ?_ _)); refine blk_put (cs := #[.int .i64 0, .int .i64 0, .int .i64 0]) ?_ 0 _ rfl; (with_reducible repeat (first | refine blk_drewN ?_ _ | refine blk_drew ?_ | refine blk_alloc ?_ _)); refine blk_far ?_ NB121_140.out _; (with_reducible repeat (first | refine blk_drewN ?_ _ | refine blk_drew ?_ | refine blk_alloc ?_ _)); refine blk_far ?_ NB121_140.out _; (with_reducible repeat (first | refine blk_drewN ?_ _ | refine blk_drew ?_ | refine blk_alloc ?_ _)); refine blk_far ?_ NB121_140.out _; (with_reducible repeat (first | refine blk_drewN ?_ _ | refine blk_drew ?_ | refine blk_alloc ?_ _)); exact BK121.out) Try.underlying29 rfl (by kernel_rfl) (.tmp (.tmp (.tmp (.tmp .nil)))))) rfl ?_
         exact ⟨by first | rfl | (simp [errW_none, errW_some] <;> rfl) | (simp [*, errW_none, errW_some] <;> rfl), blq HB.out⟩
       ·
        rw [if_neg c112] at H
        have c112b0 : (a1_0 == 4) = false := beq_eq_false_iff_ne.mpr c112
        have c112b1 : (a1_0 != 4) = true := bne_iff_ne.mpr c112
        simp only [Option.some.injEq, Prod.mk.injEq] at H
        obtain ⟨rfl, rfl, rfl, rfl, rfl, rfl, rfl⟩ := H
        obtain ⟨_, _, _, _⟩ := ne4 NB120_119 NB119_120 NB120_121 NB121_120
        obtain ⟨hcz144_0, hcz144_1, hfz144_0, hfz144_1⟩ := bq2 BK120.out
        obtain ⟨_, _⟩ := ne2 NB119_121 NB121_119
        obtain ⟨hcz146_0, hcz146_1, hcz146_2, hfz146_0, hfz146_1, hfz146_2⟩ := bq3 BK119.out
        obtain ⟨hcz147_0, hcz147_1, hcz147_2, hfz147_0, hfz147_1, hfz147_2⟩ := bq3 BK121.out
        go_wp2
        refine bodyPost_ret (results_list (rs := [.cell 4 29, .tmp 5, .tmp 6, .tmp 7, .tmp 8]) rfl (by simp) (.cell gb121 29 #[.int .i64 a0_0, .int .i64 a0_1, .int .i64 a0_2] (0, 0) _ rfl (by (with_reducible repeat (first | refine blk_drewN ?_ _ | refine blk_drew ?_ | refine blk_alloc ?_ _)); refine blk_put (cs := #[.int .i64 a0_0, .int .i64 a0_1, .int .i64 0]) ?_ 2 _ rfl; (with_reducible repeat (first | refine blk_drewN ?_ _ | refine blk_drew ?_ | refine blk_alloc ?_ _)); refine blk_put (cs := #[.int .i64 a0_0, .int .i64 0, .int .i64 0]) ?_ 1 _ rfl; (with_reducible repeat (first | refine blk_drewN ?_ _ | refine blk_drew ?_ | refine blk_alloc ?_ _)); refine blk_put (cs := #[.int .i64 0, .int .i64 0, .int .i64 0]) ?_ 0 _ rfl; (with_reducible repeat (first | refine blk_drewN ?_ _ | refine blk_drew ?_ | refine blk_alloc ?_ _)); exact BK121.out) Try.underlying29 rfl (by kernel_rfl) (.tmp (.tmp (.tmp (.tmp .nil)))))) rfl ?_
        exact ⟨by first | rfl | (simp [errW_none, errW_some] <;> rfl) | (simp [*, errW_none, errW_some] <;> rfl), blq HB.out⟩

end Go.Proofs.Ytonaabffckkdlaa.Q
