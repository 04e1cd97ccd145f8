-- Written for this claim by wip/xprint.py of this repository (by way of the kit's print); Lean checks every line.
import Derived.Test.YtonaabffckkdlaaQ0
import Derived.Test.YtonaabffckkdlaaQ5
import Derived.Test.YtonaabffckkdlaaQ6
namespace Go.Proofs.Ytonaabffckkdlaa.Q
open Go.RowKit Go.Proofs.YtonaabffckkdlaaW.PrintWords Go.Proofs.YtonaabffckkdlaaW.PrintLast Go.Proofs.YtonaabffckkdlaaW.PrintMore
attribute [local go_sem] max2_int min2_int max_two min_two max_three min_three max_four min_four   -- for this text's walks alone
set_option linter.unusedVariables false
set_option linter.unusedSimpArgs false

/-! ### impl_EventOn: function 96 -/
def impl_EventOn.j0 : Nat → Bool → Int → Int → Int → Int → Int → Option (Int × Int × Int × Int × Int × Int × Bool)
 | 0, _, _, _, _, _, _ => none
 | k + 1, x22, x251000, x251001, x251002, x252000, x252001 => if x22 = true then (some (x251000, x251001, x251002, 0, 0, 0, false)) else (if x252000 = 1 then ((impl_RackOk.f (wrap64 (x251000 + x252001)) x251001 x251002).bind fun t256 => (if t256 = true then (some (wrap64 (x251000 + x252001), x251001, x251002, x252001, 0, 0, true)) else (some (x251000, x251001, x251002, 0, 0, 0, false)))) else (if x252000 = 2 then ((impl_SellFresh.f x251000 x251001 x251002 x252001).bind fun bt257 => (if bt257.2.2.2 = x252001 then ((impl_RackOk.f bt257.1 bt257.2.1 bt257.2.2.1).bind fun t261 => (if t261 = true then (some (bt257.1, bt257.2.1, bt257.2.2.1, 0, bt257.2.2.2, 0, true)) else (some (x251000, x251001, x251002, 0, 0, 0, false)))) else (some (x251000, x251001, x251002, 0, 0, 0, false)))) else (if x252000 = 3 then ((impl_SellCheap.f x251000 x251001 x251002 x252001).bind fun bt262 => (if bt262.2.2.2 = x252001 then ((impl_RackOk.f bt262.1 bt262.2.1 bt262.2.2.1).bind fun t266 => (if t266 = true then (some (bt262.1, bt262.2.1, bt262.2.2.1, 0, bt262.2.2.2, 0, true)) else (some (x251000, x251001, x251002, 0, 0, 0, false)))) else (some (x251000, x251001, x251002, 0, 0, 0, false)))) else (if x252000 = 4 then ((impl_NextMorning.f x251000 x251001 x251002 0).bind fun bt267 => (if x252001 = 0 then ((impl_RackOk.f bt267.1 bt267.2.1 bt267.2.2.1).bind fun t271 => (if t271 = true then (some (bt267.1, bt267.2.1, bt267.2.2.1, 0, 0, bt267.2.2.2, true)) else (some (x251000, x251001, x251002, 0, 0, 0, false)))) else (some (x251000, x251001, x251002, 0, 0, 0, false)))) else (some (x251000, x251001, x251002, 0, 0, 0, false))))))
def impl_EventOn.f (k : Nat) (a0_0 : Int) (a0_1 : Int) (a0_2 : Int) (a1_0 : Int) (a1_1 : Int) : Option (Int × Int × Int × Int × Int × Int × Bool) := (impl_RackOk.f a0_0 a0_1 a0_2).bind fun t253 => (if t253 = true then ((impl_in.f a1_1 0 1000).bind fun t254 => (impl_EventOn.j0 k (!t254) a0_0 a0_1 a0_2 a1_0 a1_1)) else (impl_EventOn.j0 k true a0_0 a0_1 a0_2 a1_0 a1_1))
theorem impl_EventOn.mono_l : ∀ k, (∀ y0 y1 y2 y3 y4 y5, LeO (impl_EventOn.j0 k y0 y1 y2 y3 y4 y5) (impl_EventOn.j0 (k + 1) y0 y1 y2 y3 y4 y5))
 | 0 => fun _ _ _ _ _ _ r h => by simp [impl_EventOn.j0] at h
 | k + 1 => by
  have ih0 := impl_EventOn.mono_l k
  ·
   intro y0 y1 y2 y3 y4 y5
   unfold impl_EventOn.j0
   repeat' first
   | (with_reducible exact ih0 _ _ _ _ _ _)
   | (with_reducible exact LeO.refl _)
   | (with_reducible exact LeO.none _)
   | (with_reducible refine LeO.ite ?_ ?_)
   | (with_reducible refine LeO.bind ?_ (fun _ => ?_))
   | exact ih0 _ _ _ _ _ _
   | exact LeO.none _
   | refine LeO.ite ?_ ?_
   | refine LeO.bind ?_ (fun _ => ?_)
theorem impl_EventOn.mono : ∀ a0 a1 a2 a3 a4 k, LeO (impl_EventOn.f k a0 a1 a2 a3 a4) (impl_EventOn.f (k + 1) a0 a1 a2 a3 a4) := by
 intro a0 a1 a2 a3 a4 k
 have ih0 := impl_EventOn.mono_l k
 unfold impl_EventOn.f
 repeat' first
   | (with_reducible exact ih0 _ _ _ _ _ _)
   | (with_reducible exact LeO.refl _)
   | (with_reducible exact LeO.none _)
   | (with_reducible refine LeO.ite ?_ ?_)
   | (with_reducible refine LeO.bind ?_ (fun _ => ?_))
   | exact ih0 _ _ _ _ _ _
   | exact LeO.none _
   | refine LeO.ite ?_ ?_
   | refine LeO.bind ?_ (fun _ => ?_)
set_option maxHeartbeats 8000000 in
set_option maxRecDepth 100000 in
theorem impl_EventOn.calls (k : Nat) (a0_0 : Int) (a0_1 : Int) (a0_2 : Int) (a1_0 : Int) (a1_1 : Int) (r1 : Int) (r2 : Int) (r3 : Int) (r4 : Int) (r5 : Int) (r6 : Int) (r7 : Bool) (w : World) (h : impl_EventOn.f k a0_0 a0_1 a0_2 a1_0 a1_1 = some (r1, r2, r3, r4, r5, r6, r7)) :
  Calls Try.prog 96 #[.agg #[.int .i64 a0_0, .int .i64 a0_1, .int .i64 a0_2], .agg #[.int .i64 a1_0, .int .i64 a1_1]] w fun e w' => e = .returned (.tuple #[.agg #[.int .i64 r1, .int .i64 r2, .int .i64 r3], .int .i64 r4, .int .i64 r5, .int .i64 r6, .bool r7]) ∧ Below w.heap.size w w' := by
 have hu29 := Try.underlying29
 have hu41 := Try.underlying41
 have HB := Aside0.mk (Below.refl w.heap.size w)
 have H : ((impl_RackOk.f a0_0 a0_1 a0_2).bind fun t253 => (if t253 = true then ((impl_in.f a1_1 0 1000).bind fun t254 => (impl_EventOn.j0 k (!t254) a0_0 a0_1 a0_2 a1_0 a1_1)) else (impl_EventOn.j0 k true a0_0 a0_1 a0_2 a1_0 a1_1))) = some (r1, r2, r3, r4, r5, r6, r7) := h
 clear h
 have HC3 := Aside0.mk H
 clear H
 go_enter Try.func96, Try.ntmps96
 go_upto_region 1 with (first | ((with_reducible refine gate_dst (N := 2) rfl ?_); refine box_event ?hg (N := 2) ?hd (cs := #[.int .i64 a0_0, .int .i64 a0_1, .int .i64 a0_2]) (t := 29) ?hr ?_; (case hd => rfl); (case hg => rfl); (case hr => first | (go_simp; done) | (go_simp; rfl)); intro gb250 hg w4 hbox hb; have BK250 := Aside0.mk (hbox); have GW250 := sQ hg HB; have GE250 := sQ hg HB; replace HB := hbs HB hb; clear hb hbox hg) | ((with_reducible refine gate_dst (N := 3) rfl ?_); refine box_event ?hg (N := 3) ?hd (cs := #[.int .i64 a1_0, .int .i64 a1_1]) (t := 41) ?hr ?_; (case hd => rfl); (case hg => rfl); (case hr => first | (go_simp; done) | (go_simp; rfl)); intro gb251 hg w5 hbox hb; have BK251 := Aside0.mk (hbox); have GW251 := sQ hg HB; have GE251 := sQ hg HB; have NB250_251 := qL hg BK250; have NB251_250 := qG hg BK250; replace BK250 := bkb BK250 hb; replace HB := hbs HB hb; clear hb hbox hg) | ((with_reducible refine gate_dst (N := 4) rfl ?_); refine box_event ?hg (N := 4) ?hd (cs := #[.int .i64 0, .int .i64 0, .int .i64 0]) (t := 29) ?hr ?_; (case hd => rfl); (case hg => rfl); (case hr => first | (go_simp; done) | (go_simp; rfl)); intro gb252 hg w6 hbox hb; have BK252 := Aside0.mk (hbox); have GW252 := sQ hg HB; have GE252 := sQ hg HB; have NB250_252 := qL hg BK250; have NB252_250 := qG hg BK250; have NB251_252 := qL hg BK251; have NB252_251 := qG hg BK251; replace BK250 := bkb BK250 hb; replace BK251 := bkb BK251 hb; replace HB := hbs HB hb; clear hb hbox hg))
 (try simp only [Act.put, List.setIfInBounds_toArray, List.set_cons_zero, List.set_cons_succ])
 go_cut [22] (fun v22 wc => ∃ (kq : Nat) (x22_2 : Bool), v22 = .bool x22_2 ∧ Aside0 (impl_EventOn.j0 kq x22_2 a0_0 a0_1 a0_2 a1_0 a1_1 = some (r1, r2, r3, r4, r5, r6, r7)) ∧ Aside0 (kq ≤ k) ∧ Aside0 (wc.heap[gb250]? = some (.cells #[.int .i64 a0_0, .int .i64 a0_1, .int .i64 a0_2] 29 (0, 0))) ∧ Aside0 (wc.heap[gb251]? = some (.cells #[.int .i64 a1_0, .int .i64 a1_1] 41 (0, 0))) ∧ Aside0 (wc.heap[gb252]? = some (.cells #[.int .i64 0, .int .i64 0, .int .i64 0] 29 (0, 0))) ∧ Aside0 (Below w.heap.size w wc))
 case first =>
  have H := HC3.out
  clear HC3
  replace H := Option.bind_eq_some_iff.mp H
  obtain ⟨t253, A70, H⟩ := H
  replace H : (if t253 = true then ((impl_in.f a1_1 0 1000).bind fun t254 => (impl_EventOn.j0 k (!t254) a0_0 a0_1 a0_2 a1_0 a1_1)) else (impl_EventOn.j0 k true a0_0 a0_1 a0_2 a1_0 a1_1)) = some (r1, r2, r3, r4, r5, r6, r7) := H
  have A7 := Aside0.mk A70
  clear A70
  by_cases c8 : t253 = true
  ·
   subst c8
   have H1 : ((impl_in.f a1_1 0 1000).bind fun t254 => (impl_EventOn.j0 k (!t254) a0_0 a0_1 a0_2 a1_0 a1_1)) = some (r1, r2, r3, r4, r5, r6, r7) := by rw [if_pos rfl] at H; exact H
   clear H
   have H := H1
   clear H1
   replace H := Option.bind_eq_some_iff.mp H
   obtain ⟨t254, A90, H⟩ := H
   replace H : (impl_EventOn.j0 k (!t254) a0_0 a0_1 a0_2 a1_0 a1_1) = some (r1, r2, r3, r4, r5, r6, r7) := H
   have A9 := Aside0.mk A90
   clear A90
   have H' := Aside0.mk H
   clear H
   have hnb10 := NB250_251.out
   have hnc10 := NB251_250.out
   have hnb11 := NB250_252.out
   have hnc11 := NB252_250.out
   obtain ⟨hcz12_0, hcz12_1, hcz12_2, hfz12_0, hfz12_1, hfz12_2⟩ := bq3 BK250.out
   go_wp2_with (first | ((with_reducible refine gate_callee (f := 115) rfl ?_); refine gLq (some 15) Try.func115 #[.agg #[.int .i64 a0_0, .int .i64 a0_1, .int .i64 a0_2]] ?_; (with_reducible refine (impl_RackOk.calls a0_0 a0_1 a0_2 true _ A7.out).mono ?_); rintro e w13 ⟨rfl, hb⟩; refine ⟨_, rfl, ?_⟩; replace BK250 := bkb BK250 hb; replace BK251 := bkb BK251 hb; replace BK252 := bkb BK252 hb; replace HB := hbs HB hb; (try clear hb); (try clear hb2); (try clear hk); (try clear hi); have hnb14 := NB251_252.out; have hnc14 := NB252_251.out; obtain ⟨hcz15_0, hcz15_1, hfz15_0, hfz15_1⟩ := bq2 BK251.out) | (go_at_call 71; (with_reducible refine (impl_in.calls a1_1 0 1000 t254 _ A9.out).mono ?_); rintro e w' ⟨rfl, ⟨nd, rfl⟩⟩))
   go_meet
   case rel => exact ⟨_, (!t254), (by first | rfl | (simp; done) | (simp [*]; done)), H', ⟨by first | omega | exact Nat.le_refl _⟩, ⟨bkq BK250.out⟩, ⟨bkq BK251.out⟩, ⟨bkq BK252.out⟩, ⟨blq HB.out⟩⟩
  ·
   replace c8 := Bool.eq_false_iff.mpr c8
   subst c8
   have H1 : (impl_EventOn.j0 k true a0_0 a0_1 a0_2 a1_0 a1_1) = some (r1, r2, r3, r4, r5, r6, r7) := by rw [if_neg (show ¬ (false = true) by decide)] at H; exact H
   clear H
   have H := H1
   clear H1
   have H' := Aside0.mk H
   clear H
   have hnb16 := NB250_251.out
   have hnc16 := NB251_250.out
   have hnb17 := NB250_252.out
   have hnc17 := NB252_250.out
   obtain ⟨hcz18_0, hcz18_1, hcz18_2, hfz18_0, hfz18_1, hfz18_2⟩ := bq3 BK250.out
   go_wp2_with (first | ((with_reducible refine gate_callee (f := 115) rfl ?_); refine gLq (some 15) Try.func115 #[.agg #[.int .i64 a0_0, .int .i64 a0_1, .int .i64 a0_2]] ?_; (with_reducible refine (impl_RackOk.calls a0_0 a0_1 a0_2 false _ A7.out).mono ?_); rintro e w19 ⟨rfl, hb⟩; refine ⟨_, rfl, ?_⟩; replace BK250 := bkb BK250 hb; replace BK251 := bkb BK251 hb; replace BK252 := bkb BK252 hb; replace HB := hbs HB hb; (try clear hb); (try clear hb2); (try clear hk); (try clear hi)))
   go_meet
   case rel => exact ⟨_, (true), (by first | rfl | (simp; done) | (simp [*]; done)), H', ⟨by first | omega | exact Nat.le_refl _⟩, ⟨bkq BK250.out⟩, ⟨bkq BK251.out⟩, ⟨bkq BK252.out⟩, ⟨blq HB.out⟩⟩
 case rest =>
  clear HC3
  try clear c1
  try clear p2
  try clear c8
  try clear c9
  try clear c10
  try clear c11
  try clear c14
  try clear c16
  try clear c17
  try clear hcz12_0
  try clear hcz12_1
  try clear hcz12_2
  try clear hcz15_0
  try clear hcz15_1
  try clear hcz18_0
  try clear hcz18_1
  try clear hcz18_2
  try clear hfz12_0
  try clear hfz12_1
  try clear hfz12_2
  try clear hfz15_0
  try clear hfz15_1
  try clear hfz18_0
  try clear hfz18_1
  try clear hfz18_2
  obtain ⟨kq, x22_2, rfl, HA, HJ2, BK250, BK251, BK252, HB⟩ := hcut
  cases kq with
  | zero => exact absurd HA.out (by simp [impl_EventOn.j0])
  | succ kj2 =>
   have H := HA.out
   clear HA
   simp only [impl_EventOn.j0] at H
   by_cases c20 : x22_2 = true
   ·
    subst c20
    have H1 : (some (a0_0, a0_1, a0_2, 0, 0, 0, false)) = some (r1, r2, r3, r4, r5, r6, r7) := by rw [if_pos rfl] at H; exact H
    clear H
    have H := H1
    clear H1
    simp only [Option.some.injEq, Prod.mk.injEq] at H
    obtain ⟨rfl, rfl, rfl, rfl, rfl, rfl, rfl⟩ := H
    have hnb21 := NB250_251.out
    have hnc21 := NB251_250.out
    have hnb22 := NB250_252.out
    have hnc22 := NB252_250.out
    obtain ⟨hcz23_0, hcz23_1, hcz23_2, hfz23_0, hfz23_1, hfz23_2⟩ := bq3 BK250.out
    have hnb24 := NB252_251.out
    have hnc24 := NB251_252.out
    obtain ⟨hcz25_0, hcz25_1, hcz25_2, hfz25_0, hfz25_1, hfz25_2⟩ := bq3 BK252.out
    go_wp2
    refine bodyPost_ret (results_list (rs := [.cell 4 29, .tmp 5, .tmp 6, .tmp 7, .tmp 8]) rfl (by simp) (.cell gb252 29 #[.int .i64 a0_0, .int .i64 a0_1, .int .i64 a0_2] (0, 0) _ rfl (by (with_reducible repeat (first | refine blk_drewN ?_ _ | refine blk_drew ?_ | refine blk_alloc ?_ _)); refine blk_put (cs := #[.int .i64 a0_0, .int .i64 a0_1, .int .i64 0]) ?_ 2 _ rfl; (with_reducible repeat (first | refine blk_drewN ?_ _ | refine blk_drew ?_ | refine blk_alloc ?_ _)); refine blk_put (cs := #[.int .i64 a0_0, .int .i64 0, .int .i64 0]) ?_ 1 _ rfl; (with_reducible repeat (first | refine blk_drewN ?_ _ | refine blk_drew ?_ | refine blk_alloc ?_ _)); refine blk_put (cs := #[.int .i64 0, .int .i64 0, .int .i64 0]) ?_ 0 _ rfl; (with_reducible repeat (first | refine blk_drewN ?_ _ | refine blk_drew ?_ | refine blk_alloc ?_ _)); exact BK252.out) Try.underlying29 rfl (by kernel_rfl) (.tmp (.tmp (.tmp (.tmp .nil)))))) rfl ?_
    exact ⟨by first | rfl | (simp [errW_none, errW_some] <;> rfl) | (simp [*, errW_none, errW_some] <;> rfl), blq HB.out⟩
   ·
    replace c20 := Bool.eq_false_iff.mpr c20
    subst c20
    have H1 : (if a1_0 = 1 then ((impl_RackOk.f (wrap64 (a0_0 + a1_1)) a0_1 a0_2).bind fun t256 => (if t256 = true then (some (wrap64 (a0_0 + a1_1), a0_1, a0_2, a1_1, 0, 0, true)) else (some (a0_0, a0_1, a0_2, 0, 0, 0, false)))) else (if a1_0 = 2 then ((impl_SellFresh.f a0_0 a0_1 a0_2 a1_1).bind fun bt257 => (if bt257.2.2.2 = a1_1 then ((impl_RackOk.f bt257.1 bt257.2.1 bt257.2.2.1).bind fun t261 => (if t261 = true then (some (bt257.1, bt257.2.1, bt257.2.2.1, 0, bt257.2.2.2, 0, true)) else (some (a0_0, a0_1, a0_2, 0, 0, 0, false)))) else (some (a0_0, a0_1, a0_2, 0, 0, 0, false)))) else (if a1_0 = 3 then ((impl_SellCheap.f a0_0 a0_1 a0_2 a1_1).bind fun bt262 => (if bt262.2.2.2 = a1_1 then ((impl_RackOk.f bt262.1 bt262.2.1 bt262.2.2.1).bind fun t266 => (if t266 = true then (some (bt262.1, bt262.2.1, bt262.2.2.1, 0, bt262.2.2.2, 0, true)) else (some (a0_0, a0_1, a0_2, 0, 0, 0, false)))) else (some (a0_0, a0_1, a0_2, 0, 0, 0, false)))) else (if a1_0 = 4 then ((impl_NextMorning.f a0_0 a0_1 a0_2 0).bind fun bt267 => (if a1_1 = 0 then ((impl_RackOk.f bt267.1 bt267.2.1 bt267.2.2.1).bind fun t271 => (if t271 = true then (some (bt267.1, bt267.2.1, bt267.2.2.1, 0, 0, bt267.2.2.2, true)) else (some (a0_0, a0_1, a0_2, 0, 0, 0, false)))) else (some (a0_0, a0_1, a0_2, 0, 0, 0, false)))) else (some (a0_0, a0_1, a0_2, 0, 0, 0, false)))))) = some (r1, r2, r3, r4, r5, r6, r7) := by rw [if_neg (show ¬ (false = true) by decide)] at H; exact H
    clear H
    have H := H1
    clear H1
    have HF26 := Aside0.mk H
    clear H
    have hnb27 := NB250_251.out
    have hnc27 := NB251_250.out
    have hnb28 := NB250_252.out
    have hnc28 := NB252_250.out
    obtain ⟨hcz29_0, hcz29_1, hcz29_2, hfz29_0, hfz29_1, hfz29_2⟩ := bq3 BK250.out
    go_upto_if 27 with (first | ((with_reducible refine gate_dst (N := 9) rfl ?_); refine box_event ?hg (N := 9) ?hd (cs := #[.int .i64 0, .int .i64 0, .int .i64 0]) (t := 29) ?hr ?_; (case hd => rfl); (case hg => rfl); (case hr => first | (go_simp; done) | (go_simp; rfl)); intro gb255 hg w30 hbox hb; have BK255 := Aside0.mk (hbox); have GW255 := sQ hg HB; have GE255 := sQ hg HB; have NB250_255 := qL hg BK250; have NB255_250 := qG hg BK250; have NB251_255 := qL hg BK251; have NB255_251 := qG hg BK251; have NB252_255 := qL hg BK252; have NB255_252 := qG hg BK252; replace BK250 := bkb BK250 hb; replace BK251 := bkb BK251 hb; replace BK252 := bkb BK252 hb; replace HB := hbs HB hb; clear hb hbox hg; have hnb31 := NB255_250.out; have hnc31 := NB250_255.out; have hnb32 := NB255_251.out; have hnc32 := NB251_255.out; have hnb33 := NB255_252.out; have hnc33 := NB252_255.out; obtain ⟨hcz34_0, hcz34_1, hcz34_2, hfz34_0, hfz34_1, hfz34_2⟩ := bq3 BK255.out; have hnb35 := NB251_252.out; have hnc35 := NB252_251.out; obtain ⟨hcz36_0, hcz36_1, hfz36_0, hfz36_1⟩ := bq2 BK251.out))
    have H := HF26.out
    clear HF26
    by_cases c37 : a1_0 = 1
    ·
     rw [if_pos c37] at H
     have c37b0 : (a1_0 == 1) = true := beq_iff_eq.mpr c37
     have c37b1 : (a1_0 != 1) = false := bne_eq_false_iff_eq.mpr c37
     clear c37
     (first | rw [c37b0] | (simp only [i64_w, i32_w]; rw [c37b0]) | skip)
     replace H := Option.bind_eq_some_iff.mp H
     obtain ⟨t256, A380, H⟩ := H
     replace H : (if t256 = true then (some (wrap64 (a0_0 + a1_1), a0_1, a0_2, a1_1, 0, 0, true)) else (some (a0_0, a0_1, a0_2, 0, 0, 0, false))) = some (r1, r2, r3, r4, r5, r6, r7) := H
     have A38 := Aside0.mk A380
     clear A380
     have HF39 := Aside0.mk H
     clear H
     have hnb40 := NB255_250.out
     have hnc40 := NB250_255.out
     have hnb41 := NB255_251.out
     have hnc41 := NB251_255.out
     have hnb42 := NB255_252.out
     have hnc42 := NB252_255.out
     obtain ⟨hcz43_0, hcz43_1, hcz43_2, hfz43_0, hfz43_1, hfz43_2⟩ := bq3 BK255.out
     have hnb44 := NB251_250.out
     have hnc44 := NB250_251.out
     have hnb45 := NB251_252.out
     have hnc45 := NB252_251.out
     obtain ⟨hcz46_0, hcz46_1, hfz46_0, hfz46_1⟩ := bq2 BK251.out
     go_upto_if 79 with (first | (go_at_call 115; (with_reducible refine (impl_RackOk.calls (wrap64 (a0_0 + a1_1)) a0_1 a0_2 t256 _ A38.out).mono ?_); rintro e w47 ⟨rfl, hb⟩; replace BK250 := Aside0.mk (blk_below (g := gb250) (o := .cells #[.int .i64 a0_0, .int .i64 a0_1, .int .i64 a0_2] 29 (0, 0)) (by (with_reducible repeat (first | refine blk_drewN ?_ _ | refine blk_drew ?_ | refine blk_alloc ?_ _)); refine blk_far ?_ NB250_255.out _; (with_reducible repeat (first | refine blk_drewN ?_ _ | refine blk_drew ?_ | refine blk_alloc ?_ _)); refine blk_far ?_ NB250_255.out _; (with_reducible repeat (first | refine blk_drewN ?_ _ | refine blk_drew ?_ | refine blk_alloc ?_ _)); refine blk_far ?_ NB250_255.out _; (with_reducible repeat (first | refine blk_drewN ?_ _ | refine blk_drew ?_ | refine blk_alloc ?_ _)); refine blk_far ?_ NB250_255.out _; (with_reducible repeat (first | refine blk_drewN ?_ _ | refine blk_drew ?_ | refine blk_alloc ?_ _)); exact BK250.out) hb); replace BK251 := Aside0.mk (blk_below (g := gb251) (o := .cells #[.int .i64 a1_0, .int .i64 a1_1] 41 (0, 0)) (by (with_reducible repeat (first | refine blk_drewN ?_ _ | refine blk_drew ?_ | refine blk_alloc ?_ _)); refine blk_far ?_ NB251_255.out _; (with_reducible repeat (first | refine blk_drewN ?_ _ | refine blk_drew ?_ | refine blk_alloc ?_ _)); refine blk_far ?_ NB251_255.out _; (with_reducible repeat (first | refine blk_drewN ?_ _ | refine blk_drew ?_ | refine blk_alloc ?_ _)); refine blk_far ?_ NB251_255.out _; (with_reducible repeat (first | refine blk_drewN ?_ _ | refine blk_drew ?_ | refine blk_alloc ?_ _)); refine blk_far ?_ NB251_255.out _; (with_reducible repeat (first | refine blk_drewN ?_ _ | refine blk_drew ?_ | refine blk_alloc ?_ _)); exact BK251.out) hb); replace BK252 := Aside0.mk (blk_below (g := gb252) (o := .cells #[.int .i64 0, .int .i64 0, .int .i64 0] 29 (0, 0)) (by (with_reducible repeat (first | refine blk_drewN ?_ _ | refine blk_drew ?_ | refine blk_alloc ?_ _)); refine blk_far ?_ NB252_255.out _; (with_reducible repeat (first | refine blk_drewN ?_ _ | refine blk_drew ?_ | refine blk_alloc ?_ _)); refine blk_far ?_ NB252_255.out _; (with_reducible repeat (first | refine blk_drewN ?_ _ | refine blk_drew ?_ | refine blk_alloc ?_ _)); refine blk_far ?_ NB252_255.out _; (with_reducible repeat (first | refine blk_drewN ?_ _ | refine blk_drew ?_ | refine blk_alloc ?_ _)); refine blk_far ?_ NB252_255.out _; (with_reducible repeat (first | refine blk_drewN ?_ _ | refine blk_drew ?_ | refine blk_alloc ?_ _)); exact BK252.out) hb); replace BK255 := Aside0.mk (blk_below (g := gb255) (o := .cells #[.int .i64 (wrap64 (a0_0 + a1_1)), .int .i64 a0_1, .int .i64 a0_2] 29 (0, 0)) (by (with_reducible repeat (first | refine blk_drewN ?_ _ | refine blk_drew ?_ | refine blk_alloc ?_ _)); refine blk_put (cs := #[.int .i64 a0_0, .int .i64 a0_1, .int .i64 a0_2]) ?_ 0 _ rfl; (with_reducible repeat (first | refine blk_drewN ?_ _ | refine blk_drew ?_ | refine blk_alloc ?_ _)); refine blk_put (cs := #[.int .i64 a0_0, .int .i64 a0_1, .int .i64 0]) ?_ 2 _ rfl; (with_reducible repeat (first | refine blk_drewN ?_ _ | refine blk_drew ?_ | refine blk_alloc ?_ _)); refine blk_put (cs := #[.int .i64 a0_0, .int .i64 0, .int .i64 0]) ?_ 1 _ rfl; (with_reducible repeat (first | refine blk_drewN ?_ _ | refine blk_drew ?_ | refine blk_alloc ?_ _)); refine blk_put (cs := #[.int .i64 0, .int .i64 0, .int .i64 0]) ?_ 0 _ rfl; (with_reducible repeat (first | refine blk_drewN ?_ _ | refine blk_drew ?_ | refine blk_alloc ?_ _)); exact BK255.out) hb); replace HB := hbs HB hb; (try clear hb); (try clear hb2); (try clear hk); (try clear hi)))
     have H := HF39.out
     clear HF39
     by_cases c48 : t256 = true
     ·
      subst c48
      have H1 : (some (wrap64 (a0_0 + a1_1), a0_1, a0_2, a1_1, 0, 0, true)) = some (r1, r2, r3, r4, r5, r6, r7) := by rw [if_pos rfl] at H; exact H
      clear H
      have H := H1
      clear H1
      simp only [Option.some.injEq, Prod.mk.injEq] at H
      obtain ⟨rfl, rfl, rfl, rfl, rfl, rfl, rfl⟩ := H
      have hnb49 := NB255_250.out
      have hnc49 := NB250_255.out
      have hnb50 := NB255_251.out
      have hnc50 := NB251_255.out
      have hnb51 := NB255_252.out
      have hnc51 := NB252_255.out
      obtain ⟨hcz52_0, hcz52_1, hcz52_2, hfz52_0, hfz52_1, hfz52_2⟩ := bq3 BK255.out
      have hnb53 := NB252_250.out
      have hnc53 := NB250_252.out
      have hnb54 := NB252_251.out
      have hnc54 := NB251_252.out
      obtain ⟨hcz55_0, hcz55_1, hcz55_2, hfz55_0, hfz55_1, hfz55_2⟩ := bq3 BK252.out
      go_wp2
      refine bodyPost_ret (results_list (rs := [.cell 4 29, .tmp 5, .tmp 6, .tmp 7, .tmp 8]) rfl (by simp) (.cell gb252 29 #[.int .i64 (wrap64 (a0_0 + a1_1)), .int .i64 a0_1, .int .i64 a0_2] (0, 0) _ rfl (by (with_reducible repeat (first | refine blk_drewN ?_ _ | refine blk_drew ?_ | refine blk_alloc ?_ _)); refine blk_put (cs := #[.int .i64 (wrap64 (a0_0 + a1_1)), .int .i64 a0_1, .int .i64 0]) ?_ 2 _ rfl; (with_reducible repeat (first | refine blk_drewN ?_ _ | refine blk_drew ?_ | refine blk_alloc ?_ _)); refine blk_put (cs := #[.int .i64 (wrap64 (a0_0 + a1_1)), .int .i64 0, .int .i64 0]) ?_ 1 _ rfl; (with_reducible repeat (first | refine blk_drewN ?_ _ | refine blk_drew ?_ | refine blk_alloc ?_ _)); refine blk_put (cs := #[.int .i64 0, .int .i64 0, .int .i64 0]) ?_ 0 _ rfl; (with_reducible repeat (first | refine blk_drewN ?_ _ | refine blk_drew ?_ | refine blk_alloc ?_ _)); exact BK252.out) Try.underlying29 rfl (by kernel_rfl) (.tmp (.tmp (.tmp (.tmp .nil)))))) rfl ?_
      exact ⟨by first | rfl | (simp [errW_none, errW_some] <;> rfl) | (simp [*, errW_none, errW_some] <;> rfl), blq HB.out⟩
     ·
      replace c48 := Bool.eq_false_iff.mpr c48
      subst c48
      have H1 : (some (a0_0, a0_1, a0_2, 0, 0, 0, false)) = some (r1, r2, r3, r4, r5, r6, r7) := by rw [if_neg (show ¬ (false = true) by decide)] at H; exact H
      clear H
      have H := H1
      clear H1
      simp only [Option.some.injEq, Prod.mk.injEq] at H
      obtain ⟨rfl, rfl, rfl, rfl, rfl, rfl, rfl⟩ := H
      have hnb56 := NB250_251.out
      have hnc56 := NB251_250.out
      have hnb57 := NB250_252.out
      have hnc57 := NB252_250.out
      have hnb58 := NB250_255.out
      have hnc58 := NB255_250.out
      obtain ⟨hcz59_0, hcz59_1, hcz59_2, hfz59_0, hfz59_1, hfz59_2⟩ := bq3 BK250.out
      have hnb60 := NB252_251.out
      have hnc60 := NB251_252.out
      have hnb61 := NB252_255.out
      have hnc61 := NB255_252.out
      obtain ⟨hcz62_0, hcz62_1, hcz62_2, hfz62_0, hfz62_1, hfz62_2⟩ := bq3 BK252.out
      go_wp2
      refine bodyPost_ret (results_list (rs := [.cell 4 29, .tmp 5, .tmp 6, .tmp 7, .tmp 8]) rfl (by simp) (.cell gb252 29 #[.int .i64 a0_0, .int .i64 a0_1, .int .i64 a0_2] (0, 0) _ rfl (by (with_reducible repeat (first | refine blk_drewN ?_ _ | refine blk_drew ?_ | refine blk_alloc ?_ _)); refine blk_put (cs := #[.int .i64 a0_0, .int .i64 a0_1, .int .i64 0]) ?_ 2 _ rfl; (with_reducible repeat (first | refine blk_drewN ?_ _ | refine blk_drew ?_ | refine blk_alloc ?_ _)); refine blk_put (cs := #[.int .i64 a0_0, .int .i64 0, .int .i64 0]) ?_ 1 _ rfl; (with_reducible repeat (first | refine blk_drewN ?_ _ | refine blk_drew ?_ | refine blk_alloc ?_ _)); refine blk_put (cs := #[.int .i64 0, .int .i64 0, .int .i64 0]) ?_ 0 _ rfl; (with_reducible repeat (first | refine blk_drewN ?_ _ | refine blk_drew ?_ | refine blk_alloc ?_ _)); exact BK252.out) Try.underlying29 rfl (by kernel_rfl) (.tmp (.tmp (.tmp (.tmp .nil)))))) rfl ?_
      exact ⟨by first | rfl | (simp [errW_none, errW_some] <;> rfl) | (simp [*, errW_none, errW_some] <;> rfl), blq HB.out⟩
    ·
     rw [if_neg c37] at H
     have c37b0 : (a1_0 == 1) = false := beq_eq_false_iff_ne.mpr c37
     have c37b1 : (a1_0 != 1) = true := bne_iff_ne.mpr c37
     (first | rw [c37b0] | (simp only [i64_w, i32_w]; rw [c37b0]) | skip)
     by_cases c63 : a1_0 = 2
     ·
      rw [if_pos c63] at H
      have c63b0 : (a1_0 == 2) = true := beq_iff_eq.mpr c63
      have c63b1 : (a1_0 != 2) = false := bne_eq_false_iff_eq.mpr c63
      clear c63
      replace H := Option.bind_eq_some_iff.mp H
      obtain ⟨⟨t257, t258, t259, t260⟩, A640, H⟩ := H
      replace H : (if t260 = a1_1 then ((impl_RackOk.f t257 t258 t259).bind fun t261 => (if t261 = true then (some (t257, t258, t259, 0, t260, 0, true)) else (some (a0_0, a0_1, a0_2, 0, 0, 0, false)))) else (some (a0_0, a0_1, a0_2, 0, 0, 0, false))) = some (r1, r2, r3, r4, r5, r6, r7) := H
      have A64 := Aside0.mk A640
      clear A640
      have HF65 := Aside0.mk H
      clear H
      have hnb66 := NB250_251.out
      have hnc66 := NB251_250.out
      have hnb67 := NB250_252.out
      have hnc67 := NB252_250.out
      have hnb68 := NB250_255.out
      have hnc68 := NB255_250.out
      obtain ⟨hcz69_0, hcz69_1, hcz69_2, hfz69_0, hfz69_1, hfz69_2⟩ := bq3 BK250.out
      have hnb70 := NB251_252.out
      have hnc70 := NB252_251.out
      have hnb71 := NB251_255.out
      have hnc71 := NB255_251.out
      obtain ⟨hcz72_0, hcz72_1, hfz72_0, hfz72_1⟩ := bq2 BK251.out
      go_upto_region 18 with (first | ((with_reducible refine gate_callee (f := 116) rfl ?_); refine gLq (some 43) Try.func116 #[.agg #[.int .i64 a0_0, .int .i64 a0_1, .int .i64 a0_2], .int .i64 a1_1] ?_; (with_reducible refine (impl_SellFresh.calls a0_0 a0_1 a0_2 a1_1 t257 t258 t259 t260 _ A64.out).mono ?_); rintro e w73 ⟨rfl, hb⟩; refine ⟨_, rfl, ?_⟩; replace BK250 := Aside0.mk (blk_below (g := gb250) (o := .cells #[.int .i64 a0_0, .int .i64 a0_1, .int .i64 a0_2] 29 (0, 0)) (by (with_reducible repeat (first | refine blk_drewN ?_ _ | refine blk_drew ?_ | refine blk_alloc ?_ _)); refine blk_far ?_ NB250_255.out _; (with_reducible repeat (first | refine blk_drewN ?_ _ | refine blk_drew ?_ | refine blk_alloc ?_ _)); refine blk_far ?_ NB250_255.out _; (with_reducible repeat (first | refine blk_drewN ?_ _ | refine blk_drew ?_ | refine blk_alloc ?_ _)); refine blk_far ?_ NB250_255.out _; (with_reducible repeat (first | refine blk_drewN ?_ _ | refine blk_drew ?_ | refine blk_alloc ?_ _)); exact BK250.out) hb); replace BK251 := Aside0.mk (blk_below (g := gb251) (o := .cells #[.int .i64 a1_0, .int .i64 a1_1] 41 (0, 0)) (by (with_reducible repeat (first | refine blk_drewN ?_ _ | refine blk_drew ?_ | refine blk_alloc ?_ _)); refine blk_far ?_ NB251_255.out _; (with_reducible repeat (first | refine blk_drewN ?_ _ | refine blk_drew ?_ | refine blk_alloc ?_ _)); refine blk_far ?_ NB251_255.out _; (with_reducible repeat (first | refine blk_drewN ?_ _ | refine blk_drew ?_ | refine blk_alloc ?_ _)); refine blk_far ?_ NB251_255.out _; (with_reducible repeat (first | refine blk_drewN ?_ _ | refine blk_drew ?_ | refine blk_alloc ?_ _)); exact BK251.out) hb); replace BK252 := Aside0.mk (blk_below (g := gb252) (o := .cells #[.int .i64 0, .int .i64 0, .int .i64 0] 29 (0, 0)) (by (with_reducible repeat (first | refine blk_drewN ?_ _ | refine blk_drew ?_ | refine blk_alloc ?_ _)); refine blk_far ?_ NB252_255.out _; (with_reducible repeat (first | refine blk_drewN ?_ _ | refine blk_drew ?_ | refine blk_alloc ?_ _)); refine blk_far ?_ NB252_255.out _; (with_reducible repeat (first | refine blk_drewN ?_ _ | refine blk_drew ?_ | refine blk_alloc ?_ _)); refine blk_far ?_ NB252_255.out _; (with_reducible repeat (first | refine blk_drewN ?_ _ | refine blk_drew ?_ | refine blk_alloc ?_ _)); exact BK252.out) hb); replace BK255 := Aside0.mk (blk_below (g := gb255) (o := .cells #[.int .i64 a0_0, .int .i64 a0_1, .int .i64 a0_2] 29 (0, 0)) (by (with_reducible repeat (first | refine blk_drewN ?_ _ | refine blk_drew ?_ | refine blk_alloc ?_ _)); refine blk_put (cs := #[.int .i64 a0_0, .int .i64 a0_1, .int .i64 0]) ?_ 2 _ rfl; (with_reducible repeat (first | refine blk_drewN ?_ _ | refine blk_drew ?_ | refine blk_alloc ?_ _)); refine blk_put (cs := #[.int .i64 a0_0, .int .i64 0, .int .i64 0]) ?_ 1 _ rfl; (with_reducible repeat (first | refine blk_drewN ?_ _ | refine blk_drew ?_ | refine blk_alloc ?_ _)); refine blk_put (cs := #[.int .i64 0, .int .i64 0, .int .i64 0]) ?_ 0 _ rfl; (with_reducible repeat (first | refine blk_drewN ?_ _ | refine blk_drew ?_ | refine blk_alloc ?_ _)); exact BK255.out) hb); replace HB := hbs HB hb; (try clear hb); (try clear hb2); (try clear hk); (try clear hi); have hnb74 := NB255_252.out; have hnc74 := NB252_255.out; obtain ⟨hcz75_0, hcz75_1, hcz75_2, hfz75_0, hfz75_1, hfz75_2⟩ := bq3 BK255.out; obtain ⟨hcz76_0, hcz76_1, hfz76_0, hfz76_1⟩ := bq2 BK251.out))
      have H := HF65.out
      clear HF65
      by_cases c77 : t260 = a1_1
      ·
       rw [if_pos c77] at H
       have c77b0 : (t260 == a1_1) = true := beq_iff_eq.mpr c77
       have c77b1 : (t260 != a1_1) = false := bne_eq_false_iff_eq.mpr c77
       clear c77
       (first | rw [c77b0] | (simp only [i64_w, i32_w]; rw [c77b0]) | skip)
       replace H := Option.bind_eq_some_iff.mp H
       obtain ⟨t261, A780, H⟩ := H
       replace H : (if t261 = true then (some (t257, t258, t259, 0, t260, 0, true)) else (some (a0_0, a0_1, a0_2, 0, 0, 0, false))) = some (r1, r2, r3, r4, r5, r6, r7) := H
       have A78 := Aside0.mk A780
       clear A780
       have HF79 := Aside0.mk H
       clear H
       have hnb80 := NB255_250.out
       have hnc80 := NB250_255.out
       have hnb81 := NB255_251.out
       have hnc81 := NB251_255.out
       have hnb82 := NB255_252.out
       have hnc82 := NB252_255.out
       obtain ⟨hcz83_0, hcz83_1, hcz83_2, hfz83_0, hfz83_1, hfz83_2⟩ := bq3 BK255.out
       go_upto_if 79 with (first | (go_at_call 115; (with_reducible refine (impl_RackOk.calls t257 t258 t259 t261 _ A78.out).mono ?_); rintro e w84 ⟨rfl, hb⟩; replace BK250 := Aside0.mk (blk_below (g := gb250) (o := .cells #[.int .i64 a0_0, .int .i64 a0_1, .int .i64 a0_2] 29 (0, 0)) (by (with_reducible repeat (first | refine blk_drewN ?_ _ | refine blk_drew ?_ | refine blk_alloc ?_ _)); refine blk_far ?_ NB250_255.out _; (with_reducible repeat (first | refine blk_drewN ?_ _ | refine blk_drew ?_ | refine blk_alloc ?_ _)); refine blk_far ?_ NB250_255.out _; (with_reducible repeat (first | refine blk_drewN ?_ _ | refine blk_drew ?_ | refine blk_alloc ?_ _)); refine blk_far ?_ NB250_255.out _; (with_reducible repeat (first | refine blk_drewN ?_ _ | refine blk_drew ?_ | refine blk_alloc ?_ _)); exact BK250.out) hb); replace BK251 := Aside0.mk (blk_below (g := gb251) (o := .cells #[.int .i64 a1_0, .int .i64 a1_1] 41 (0, 0)) (by (with_reducible repeat (first | refine blk_drewN ?_ _ | refine blk_drew ?_ | refine blk_alloc ?_ _)); refine blk_far ?_ NB251_255.out _; (with_reducible repeat (first | refine blk_drewN ?_ _ | refine blk_drew ?_ | refine blk_alloc ?_ _)); refine blk_far ?_ NB251_255.out _; (with_reducible repeat (first | refine blk_drewN ?_ _ | refine blk_drew ?_ | refine blk_alloc ?_ _)); refine blk_far ?_ NB251_255.out _; (with_reducible repeat (first | refine blk_drewN ?_ _ | refine blk_drew ?_ | refine blk_alloc ?_ _)); exact BK251.out) hb); replace BK252 := Aside0.mk (blk_below (g := gb252) (o := .cells #[.int .i64 0, .int .i64 0, .int .i64 0] 29 (0, 0)) (by (with_reducible repeat (first | refine blk_drewN ?_ _ | refine blk_drew ?_ | refine blk_alloc ?_ _)); refine blk_far ?_ NB252_255.out _; (with_reducible repeat (first | refine blk_drewN ?_ _ | refine blk_drew ?_ | refine blk_alloc ?_ _)); refine blk_far ?_ NB252_255.out _; (with_reducible repeat (first | refine blk_drewN ?_ _ | refine blk_drew ?_ | refine blk_alloc ?_ _)); refine blk_far ?_ NB252_255.out _; (with_reducible repeat (first | refine blk_drewN ?_ _ | refine blk_drew ?_ | refine blk_alloc ?_ _)); exact BK252.out) hb); replace BK255 := Aside0.mk (blk_below (g := gb255) (o := .cells #[.int .i64 t257, .int .i64 t258, .int .i64 t259] 29 (0, 0)) (by (with_reducible repeat (first | refine blk_drewN ?_ _ | refine blk_drew ?_ | refine blk_alloc ?_ _)); refine blk_put (cs := #[.int .i64 t257, .int .i64 t258, .int .i64 a0_2]) ?_ 2 _ rfl; (with_reducible repeat (first | refine blk_drewN ?_ _ | refine blk_drew ?_ | refine blk_alloc ?_ _)); refine blk_put (cs := #[.int .i64 t257, .int .i64 a0_1, .int .i64 a0_2]) ?_ 1 _ rfl; (with_reducible repeat (first | refine blk_drewN ?_ _ | refine blk_drew ?_ | refine blk_alloc ?_ _)); refine blk_put (cs := #[.int .i64 a0_0, .int .i64 a0_1, .int .i64 a0_2]) ?_ 0 _ rfl; (with_reducible repeat (first | refine blk_drewN ?_ _ | refine blk_drew ?_ | refine blk_alloc ?_ _)); exact BK255.out) hb); replace HB := hbs HB hb; (try clear hb); (try clear hb2); (try clear hk); (try clear hi)))
       have H := HF79.out
       clear HF79
       by_cases c85 : t261 = true
       ·
        subst c85
        have H1 : (some (t257, t258, t259, 0, t260, 0, true)) = some (r1, r2, r3, r4, r5, r6, r7) := by rw [if_pos rfl] at H; exact H
        clear H
        have H := H1
        clear H1
        simp only [Option.some.injEq, Prod.mk.injEq] at H
        obtain ⟨rfl, rfl, rfl, rfl, rfl, rfl, rfl⟩ := H
        have hnb86 := NB255_250.out
        have hnc86 := NB250_255.out
        have hnb87 := NB255_251.out
        have hnc87 := NB251_255.out
        have hnb88 := NB255_252.out
        have hnc88 := NB252_255.out
        obtain ⟨hcz89_0, hcz89_1, hcz89_2, hfz89_0, hfz89_1, hfz89_2⟩ := bq3 BK255.out
        have hnb90 := NB252_250.out
        have hnc90 := NB250_252.out
        have hnb91 := NB252_251.out
        have hnc91 := NB251_252.out
        obtain ⟨hcz92_0, hcz92_1, hcz92_2, hfz92_0, hfz92_1, hfz92_2⟩ := bq3 BK252.out
        go_wp2
        refine bodyPost_ret (results_list (rs := [.cell 4 29, .tmp 5, .tmp 6, .tmp 7, .tmp 8]) rfl (by simp) (.cell gb252 29 #[.int .i64 t257, .int .i64 t258, .int .i64 t259] (0, 0) _ rfl (by (with_reducible repeat (first | refine blk_drewN ?_ _ | refine blk_drew ?_ | refine blk_alloc ?_ _)); refine blk_put (cs := #[.int .i64 t257, .int .i64 t258, .int .i64 0]) ?_ 2 _ rfl; (with_reducible repeat (first | refine blk_drewN ?_ _ | refine blk_drew ?_ | refine blk_alloc ?_ _)); refine blk_put (cs := #[.int .i64 t257, .int .i64 0, .int .i64 0]) ?_ 1 _ rfl; (with_reducible repeat (first | refine blk_drewN ?_ _ | refine blk_drew ?_ | refine blk_alloc ?_ _)); refine blk_put (cs := #[.int .i64 0, .int .i64 0, .int .i64 0]) ?_ 0 _ rfl; (with_reducible repeat (first | refine blk_drewN ?_ _ | refine blk_drew ?_ | refine blk_alloc ?_ _)); exact BK252.out) Try.underlying29 rfl (by kernel_rfl) (.tmp (.tmp (.tmp (.tmp .nil)))))) rfl ?_
        exact ⟨by first | rfl | (simp [errW_none, errW_some] <;> rfl) | (simp [*, errW_none, errW_some] <;> rfl), blq HB.out⟩
       ·
        replace c85 := Bool.eq_false_iff.mpr c85
        subst c85
        have H1 : (some (a0_0, a0_1, a0_2, 0, 0, 0, false)) = some (r1, r2, r3, r4, r5, r6, r7) := by rw [if_neg (show ¬ (false = true) by decide)] at H; exact H
        clear H
        have H := H1
        clear H1
        simp only [Option.some.injEq, Prod.mk.injEq] at H
        obtain ⟨rfl, rfl, rfl, rfl, rfl, rfl, rfl⟩ := H
        have hnb93 := NB250_251.out
        have hnc93 := NB251_250.out
        have hnb94 := NB250_252.out
        have hnc94 := NB252_250.out
        have hnb95 := NB250_255.out
        have hnc95 := NB255_250.out
        obtain ⟨hcz96_0, hcz96_1, hcz96_2, hfz96_0, hfz96_1, hfz96_2⟩ := bq3 BK250.out
        have hnb97 := NB252_251.out
        have hnc97 := NB251_252.out
        have hnb98 := NB252_255.out
        have hnc98 := NB255_252.out
        obtain ⟨hcz99_0, hcz99_1, hcz99_2, hfz99_0, hfz99_1, hfz99_2⟩ := bq3 BK252.out
        go_wp2
        refine bodyPost_ret (results_list (rs := [.cell 4 29, .tmp 5, .tmp 6, .tmp 7, .tmp 8]) rfl (by simp) (.cell gb252 29 #[.int .i64 a0_0, .int .i64 a0_1, .int .i64 a0_2] (0, 0) _ rfl (by (with_reducible repeat (first | refine blk_drewN ?_ _ | refine blk_drew ?_ | refine blk_alloc ?_ _)); refine blk_put (cs := #[.int .i64 a0_0, .int .i64 a0_1, .int .i64 0]) ?_ 2 _ rfl; (with_reducible repeat (first | refine blk_drewN ?_ _ | refine blk_drew ?_ | refine blk_alloc ?_ _)); refine blk_put (cs := #[.int .i64 a0_0, .int .i64 0, .int .i64 0]) ?_ 1 _ rfl; (with_reducible repeat (first | refine blk_drewN ?_ _ | refine blk_drew ?_ | refine blk_alloc ?_ _)); refine blk_put (cs := #[.int .i64 0, .int .i64 0, .int .i64 0]) ?_ 0 _ rfl; (with_reducible repeat (first | refine blk_drewN ?_ _ | refine blk_drew ?_ | refine blk_alloc ?_ _)); exact BK252.out) Try.underlying29 rfl (by kernel_rfl) (.tmp (.tmp (.tmp (.tmp .nil)))))) rfl ?_
        exact ⟨by first | rfl | (simp [errW_none, errW_some] <;> rfl) | (simp [*, errW_none, errW_some] <;> rfl), blq HB.out⟩
      ·
       rw [if_neg c77] at H
       have c77b0 : (t260 == a1_1) = false := beq_eq_false_iff_ne.mpr c77
       have c77b1 : (t260 != a1_1) = true := bne_iff_ne.mpr c77
       (first | rw [c77b0] | (simp only [i64_w, i32_w]; rw [c77b0]) | skip)
       simp only [Option.some.injEq, Prod.mk.injEq] at H
       obtain ⟨rfl, rfl, rfl, rfl, rfl, rfl, rfl⟩ := H
       have hnb100 := NB250_251.out
       have hnc100 := NB251_250.out
       have hnb101 := NB250_252.out
       have hnc101 := NB252_250.out
       have hnb102 := NB250_255.out
       have hnc102 := NB255_250.out
       obtain ⟨hcz103_0, hcz103_1, hcz103_2, hfz103_0, hfz103_1, hfz103_2⟩ := bq3 BK250.out
       have hnb104 := NB252_251.out
       have hnc104 := NB251_252.out
       have hnb105 := NB252_255.out
       have hnc105 := NB255_252.out
       obtain ⟨hcz106_0, hcz106_1, hcz106_2, hfz106_0, hfz106_1, hfz106_2⟩ := bq3 BK252.out
       go_wp2
       refine bodyPost_ret (results_list (rs := [.cell 4 29, .tmp 5, .tmp 6, .tmp 7, .tmp 8]) rfl (by simp) (.cell gb252 29 #[.int .i64 a0_0, .int .i64 a0_1, .int .i64 a0_2] (0, 0) _ rfl (by (with_reducible repeat (first | refine blk_drewN ?_ _ | refine blk_drew ?_ | refine blk_alloc ?_ _)); refine blk_put (cs := #[.int .i64 a0_0, .int .i64 a0_1, .int .i64 0]) ?_ 2 _ rfl; (with_reducible repeat (first | refine blk_drewN ?_ _ | refine blk_drew ?_ | refine blk_alloc ?_ _)); refine blk_put (cs := #[.int .i64 a0_0, .int .i64 0, .int .i64 0]) ?_ 1 _ rfl; (with_reducible repeat (first | refine blk_drewN ?_ _ | refine blk_drew ?_ | refine blk_alloc ?_ _)); refine blk_put (cs := #[.int .i64 0, .int .i64 0, .int .i64 0]) ?_ 0 _ rfl; (with_reducible repeat (first | refine blk_drewN ?_ _ | refine blk_drew ?_ | refine blk_alloc ?_ _)); refine blk_far ?_ NB252_255.out _; (with_reducible repeat (first | refine blk_drewN ?_ _ | refine blk_drew ?_ | refine blk_alloc ?_ _)); refine blk_far ?_ NB252_255.out _; (with_reducible repeat (first | refine blk_drewN ?_ _ | refine blk_drew ?_ | refine blk_alloc ?_ _)); refine blk_far ?_ NB252_255.out _; (with_reducible repeat (first | refine blk_drewN ?_ _ | refine blk_drew ?_ | refine blk_alloc ?_ _)); exact BK252.out) Try.underlying29 rfl (by kernel_rfl) (.tmp (.tmp (.tmp (.tmp .nil)))))) rfl ?_
       exact ⟨by first | rfl | (simp [errW_none, errW_some] <;> rfl) | (simp [*, errW_none, errW_some] <;> rfl), blq HB.out⟩
     ·
      rw [if_neg c63] at H
      have c63b0 : (a1_0 == 2) = false := beq_eq_false_iff_ne.mpr c63
      have c63b1 : (a1_0 != 2) = true := bne_iff_ne.mpr c63
      by_cases c107 : a1_0 = 3
      ·
       rw [if_pos c107] at H
       have c107b0 : (a1_0 == 3) = true := beq_iff_eq.mpr c107
       have c107b1 : (a1_0 != 3) = false := bne_eq_false_iff_eq.mpr c107
       clear c107
       replace H := Option.bind_eq_some_iff.mp H
       obtain ⟨⟨t262, t263, t264, t265⟩, A1080, H⟩ := H
       replace H : (if t265 = a1_1 then ((impl_RackOk.f t262 t263 t264).bind fun t266 => (if t266 = true then (some (t262, t263, t264, 0, t265, 0, true)) else (some (a0_0, a0_1, a0_2, 0, 0, 0, false)))) else (some (a0_0, a0_1, a0_2, 0, 0, 0, false))) = some (r1, r2, r3, r4, r5, r6, r7) := H
       have A108 := Aside0.mk A1080
       clear A1080
       have HF109 := Aside0.mk H
       clear H
       have hnb110 := NB250_251.out
       have hnc110 := NB251_250.out
       have hnb111 := NB250_252.out
       have hnc111 := NB252_250.out
       have hnb112 := NB250_255.out
       have hnc112 := NB255_250.out
       obtain ⟨hcz113_0, hcz113_1, hcz113_2, hfz113_0, hfz113_1, hfz113_2⟩ := bq3 BK250.out
       have hnb114 := NB251_252.out
       have hnc114 := NB252_251.out
       have hnb115 := NB251_255.out
       have hnc115 := NB255_251.out
       obtain ⟨hcz116_0, hcz116_1, hfz116_0, hfz116_1⟩ := bq2 BK251.out
       go_upto_region 18 with (first | ((with_reducible refine gate_callee (f := 117) rfl ?_); refine gLq (some 56) Try.func117 #[.agg #[.int .i64 a0_0, .int .i64 a0_1, .int .i64 a0_2], .int .i64 a1_1] ?_; (with_reducible refine (impl_SellCheap.calls a0_0 a0_1 a0_2 a1_1 t262 t263 t264 t265 _ A108.out).mono ?_); rintro e w117 ⟨rfl, hb⟩; refine ⟨_, rfl, ?_⟩; replace BK250 := Aside0.mk (blk_below (g := gb250) (o := .cells #[.int .i64 a0_0, .int .i64 a0_1, .int .i64 a0_2] 29 (0, 0)) (by (with_reducible repeat (first | refine blk_drewN ?_ _ | refine blk_drew ?_ | refine blk_alloc ?_ _)); refine blk_far ?_ NB250_255.out _; (with_reducible repeat (first | refine blk_drewN ?_ _ | refine blk_drew ?_ | refine blk_alloc ?_ _)); refine blk_far ?_ NB250_255.out _; (with_reducible repeat (first | refine blk_drewN ?_ _ | refine blk_drew ?_ | refine blk_alloc ?_ _)); refine blk_far ?_ NB250_255.out _; (with_reducible repeat (first | refine blk_drewN ?_ _ | refine blk_drew ?_ | refine blk_alloc ?_ _)); exact BK250.out) hb); replace BK251 := Aside0.mk (blk_below (g := gb251) (o := .cells #[.int .i64 a1_0, .int .i64 a1_1] 41 (0, 0)) (by (with_reducible repeat (first | refine blk_drewN ?_ _ | refine blk_drew ?_ | refine blk_alloc ?_ _)); refine blk_far ?_ NB251_255.out _; (with_reducible repeat (first | refine blk_drewN ?_ _ | refine blk_drew ?_ | refine blk_alloc ?_ _)); refine blk_far ?_ NB251_255.out _; (with_reducible repeat (first | refine blk_drewN ?_ _ | refine blk_drew ?_ | refine blk_alloc ?_ _)); refine blk_far ?_ NB251_255.out _; (with_reducible repeat (first | refine blk_drewN ?_ _ | refine blk_drew ?_ | refine blk_alloc ?_ _)); exact BK251.out) hb); replace BK252 := Aside0.mk (blk_below (g := gb252) (o := .cells #[.int .i64 0, .int .i64 0, .int .i64 0] 29 (0, 0)) (by (with_reducible repeat (first | refine blk_drewN ?_ _ | refine blk_drew ?_ | refine blk_alloc ?_ _)); refine blk_far ?_ NB252_255.out _; (with_reducible repeat (first | refine blk_drewN ?_ _ | refine blk_drew ?_ | refine blk_alloc ?_ _)); refine blk_far ?_ NB252_255.out _; (with_reducible repeat (first | refine blk_drewN ?_ _ | refine blk_drew ?_ | refine blk_alloc ?_ _)); refine blk_far ?_ NB252_255.out _; (with_reducible repeat (first | refine blk_drewN ?_ _ | refine blk_drew ?_ | refine blk_alloc ?_ _)); exact BK252.out) hb); replace BK255 := Aside0.mk (blk_below (g := gb255) (o := .cells #[.int .i64 a0_0, .int .i64 a0_1, .int .i64 a0_2] 29 (0, 0)) (by (with_reducible repeat (first | refine blk_drewN ?_ _ | refine blk_drew ?_ | refine blk_alloc ?_ _)); refine blk_put (cs := #[.int .i64 a0_0, .int .i64 a0_1, .int .i64 0]) ?_ 2 _ rfl; (with_reducible repeat (first | refine blk_drewN ?_ _ | refine blk_drew ?_ | refine blk_alloc ?_ _)); refine blk_put (cs := #[.int .i64 a0_0, .int .i64 0, .int .i64 0]) ?_ 1 _ rfl; (with_reducible repeat (first | refine blk_drewN ?_ _ | refine blk_drew ?_ | refine blk_alloc ?_ _)); refine blk_put (cs := #[.int .i64 0, .int .i64 0, .int .i64 0]) ?_ 0 _ rfl; (with_reducible repeat (first | refine blk_drewN ?_ _ | refine blk_drew ?_ | refine blk_alloc ?_ _)); exact BK255.out) hb); replace HB := hbs HB hb; (try clear hb); (try clear hb2); (try clear hk); (try clear hi); have hnb118 := NB255_252.out; have hnc118 := NB252_255.out; obtain ⟨hcz119_0, hcz119_1, hcz119_2, hfz119_0, hfz119_1, hfz119_2⟩ := bq3 BK255.out; obtain ⟨hcz120_0, hcz120_1, hfz120_0, hfz120_1⟩ := bq2 BK251.out))
       have H := HF109.out
       clear HF109
       by_cases c121 : t265 = a1_1
       ·
        rw [if_pos c121] at H
        have c121b0 : (t265 == a1_1) = true := beq_iff_eq.mpr c121
        have c121b1 : (t265 != a1_1) = false := bne_eq_false_iff_eq.mpr c121
        clear c121
        (first | rw [c121b0] | (simp only [i64_w, i32_w]; rw [c121b0]) | skip)
        replace H := Option.bind_eq_some_iff.mp H
        obtain ⟨t266, A1220, H⟩ := H
        replace H : (if t266 = true then (some (t262, t263, t264, 0, t265, 0, true)) else (some (a0_0, a0_1, a0_2, 0, 0, 0, false))) = some (r1, r2, r3, r4, r5, r6, r7) := H
        have A122 := Aside0.mk A1220
        clear A1220
        have HF123 := Aside0.mk H
        clear H
        have hnb124 := NB255_250.out
        have hnc124 := NB250_255.out
        have hnb125 := NB255_251.out
        have hnc125 := NB251_255.out
        have hnb126 := NB255_252.out
        have hnc126 := NB252_255.out
        obtain ⟨hcz127_0, hcz127_1, hcz127_2, hfz127_0, hfz127_1, hfz127_2⟩ := bq3 BK255.out
        go_upto_if 79 with (first | (go_at_call 115; (with_reducible refine (impl_RackOk.calls t262 t263 t264 t266 _ A122.out).mono ?_); rintro e w128 ⟨rfl, hb⟩; replace BK250 := Aside0.mk (blk_below (g := gb250) (o := .cells #[.int .i64 a0_0, .int .i64 a0_1, .int .i64 a0_2] 29 (0, 0)) (by (with_reducible repeat (first | refine blk_drewN ?_ _ | refine blk_drew ?_ | refine blk_alloc ?_ _)); refine blk_far ?_ NB250_255.out _; (with_reducible repeat (first | refine blk_drewN ?_ _ | refine blk_drew ?_ | refine blk_alloc ?_ _)); refine blk_far ?_ NB250_255.out _; (with_reducible repeat (first | refine blk_drewN ?_ _ | refine blk_drew ?_ | refine blk_alloc ?_ _)); refine blk_far ?_ NB250_255.out _; (with_reducible repeat (first | refine blk_drewN ?_ _ | refine blk_drew ?_ | refine blk_alloc ?_ _)); exact BK250.out) hb); replace BK251 := Aside0.mk (blk_below (g := gb251) (o := .cells #[.int .i64 a1_0, .int .i64 a1_1] 41 (0, 0)) (by (with_reducible repeat (first | refine blk_drewN ?_ _ | refine blk_drew ?_ | refine blk_alloc ?_ _)); refine blk_far ?_ NB251_255.out _; (with_reducible repeat (first | refine blk_drewN ?_ _ | refine blk_drew ?_ | refine blk_alloc ?_ _)); refine blk_far ?_ NB251_255.out _; (with_reducible repeat (first | refine blk_drewN ?_ _ | refine blk_drew ?_ | refine blk_alloc ?_ _)); refine blk_far ?_ NB251_255.out _; (with_reducible repeat (first | refine blk_drewN ?_ _ | refine blk_drew ?_ | refine blk_alloc ?_ _)); exact BK251.out) hb); replace BK252 := Aside0.mk (blk_below (g := gb252) (o := .cells #[.int .i64 0, .int .i64 0, .int .i64 0] 29 (0, 0)) (by (with_reducible repeat (first | refine blk_drewN ?_ _ | refine blk_drew ?_ | refine blk_alloc ?_ _)); refine blk_far ?_ NB252_255.out _; (with_reducible repeat (first | refine blk_drewN ?_ _ | refine blk_drew ?_ | refine blk_alloc ?_ _)); refine blk_far ?_ NB252_255.out _; (with_reducible repeat (first | refine blk_drewN ?_ _ | refine blk_drew ?_ | refine blk_alloc ?_ _)); refine blk_far ?_ NB252_255.out _; (with_reducible repeat (first | refine blk_drewN ?_ _ | refine blk_drew ?_ | refine blk_alloc ?_ _)); exact BK252.out) hb); replace BK255 := Aside0.mk (blk_below (g := gb255) (o := .cells #[.int .i64 t262, .int .i64 t263, .int .i64 t264] 29 (0, 0)) (by (with_reducible repeat (first | refine blk_drewN ?_ _ | refine blk_drew ?_ | refine blk_alloc ?_ _)); refine blk_put (cs := #[.int .i64 t262, .int .i64 t263, .int .i64 a0_2]) ?_ 2 _ rfl; (with_reducible repeat (first | refine blk_drewN ?_ _ | refine blk_drew ?_ | refine blk_alloc ?_ _)); refine blk_put (cs := #[.int .i64 t262, .int .i64 a0_1, .int .i64 a0_2]) ?_ 1 _ rfl; (with_reducible repeat (first | refine blk_drewN ?_ _ | refine blk_drew ?_ | refine blk_alloc ?_ _)); refine blk_put (cs := #[.int .i64 a0_0, .int .i64 a0_1, .int .i64 a0_2]) ?_ 0 _ rfl; (with_reducible repeat (first | refine blk_drewN ?_ _ | refine blk_drew ?_ | refine blk_alloc ?_ _)); exact BK255.out) hb); replace HB := hbs HB hb; (try clear hb); (try clear hb2); (try clear hk); (try clear hi)))
        have H := HF123.out
        clear HF123
        by_cases c129 : t266 = true
        ·
         subst c129
         have H1 : (some (t262, t263, t264, 0, t265, 0, true)) = some (r1, r2, r3, r4, r5, r6, r7) := by rw [if_pos rfl] at H; exact H
         clear H
         have H := H1
         clear H1
         simp only [Option.some.injEq, Prod.mk.injEq] at H
         obtain ⟨rfl, rfl, rfl, rfl, rfl, rfl, rfl⟩ := H
         have hnb130 := NB255_250.out
         have hnc130 := NB250_255.out
         have hnb131 := NB255_251.out
         have hnc131 := NB251_255.out
         have hnb132 := NB255_252.out
         have hnc132 := NB252_255.out
         obtain ⟨hcz133_0, hcz133_1, hcz133_2, hfz133_0, hfz133_1, hfz133_2⟩ := bq3 BK255.out
         have hnb134 := NB252_250.out
         have hnc134 := NB250_252.out
         have hnb135 := NB252_251.out
         have hnc135 := NB251_252.out
         obtain ⟨hcz136_0, hcz136_1, hcz136_2, hfz136_0, hfz136_1, hfz136_2⟩ := bq3 BK252.out
         go_wp2
         refine bodyPost_ret (results_list (rs := [.cell 4 29, .tmp 5, .tmp 6, .tmp 7, .tmp 8]) rfl (by simp) (.cell gb252 29 #[.int .i64 t262, .int .i64 t263, .int .i64 t264] (0, 0) _ rfl (by (with_reducible repeat (first | refine blk_drewN ?_ _ | refine blk_drew ?_ | refine blk_alloc ?_ _)); refine blk_put (cs := #[.int .i64 t262, .int .i64 t263, .int .i64 0]) ?_ 2 _ rfl; (with_reducible repeat (first | refine blk_drewN ?_ _ | refine blk_drew ?_ | refine blk_alloc ?_ _)); refine blk_put (cs := #[.int .i64 t262, .int .i64 0, .int .i64 0]) ?_ 1 _ rfl; (with_reducible repeat (first | refine blk_drewN ?_ _ | refine blk_drew ?_ | refine blk_alloc ?_ _)); refine blk_put (cs := #[.int .i64 0, .int .i64 0, .int .i64 0]) ?_ 0 _ rfl; (with_reducible repeat (first | refine blk_drewN ?_ _ | refine blk_drew ?_ | refine blk_alloc ?_ _)); exact BK252.out) Try.underlying29 rfl (by kernel_rfl) (.tmp (.tmp (.tmp (.tmp .nil)))))) rfl ?_
         exact ⟨by first | rfl | (simp [errW_none, errW_some] <;> rfl) | (simp [*, errW_none, errW_some] <;> rfl), blq HB.out⟩
        ·
         replace c129 := Bool.eq_false_iff.mpr c129
         subst c129
         have H1 : (some (a0_0, a0_1, a0_2, 0, 0, 0, false)) = some (r1, r2, r3, r4, r5, r6, r7) := by rw [if_neg (show ¬ (false = true) by decide)] at H; exact H
         clear H
         have H := H1
         clear H1
         simp only [Option.some.injEq, Prod.mk.injEq] at H
         obtain ⟨rfl, rfl, rfl, rfl, rfl, rfl, rfl⟩ := H
         have hnb137 := NB250_251.out
         have hnc137 := NB251_250.out
         have hnb138 := NB250_252.out
         have hnc138 := NB252_250.out
         have hnb139 := NB250_255.out
         have hnc139 := NB255_250.out
         obtain ⟨hcz140_0, hcz140_1, hcz140_2, hfz140_0, hfz140_1, hfz140_2⟩ := bq3 BK250.out
         have hnb141 := NB252_251.out
         have hnc141 := NB251_252.out
         have hnb142 := NB252_255.out
         have hnc142 := NB255_252.out
         obtain ⟨hcz143_0, hcz143_1, hcz143_2, hfz143_0, hfz143_1, hfz143_2⟩ := bq3 BK252.out
         go_wp2
         refine bodyPost_ret (results_list (rs := [.cell 4 29, .tmp 5, .tmp 6, .tmp 7, .tmp 8]) rfl (by simp) (.cell gb252 29 #[.int .i64 a0_0, .int .i64 a0_1, .int .i64 a0_2] (0, 0) _ rfl (by (with_reducible repeat (first | refine blk_drewN ?_ _ | refine blk_drew ?_ | refine blk_alloc ?_ _)); refine blk_put (cs := #[.int .i64 a0_0, .int .i64 a0_1, .int .i64 0]) ?_ 2 _ rfl; (with_reducible repeat (first | refine blk_drewN ?_ _ | refine blk_drew ?_ | refine blk_alloc ?_ _)); refine blk_put (cs := #[.int .i64 a0_0, .int .i64 0, .int .i64 0]) ?_ 1 _ rfl; (with_reducible repeat (first | refine blk_drewN ?_ _ | refine blk_drew ?_ | refine blk_alloc ?_ _)); refine blk_put (cs := #[.int .i64 0, .int .i64 0, .int .i64 0]) ?_ 0 _ rfl; (with_reducible repeat (first | refine blk_drewN ?_ _ | refine blk_drew ?_ | refine blk_alloc ?_ _)); exact BK252.out) Try.underlying29 rfl (by kernel_rfl) (.tmp (.tmp (.tmp (.tmp .nil)))))) rfl ?_
         exact ⟨by first | rfl | (simp [errW_none, errW_some] <;> rfl) | (simp [*, errW_none, errW_some] <;> rfl), blq HB.out⟩
       ·
        rw [if_neg c121] at H
        have c121b0 : (t265 == a1_1) = false := beq_eq_false_iff_ne.mpr c121
        have c121b1 : (t265 != a1_1) = true := bne_iff_ne.mpr c121
        (first | rw [c121b0] | (simp only [i64_w, i32_w]; rw [c121b0]) | skip)
        simp only [Option.some.injEq, Prod.mk.injEq] at H
        obtain ⟨rfl, rfl, rfl, rfl, rfl, rfl, rfl⟩ := H
        have hnb144 := NB250_251.out
        have hnc144 := NB251_250.out
        have hnb145 := NB250_252.out
        have hnc145 := NB252_250.out
        have hnb146 := NB250_255.out
        have hnc146 := NB255_250.out
        obtain ⟨hcz147_0, hcz147_1, hcz147_2, hfz147_0, hfz147_1, hfz147_2⟩ := bq3 BK250.out
        have hnb148 := NB252_251.out
        have hnc148 := NB251_252.out
        have hnb149 := NB252_255.out
        have hnc149 := NB255_252.out
        obtain ⟨hcz150_0, hcz150_1, hcz150_2, hfz150_0, hfz150_1, hfz150_2⟩ := bq3 BK252.out
        go_wp2
        refine bodyPost_ret (results_list (rs := [.cell 4 29, .tmp 5, .tmp 6, .tmp 7, .tmp 8]) rfl (by simp) (.cell gb252 29 #[.int .i64 a0_0, .int .i64 a0_1, .int .i64 a0_2] (0, 0) _ rfl (by (with_reducible repeat (first | refine blk_drewN ?_ _ | refine blk_drew ?_ | refine blk_alloc ?_ _)); refine blk_put (cs := #[.int .i64 a0_0, .int .i64 a0_1, .int .i64 0]) ?_ 2 _ rfl; (with_reducible repeat (first | refine blk_drewN ?_ _ | refine blk_drew ?_ | refine blk_alloc ?_ _)); refine blk_put (cs := #[.int .i64 a0_0, .int .i64 0, .int .i64 0]) ?_ 1 _ rfl; (with_reducible repeat (first | refine blk_drewN ?_ _ | refine blk_drew ?_ | refine blk_alloc ?_ _)); refine blk_put (cs := #[.int .i64 0, .int .i64 0, .int .i64 0]) ?_ 0 _ rfl; (with_reducible repeat (first | refine blk_drewN ?_ _ | refine blk_drew ?_ | refine blk_alloc ?_ _)); refine blk_far ?_ NB252_255.out _; (with_reducible repeat (first | refine blk_drewN ?_ _ | refine blk_drew ?_ | refine blk_alloc ?_ _)); refine blk_far ?_ NB252_255.out _; (with_reducible repeat (first | refine blk_drewN ?_ _ | refine blk_drew ?_ | refine blk_alloc ?_ _)); refine blk_far ?_ NB252_255.out _; (with_reducible repeat (first | refine blk_drewN ?_ _ | refine blk_drew ?_ | refine blk_alloc ?_ _)); exact BK252.out) Try.underlying29 rfl (by kernel_rfl) (.tmp (.tmp (.tmp (.tmp .nil)))))) rfl ?_
        exact ⟨by first | rfl | (simp [errW_none, errW_some] <;> rfl) | (simp [*, errW_none, errW_some] <;> rfl), blq HB.out⟩
      ·
       rw [if_neg c107] at H
       have c107b0 : (a1_0 == 3) = false := beq_eq_false_iff_ne.mpr c107
       have c107b1 : (a1_0 != 3) = true := bne_iff_ne.mpr c107
       by_cases c151 : a1_0 = 4
       ·
        rw [if_pos c151] at H
        have c151b0 : (a1_0 == 4) = true := beq_iff_eq.mpr c151
        have c151b1 : (a1_0 != 4) = false := bne_eq_false_iff_eq.mpr c151
        clear c151
        replace H := Option.bind_eq_some_iff.mp H
        obtain ⟨⟨t267, t268, t269, t270⟩, A1520, H⟩ := H
        replace H : (if a1_1 = 0 then ((impl_RackOk.f t267 t268 t269).bind fun t271 => (if t271 = true then (some (t267, t268, t269, 0, 0, t270, true)) else (some (a0_0, a0_1, a0_2, 0, 0, 0, false)))) else (some (a0_0, a0_1, a0_2, 0, 0, 0, false))) = some (r1, r2, r3, r4, r5, r6, r7) := H
        have A152 := Aside0.mk A1520
        clear A1520
        have HF153 := Aside0.mk H
        clear H
        have hnb154 := NB250_251.out
        have hnc154 := NB251_250.out
        have hnb155 := NB250_252.out
        have hnc155 := NB252_250.out
        have hnb156 := NB250_255.out
        have hnc156 := NB255_250.out
        obtain ⟨hcz157_0, hcz157_1, hcz157_2, hfz157_0, hfz157_1, hfz157_2⟩ := bq3 BK250.out
        go_upto_region 18 with (first | ((with_reducible refine gate_callee (f := 118) rfl ?_); refine gLq (some 67) Try.func118 #[.agg #[.int .i64 a0_0, .int .i64 a0_1, .int .i64 a0_2], .int .i64 0] ?_; (with_reducible refine (impl_NextMorning.calls a0_0 a0_1 a0_2 0 t267 t268 t269 t270 _ A152.out).mono ?_); rintro e w158 ⟨rfl, hb⟩; refine ⟨_, rfl, ?_⟩; replace BK250 := Aside0.mk (blk_below (g := gb250) (o := .cells #[.int .i64 a0_0, .int .i64 a0_1, .int .i64 a0_2] 29 (0, 0)) (by (with_reducible repeat (first | refine blk_drewN ?_ _ | refine blk_drew ?_ | refine blk_alloc ?_ _)); refine blk_far ?_ NB250_255.out _; (with_reducible repeat (first | refine blk_drewN ?_ _ | refine blk_drew ?_ | refine blk_alloc ?_ _)); refine blk_far ?_ NB250_255.out _; (with_reducible repeat (first | refine blk_drewN ?_ _ | refine blk_drew ?_ | refine blk_alloc ?_ _)); refine blk_far ?_ NB250_255.out _; (with_reducible repeat (first | refine blk_drewN ?_ _ | refine blk_drew ?_ | refine blk_alloc ?_ _)); exact BK250.out) hb); replace BK251 := Aside0.mk (blk_below (g := gb251) (o := .cells #[.int .i64 a1_0, .int .i64 a1_1] 41 (0, 0)) (by (with_reducible repeat (first | refine blk_drewN ?_ _ | refine blk_drew ?_ | refine blk_alloc ?_ _)); refine blk_far ?_ NB251_255.out _; (with_reducible repeat (first | refine blk_drewN ?_ _ | refine blk_drew ?_ | refine blk_alloc ?_ _)); refine blk_far ?_ NB251_255.out _; (with_reducible repeat (first | refine blk_drewN ?_ _ | refine blk_drew ?_ | refine blk_alloc ?_ _)); refine blk_far ?_ NB251_255.out _; (with_reducible repeat (first | refine blk_drewN ?_ _ | refine blk_drew ?_ | refine blk_alloc ?_ _)); exact BK251.out) hb); replace BK252 := Aside0.mk (blk_below (g := gb252) (o := .cells #[.int .i64 0, .int .i64 0, .int .i64 0] 29 (0, 0)) (by (with_reducible repeat (first | refine blk_drewN ?_ _ | refine blk_drew ?_ | refine blk_alloc ?_ _)); refine blk_far ?_ NB252_255.out _; (with_reducible repeat (first | refine blk_drewN ?_ _ | refine blk_drew ?_ | refine blk_alloc ?_ _)); refine blk_far ?_ NB252_255.out _; (with_reducible repeat (first | refine blk_drewN ?_ _ | refine blk_drew ?_ | refine blk_alloc ?_ _)); refine blk_far ?_ NB252_255.out _; (with_reducible repeat (first | refine blk_drewN ?_ _ | refine blk_drew ?_ | refine blk_alloc ?_ _)); exact BK252.out) hb); replace BK255 := Aside0.mk (blk_below (g := gb255) (o := .cells #[.int .i64 a0_0, .int .i64 a0_1, .int .i64 a0_2] 29 (0, 0)) (by (with_reducible repeat (first | refine blk_drewN ?_ _ | refine blk_drew ?_ | refine blk_alloc ?_ _)); refine blk_put (cs := #[.int .i64 a0_0, .int .i64 a0_1, .int .i64 0]) ?_ 2 _ rfl; (with_reducible repeat (first | refine blk_drewN ?_ _ | refine blk_drew ?_ | refine blk_alloc ?_ _)); refine blk_put (cs := #[.int .i64 a0_0, .int .i64 0, .int .i64 0]) ?_ 1 _ rfl; (with_reducible repeat (first | refine blk_drewN ?_ _ | refine blk_drew ?_ | refine blk_alloc ?_ _)); refine blk_put (cs := #[.int .i64 0, .int .i64 0, .int .i64 0]) ?_ 0 _ rfl; (with_reducible repeat (first | refine blk_drewN ?_ _ | refine blk_drew ?_ | refine blk_alloc ?_ _)); exact BK255.out) hb); replace HB := hbs HB hb; (try clear hb); (try clear hb2); (try clear hk); (try clear hi); have hnb159 := NB255_251.out; have hnc159 := NB251_255.out; have hnb160 := NB255_252.out; have hnc160 := NB252_255.out; obtain ⟨hcz161_0, hcz161_1, hcz161_2, hfz161_0, hfz161_1, hfz161_2⟩ := bq3 BK255.out; have hnb162 := NB251_252.out; have hnc162 := NB252_251.out; obtain ⟨hcz163_0, hcz163_1, hfz163_0, hfz163_1⟩ := bq2 BK251.out))
        have H := HF153.out
        clear HF153
        by_cases c164 : a1_1 = 0
        ·
         rw [if_pos c164] at H
         have c164b0 : (a1_1 == 0) = true := beq_iff_eq.mpr c164
         have c164b1 : (a1_1 != 0) = false := bne_eq_false_iff_eq.mpr c164
         clear c164
         (first | rw [c164b0] | (simp only [i64_w, i32_w]; rw [c164b0]) | skip)
         replace H := Option.bind_eq_some_iff.mp H
         obtain ⟨t271, A1650, H⟩ := H
         replace H : (if t271 = true then (some (t267, t268, t269, 0, 0, t270, true)) else (some (a0_0, a0_1, a0_2, 0, 0, 0, false))) = some (r1, r2, r3, r4, r5, r6, r7) := H
         have A165 := Aside0.mk A1650
         clear A1650
         have HF166 := Aside0.mk H
         clear H
         have hnb167 := NB255_250.out
         have hnc167 := NB250_255.out
         have hnb168 := NB255_251.out
         have hnc168 := NB251_255.out
         have hnb169 := NB255_252.out
         have hnc169 := NB252_255.out
         obtain ⟨hcz170_0, hcz170_1, hcz170_2, hfz170_0, hfz170_1, hfz170_2⟩ := bq3 BK255.out
         go_upto_if 79 with (first | (go_at_call 115; (with_reducible refine (impl_RackOk.calls t267 t268 t269 t271 _ A165.out).mono ?_); rintro e w171 ⟨rfl, hb⟩; replace BK250 := Aside0.mk (blk_below (g := gb250) (o := .cells #[.int .i64 a0_0, .int .i64 a0_1, .int .i64 a0_2] 29 (0, 0)) (by (with_reducible repeat (first | refine blk_drewN ?_ _ | refine blk_drew ?_ | refine blk_alloc ?_ _)); refine blk_far ?_ NB250_255.out _; (with_reducible repeat (first | refine blk_drewN ?_ _ | refine blk_drew ?_ | refine blk_alloc ?_ _)); refine blk_far ?_ NB250_255.out _; (with_reducible repeat (first | refine blk_drewN ?_ _ | refine blk_drew ?_ | refine blk_alloc ?_ _)); refine blk_far ?_ NB250_255.out _; (with_reducible repeat (first | refine blk_drewN ?_ _ | refine blk_drew ?_ | refine blk_alloc ?_ _)); exact BK250.out) hb); replace BK251 := Aside0.mk (blk_below (g := gb251) (o := .cells #[.int .i64 a1_0, .int .i64 a1_1] 41 (0, 0)) (by (with_reducible repeat (first | refine blk_drewN ?_ _ | refine blk_drew ?_ | refine blk_alloc ?_ _)); refine blk_far ?_ NB251_255.out _; (with_reducible repeat (first | refine blk_drewN ?_ _ | refine blk_drew ?_ | refine blk_alloc ?_ _)); refine blk_far ?_ NB251_255.out _; (with_reducible repeat (first | refine blk_drewN ?_ _ | refine blk_drew ?_ | refine blk_alloc ?_ _)); refine blk_far ?_ NB251_255.out _; (with_reducible repeat (first | refine blk_drewN ?_ _ | refine blk_drew ?_ | refine blk_alloc ?_ _)); exact BK251.out) hb); replace BK252 := Aside0.mk (blk_below (g := gb252) (o := .cells #[.int .i64 0, .int .i64 0, .int .i64 0] 29 (0, 0)) (by (with_reducible repeat (first | refine blk_drewN ?_ _ | refine blk_drew ?_ | refine blk_alloc ?_ _)); refine blk_far ?_ NB252_255.out _; (with_reducible repeat (first | refine blk_drewN ?_ _ | refine blk_drew ?_ | refine blk_alloc ?_ _)); refine blk_far ?_ NB252_255.out _; (with_reducible repeat (first | refine blk_drewN ?_ _ | refine blk_drew ?_ | refine blk_alloc ?_ _)); refine blk_far ?_ NB252_255.out _; (with_reducible repeat (first | refine blk_drewN ?_ _ | refine blk_drew ?_ | refine blk_alloc ?_ _)); exact BK252.out) hb); replace BK255 := Aside0.mk (blk_below (g := gb255) (o := .cells #[.int .i64 t267, .int .i64 t268, .int .i64 t269] 29 (0, 0)) (by (with_reducible repeat (first | refine blk_drewN ?_ _ | refine blk_drew ?_ | refine blk_alloc ?_ _)); refine blk_put (cs := #[.int .i64 t267, .int .i64 t268, .int .i64 a0_2]) ?_ 2 _ rfl; (with_reducible repeat (first | refine blk_drewN ?_ _ | refine blk_drew ?_ | refine blk_alloc ?_ _)); refine blk_put (cs := #[.int .i64 t267, .int .i64 a0_1, .int .i64 a0_2]) ?_ 1 _ rfl; (with_reducible repeat (first | refine blk_drewN ?_ _ | refine blk_drew ?_ | refine blk_alloc ?_ _)); refine blk_put (cs := #[.int .i64 a0_0, .int .i64 a0_1, .int .i64 a0_2]) ?_ 0 _ rfl; (with_reducible repeat (first | refine blk_drewN ?_ _ | refine blk_drew ?_ | refine blk_alloc ?_ _)); exact BK255.out) hb); replace HB := hbs HB hb; (try clear hb); (try clear hb2); (try clear hk); (try clear hi)))
         have H := HF166.out
         clear HF166
         by_cases c172 : t271 = true
         ·
          subst c172
          have H1 : (some (t267, t268, t269, 0, 0, t270, true)) = some (r1, r2, r3, r4, r5, r6, r7) := by rw [if_pos rfl] at H; exact H
          clear H
          have H := H1
          clear H1
          simp only [Option.some.injEq, Prod.mk.injEq] at H
          obtain ⟨rfl, rfl, rfl, rfl, rfl, rfl, rfl⟩ := H
          have hnb173 := NB255_250.out
          have hnc173 := NB250_255.out
          have hnb174 := NB255_251.out
          have hnc174 := NB251_255.out
          have hnb175 := NB255_252.out
          have hnc175 := NB252_255.out
          obtain ⟨hcz176_0, hcz176_1, hcz176_2, hfz176_0, hfz176_1, hfz176_2⟩ := bq3 BK255.out
          have hnb177 := NB252_250.out
          have hnc177 := NB250_252.out
          have hnb178 := NB252_251.out
          have hnc178 := NB251_252.out
          obtain ⟨hcz179_0, hcz179_1, hcz179_2, hfz179_0, hfz179_1, hfz179_2⟩ := bq3 BK252.out
          go_wp2
          refine bodyPost_ret (results_list (rs := [.cell 4 29, .tmp 5, .tmp 6, .tmp 7, .tmp 8]) rfl (by simp) (.cell gb252 29 #[.int .i64 t267, .int .i64 t268, .int .i64 t269] (0, 0) _ rfl (by (with_reducible repeat (first | refine blk_drewN ?_ _ | refine blk_drew ?_ | refine blk_alloc ?_ _)); refine blk_put (cs := #[.int .i64 t267, .int .i64 t268, .int .i64 0]) ?_ 2 _ rfl; (with_reducible repeat (first | refine blk_drewN ?_ _ | refine blk_drew ?_ | refine blk_alloc ?_ _)); refine blk_put (cs := #[.int .i64 t267, .int .i64 0, .int .i64 0]) ?_ 1 _ rfl; (with_reducible repeat (first | refine blk_drewN ?_ _ | refine blk_drew ?_ | refine blk_alloc ?_ _)); refine blk_put (cs := #[.int .i64 0, .int .i64 0, .int .i64 0]) ?_ 0 _ rfl; (with_reducible repeat (first | refine blk_drewN ?_ _ | refine blk_drew ?_ | refine blk_alloc ?_ _)); exact BK252.out) Try.underlying29 rfl (by kernel_rfl) (.tmp (.tmp (.tmp (.tmp .nil)))))) rfl ?_
          exact ⟨by first | rfl | (simp [errW_none, errW_some] <;> rfl) | (simp [*, errW_none, errW_some] <;> rfl), blq HB.out⟩
         ·
          replace c172 := Bool.eq_false_iff.mpr c172
          subst c172
          have H1 : (some (a0_0, a0_1, a0_2, 0, 0, 0, false)) = some (r1, r2, r3, r4, r5, r6, r7) := by rw [if_neg (show ¬ (false = true) by decide)] at H; exact H
          clear H
          have H := H1
          clear H1
          simp only [Option.some.injEq, Prod.mk.injEq] at H
          obtain ⟨rfl, rfl, rfl, rfl, rfl, rfl, rfl⟩ := H
          have hnb180 := NB250_251.out
          have hnc180 := NB251_250.out
          have hnb181 := NB250_252.out
          have hnc181 := NB252_250.out
          have hnb182 := NB250_255.out
          have hnc182 := NB255_250.out
          obtain ⟨hcz183_0, hcz183_1, hcz183_2, hfz183_0, hfz183_1, hfz183_2⟩ := bq3 BK250.out
          have hnb184 := NB252_251.out
          have hnc184 := NB251_252.out
          have hnb185 := NB252_255.out
          have hnc185 := NB255_252.out
          obtain ⟨hcz186_0, hcz186_1, hcz186_2, hfz186_0, hfz186_1, hfz186_2⟩ := bq3 BK252.out
          go_wp2
          refine bodyPost_ret (results_list (rs := [.cell 4 29, .tmp 5, .tmp 6, .tmp 7, .tmp 8]) rfl (by simp) (.cell gb252 29 #[.int .i64 a0_0, .int .i64 a0_1, .int .i64 a0_2] (0, 0) _ rfl (by (with_reducible repeat (first | refine blk_drewN ?_ _ | refine blk_drew ?_ | refine blk_alloc ?_ _)); refine blk_put (cs := #[.int .i64 a0_0, .int .i64 a0_1, .int .i64 0]) ?_ 2 _ rfl; (with_reducible repeat (first | refine blk_drewN ?_ _ | refine blk_drew ?_ | refine blk_alloc ?_ _)); refine blk_put (cs := #[.int .i64 a0_0, .int .i64 0, .int .i64 0]) ?_ 1 _ rfl; (with_reducible repeat (first | refine blk_drewN ?_ _ | refine blk_drew ?_ | refine blk_alloc ?_ _)); refine blk_put (cs := #[.int .i64 0, .int .i64 0, .int .i64 0]) ?_ 0 _ rfl; (with_reducible repeat (first | refine blk_drewN ?_ _ | refine blk_drew ?_ | refine blk_alloc ?_ _)); exact BK252.out) Try.underlying29 rfl (by kernel_rfl) (.tmp (.tmp (.tmp (.tmp .nil)))))) rfl ?_
          exact ⟨by first | rfl | (simp [errW_none, errW_some] <;> rfl) | (simp [*, errW_none, errW_some] <;> rfl), blq HB.out⟩
        ·
         rw [if_neg c164] at H
         have c164b0 : (a1_1 == 0) = false := beq_eq_false_iff_ne.mpr c164
         have c164b1 : (a1_1 != 0) = true := bne_iff_ne.mpr c164
         (first | rw [c164b0] | (simp only [i64_w, i32_w]; rw [c164b0]) | skip)
         simp only [Option.some.injEq, Prod.mk.injEq] at H
         obtain ⟨rfl, rfl, rfl, rfl, rfl, rfl, rfl⟩ := H
         have hnb187 := NB250_251.out
         have hnc187 := NB251_250.out
         have hnb188 := NB250_252.out
         have hnc188 := NB252_250.out
         have hnb189 := NB250_255.out
         have hnc189 := NB255_250.out
         obtain ⟨hcz190_0, hcz190_1, hcz190_2, hfz190_0, hfz190_1, hfz190_2⟩ := bq3 BK250.out
         have hnb191 := NB252_251.out
         have hnc191 := NB251_252.out
         have hnb192 := NB252_255.out
         have hnc192 := NB255_252.out
         obtain ⟨hcz193_0, hcz193_1, hcz193_2, hfz193_0, hfz193_1, hfz193_2⟩ := bq3 BK252.out
         go_wp2
         refine bodyPost_ret (results_list (rs := [.cell 4 29, .tmp 5, .tmp 6, .tmp 7, .tmp 8]) rfl (by simp) (.cell gb252 29 #[.int .i64 a0_0, .int .i64 a0_1, .int .i64 a0_2] (0, 0) _ rfl (by (with_reducible repeat (first | refine blk_drewN ?_ _ | refine blk_drew ?_ | refine blk_alloc ?_ _)); refine blk_put (cs := #[.int .i64 a0_0, .int .i64 a0_1, .int .i64 0]) ?_ 2 _ rfl; (with_reducible repeat (first | refine blk_drewN ?_ _ | refine blk_drew ?_ | refine blk_alloc ?_ _)); refine blk_put (cs := #[.int .i64 a0_0, .int .i64 0, .int .i64 0]) ?_ 1 _ rfl; (with_reducible repeat (first | refine blk_drewN ?_ _ | refine blk_drew ?_ | refine blk_alloc ?_ _)); refine blk_put (cs := #[.int .i64 0, .int .i64 0, .int .i64 0]) ?_ 0 _ rfl; (with_reducible repeat (first | refine blk_drewN ?_ _ | refine blk_drew ?_ | refine blk_alloc ?_ _)); refine blk_far ?_ NB252_255.out _; (with_reducible repeat (first | refine blk_drewN ?_ _ | refine blk_drew ?_ | refine blk_alloc ?_ _)); refine blk_far ?_ NB252_255.out _; (with_reducible repeat (first | refine blk_drewN ?_ _ | refine blk_drew ?_ | refine blk_alloc ?_ _)); refine blk_far ?_ NB252_255.out _; (with_reducible repeat (first | refine blk_drewN ?_ _ | refine blk_drew ?_ | refine blk_alloc ?_ _)); exact BK252.out) Try.underlying29 rfl (by kernel_rfl) (.tmp (.tmp (.tmp (.tmp .nil)))))) rfl ?_
         exact ⟨by first | rfl | (simp [errW_none, errW_some] <;> rfl) | (simp [*, errW_none, errW_some] <;> rfl), blq HB.out⟩
       ·
        rw [if_neg c151] at H
        have c151b0 : (a1_0 == 4) = false := beq_eq_false_iff_ne.mpr c151
        have c151b1 : (a1_0 != 4) = true := bne_iff_ne.mpr c151
        simp only [Option.some.injEq, Prod.mk.injEq] at H
        obtain ⟨rfl, rfl, rfl, rfl, rfl, rfl, rfl⟩ := H
        have hnb194 := NB250_251.out
        have hnc194 := NB251_250.out
        have hnb195 := NB250_252.out
        have hnc195 := NB252_250.out
        have hnb196 := NB250_255.out
        have hnc196 := NB255_250.out
        obtain ⟨hcz197_0, hcz197_1, hcz197_2, hfz197_0, hfz197_1, hfz197_2⟩ := bq3 BK250.out
        have hnb198 := NB252_251.out
        have hnc198 := NB251_252.out
        have hnb199 := NB252_255.out
        have hnc199 := NB255_252.out
        obtain ⟨hcz200_0, hcz200_1, hcz200_2, hfz200_0, hfz200_1, hfz200_2⟩ := bq3 BK252.out
        go_wp2
        refine bodyPost_ret (results_list (rs := [.cell 4 29, .tmp 5, .tmp 6, .tmp 7, .tmp 8]) rfl (by simp) (.cell gb252 29 #[.int .i64 a0_0, .int .i64 a0_1, .int .i64 a0_2] (0, 0) _ rfl (by (with_reducible repeat (first | refine blk_drewN ?_ _ | refine blk_drew ?_ | refine blk_alloc ?_ _)); refine blk_put (cs := #[.int .i64 a0_0, .int .i64 a0_1, .int .i64 0]) ?_ 2 _ rfl; (with_reducible repeat (first | refine blk_drewN ?_ _ | refine blk_drew ?_ | refine blk_alloc ?_ _)); refine blk_put (cs := #[.int .i64 a0_0, .int .i64 0, .int .i64 0]) ?_ 1 _ rfl; (with_reducible repeat (first | refine blk_drewN ?_ _ | refine blk_drew ?_ | refine blk_alloc ?_ _)); refine blk_put (cs := #[.int .i64 0, .int .i64 0, .int .i64 0]) ?_ 0 _ rfl; (with_reducible repeat (first | refine blk_drewN ?_ _ | refine blk_drew ?_ | refine blk_alloc ?_ _)); refine blk_far ?_ NB252_255.out _; (with_reducible repeat (first | refine blk_drewN ?_ _ | refine blk_drew ?_ | refine blk_alloc ?_ _)); refine blk_far ?_ NB252_255.out _; (with_reducible repeat (first | refine blk_drewN ?_ _ | refine blk_drew ?_ | refine blk_alloc ?_ _)); refine blk_far ?_ NB252_255.out _; (with_reducible repeat (first | refine blk_drewN ?_ _ | refine blk_drew ?_ | refine blk_alloc ?_ _)); exact BK252.out) Try.underlying29 rfl (by kernel_rfl) (.tmp (.tmp (.tmp (.tmp .nil)))))) rfl ?_
        exact ⟨by first | rfl | (simp [errW_none, errW_some] <;> rfl) | (simp [*, errW_none, errW_some] <;> rfl), blq HB.out⟩

/-! ### impl_counted: function 57 -/
def impl_counted.l0 : Nat → List (S41) → List (S41) → Int → Int → List (S41) → Int → Int → Int → Int → Int → Int → Option ((List (S41)) × Int × Int × Int × Int × Int × Int × Bool)
 | 0, _, _, _, _, _, _, _, _, _, _, _ => none
 | k + 1, x0, x16, x17, x18, x280000, x280001, x280002, x280003, x280004, x280005, x280006 => if x18 < x17 then (if 0 ≤ x18 then (if x18 < (x16.length : Int) then ((impl_EventOn.f k x280001 x280002 x280003 ((rd_T41 x16 x18).f0) ((rd_T41 x16 x18).f1)).bind fun bt282 => (if bt282.2.2.2.2.2.2 = true then (impl_counted.l0 k x0 x16 x17 (wrap64 (x18 + 1)) x280000 bt282.1 bt282.2.1 bt282.2.2.1 (wrap64 (x280004 + bt282.2.2.2.1)) (wrap64 (x280005 + bt282.2.2.2.2.1)) (wrap64 (x280006 + bt282.2.2.2.2.2.1))) else (some (([] : List (S41)), 0, 0, 0, 0, 0, 0, false)))) else (none)) else (none)) else (some (x280000, x280001, x280002, x280003, x280004, x280005, x280006, decide ((x0.length : Int) ≤ 40)))
def impl_counted.f (k : Nat) (l0 : List (S41)) : Option ((List (S41)) × Int × Int × Int × Int × Int × Int × Bool) := (some (([] : List (S41)) : List (S41))).bind fun y273 => (if y273.length + l0.length < 8796093022208 then (impl_counted.l0 k l0 l0 (l0.length : Int) 0 (y273 ++ l0) 0 0 0 0 0 0) else (none))
theorem impl_counted.mono_l : ∀ k, (∀ y0 y1 y2 y3 y4 y5 y6 y7 y8 y9 y10, LeO (impl_counted.l0 k y0 y1 y2 y3 y4 y5 y6 y7 y8 y9 y10) (impl_counted.l0 (k + 1) y0 y1 y2 y3 y4 y5 y6 y7 y8 y9 y10))
 | 0 => fun _ _ _ _ _ _ _ _ _ _ _ r h => by simp [impl_counted.l0] at h
 | k + 1 => by
  have ih0 := impl_counted.mono_l k
  ·
   intro y0 y1 y2 y3 y4 y5 y6 y7 y8 y9 y10
   unfold impl_counted.l0
   repeat' first
   | (with_reducible exact ih0 _ _ _ _ _ _ _ _ _ _ _)
   | (with_reducible exact impl_EventOn.mono _ _ _ _ _ _)
   | (with_reducible exact LeO.refl _)
   | (with_reducible exact LeO.none _)
   | (with_reducible refine LeO.ite ?_ ?_)
   | (with_reducible refine LeO.bind ?_ (fun _ => ?_))
   | exact ih0 _ _ _ _ _ _ _ _ _ _ _
   | exact impl_EventOn.mono _ _ _ _ _ _
   | exact LeO.none _
   | refine LeO.ite ?_ ?_
   | refine LeO.bind ?_ (fun _ => ?_)
theorem impl_counted.mono : ∀ a0 k, LeO (impl_counted.f k a0) (impl_counted.f (k + 1) a0) := by
 intro a0 k
 have ih0 := impl_counted.mono_l k
 unfold impl_counted.f
 repeat' first
   | (with_reducible exact ih0 _ _ _ _ _ _ _ _ _ _ _)
   | (with_reducible exact impl_EventOn.mono _ _ _ _ _ _)
   | (with_reducible exact LeO.refl _)
   | (with_reducible exact LeO.none _)
   | (with_reducible refine LeO.ite ?_ ?_)
   | (with_reducible refine LeO.bind ?_ (fun _ => ?_))
   | exact ih0 _ _ _ _ _ _ _ _ _ _ _
   | exact impl_EventOn.mono _ _ _ _ _ _
   | exact LeO.none _
   | refine LeO.ite ?_ ?_
   | refine LeO.bind ?_ (fun _ => ?_)
set_option maxHeartbeats 8000000 in
set_option maxRecDepth 100000 in
theorem impl_counted.calls (k : Nat) (A0 : Option Addr) (c0 : Nat) (l0 : List (S41)) (r1 : List (S41)) (r2 : Int) (r3 : Int) (r4 : Int) (r5 : Int) (r6 : Int) (r7 : Int) (r8 : Bool) (w : World) (hr0 : Kd.C k41 w A0 l0.length l0) (hc0 : l0.length ≤ c0) (h : impl_counted.f k l0 = some (r1, r2, r3, r4, r5, r6, r7, r8)) :
  Calls Try.prog 57 #[.slice A0 l0.length c0] w fun e w' => ∃ v0_ : Value, e = .returned (.tuple #[.agg #[v0_, .int .i64 r2, .int .i64 r3, .int .i64 r4, .int .i64 r5, .int .i64 r6, .int .i64 r7], .bool r8]) ∧ Kd.R k41 41 w' w.heap.size (fun _ => True) v0_ r1 ∧ Below w.heap.size w w' := by
 have hu31 := Try.underlying31
 have hu41 := Try.underlying41
 have hu29 := Try.underlying29
 have HR0 := Aside0.mk hr0
 have HC0 := Aside0.mk hc0
 clear hr0 hc0
 have HB := Aside0.mk (Below.refl w.heap.size w)
 have H : ((some (([] : List (S41)) : List (S41))).bind fun y273 => (if y273.length + l0.length < 8796093022208 then (impl_counted.l0 k l0 l0 (l0.length : Int) 0 (y273 ++ l0) 0 0 0 0 0 0) else (none))) = some (r1, r2, r3, r4, r5, r6, r7, r8) := h
 clear h
 obtain ⟨y273, hy273⟩ : ∃ y_ : List (S41), y_ = (([] : List (S41))) := ⟨_, rfl⟩
 replace H : (if y273.length + l0.length < 8796093022208 then (impl_counted.l0 k l0 l0 (l0.length : Int) 0 (y273 ++ l0) 0 0 0 0 0 0) else (none)) = some (r1, r2, r3, r4, r5, r6, r7, r8) := by first | (rw [hy273]; with_reducible exact H) | (have H2_ := (Option.bind_some _ _).symm.trans H; rw [hy273]; with_reducible exact H2_) | (have H2_ := (Option.bind_some _ _).symm.trans H; with_reducible exact H2_) | with_reducible exact H | (rw [hy273]; exact H) | exact H
 have Ny273 := Aside0.mk hy273
 clear hy273
 by_cases c2 : y273.length + l0.length < 8796093022208
 ·
  rw [if_pos c2] at H
  have LMc2 := Aside0.mk c2
  clear c2
  obtain ⟨y276, hy276⟩ : ∃ y_ : List (S41), y_ = (y273 ++ l0) := ⟨_, rfl⟩
  replace H : (impl_counted.l0 k l0 l0 (l0.length : Int) 0 y276 0 0 0 0 0 0) = some (r1, r2, r3, r4, r5, r6, r7, r8) := by first | (rw [hy276]; with_reducible exact H) | (have H2_ := (Option.bind_some _ _).symm.trans H; rw [hy276]; with_reducible exact H2_) | (have H2_ := (Option.bind_some _ _).symm.trans H; with_reducible exact H2_) | with_reducible exact H | (rw [hy276]; exact H) | exact H
  have Ny276 := Aside0.mk hy276
  clear hy276
  have H' := Aside0.mk H
  clear H
  go_enter Try.func57, Try.ntmps57
  go_wp2_with (first | ((with_reducible refine gate_dst (N := 2) rfl ?_); refine box_event ?hg (N := 2) ?hd (cs := #[.slice none 0 0, .int .i64 0, .int .i64 0, .int .i64 0, .int .i64 0, .int .i64 0, .int .i64 0]) (t := 31) ?hr ?_; (case hd => rfl); (case hg => rfl); (case hr => first | (go_simp; done) | (go_simp; rfl)); intro gb272 hg w3 hbox hb; have BK272 := Aside0.mk (hbox); have GW272 := sQ hg HB; have GE272 := sQ hg HB; replace HB := hbs HB hb; clear hb hbox hg) | ((with_reducible refine gate_dst (N := 12) rfl ?_); refine Kd.R_lit k41 _ 41 ?hg (N := 12) ?hd (xs := ([] : List (S41))) (inner := []) (ok := fun _ => True) (okp := fun _ => True) ?hr ?hp (fun _ hk => hk) trivial (Below.refl _ _) (Nat.le_refl _) (by simp) ?_; (case hd => rfl); (case hg => rfl); (case hr => first | (go_simp; done) | (go_simp; rfl)); (case hp => exact (Reps.none _ _)); intro v274 w4 ho5 hb hg_ hnew_; clear hg_ hnew_; (first | rw [← Ny273.out] at ho5 | (simp only [Int.reduceToNat] at ho5; rw [← Ny273.out] at ho5)); have HO275 := Aside0.mk (Kd.R_lower ho5 (below_size (blq HB.out))); replace BK272 := bkb BK272 hb; replace HB := hbs HB hb; clear hb ho5) | ((with_reducible refine gate_builtin (b := .append) (xs := #[.tmp 12, .tmp 13]) rfl ?_); at_builtin; refine Kd.R_append_rows k41 (w0 := w) w.heap.size rfl (.tmp 12) (.tmp 13) 28 41 (.agg #[(.int .i64 0), (.int .i64 0)]) 16 rfl Try.underlying28 info41 rfl (by decide) (by omega) v274 y273 l0 _ _ _ (fun _ => True) (fun _ => False) rfl rfl ?aO ?aR (fun _ _ h => h) (fun _ h => h.elim) ?aF ?aB ?aS ?aL ?_; (case aR => repeat (first | exact (Kd.C_below HR0.out HB.out) | (with_reducible refine Kd.C_alloc ?_ _) | (with_reducible refine Kd.C_drewN ?_ _) | (with_reducible refine Kd.C_drew ?_))); (case aB => exact (blq HB.out)); (case aF => exact (fun _ _ => trivial)); (case aO => exact (Kd.Rq HO275.out)); (case aS => exact (below_size (blq HB.out))); (case aL => have := LMc2.out; omega); intro v277 w6 ho hb hg hat; rw [← Ny276.out] at ho; have HO278 := Aside0.mk (ho); replace BK272 := Aside0.mk (blk_grown (bkq BK272.out) hg (Kd.R_ne HO275.out BK272.out (by decide))); replace HB := Aside0.mk (hb); clear HO275; clear ho hb hg hat; obtain ⟨Ao7, co7, eo7⟩ := Kd.R_slice HO278.out; subst eo7) | ((with_reducible refine gate_dst (N := 4) rfl ?_); refine box_event ?hg (N := 4) ?hd (cs := #[.slice none 0 0, .int .i64 0, .int .i64 0, .int .i64 0, .int .i64 0, .int .i64 0, .int .i64 0]) (t := 31) ?hr ?_; (case hd => rfl); (case hg => rfl); (case hr => first | (go_simp; done) | (go_simp; rfl)); intro gb279 hg w8 hbox hb; have BK279 := Aside0.mk (hbox); have GW279 := sQ hg HB; have GE279 := sQ hg HB; have NB272_279 := qL hg BK272; have NB279_272 := qG hg BK272; replace HO278 := rob HO278 hb; replace BK272 := bkb BK272 hb; replace HB := hbs HB hb; clear hb hbox hg; have hnb9 := NB279_272.out; have hnc9 := NB272_279.out; obtain ⟨hcz10_0, hcz10_1, hcz10_2, hcz10_3, hcz10_4, hcz10_5, hcz10_6, hfz10_0, hfz10_1, hfz10_2, hfz10_3, hfz10_4, hfz10_5, hfz10_6⟩ := bq7 BK279.out))
  go_loopg [18] k (fun kq v18 w' => ∃ (x18_1 : Int) (x273001_1 : Int) (x273002_1 : Int) (x273003_1 : Int) (x273004_1 : Int) (x273005_1 : Int) (x273006_1 : Int) (x280001_1 : Int) (x280002_1 : Int) (x280003_1 : Int) (x280004_1 : Int) (x280005_1 : Int) (x280006_1 : Int), v18 = .int .i64 x18_1 ∧ Aside0 (impl_counted.l0 kq l0 l0 (l0.length : Int) x18_1 y276 x280001_1 x280002_1 x280003_1 x280004_1 x280005_1 x280006_1 = some (r1, r2, r3, r4, r5, r6, r7, r8)) ∧ Aside0 (kq ≤ k) ∧ Aside0 (Kd.R k41 41 w' w.heap.size (fun _ => True) (.slice Ao7 y276.length co7) y276) ∧ Aside0 (w'.heap[gb272]? = some (.cells #[(.slice none 0 0), .int .i64 x273001_1, .int .i64 x273002_1, .int .i64 x273003_1, .int .i64 x273004_1, .int .i64 x273005_1, .int .i64 x273006_1] 31 (0, 0))) ∧ Aside0 (w'.heap[gb279]? = some (.cells #[(.slice Ao7 y276.length co7), .int .i64 x280001_1, .int .i64 x280002_1, .int .i64 x280003_1, .int .i64 x280004_1, .int .i64 x280005_1, .int .i64 x280006_1] 31 (0, 0))) ∧ Aside0 (Below w.heap.size w w'))
  case atStart => exact ⟨(0), (0), (0), (0), (0), (0), (0), (0), (0), (0), (0), (0), (0), (by first | rfl | (simp; done) | (simp [*]; done)), H', ⟨Nat.le_refl _⟩, ⟨Kd.Rq (Kd.R_mono (Kd.R_far (p := ⟨gb279, 6, none⟩) (Kd.R_far (p := ⟨gb279, 5, none⟩) (Kd.R_far (p := ⟨gb279, 4, none⟩) (Kd.R_far (p := ⟨gb279, 3, none⟩) (Kd.R_far (p := ⟨gb279, 2, none⟩) (Kd.R_far (p := ⟨gb279, 1, none⟩) (Kd.R_far (p := ⟨gb279, 0, none⟩) (Kd.R_types HO278.out BK279.out (by decide)) (fun _ hk => hk.2) (.slice Ao7 y276.length co7)) (fun _ hk => hk.2) (.int .i64 0)) (fun _ hk => hk.2) (.int .i64 0)) (fun _ hk => hk.2) (.int .i64 0)) (fun _ hk => hk.2) (.int .i64 0)) (fun _ hk => hk.2) (.int .i64 0)) (fun _ hk => hk.2) (.int .i64 0)) (fun _ hk => trivial))⟩, ⟨by (with_reducible repeat (first | refine blk_drewN ?_ _ | refine blk_drew ?_ | refine blk_alloc ?_ _)); refine blk_far ?_ NB272_279.out _; (with_reducible repeat (first | refine blk_drewN ?_ _ | refine blk_drew ?_ | refine blk_alloc ?_ _)); refine blk_far ?_ NB272_279.out _; (with_reducible repeat (first | refine blk_drewN ?_ _ | refine blk_drew ?_ | refine blk_alloc ?_ _)); refine blk_far ?_ NB272_279.out _; (with_reducible repeat (first | refine blk_drewN ?_ _ | refine blk_drew ?_ | refine blk_alloc ?_ _)); refine blk_far ?_ NB272_279.out _; (with_reducible repeat (first | refine blk_drewN ?_ _ | refine blk_drew ?_ | refine blk_alloc ?_ _)); refine blk_far ?_ NB272_279.out _; (with_reducible repeat (first | refine blk_drewN ?_ _ | refine blk_drew ?_ | refine blk_alloc ?_ _)); refine blk_far ?_ NB272_279.out _; (with_reducible repeat (first | refine blk_drewN ?_ _ | refine blk_drew ?_ | refine blk_alloc ?_ _)); refine blk_far ?_ NB272_279.out _; (with_reducible repeat (first | refine blk_drewN ?_ _ | refine blk_drew ?_ | refine blk_alloc ?_ _)); exact BK272.out⟩, ⟨by (with_reducible repeat (first | refine blk_drewN ?_ _ | refine blk_drew ?_ | refine blk_alloc ?_ _)); refine blk_put (cs := #[.slice Ao7 y276.length co7, .int .i64 0, .int .i64 0, .int .i64 0, .int .i64 0, .int .i64 0, .int .i64 0]) ?_ 6 _ rfl; (with_reducible repeat (first | refine blk_drewN ?_ _ | refine blk_drew ?_ | refine blk_alloc ?_ _)); refine blk_put (cs := #[.slice Ao7 y276.length co7, .int .i64 0, .int .i64 0, .int .i64 0, .int .i64 0, .int .i64 0, .int .i64 0]) ?_ 5 _ rfl; (with_reducible repeat (first | refine blk_drewN ?_ _ | refine blk_drew ?_ | refine blk_alloc ?_ _)); refine blk_put (cs := #[.slice Ao7 y276.length co7, .int .i64 0, .int .i64 0, .int .i64 0, .int .i64 0, .int .i64 0, .int .i64 0]) ?_ 4 _ rfl; (with_reducible repeat (first | refine blk_drewN ?_ _ | refine blk_drew ?_ | refine blk_alloc ?_ _)); refine blk_put (cs := #[.slice Ao7 y276.length co7, .int .i64 0, .int .i64 0, .int .i64 0, .int .i64 0, .int .i64 0, .int .i64 0]) ?_ 3 _ rfl; (with_reducible repeat (first | refine blk_drewN ?_ _ | refine blk_drew ?_ | refine blk_alloc ?_ _)); refine blk_put (cs := #[.slice Ao7 y276.length co7, .int .i64 0, .int .i64 0, .int .i64 0, .int .i64 0, .int .i64 0, .int .i64 0]) ?_ 2 _ rfl; (with_reducible repeat (first | refine blk_drewN ?_ _ | refine blk_drew ?_ | refine blk_alloc ?_ _)); refine blk_put (cs := #[.slice Ao7 y276.length co7, .int .i64 0, .int .i64 0, .int .i64 0, .int .i64 0, .int .i64 0, .int .i64 0]) ?_ 1 _ rfl; (with_reducible repeat (first | refine blk_drewN ?_ _ | refine blk_drew ?_ | refine blk_alloc ?_ _)); refine blk_put (cs := #[.slice none 0 0, .int .i64 0, .int .i64 0, .int .i64 0, .int .i64 0, .int .i64 0, .int .i64 0]) ?_ 0 _ rfl; (with_reducible repeat (first | refine blk_drewN ?_ _ | refine blk_drew ?_ | refine blk_alloc ?_ _)); exact BK279.out⟩, ⟨blq HB.out⟩⟩
  case round =>
   clear H'
   try clear c2
   try clear p2
   try clear c5
   try clear c9
   try clear hcz10_0
   try clear hcz10_1
   try clear hcz10_2
   try clear hcz10_3
   try clear hcz10_4
   try clear hcz10_5
   try clear hcz10_6
   try clear hfz10_0
   try clear hfz10_1
   try clear hfz10_2
   try clear hfz10_3
   try clear hfz10_4
   try clear hfz10_5
   try clear hfz10_6
   obtain ⟨x18_1, x273001_1, x273002_1, x273003_1, x273004_1, x273005_1, x273006_1, x280001_1, x280002_1, x280003_1, x280004_1, x280005_1, x280006_1, rfl, HA, HK1, HO_280000, BK272, BK279, HB⟩ := hrel
   cases gk with
   | zero => exact absurd HA.out (by simp [impl_counted.l0])
   | succ k1 =>
    have H := HA.out
    clear HA
    simp only [impl_counted.l0] at H
    by_cases c11 : x18_1 < (l0.length : Int)
    ·
     rw [if_pos c11] at H
     have c11b0 : decide (x18_1 < (l0.length : Int)) = true := decide_eq_true c11
     clear c11
     by_cases c12 : 0 ≤ x18_1
     ·
      rw [if_pos c12] at H
      have c12b0 : decide (0 ≤ x18_1) = true := decide_eq_true c12
      clear c12
      by_cases c13 : x18_1 < (l0.length : Int)
      ·
       rw [if_pos c13] at H
       have c13b0 : decide (x18_1 < (l0.length : Int)) = true := decide_eq_true c13
       clear c13
       replace H := Option.bind_eq_some_iff.mp H
       obtain ⟨⟨t282, t283, t284, t285, t286, t287, t288⟩, A140, H⟩ := H
       replace H : (if t288 = true then (impl_counted.l0 k1 l0 l0 (l0.length : Int) (wrap64 (x18_1 + 1)) y276 t282 t283 t284 (wrap64 (x280004_1 + t285)) (wrap64 (x280005_1 + t286)) (wrap64 (x280006_1 + t287))) else (some (([] : List (S41)), 0, 0, 0, 0, 0, 0, false))) = some (r1, r2, r3, r4, r5, r6, r7, r8) := H
       have A14 := Aside0.mk A140
       clear A140
       have HF15 := Aside0.mk H
       clear H
       have p280 : 0 ≤ (x18_1 : Int) := of_decide_eq_true (by first | (with_reducible assumption) | assumption)
       have q280 : x18_1 < (l0.length : Int) := of_decide_eq_true (by first | (with_reducible assumption) | assumption)
       obtain ⟨ad280, e280, hx280_0, hx280_1⟩ := at_T41 HR0.out x18_1 p280 q280
       cases e280
       replace hx280_0 := (HB.out.cell (World.block_lt_of_cell? w _ hx280_0)).trans hx280_0
       replace hx280_1 := (HB.out.cell (World.block_lt_of_cell? w _ hx280_1)).trans hx280_1
       replace p280 := eq_true p280
       replace q280 := eq_true q280
       go_upto_if 33 with (first | ((with_reducible refine gate_dst (N := 6) rfl ?_); refine box_event ?hg (N := 6) ?hd (cs := #[.int .i64 0, .int .i64 0]) (t := 41) ?hr ?_; (case hd => rfl); (case hg => rfl); (case hr => first | (go_simp; done) | (go_simp; rfl)); intro gb281 hg w16 hbox hb; have BK281 := Aside0.mk (hbox); have GW281 := sQ hg HB; have GE281 := sQ hg HB; have NB272_281 := qL hg BK272; have NB281_272 := qG hg BK272; have NB279_281 := qL hg BK279; have NB281_279 := qG hg BK279; replace HO_280000 := Aside0.mk (Kd.R_below (Kd.R_elderB (Kd.Rq HO_280000.out) gb281 (Nat.le_of_eq hg.symm)) hb); replace BK272 := bkb BK272 hb; replace BK279 := bkb BK279 hb; replace HB := hbs HB hb; clear hb hbox hg; have hnb17 := NB281_272.out; have hnc17 := NB272_281.out; have hnb18 := NB281_279.out; have hnc18 := NB279_281.out; obtain ⟨hcz19_0, hcz19_1, hfz19_0, hfz19_1⟩ := bq2 BK281.out; have hnb20 := NB279_272.out; have hnc20 := NB272_279.out; obtain ⟨hcz21_0, hcz21_1, hcz21_2, hcz21_3, hcz21_4, hcz21_5, hcz21_6, hfz21_0, hfz21_1, hfz21_2, hfz21_3, hfz21_4, hfz21_5, hfz21_6⟩ := bq7 BK279.out) | ((with_reducible refine gate_callee (f := 96) rfl ?_); refine gLq (some 26) Try.func96 #[.agg #[.int .i64 x280001_1, .int .i64 x280002_1, .int .i64 x280003_1], .agg #[.int .i64 ((rd_T41 l0 x18_1).f0), .int .i64 ((rd_T41 l0 x18_1).f1)]] ?_; (with_reducible refine (impl_EventOn.calls k1 x280001_1 x280002_1 x280003_1 ((rd_T41 l0 x18_1).f0) ((rd_T41 l0 x18_1).f1) t282 t283 t284 t285 t286 t287 t288 _ A14.out).mono ?_); rintro e w22 ⟨rfl, hb⟩; refine ⟨_, rfl, ?_⟩; replace HO_280000 := Aside0.mk (Kd.R_below (Kd.Rq (Kd.R_mono (Kd.R_far (p := ⟨gb281, 1, none⟩) (Kd.R_far (p := ⟨gb281, 0, none⟩) (Kd.R_mono HO_280000.out (fun k_ hk => (⟨hk, hk.2⟩ : _ ∧ k_ ≠ gb281))) (fun _ hk => hk.2) (.int .i64 ((rd_T41 l0 x18_1).f0))) (fun _ hk => hk.2) (.int .i64 ((rd_T41 l0 x18_1).f1))) (fun _ h_ => h_.1))) hb); replace BK272 := Aside0.mk (blk_below (g := gb272) (o := .cells #[.slice none 0 0, .int .i64 x273001_1, .int .i64 x273002_1, .int .i64 x273003_1, .int .i64 x273004_1, .int .i64 x273005_1, .int .i64 x273006_1] 31 (0, 0)) (by (with_reducible repeat (first | refine blk_drewN ?_ _ | refine blk_drew ?_ | refine blk_alloc ?_ _)); refine blk_far ?_ NB272_281.out _; (with_reducible repeat (first | refine blk_drewN ?_ _ | refine blk_drew ?_ | refine blk_alloc ?_ _)); refine blk_far ?_ NB272_281.out _; (with_reducible repeat (first | refine blk_drewN ?_ _ | refine blk_drew ?_ | refine blk_alloc ?_ _)); exact BK272.out) hb); replace BK279 := Aside0.mk (blk_below (g := gb279) (o := .cells #[.slice Ao7 y276.length co7, .int .i64 x280001_1, .int .i64 x280002_1, .int .i64 x280003_1, .int .i64 x280004_1, .int .i64 x280005_1, .int .i64 x280006_1] 31 (0, 0)) (by (with_reducible repeat (first | refine blk_drewN ?_ _ | refine blk_drew ?_ | refine blk_alloc ?_ _)); refine blk_far ?_ NB279_281.out _; (with_reducible repeat (first | refine blk_drewN ?_ _ | refine blk_drew ?_ | refine blk_alloc ?_ _)); refine blk_far ?_ NB279_281.out _; (with_reducible repeat (first | refine blk_drewN ?_ _ | refine blk_drew ?_ | refine blk_alloc ?_ _)); exact BK279.out) hb); replace BK281 := Aside0.mk (blk_below (g := gb281) (o := .cells #[.int .i64 ((rd_T41 l0 x18_1).f0), .int .i64 ((rd_T41 l0 x18_1).f1)] 41 (0, 0)) (by (with_reducible repeat (first | refine blk_drewN ?_ _ | refine blk_drew ?_ | refine blk_alloc ?_ _)); refine blk_put (cs := #[.int .i64 ((rd_T41 l0 x18_1).f0), .int .i64 0]) ?_ 1 _ rfl; (with_reducible repeat (first | refine blk_drewN ?_ _ | refine blk_drew ?_ | refine blk_alloc ?_ _)); refine blk_put (cs := #[.int .i64 0, .int .i64 0]) ?_ 0 _ rfl; (with_reducible repeat (first | refine blk_drewN ?_ _ | refine blk_drew ?_ | refine blk_alloc ?_ _)); exact BK281.out) hb); replace HB := hbs HB hb; (try clear hb); (try clear hb2); (try clear hk); (try clear hi)) | ((with_reducible refine gate_dst (N := 7) rfl ?_); refine box_event ?hg (N := 7) ?hd (cs := #[.int .i64 0, .int .i64 0, .int .i64 0]) (t := 29) ?hr ?_; (case hd => rfl); (case hg => rfl); (case hr => first | (go_simp; done) | (go_simp; rfl)); intro gb289 hg w23 hbox hb; have BK289 := Aside0.mk (hbox); have GW289 := sQ hg HB; have GE289 := sQ hg HB; have NB272_289 := qL hg BK272; have NB289_272 := qG hg BK272; have NB279_289 := qL hg BK279; have NB289_279 := qG hg BK279; have NB281_289 := qL hg BK281; have NB289_281 := qG hg BK281; replace HO_280000 := rob HO_280000 hb; replace BK272 := bkb BK272 hb; replace BK279 := bkb BK279 hb; replace BK281 := bkb BK281 hb; replace HB := hbs HB hb; clear hb hbox hg; have hnb24 := NB289_272.out; have hnc24 := NB272_289.out; have hnb25 := NB289_279.out; have hnc25 := NB279_289.out; have hnb26 := NB289_281.out; have hnc26 := NB281_289.out; obtain ⟨hcz27_0, hcz27_1, hcz27_2, hfz27_0, hfz27_1, hfz27_2⟩ := bq3 BK289.out))
       have H := HF15.out
       clear HF15
       by_cases c28 : t288 = true
       ·
        subst c28
        have H1 : (impl_counted.l0 k1 l0 l0 (l0.length : Int) (wrap64 (x18_1 + 1)) y276 t282 t283 t284 (wrap64 (x280004_1 + t285)) (wrap64 (x280005_1 + t286)) (wrap64 (x280006_1 + t287))) = some (r1, r2, r3, r4, r5, r6, r7, r8) := by rw [if_pos rfl] at H; exact H
        clear H
        have H := H1
        clear H1
        have H' := Aside0.mk H
        clear H
        have hnb29 := NB289_272.out
        have hnc29 := NB272_289.out
        have hnb30 := NB289_279.out
        have hnc30 := NB279_289.out
        have hnb31 := NB289_281.out
        have hnc31 := NB281_289.out
        obtain ⟨hcz32_0, hcz32_1, hcz32_2, hfz32_0, hfz32_1, hfz32_2⟩ := bq3 BK289.out
        have hnb33 := NB279_272.out
        have hnc33 := NB272_279.out
        have hnb34 := NB279_281.out
        have hnc34 := NB281_279.out
        obtain ⟨hcz35_0, hcz35_1, hcz35_2, hcz35_3, hcz35_4, hcz35_5, hcz35_6, hfz35_0, hfz35_1, hfz35_2, hfz35_3, hfz35_4, hfz35_5, hfz35_6⟩ := bq7 BK279.out
        go_wp2
        go_roundg k1
        case measure => have := HK1.out; omega
        case rel => exact ⟨(wrap64 (x18_1 + 1)), (x273001_1), (x273002_1), (x273003_1), (x273004_1), (x273005_1), (x273006_1), (t282), (t283), (t284), (wrap64 (x280004_1 + t285)), (wrap64 (x280005_1 + t286)), (wrap64 (x280006_1 + t287)), (by first | rfl | (simp; done) | (simp [*]; done)), H', ⟨by have := HK1.out; omega⟩, ⟨Kd.Rq (Kd.R_mono (Kd.R_far (p := ⟨gb279, 6, none⟩) (Kd.R_far (p := ⟨gb279, 5, none⟩) (Kd.R_far (p := ⟨gb279, 4, none⟩) (Kd.R_far (p := ⟨gb279, 3, none⟩) (Kd.R_far (p := ⟨gb279, 2, none⟩) (Kd.R_far (p := ⟨gb279, 1, none⟩) (Kd.R_far (p := ⟨gb289, 2, none⟩) (Kd.R_far (p := ⟨gb289, 1, none⟩) (Kd.R_far (p := ⟨gb289, 0, none⟩) (Kd.R_types (Kd.R_types HO_280000.out BK289.out (by decide)) BK279.out (by decide)) (fun _ hk => hk.1.2) (.int .i64 t282)) (fun _ hk => hk.1.2) (.int .i64 t283)) (fun _ hk => hk.1.2) (.int .i64 t284)) (fun _ hk => hk.2) (.int .i64 t282)) (fun _ hk => hk.2) (.int .i64 t283)) (fun _ hk => hk.2) (.int .i64 t284)) (fun _ hk => hk.2) (.int .i64 (wrap64 (x280004_1 + t285)))) (fun _ hk => hk.2) (.int .i64 (wrap64 (x280005_1 + t286)))) (fun _ hk => hk.2) (.int .i64 (wrap64 (x280006_1 + t287)))) (fun _ hk => trivial))⟩, ⟨by (with_reducible repeat (first | refine blk_drewN ?_ _ | refine blk_drew ?_ | refine blk_alloc ?_ _)); refine blk_far ?_ NB272_279.out _; (with_reducible repeat (first | refine blk_drewN ?_ _ | refine blk_drew ?_ | refine blk_alloc ?_ _)); refine blk_far ?_ NB272_279.out _; (with_reducible repeat (first | refine blk_drewN ?_ _ | refine blk_drew ?_ | refine blk_alloc ?_ _)); refine blk_far ?_ NB272_279.out _; (with_reducible repeat (first | refine blk_drewN ?_ _ | refine blk_drew ?_ | refine blk_alloc ?_ _)); refine blk_far ?_ NB272_279.out _; (with_reducible repeat (first | refine blk_drewN ?_ _ | refine blk_drew ?_ | refine blk_alloc ?_ _)); refine blk_far ?_ NB272_279.out _; (with_reducible repeat (first | refine blk_drewN ?_ _ | refine blk_drew ?_ | refine blk_alloc ?_ _)); refine blk_far ?_ NB272_279.out _; (with_reducible repeat (first | refine blk_drewN ?_ _ | refine blk_drew ?_ | refine blk_alloc ?_ _)); refine blk_far ?_ NB272_289.out _; (with_reducible repeat (first | refine blk_drewN ?_ _ | refine blk_drew ?_ | refine blk_alloc ?_ _)); refine blk_far ?_ NB272_289.out _; (with_reducible repeat (first | refine blk_drewN ?_ _ | refine blk_drew ?_ | refine blk_alloc ?_ _)); refine blk_far ?_ NB272_289.out _; (with_reducible repeat (first | refine blk_drewN ?_ _ | refine blk_drew ?_ | refine blk_alloc ?_ _)); exact BK272.out⟩, ⟨by (with_reducible repeat (first | refine blk_drewN ?_ _ | refine blk_drew ?_ | refine blk_alloc ?_ _)); refine blk_put (cs := #[.slice Ao7 y276.length co7, .int .i64 t282, .int .i64 t283, .int .i64 t284, .int .i64 (wrap64 (x280004_1 + t285)), .int .i64 (wrap64 (x280005_1 + t286)), .int .i64 x280006_1]) ?_ 6 _ rfl; (with_reducible repeat (first | refine blk_drewN ?_ _ | refine blk_drew ?_ | refine blk_alloc ?_ _)); refine blk_put (cs := #[.slice Ao7 y276.length co7, .int .i64 t282, .int .i64 t283, .int .i64 t284, .int .i64 (wrap64 (x280004_1 + t285)), .int .i64 x280005_1, .int .i64 x280006_1]) ?_ 5 _ rfl; (with_reducible repeat (first | refine blk_drewN ?_ _ | refine blk_drew ?_ | refine blk_alloc ?_ _)); refine blk_put (cs := #[.slice Ao7 y276.length co7, .int .i64 t282, .int .i64 t283, .int .i64 t284, .int .i64 x280004_1, .int .i64 x280005_1, .int .i64 x280006_1]) ?_ 4 _ rfl; (with_reducible repeat (first | refine blk_drewN ?_ _ | refine blk_drew ?_ | refine blk_alloc ?_ _)); refine blk_put (cs := #[.slice Ao7 y276.length co7, .int .i64 t282, .int .i64 t283, .int .i64 x280003_1, .int .i64 x280004_1, .int .i64 x280005_1, .int .i64 x280006_1]) ?_ 3 _ rfl; (with_reducible repeat (first | refine blk_drewN ?_ _ | refine blk_drew ?_ | refine blk_alloc ?_ _)); refine blk_put (cs := #[.slice Ao7 y276.length co7, .int .i64 t282, .int .i64 x280002_1, .int .i64 x280003_1, .int .i64 x280004_1, .int .i64 x280005_1, .int .i64 x280006_1]) ?_ 2 _ rfl; (with_reducible repeat (first | refine blk_drewN ?_ _ | refine blk_drew ?_ | refine blk_alloc ?_ _)); refine blk_put (cs := #[.slice Ao7 y276.length co7, .int .i64 x280001_1, .int .i64 x280002_1, .int .i64 x280003_1, .int .i64 x280004_1, .int .i64 x280005_1, .int .i64 x280006_1]) ?_ 1 _ rfl; (with_reducible repeat (first | refine blk_drewN ?_ _ | refine blk_drew ?_ | refine blk_alloc ?_ _)); refine blk_far ?_ NB279_289.out _; (with_reducible repeat (first | refine blk_drewN ?_ _ | refine blk_drew ?_ | refine blk_alloc ?_ _)); refine blk_far ?_ NB279_289.out _; (with_reducible repeat (first | refine blk_drewN ?_ _ | refine blk_drew ?_ | refine blk_alloc ?_ _)); refine blk_far ?_ NB279_289.out _; (with_reducible repeat (first | refine blk_drewN ?_ _ | refine blk_drew ?_ | refine blk_alloc ?_ _)); exact BK279.out⟩, ⟨blq HB.out⟩⟩
       ·
        replace c28 := Bool.eq_false_iff.mpr c28
        subst c28
        have H1 : (some (([] : List (S41)), 0, 0, 0, 0, 0, 0, false)) = some (r1, r2, r3, r4, r5, r6, r7, r8) := by rw [if_neg (show ¬ (false = true) by decide)] at H; exact H
        clear H
        have H := H1
        clear H1
        simp only [Option.some.injEq, Prod.mk.injEq] at H
        obtain ⟨rfl, rfl, rfl, rfl, rfl, rfl, rfl, rfl⟩ := H
        have hnb36 := NB272_279.out
        have hnc36 := NB279_272.out
        have hnb37 := NB272_281.out
        have hnc37 := NB281_272.out
        have hnb38 := NB272_289.out
        have hnc38 := NB289_272.out
        obtain ⟨hcz39_0, hcz39_1, hcz39_2, hcz39_3, hcz39_4, hcz39_5, hcz39_6, hfz39_0, hfz39_1, hfz39_2, hfz39_3, hfz39_4, hfz39_5, hfz39_6⟩ := bq7 BK272.out
        go_wp2
        refine bodyPost_ret (results_ct rfl _ _ gb272 31 #[.slice none 0 0, .int .i64 0, .int .i64 0, .int .i64 0, .int .i64 0, .int .i64 0, .int .i64 0] (0, 0) _ rfl (by (with_reducible repeat (first | refine blk_drewN ?_ _ | refine blk_drew ?_ | refine blk_alloc ?_ _)); refine blk_put (cs := #[.slice none 0 0, .int .i64 0, .int .i64 0, .int .i64 0, .int .i64 0, .int .i64 0, .int .i64 x273006_1]) ?_ 6 _ rfl; (with_reducible repeat (first | refine blk_drewN ?_ _ | refine blk_drew ?_ | refine blk_alloc ?_ _)); refine blk_put (cs := #[.slice none 0 0, .int .i64 0, .int .i64 0, .int .i64 0, .int .i64 0, .int .i64 x273005_1, .int .i64 x273006_1]) ?_ 5 _ rfl; (with_reducible repeat (first | refine blk_drewN ?_ _ | refine blk_drew ?_ | refine blk_alloc ?_ _)); refine blk_put (cs := #[.slice none 0 0, .int .i64 0, .int .i64 0, .int .i64 0, .int .i64 x273004_1, .int .i64 x273005_1, .int .i64 x273006_1]) ?_ 4 _ rfl; (with_reducible repeat (first | refine blk_drewN ?_ _ | refine blk_drew ?_ | refine blk_alloc ?_ _)); refine blk_put (cs := #[.slice none 0 0, .int .i64 0, .int .i64 0, .int .i64 x273003_1, .int .i64 x273004_1, .int .i64 x273005_1, .int .i64 x273006_1]) ?_ 3 _ rfl; (with_reducible repeat (first | refine blk_drewN ?_ _ | refine blk_drew ?_ | refine blk_alloc ?_ _)); refine blk_put (cs := #[.slice none 0 0, .int .i64 0, .int .i64 x273002_1, .int .i64 x273003_1, .int .i64 x273004_1, .int .i64 x273005_1, .int .i64 x273006_1]) ?_ 2 _ rfl; (with_reducible repeat (first | refine blk_drewN ?_ _ | refine blk_drew ?_ | refine blk_alloc ?_ _)); refine blk_put (cs := #[.slice none 0 0, .int .i64 x273001_1, .int .i64 x273002_1, .int .i64 x273003_1, .int .i64 x273004_1, .int .i64 x273005_1, .int .i64 x273006_1]) ?_ 1 _ rfl; (with_reducible repeat (first | refine blk_drewN ?_ _ | refine blk_drew ?_ | refine blk_alloc ?_ _)); refine blk_put (cs := #[.slice none 0 0, .int .i64 x273001_1, .int .i64 x273002_1, .int .i64 x273003_1, .int .i64 x273004_1, .int .i64 x273005_1, .int .i64 x273006_1]) ?_ 0 _ rfl; (with_reducible repeat (first | refine blk_drewN ?_ _ | refine blk_drew ?_ | refine blk_alloc ?_ _)); refine blk_far ?_ NB272_289.out _; (with_reducible repeat (first | refine blk_drewN ?_ _ | refine blk_drew ?_ | refine blk_alloc ?_ _)); refine blk_far ?_ NB272_289.out _; (with_reducible repeat (first | refine blk_drewN ?_ _ | refine blk_drew ?_ | refine blk_alloc ?_ _)); refine blk_far ?_ NB272_289.out _; (with_reducible repeat (first | refine blk_drewN ?_ _ | refine blk_drew ?_ | refine blk_alloc ?_ _)); exact BK272.out) Try.underlying31 rfl (by kernel_rfl)) rfl ?_
        exact ⟨_, by first | rfl | (simp [errW_none, errW_some] <;> rfl) | (simp [*, errW_none, errW_some] <;> rfl), by first | exact Kd.R_nil _ _ _ _ _ | exact Kd.N_nil _ _ _ _ _ | exact Kd.V_nil _ _ _ _ _ | exact Kd.Q_nil _ _ _ _ _ | exact Kd.S_nil _ _ _ _ _, blq HB.out⟩
      ·
       rw [if_neg c13] at H
       exact absurd H (by simp)
     ·
      rw [if_neg c12] at H
      exact absurd H (by simp)
    ·
     rw [if_neg c11] at H
     have c11b0 : decide (x18_1 < (l0.length : Int)) = false := decide_eq_false c11
     clear c11
     simp only [Option.some.injEq, Prod.mk.injEq] at H
     obtain ⟨rfl, rfl, rfl, rfl, rfl, rfl, rfl, rfl⟩ := H
     have hnb40 := NB279_272.out
     have hnc40 := NB272_279.out
     obtain ⟨hcz41_0, hcz41_1, hcz41_2, hcz41_3, hcz41_4, hcz41_5, hcz41_6, hfz41_0, hfz41_1, hfz41_2, hfz41_3, hfz41_4, hfz41_5, hfz41_6⟩ := bq7 BK279.out
     obtain ⟨hcz42_0, hcz42_1, hcz42_2, hcz42_3, hcz42_4, hcz42_5, hcz42_6, hfz42_0, hfz42_1, hfz42_2, hfz42_3, hfz42_4, hfz42_5, hfz42_6⟩ := bq7 BK272.out
     go_wp2
     refine bodyPost_ret (results_ct rfl _ _ gb272 31 #[.slice Ao7 y276.length co7, .int .i64 x280001_1, .int .i64 x280002_1, .int .i64 x280003_1, .int .i64 x280004_1, .int .i64 x280005_1, .int .i64 x280006_1] (0, 0) _ rfl (by (with_reducible repeat (first | refine blk_drewN ?_ _ | refine blk_drew ?_ | refine blk_alloc ?_ _)); refine blk_put (cs := #[.slice Ao7 y276.length co7, .int .i64 x280001_1, .int .i64 x280002_1, .int .i64 x280003_1, .int .i64 x280004_1, .int .i64 x280005_1, .int .i64 x273006_1]) ?_ 6 _ rfl; (with_reducible repeat (first | refine blk_drewN ?_ _ | refine blk_drew ?_ | refine blk_alloc ?_ _)); refine blk_put (cs := #[.slice Ao7 y276.length co7, .int .i64 x280001_1, .int .i64 x280002_1, .int .i64 x280003_1, .int .i64 x280004_1, .int .i64 x273005_1, .int .i64 x273006_1]) ?_ 5 _ rfl; (with_reducible repeat (first | refine blk_drewN ?_ _ | refine blk_drew ?_ | refine blk_alloc ?_ _)); refine blk_put (cs := #[.slice Ao7 y276.length co7, .int .i64 x280001_1, .int .i64 x280002_1, .int .i64 x280003_1, .int .i64 x273004_1, .int .i64 x273005_1, .int .i64 x273006_1]) ?_ 4 _ rfl; (with_reducible repeat (first | refine blk_drewN ?_ _ | refine blk_drew ?_ | refine blk_alloc ?_ _)); refine blk_put (cs := #[.slice Ao7 y276.length co7, .int .i64 x280001_1, .int .i64 x280002_1, .int .i64 x273003_1, .int .i64 x273004_1, .int .i64 x273005_1, .int .i64 x273006_1]) ?_ 3 _ rfl; (with_reducible repeat (first | refine blk_drewN ?_ _ | refine blk_drew ?_ | refine blk_alloc ?_ _)); refine blk_put (cs := #[.slice Ao7 y276.length co7, .int .i64 x280001_1, .int .i64 x273002_1, .int .i64 x273003_1, .int .i64 x273004_1, .int .i64 x273005_1, .int .i64 x273006_1]) ?_ 2 _ rfl; (with_reducible repeat (first | refine blk_drewN ?_ _ | refine blk_drew ?_ | refine blk_alloc ?_ _)); refine blk_put (cs := #[.slice Ao7 y276.length co7, .int .i64 x273001_1, .int .i64 x273002_1, .int .i64 x273003_1, .int .i64 x273004_1, .int .i64 x273005_1, .int .i64 x273006_1]) ?_ 1 _ rfl; (with_reducible repeat (first | refine blk_drewN ?_ _ | refine blk_drew ?_ | refine blk_alloc ?_ _)); refine blk_put (cs := #[.slice none 0 0, .int .i64 x273001_1, .int .i64 x273002_1, .int .i64 x273003_1, .int .i64 x273004_1, .int .i64 x273005_1, .int .i64 x273006_1]) ?_ 0 _ rfl; (with_reducible repeat (first | refine blk_drewN ?_ _ | refine blk_drew ?_ | refine blk_alloc ?_ _)); exact BK272.out) Try.underlying31 rfl (by kernel_rfl)) rfl ?_
     exact ⟨_, by first | rfl | (simp [errW_none, errW_some] <;> rfl) | (simp [*, errW_none, errW_some] <;> rfl), Kd.Rq (Kd.R_mono (Kd.R_far (p := ⟨gb272, 6, none⟩) (Kd.R_far (p := ⟨gb272, 5, none⟩) (Kd.R_far (p := ⟨gb272, 4, none⟩) (Kd.R_far (p := ⟨gb272, 3, none⟩) (Kd.R_far (p := ⟨gb272, 2, none⟩) (Kd.R_far (p := ⟨gb272, 1, none⟩) (Kd.R_far (p := ⟨gb272, 0, none⟩) (Kd.R_types HO_280000.out BK272.out (by decide)) (fun _ hk => hk.2) (.slice Ao7 y276.length co7)) (fun _ hk => hk.2) (.int .i64 x280001_1)) (fun _ hk => hk.2) (.int .i64 x280002_1)) (fun _ hk => hk.2) (.int .i64 x280003_1)) (fun _ hk => hk.2) (.int .i64 x280004_1)) (fun _ hk => hk.2) (.int .i64 x280005_1)) (fun _ hk => hk.2) (.int .i64 x280006_1)) (fun _ hk => trivial)), blq HB.out⟩
 ·
  rw [if_neg c2] at H
  exact absurd H (by simp)

end Go.Proofs.Ytonaabffckkdlaa.Q
