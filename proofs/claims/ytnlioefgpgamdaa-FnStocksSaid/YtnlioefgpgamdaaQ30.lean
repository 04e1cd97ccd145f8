-- Written for this claim by wip/xprint.py of this repository (by way of the kit's print); Lean checks every line.
import Derived.Test.YtnlioefgpgamdaaQ0
import Derived.Test.YtnlioefgpgamdaaQ2
import Derived.Test.YtnlioefgpgamdaaQ6
import Derived.Test.YtnlioefgpgamdaaQ18
import Derived.Test.YtnlioefgpgamdaaQ19
import Derived.Test.YtnlioefgpgamdaaQ24
import Derived.Test.YtnlioefgpgamdaaQ32
namespace Go.Proofs.Ytnlioefgpgamdaa.Q
open Go.RowKit Go.Proofs.YtnlioefgpgamdaaW.PrintWords Go.Proofs.YtnlioefgpgamdaaW.PrintLast Go.Proofs.YtnlioefgpgamdaaW.PrintMore
attribute [local go_sem] max2_int min2_int max_two min_two max_three min_three max_four min_four   -- for this text's walks alone
set_option linter.unusedVariables false
set_option linter.unusedSimpArgs false

/-! ### spec_l36Stock: function 102 -/
def spec_l36Stock.f (s0_0 : List Int) (s0_1 : Int) (s0_2 : Int) : Option (List Int × Int × Int) := (spec_l01Below.f s0_0 s0_1 s0_2 250).bind fun bt511 => ((spec_l01Below.f s0_0 bt511.2.1 bt511.2.2 250).bind fun bt514 => ((spec_l01Below.f s0_0 bt514.2.1 bt514.2.2 50).bind fun bt517 => ((spec_l01Below.f s0_0 bt517.2.1 bt517.2.2 200).bind fun bt520 => (some ((([wrap64 (8 * bt511.1), wrap64 (6 * bt514.1), bt517.1, wrap64 (2 * bt520.1)] : List Int)), bt520.2.1, bt520.2.2)))))
set_option maxHeartbeats 8000000 in
set_option maxRecDepth 100000 in
theorem spec_l36Stock.calls (g : Nat) (s0_0 : List Int) (s0_1 : Int) (s0_2 : Int) (r1 : List Int) (r2 : Int) (r3 : Int) (w0 w : World) (hI : IsS139 w0 w g s0_0 s0_1 s0_2) (hB : Below w0.heap.size w0 w) (h : spec_l36Stock.f s0_0 s0_1 s0_2 = some (r1, r2, r3)) :
  Calls Try.prog 102 #[.pointer (some ⟨g, 0, none⟩)] w fun e w' => ∃ v0_ : Value, e = .returned (.agg #[v0_]) ∧ Kd.R (Kd.int .i64) 3 w' w.heap.size (fun _ => True) v0_ r1 ∧ IsS139 w0 w' g s0_0 r2 r3 ∧ Below w0.heap.size w0 w' ∧ KeepBut w w' g none := by
 have hu54 := Try.underlying54
 have HI0 := Aside0.mk hI
 have HK := Aside0.mk (KeepBut.refl w g none)
 have HL := Aside0.mk hB.size
 clear hI
 have HW0 := Aside0.mk hB.size
 have HB := Aside0.mk hB
 clear hB
 have H : ((spec_l01Below.f s0_0 s0_1 s0_2 250).bind fun bt511 => ((spec_l01Below.f s0_0 bt511.2.1 bt511.2.2 250).bind fun bt514 => ((spec_l01Below.f s0_0 bt514.2.1 bt514.2.2 50).bind fun bt517 => ((spec_l01Below.f s0_0 bt517.2.1 bt517.2.2 200).bind fun bt520 => (some ((([wrap64 (8 * bt511.1), wrap64 (6 * bt514.1), bt517.1, wrap64 (2 * bt520.1)] : List Int)), bt520.2.1, bt520.2.2)))))) = some (r1, r2, r3) := h
 clear h
 replace H := Option.bind_eq_some_iff.mp H
 obtain ⟨⟨t511, t512, t513⟩, A20, H⟩ := H
 replace H : ((spec_l01Below.f s0_0 t512 t513 250).bind fun bt514 => ((spec_l01Below.f s0_0 bt514.2.1 bt514.2.2 50).bind fun bt517 => ((spec_l01Below.f s0_0 bt517.2.1 bt517.2.2 200).bind fun bt520 => (some ((([wrap64 (8 * t511), wrap64 (6 * bt514.1), bt517.1, wrap64 (2 * bt520.1)] : List Int)), bt520.2.1, bt520.2.2))))) = some (r1, r2, r3) := H
 have A2 := Aside0.mk A20
 clear A20
 replace H := Option.bind_eq_some_iff.mp H
 obtain ⟨⟨t514, t515, t516⟩, A30, H⟩ := H
 replace H : ((spec_l01Below.f s0_0 t515 t516 50).bind fun bt517 => ((spec_l01Below.f s0_0 bt517.2.1 bt517.2.2 200).bind fun bt520 => (some ((([wrap64 (8 * t511), wrap64 (6 * t514), bt517.1, wrap64 (2 * bt520.1)] : List Int)), bt520.2.1, bt520.2.2)))) = some (r1, r2, r3) := H
 have A3 := Aside0.mk A30
 clear A30
 replace H := Option.bind_eq_some_iff.mp H
 obtain ⟨⟨t517, t518, t519⟩, A40, H⟩ := H
 replace H : ((spec_l01Below.f s0_0 t518 t519 200).bind fun bt520 => (some ((([wrap64 (8 * t511), wrap64 (6 * t514), t517, wrap64 (2 * bt520.1)] : List Int)), bt520.2.1, bt520.2.2))) = some (r1, r2, r3) := H
 have A4 := Aside0.mk A40
 clear A40
 replace H := Option.bind_eq_some_iff.mp H
 obtain ⟨⟨t520, t521, t522⟩, A50, H⟩ := H
 replace H : (some ((([wrap64 (8 * t511), wrap64 (6 * t514), t517, wrap64 (2 * t520)] : List Int)), t521, t522)) = some (r1, r2, r3) := H
 have A5 := Aside0.mk A50
 clear A50
 obtain ⟨y523, hy523⟩ : ∃ y_ : List Int, y_ = (([wrap64 (8 * t511), wrap64 (6 * t514), t517, wrap64 (2 * t520)] : List Int)) := ⟨_, rfl⟩
 replace H : (some (y523, t521, t522)) = some (r1, r2, r3) := by first | (rw [hy523]; with_reducible exact H) | (have H2_ := (Option.bind_some _ _).symm.trans H; rw [hy523]; with_reducible exact H2_) | (have H2_ := (Option.bind_some _ _).symm.trans H; with_reducible exact H2_) | with_reducible exact H | (rw [hy523]; exact H) | exact H
 have Ny523 := Aside0.mk hy523
 clear hy523
 simp only [Option.some.injEq, Prod.mk.injEq] at H
 obtain ⟨rfl, rfl, rfl⟩ := H
 go_enter Try.func102, Try.ntmps102
 go_wp2_with (first | ((with_reducible refine gate_dst (N := 2) rfl ?_); refine box_event ?hg (N := 2) ?hd (cs := #[.slice none 0 0]) (t := 54) ?hr ?_; (case hd => rfl); (case hg => rfl); (case hr => first | (go_simp; done) | (go_simp; rfl)); intro gb510 hg w6 hbox hb; have BK510 := Aside0.mk (hbox); have GW510 := Aside0.mk ((by rw [hg]; exact (keep_size (w := w) (g := g) (row := none) (by repeat (first | (with_reducible first | exact HK.out | apply KeepBut.set_ | apply keep_drewN | apply keep_drew | apply keep_alloc) | exact HK.out))) : w.heap.size ≤ gb510)); have GE510 := Aside0.mk ((Nat.le_trans HW0.out (by rw [hg]; exact (keep_size (w := w) (g := g) (row := none) (by repeat (first | (with_reducible first | exact HK.out | apply KeepBut.set_ | apply keep_drewN | apply keep_drew | apply keep_alloc) | exact HK.out))) : w.heap.size ≤ gb510) : w0.heap.size ≤ gb510)); have NB0_510 := Aside0.mk ((by rw [hg]; exact Nat.ne_of_lt (IsS139.lt (show IsS139 w0 _ g s0_0 s0_1 s0_2 from by repeat (first | (with_reducible first | exact HI0.out | apply IsS139.alloc | apply IsS139.drewN | apply IsS139.drew | apply IsS139.set_1 | apply IsS139.set_2) | exact HI0.out))) : g ≠ gb510)); have NB510_0 := Aside0.mk ((by rw [hg]; exact Nat.ne_of_gt (IsS139.lt (show IsS139 w0 _ g s0_0 s0_1 s0_2 from by repeat (first | (with_reducible first | exact HI0.out | apply IsS139.alloc | apply IsS139.drewN | apply IsS139.drew | apply IsS139.set_1 | apply IsS139.set_2) | exact HI0.out))) : gb510 ≠ g)); replace HK := Aside0.mk (KeepBut.trans (by repeat (first | (with_reducible first | exact HK.out | apply KeepBut.set_ | apply keep_drewN | apply keep_drew | apply keep_alloc) | exact HK.out)) (KeepBut.of_below hb g none) (.inl rfl)); replace HB := Aside0.mk (below_step (by repeat (first | (with_reducible first | exact HB.out | apply below_alloc | apply pw_below_drewN | apply below_drew1 | refine below_set ?_ (IsS139.ge HI0.out)) | exact HB.out)) hb); replace HI0 := Aside0.mk (IsS139.below (by repeat (first | (with_reducible first | exact HI0.out | apply IsS139.alloc | apply IsS139.drewN | apply IsS139.drew | apply IsS139.set_1 | apply IsS139.set_2) | exact HI0.out)) hb); clear hb hbox hg) | ((with_reducible refine gate_callee (f := 125) rfl ?_); refine gLq (some 4) Try.func125 #[.pointer (some ⟨g, 0, none⟩), .int .i64 250] ?_; (with_reducible refine (spec_l01Below.calls g s0_0 s0_1 s0_2 250 t511 t512 t513 w0 _ ?side1 ?side2 A2.out).mono ?_); (case side1 => repeat (first | (with_reducible first | exact HI0.out | apply IsS139.alloc | apply IsS139.drewN | apply IsS139.drew | apply IsS139.set_1 | apply IsS139.set_2 | refine IsS139.far ?_ NB0_510.out _) | exact HI0.out)); (case side2 => repeat (first | (with_reducible first | exact HB.out | apply below_alloc | apply pw_below_drewN | apply below_drew1 | refine below_set ?_ (IsS139.ge HI0.out) | refine below_set ?_ GE510.out) | exact HB.out)); rintro e w7 ⟨rfl, hi, hb, hk⟩; refine ⟨_, rfl, ?_⟩; replace BK510 := Aside0.mk (KeepBut.blk hk (g' := gb510) (o := .cells #[.slice none 0 0] 54 (0, 0)) (bkq BK510.out) NB510_0.out (by simp)); replace HK := Aside0.mk (KeepBut.trans (by repeat (first | (with_reducible first | exact HK.out | apply KeepBut.set_ | apply keep_drewN | apply keep_drew | apply keep_alloc | refine keep_far ?_ GW510.out _) | exact HK.out)) hk (.inl rfl)); replace HB := Aside0.mk (hb); replace HI0 := Aside0.mk (hi); (try clear hb); (try clear hb2); (try clear hk); (try clear hi)) | ((with_reducible refine gate_callee (f := 125) rfl ?_); refine gLq (some 7) Try.func125 #[.pointer (some ⟨g, 0, none⟩), .int .i64 250] ?_; (with_reducible refine (spec_l01Below.calls g s0_0 t512 t513 250 t514 t515 t516 w0 _ ?side1 ?side2 A3.out).mono ?_); (case side1 => repeat (first | (with_reducible first | exact HI0.out | apply IsS139.alloc | apply IsS139.drewN | apply IsS139.drew | apply IsS139.set_1 | apply IsS139.set_2 | refine IsS139.far ?_ NB0_510.out _) | exact HI0.out)); (case side2 => repeat (first | (with_reducible first | exact HB.out | apply below_alloc | apply pw_below_drewN | apply below_drew1 | refine below_set ?_ (IsS139.ge HI0.out) | refine below_set ?_ GE510.out) | exact HB.out)); rintro e w8 ⟨rfl, hi, hb, hk⟩; refine ⟨_, rfl, ?_⟩; replace BK510 := Aside0.mk (KeepBut.blk hk (g' := gb510) (o := .cells #[.slice none 0 0] 54 (0, 0)) (bkq BK510.out) NB510_0.out (by simp)); replace HK := Aside0.mk (KeepBut.trans (by repeat (first | (with_reducible first | exact HK.out | apply KeepBut.set_ | apply keep_drewN | apply keep_drew | apply keep_alloc | refine keep_far ?_ GW510.out _) | exact HK.out)) hk (.inl rfl)); replace HB := Aside0.mk (hb); replace HI0 := Aside0.mk (hi); (try clear hb); (try clear hb2); (try clear hk); (try clear hi)) | ((with_reducible refine gate_callee (f := 125) rfl ?_); refine gLq (some 10) Try.func125 #[.pointer (some ⟨g, 0, none⟩), .int .i64 50] ?_; (with_reducible refine (spec_l01Below.calls g s0_0 t515 t516 50 t517 t518 t519 w0 _ ?side1 ?side2 A4.out).mono ?_); (case side1 => repeat (first | (with_reducible first | exact HI0.out | apply IsS139.alloc | apply IsS139.drewN | apply IsS139.drew | apply IsS139.set_1 | apply IsS139.set_2 | refine IsS139.far ?_ NB0_510.out _) | exact HI0.out)); (case side2 => repeat (first | (with_reducible first | exact HB.out | apply below_alloc | apply pw_below_drewN | apply below_drew1 | refine below_set ?_ (IsS139.ge HI0.out) | refine below_set ?_ GE510.out) | exact HB.out)); rintro e w9 ⟨rfl, hi, hb, hk⟩; refine ⟨_, rfl, ?_⟩; replace BK510 := Aside0.mk (KeepBut.blk hk (g' := gb510) (o := .cells #[.slice none 0 0] 54 (0, 0)) (bkq BK510.out) NB510_0.out (by simp)); replace HK := Aside0.mk (KeepBut.trans (by repeat (first | (with_reducible first | exact HK.out | apply KeepBut.set_ | apply keep_drewN | apply keep_drew | apply keep_alloc | refine keep_far ?_ GW510.out _) | exact HK.out)) hk (.inl rfl)); replace HB := Aside0.mk (hb); replace HI0 := Aside0.mk (hi); (try clear hb); (try clear hb2); (try clear hk); (try clear hi)) | ((with_reducible refine gate_callee (f := 125) rfl ?_); refine gLq (some 12) Try.func125 #[.pointer (some ⟨g, 0, none⟩), .int .i64 200] ?_; (with_reducible refine (spec_l01Below.calls g s0_0 t518 t519 200 t520 t521 t522 w0 _ ?side1 ?side2 A5.out).mono ?_); (case side1 => repeat (first | (with_reducible first | exact HI0.out | apply IsS139.alloc | apply IsS139.drewN | apply IsS139.drew | apply IsS139.set_1 | apply IsS139.set_2 | refine IsS139.far ?_ NB0_510.out _) | exact HI0.out)); (case side2 => repeat (first | (with_reducible first | exact HB.out | apply below_alloc | apply pw_below_drewN | apply below_drew1 | refine below_set ?_ (IsS139.ge HI0.out) | refine below_set ?_ GE510.out) | exact HB.out)); rintro e w10 ⟨rfl, hi, hb, hk⟩; refine ⟨_, rfl, ?_⟩; replace BK510 := Aside0.mk (KeepBut.blk hk (g' := gb510) (o := .cells #[.slice none 0 0] 54 (0, 0)) (bkq BK510.out) NB510_0.out (by simp)); replace HK := Aside0.mk (KeepBut.trans (by repeat (first | (with_reducible first | exact HK.out | apply KeepBut.set_ | apply keep_drewN | apply keep_drew | apply keep_alloc | refine keep_far ?_ GW510.out _) | exact HK.out)) hk (.inl rfl)); replace HB := Aside0.mk (hb); replace HI0 := Aside0.mk (hi); (try clear hb); (try clear hb2); (try clear hk); (try clear hi)) | ((with_reducible refine gate_dst (N := 14) rfl ?_); refine Kd.R_lit (Kd.int .i64) _ 3 ?hg (N := 14) ?hd (xs := ([wrap64 (8 * t511), wrap64 (6 * t514), t517, wrap64 (2 * t520)] : List Int)) (inner := [.int .i64 (wrap64 (8 * t511)), .int .i64 (wrap64 (6 * t514)), .int .i64 t517, .int .i64 (wrap64 (2 * t520))]) (ok := fun _ => True) (okp := fun _ => True) ?hr ?hp (fun _ hk => hk) trivial (Below.refl _ _) (Nat.le_refl _) (by simp) ?_; (case hd => rfl); (case hg => rfl); (case hr => first | (go_simp; done) | (go_simp; rfl)); (case hp => exact (Reps.one (show Kd.M (Kd.int .i64) _ _ _ (wrap64 (8 * t511)) [.int .i64 (wrap64 (8 * t511))] from rfl) (Reps.one (show Kd.M (Kd.int .i64) _ _ _ (wrap64 (6 * t514)) [.int .i64 (wrap64 (6 * t514))] from rfl) (Reps.one (show Kd.M (Kd.int .i64) _ _ _ t517 [.int .i64 t517] from rfl) (Reps.one (show Kd.M (Kd.int .i64) _ _ _ (wrap64 (2 * t520)) [.int .i64 (wrap64 (2 * t520))] from rfl) (Reps.none _ _)))))); intro v524 w11 ho12 hb hg_ hnew_; clear hg_ hnew_; (first | rw [← Ny523.out] at ho12 | (simp only [Int.reduceToNat] at ho12; rw [← Ny523.out] at ho12)); have HO525 := Aside0.mk (Kd.R_lower ho12 (keep_size (w := w) (g := g) (row := none) (by repeat (first | (with_reducible first | exact HK.out | apply KeepBut.set_ | apply keep_drewN | apply keep_drew | apply keep_alloc | refine keep_far ?_ GW510.out _) | exact HK.out)))); replace BK510 := bkb BK510 hb; replace HK := Aside0.mk (KeepBut.trans (by repeat (first | (with_reducible first | exact HK.out | apply KeepBut.set_ | apply keep_drewN | apply keep_drew | apply keep_alloc | refine keep_far ?_ GW510.out _) | exact HK.out)) (KeepBut.of_below hb g none) (.inl rfl)); replace HB := Aside0.mk (below_step (by repeat (first | (with_reducible first | exact HB.out | apply below_alloc | apply pw_below_drewN | apply below_drew1 | refine below_set ?_ (IsS139.ge HI0.out) | refine below_set ?_ GE510.out) | exact HB.out)) hb); replace HI0 := Aside0.mk (IsS139.below (by repeat (first | (with_reducible first | exact HI0.out | apply IsS139.alloc | apply IsS139.drewN | apply IsS139.drew | apply IsS139.set_1 | apply IsS139.set_2 | refine IsS139.far ?_ NB0_510.out _) | exact HI0.out)) hb); clear hb ho12; obtain ⟨Ao13, co13, eo13⟩ := Kd.R_slice HO525.out; subst eo13; have hnb14 := NB510_0.out; have hnc14 := NB0_510.out; have hcz15_0 : w11.cell? ⟨gb510, 0, none⟩ = some (.slice none 0 0) := (blk_cell BK510.out 0).trans rfl; have hfz15_0 := blk_frozen BK510.out 0))
 refine bodyPost_ret (results_cell_row rfl _ _ gb510 54 #[.slice Ao13 y523.length co13] (0, 0) _ rfl (by (with_reducible repeat (first | refine blk_drewN ?_ _ | refine blk_drew ?_ | refine blk_alloc ?_ _)); refine blk_put (cs := #[.slice none 0 0]) ?_ 0 _ rfl; (with_reducible repeat (first | refine blk_drewN ?_ _ | refine blk_drew ?_ | refine blk_alloc ?_ _)); exact BK510.out) Try.underlying54 rfl (by kernel_rfl)) rfl ?_
 exact ⟨_, by first | rfl | (simp [errW_none, errW_some] <;> rfl) | (simp [*, errW_none, errW_some] <;> rfl), Kd.Rq (Kd.R_mono (Kd.R_far (p := ⟨gb510, 0, none⟩) (Kd.R_types HO525.out BK510.out (by decide)) (fun _ hk => hk.2) (.slice Ao13 y523.length co13)) (fun _ hk => trivial)), by repeat (first | (with_reducible first | exact HI0.out | apply IsS139.alloc | apply IsS139.drewN | apply IsS139.drew | apply IsS139.set_1 | apply IsS139.set_2 | refine IsS139.far ?_ NB0_510.out _) | exact HI0.out), by repeat (first | (with_reducible first | exact HB.out | apply below_alloc | apply pw_below_drewN | apply below_drew1 | refine below_set ?_ (IsS139.ge HI0.out) | refine below_set ?_ GE510.out) | exact HB.out), by repeat (first | (with_reducible first | exact HK.out | apply KeepBut.set_ | apply keep_drewN | apply keep_drew | apply keep_alloc | refine keep_far ?_ GW510.out _) | exact HK.out)⟩

/-! ### spec_DrawStock: function 41 -/
def spec_DrawStock.f (k : Nat) (l0 : List Int) : Option (List Int) := (spec_l01New.f k l0).bind fun bt527 => ((spec_l36Stock.f bt527.1 bt527.2.1 bt527.2.2).bind fun bt531 => (some bt531.1))
theorem spec_DrawStock.mono : ∀ a0 k, LeO (spec_DrawStock.f k a0) (spec_DrawStock.f (k + 1) a0) := by
 intro a0 k
 unfold spec_DrawStock.f
 repeat' first
   | (with_reducible exact spec_l01New.mono _ _)
   | (with_reducible exact LeO.refl _)
   | (with_reducible exact LeO.none _)
   | (with_reducible refine LeO.ite ?_ ?_)
   | (with_reducible refine LeO.bind ?_ (fun _ => ?_))
   | exact spec_l01New.mono _ _
   | exact LeO.none _
   | refine LeO.ite ?_ ?_
   | refine LeO.bind ?_ (fun _ => ?_)
set_option maxHeartbeats 8000000 in
set_option maxRecDepth 100000 in
theorem spec_DrawStock.calls (k : Nat) (A0 : Option Addr) (c0 : Nat) (l0 : List Int) (r : List Int) (w : World) (hr0 : Kd.C (Kd.int .u8) w A0 l0.length l0) (hc0 : l0.length ≤ c0) (h : spec_DrawStock.f k l0 = some r) :
  Calls Try.prog 41 #[.slice A0 l0.length c0] w fun e w' => ∃ v0_ : Value, e = .returned (.agg #[v0_]) ∧ Kd.R (Kd.int .i64) 3 w' w.heap.size (fun _ => True) v0_ r ∧ Below w.heap.size w w' := by
 have hu54 := Try.underlying54
 have HR0 := Aside0.mk hr0
 have HC0 := Aside0.mk hc0
 clear hr0 hc0
 have HB := Aside0.mk (Below.refl w.heap.size w)
 have H : ((spec_l01New.f k l0).bind fun bt527 => ((spec_l36Stock.f bt527.1 bt527.2.1 bt527.2.2).bind fun bt531 => (some bt531.1))) = some r := h
 clear h
 replace H := Option.bind_eq_some_iff.mp H
 obtain ⟨⟨t527, t528, t529⟩, A20, H⟩ := H
 replace H : ((spec_l36Stock.f t527 t528 t529).bind fun bt531 => (some bt531.1)) = some r := H
 have A2 := Aside0.mk A20
 clear A20
 replace H := Option.bind_eq_some_iff.mp H
 obtain ⟨⟨t531, t534, t535⟩, A30, H⟩ := H
 replace H : (some t531) = some r := H
 have A3 := Aside0.mk A30
 clear A30
 obtain rfl := Option.some.inj H
 go_enter Try.func41, Try.ntmps41
 go_wp2_with (first | ((with_reducible refine gate_dst (N := 2) rfl ?_); refine box_event ?hg (N := 2) ?hd (cs := #[.slice none 0 0]) (t := 54) ?hr ?_; (case hd => rfl); (case hg => rfl); (case hr => first | (go_simp; done) | (go_simp; rfl)); intro gb526 hg w4 hbox hb; have BK526 := Aside0.mk (hbox); have GW526 := sQ hg HB; have GE526 := sQ hg HB; replace HB := hbs HB hb; clear hb hbox hg) | ((with_reducible refine gate_callee (f := 77) rfl ?_); refine gLq (some 4) Try.func77 #[.slice A0 l0.length c0] ?_; (with_reducible refine (spec_l01New.calls k _ _ l0 t527 t528 t529 w _ ?side1 ?side2 ?side3 A2.out).mono ?_); (case side1 => exact blq HB.out); (case side2 => exact HR0.out); (case side3 => exact HC0.out); rintro e w5 ⟨g530, rfl, hi, hb, hb2⟩; refine ⟨_, rfl, ?_⟩; have HI530 := Aside0.mk (hi); have NB530_526 := Aside0.mk (IsS139.ne_blk hi (blk_below (bkq BK526.out) hb2) (by decide)); have NB526_530 := Aside0.mk (Ne.symm (IsS139.ne_blk hi (blk_below (bkq BK526.out) hb2) (by decide))); replace BK526 := Aside0.mk (blk_below (bkq BK526.out) hb2); replace HB := Aside0.mk (hb); (try clear hb); (try clear hb2); (try clear hk); (try clear hi)) | ((with_reducible refine gate_callee (f := 102) rfl ?_); refine gLq (some 5) Try.func102 #[.pointer (some ⟨g530, 0, none⟩)] ?_; (with_reducible refine (spec_l36Stock.calls g530 t527 t528 t529 t531 t534 t535 w _ ?side1 ?side2 A3.out).mono ?_); (case side1 => repeat (first | (with_reducible first | exact HI530.out | apply IsS139.alloc | apply IsS139.drewN | apply IsS139.drew | apply IsS139.set_1 | apply IsS139.set_2 | refine IsS139.far ?_ NB530_526.out _) | exact HI530.out)); (case side2 => repeat (first | (with_reducible first | exact HB.out | apply below_alloc | apply pw_below_drewN | apply below_drew1 | refine below_set ?_ (IsS139.ge HI530.out) | refine below_set ?_ GE526.out) | exact HB.out)); rintro e w6 ⟨v532, rfl, ho0, hi, hb, hk⟩; refine ⟨_, rfl, ?_⟩; have HO533 := Aside0.mk (Kd.R_lower ho0 (below_size (by repeat (first | (with_reducible first | exact HB.out | apply below_alloc | apply pw_below_drewN | apply below_drew1 | refine below_set ?_ (IsS139.ge HI530.out) | refine below_set ?_ GE526.out) | exact HB.out)))); replace BK526 := Aside0.mk (KeepBut.blk hk (g' := gb526) (o := .cells #[.slice none 0 0] 54 (0, 0)) (bkq BK526.out) NB526_530.out (by simp)); replace HB := Aside0.mk (hb); replace HI530 := Aside0.mk (hi); (try clear hb); (try clear hb2); (try clear hk); (try clear hi); (try clear ho0); obtain ⟨Ao7, co7, eo7⟩ := Kd.R_slice HO533.out; subst eo7; have hnb8 := NB526_530.out; have hnc8 := NB530_526.out; have hcz9_0 : w6.cell? ⟨gb526, 0, none⟩ = some (.slice none 0 0) := (blk_cell BK526.out 0).trans rfl; have hfz9_0 := blk_frozen BK526.out 0))
 refine bodyPost_ret (results_cell_row rfl _ _ gb526 54 #[.slice Ao7 t531.length co7] (0, 0) _ rfl (by (with_reducible repeat (first | refine blk_drewN ?_ _ | refine blk_drew ?_ | refine blk_alloc ?_ _)); refine blk_put (cs := #[.slice none 0 0]) ?_ 0 _ rfl; (with_reducible repeat (first | refine blk_drewN ?_ _ | refine blk_drew ?_ | refine blk_alloc ?_ _)); exact BK526.out) Try.underlying54 rfl (by kernel_rfl)) rfl ?_
 exact ⟨_, by first | rfl | (simp [errW_none, errW_some] <;> rfl) | (simp [*, errW_none, errW_some] <;> rfl), Kd.Rq (Kd.R_mono (Kd.R_far (p := ⟨gb526, 0, none⟩) (Kd.R_types HO533.out BK526.out (by decide)) (fun _ hk => hk.2) (.slice Ao7 t531.length co7)) (fun _ hk => trivial)), by repeat (first | (with_reducible first | exact HB.out | apply below_alloc | apply pw_below_drewN | apply below_drew1 | refine below_set ?_ (IsS139.ge HI530.out) | refine below_set ?_ GE526.out) | exact HB.out)⟩

/-! ### spec_l02Dough: function 103 -/
def spec_l02Dough.f (s0_0 : List Int) (s0_1 : Int) (s0_2 : Int) : Option (Int × Int × Int × Int × Int) := (spec_l01Below.f s0_0 s0_1 s0_2 250).bind fun bt537 => ((spec_l01Below.f s0_0 bt537.2.1 bt537.2.2 10).bind fun bt540 => ((spec_l01Below.f s0_0 bt540.2.1 bt540.2.2 250).bind fun bt543 => (some (wrap64 (550 + bt537.1), wrap64 (15 + bt540.1), bt543.1, bt543.2.1, bt543.2.2))))
set_option maxHeartbeats 8000000 in
set_option maxRecDepth 100000 in
theorem spec_l02Dough.calls (g : Nat) (s0_0 : List Int) (s0_1 : Int) (s0_2 : Int) (r1 : Int) (r2 : Int) (r3 : Int) (r4 : Int) (r5 : Int) (w0 w : World) (hI : IsS139 w0 w g s0_0 s0_1 s0_2) (hB : Below w0.heap.size w0 w) (h : spec_l02Dough.f s0_0 s0_1 s0_2 = some (r1, r2, r3, r4, r5)) :
  Calls Try.prog 103 #[.pointer (some ⟨g, 0, none⟩)] w fun e w' => e = .returned (.agg #[.int .i64 r1, .int .i64 r2, .int .i64 r3]) ∧ IsS139 w0 w' g s0_0 r4 r5 ∧ Below w0.heap.size w0 w' ∧ KeepBut w w' g none := by
 have hu56 := Try.underlying56
 have HI0 := Aside0.mk hI
 have HK := Aside0.mk (KeepBut.refl w g none)
 have HL := Aside0.mk hB.size
 clear hI
 have HW0 := Aside0.mk hB.size
 have HB := Aside0.mk hB
 clear hB
 have H : ((spec_l01Below.f s0_0 s0_1 s0_2 250).bind fun bt537 => ((spec_l01Below.f s0_0 bt537.2.1 bt537.2.2 10).bind fun bt540 => ((spec_l01Below.f s0_0 bt540.2.1 bt540.2.2 250).bind fun bt543 => (some (wrap64 (550 + bt537.1), wrap64 (15 + bt540.1), bt543.1, bt543.2.1, bt543.2.2))))) = some (r1, r2, r3, r4, r5) := h
 clear h
 replace H := Option.bind_eq_some_iff.mp H
 obtain ⟨⟨t537, t538, t539⟩, A20, H⟩ := H
 replace H : ((spec_l01Below.f s0_0 t538 t539 10).bind fun bt540 => ((spec_l01Below.f s0_0 bt540.2.1 bt540.2.2 250).bind fun bt543 => (some (wrap64 (550 + t537), wrap64 (15 + bt540.1), bt543.1, bt543.2.1, bt543.2.2)))) = some (r1, r2, r3, r4, r5) := H
 have A2 := Aside0.mk A20
 clear A20
 replace H := Option.bind_eq_some_iff.mp H
 obtain ⟨⟨t540, t541, t542⟩, A30, H⟩ := H
 replace H : ((spec_l01Below.f s0_0 t541 t542 250).bind fun bt543 => (some (wrap64 (550 + t537), wrap64 (15 + t540), bt543.1, bt543.2.1, bt543.2.2))) = some (r1, r2, r3, r4, r5) := H
 have A3 := Aside0.mk A30
 clear A30
 replace H := Option.bind_eq_some_iff.mp H
 obtain ⟨⟨t543, t544, t545⟩, A40, H⟩ := H
 replace H : (some (wrap64 (550 + t537), wrap64 (15 + t540), t543, t544, t545)) = some (r1, r2, r3, r4, r5) := H
 have A4 := Aside0.mk A40
 clear A40
 simp only [Option.some.injEq, Prod.mk.injEq] at H
 obtain ⟨rfl, rfl, rfl, rfl, rfl⟩ := H
 go_enter Try.func103, Try.ntmps103
 go_wp2_with (first | ((with_reducible refine gate_dst (N := 2) rfl ?_); refine box_event ?hg (N := 2) ?hd (cs := #[.int .i64 0, .int .i64 0, .int .i64 0]) (t := 56) ?hr ?_; (case hd => rfl); (case hg => rfl); (case hr => first | (go_simp; done) | (go_simp; rfl)); intro gb536 hg w5 hbox hb; have BK536 := Aside0.mk (hbox); have GW536 := Aside0.mk ((by rw [hg]; exact (keep_size (w := w) (g := g) (row := none) (by repeat (first | (with_reducible first | exact HK.out | apply KeepBut.set_ | apply keep_drewN | apply keep_drew | apply keep_alloc) | exact HK.out))) : w.heap.size ≤ gb536)); have GE536 := Aside0.mk ((Nat.le_trans HW0.out (by rw [hg]; exact (keep_size (w := w) (g := g) (row := none) (by repeat (first | (with_reducible first | exact HK.out | apply KeepBut.set_ | apply keep_drewN | apply keep_drew | apply keep_alloc) | exact HK.out))) : w.heap.size ≤ gb536) : w0.heap.size ≤ gb536)); have NB0_536 := Aside0.mk ((by rw [hg]; exact Nat.ne_of_lt (IsS139.lt (show IsS139 w0 _ g s0_0 s0_1 s0_2 from by repeat (first | (with_reducible first | exact HI0.out | apply IsS139.alloc | apply IsS139.drewN | apply IsS139.drew | apply IsS139.set_1 | apply IsS139.set_2) | exact HI0.out))) : g ≠ gb536)); have NB536_0 := Aside0.mk ((by rw [hg]; exact Nat.ne_of_gt (IsS139.lt (show IsS139 w0 _ g s0_0 s0_1 s0_2 from by repeat (first | (with_reducible first | exact HI0.out | apply IsS139.alloc | apply IsS139.drewN | apply IsS139.drew | apply IsS139.set_1 | apply IsS139.set_2) | exact HI0.out))) : gb536 ≠ g)); replace HK := Aside0.mk (KeepBut.trans (by repeat (first | (with_reducible first | exact HK.out | apply KeepBut.set_ | apply keep_drewN | apply keep_drew | apply keep_alloc) | exact HK.out)) (KeepBut.of_below hb g none) (.inl rfl)); replace HB := Aside0.mk (below_step (by repeat (first | (with_reducible first | exact HB.out | apply below_alloc | apply pw_below_drewN | apply below_drew1 | refine below_set ?_ (IsS139.ge HI0.out)) | exact HB.out)) hb); replace HI0 := Aside0.mk (IsS139.below (by repeat (first | (with_reducible first | exact HI0.out | apply IsS139.alloc | apply IsS139.drewN | apply IsS139.drew | apply IsS139.set_1 | apply IsS139.set_2) | exact HI0.out)) hb); clear hb hbox hg) | ((with_reducible refine gate_callee (f := 125) rfl ?_); refine gLq (some 4) Try.func125 #[.pointer (some ⟨g, 0, none⟩), .int .i64 250] ?_; (with_reducible refine (spec_l01Below.calls g s0_0 s0_1 s0_2 250 t537 t538 t539 w0 _ ?side1 ?side2 A2.out).mono ?_); (case side1 => repeat (first | (with_reducible first | exact HI0.out | apply IsS139.alloc | apply IsS139.drewN | apply IsS139.drew | apply IsS139.set_1 | apply IsS139.set_2 | refine IsS139.far ?_ NB0_536.out _) | exact HI0.out)); (case side2 => repeat (first | (with_reducible first | exact HB.out | apply below_alloc | apply pw_below_drewN | apply below_drew1 | refine below_set ?_ (IsS139.ge HI0.out) | refine below_set ?_ GE536.out) | exact HB.out)); rintro e w6 ⟨rfl, hi, hb, hk⟩; refine ⟨_, rfl, ?_⟩; replace BK536 := Aside0.mk (KeepBut.blk hk (g' := gb536) (o := .cells #[.int .i64 0, .int .i64 0, .int .i64 0] 56 (0, 0)) (bkq BK536.out) NB536_0.out (by simp)); replace HK := Aside0.mk (KeepBut.trans (by repeat (first | (with_reducible first | exact HK.out | apply KeepBut.set_ | apply keep_drewN | apply keep_drew | apply keep_alloc | refine keep_far ?_ GW536.out _) | exact HK.out)) hk (.inl rfl)); replace HB := Aside0.mk (hb); replace HI0 := Aside0.mk (hi); (try clear hb); (try clear hb2); (try clear hk); (try clear hi)) | ((with_reducible refine gate_callee (f := 125) rfl ?_); refine gLq (some 7) Try.func125 #[.pointer (some ⟨g, 0, none⟩), .int .i64 10] ?_; (with_reducible refine (spec_l01Below.calls g s0_0 t538 t539 10 t540 t541 t542 w0 _ ?side1 ?side2 A3.out).mono ?_); (case side1 => repeat (first | (with_reducible first | exact HI0.out | apply IsS139.alloc | apply IsS139.drewN | apply IsS139.drew | apply IsS139.set_1 | apply IsS139.set_2 | refine IsS139.far ?_ NB0_536.out _) | exact HI0.out)); (case side2 => repeat (first | (with_reducible first | exact HB.out | apply below_alloc | apply pw_below_drewN | apply below_drew1 | refine below_set ?_ (IsS139.ge HI0.out) | refine below_set ?_ GE536.out) | exact HB.out)); rintro e w7 ⟨rfl, hi, hb, hk⟩; refine ⟨_, rfl, ?_⟩; replace BK536 := Aside0.mk (KeepBut.blk hk (g' := gb536) (o := .cells #[.int .i64 0, .int .i64 0, .int .i64 0] 56 (0, 0)) (bkq BK536.out) NB536_0.out (by simp)); replace HK := Aside0.mk (KeepBut.trans (by repeat (first | (with_reducible first | exact HK.out | apply KeepBut.set_ | apply keep_drewN | apply keep_drew | apply keep_alloc | refine keep_far ?_ GW536.out _) | exact HK.out)) hk (.inl rfl)); replace HB := Aside0.mk (hb); replace HI0 := Aside0.mk (hi); (try clear hb); (try clear hb2); (try clear hk); (try clear hi)) | ((with_reducible refine gate_callee (f := 125) rfl ?_); refine gLq (some 10) Try.func125 #[.pointer (some ⟨g, 0, none⟩), .int .i64 250] ?_; (with_reducible refine (spec_l01Below.calls g s0_0 t541 t542 250 t543 t544 t545 w0 _ ?side1 ?side2 A4.out).mono ?_); (case side1 => repeat (first | (with_reducible first | exact HI0.out | apply IsS139.alloc | apply IsS139.drewN | apply IsS139.drew | apply IsS139.set_1 | apply IsS139.set_2 | refine IsS139.far ?_ NB0_536.out _) | exact HI0.out)); (case side2 => repeat (first | (with_reducible first | exact HB.out | apply below_alloc | apply pw_below_drewN | apply below_drew1 | refine below_set ?_ (IsS139.ge HI0.out) | refine below_set ?_ GE536.out) | exact HB.out)); rintro e w8 ⟨rfl, hi, hb, hk⟩; refine ⟨_, rfl, ?_⟩; replace BK536 := Aside0.mk (KeepBut.blk hk (g' := gb536) (o := .cells #[.int .i64 0, .int .i64 0, .int .i64 0] 56 (0, 0)) (bkq BK536.out) NB536_0.out (by simp)); replace HK := Aside0.mk (KeepBut.trans (by repeat (first | (with_reducible first | exact HK.out | apply KeepBut.set_ | apply keep_drewN | apply keep_drew | apply keep_alloc | refine keep_far ?_ GW536.out _) | exact HK.out)) hk (.inl rfl)); replace HB := Aside0.mk (hb); replace HI0 := Aside0.mk (hi); (try clear hb); (try clear hb2); (try clear hk); (try clear hi); have hnb9 := NB536_0.out; have hnc9 := NB0_536.out; obtain ⟨hcz10_0, hcz10_1, hcz10_2, hfz10_0, hfz10_1, hfz10_2⟩ := bq3 BK536.out))
 refine bodyPost_ret (results_cell_row rfl _ _ gb536 56 #[.int .i64 (wrap64 (550 + t537)), .int .i64 (wrap64 (15 + t540)), .int .i64 t543] (0, 0) _ rfl (by (with_reducible repeat (first | refine blk_drewN ?_ _ | refine blk_drew ?_ | refine blk_alloc ?_ _)); refine blk_put (cs := #[.int .i64 (wrap64 (550 + t537)), .int .i64 (wrap64 (15 + t540)), .int .i64 0]) ?_ 2 _ rfl; (with_reducible repeat (first | refine blk_drewN ?_ _ | refine blk_drew ?_ | refine blk_alloc ?_ _)); refine blk_put (cs := #[.int .i64 (wrap64 (550 + t537)), .int .i64 0, .int .i64 0]) ?_ 1 _ rfl; (with_reducible repeat (first | refine blk_drewN ?_ _ | refine blk_drew ?_ | refine blk_alloc ?_ _)); refine blk_put (cs := #[.int .i64 0, .int .i64 0, .int .i64 0]) ?_ 0 _ rfl; (with_reducible repeat (first | refine blk_drewN ?_ _ | refine blk_drew ?_ | refine blk_alloc ?_ _)); exact BK536.out) Try.underlying56 rfl (by kernel_rfl)) rfl ?_
 exact ⟨by first | rfl | (simp [errW_none, errW_some] <;> rfl) | (simp [*, errW_none, errW_some] <;> rfl), by repeat (first | (with_reducible first | exact HI0.out | apply IsS139.alloc | apply IsS139.drewN | apply IsS139.drew | apply IsS139.set_1 | apply IsS139.set_2 | refine IsS139.far ?_ NB0_536.out _) | exact HI0.out), by repeat (first | (with_reducible first | exact HB.out | apply below_alloc | apply pw_below_drewN | apply below_drew1 | refine below_set ?_ (IsS139.ge HI0.out) | refine below_set ?_ GE536.out) | exact HB.out), by repeat (first | (with_reducible first | exact HK.out | apply KeepBut.set_ | apply keep_drewN | apply keep_drew | apply keep_alloc | refine keep_far ?_ GW536.out _) | exact HK.out)⟩

/-! ### spec_DrawDough: function 42 -/
def spec_DrawDough.f (k : Nat) (l0 : List Int) : Option (Int × Int × Int) := (spec_l01New.f k l0).bind fun bt547 => ((spec_l02Dough.f bt547.1 bt547.2.1 bt547.2.2).bind fun bt551 => (some (bt551.1, bt551.2.1, bt551.2.2.1)))
theorem spec_DrawDough.mono : ∀ a0 k, LeO (spec_DrawDough.f k a0) (spec_DrawDough.f (k + 1) a0) := by
 intro a0 k
 unfold spec_DrawDough.f
 repeat' first
   | (with_reducible exact spec_l01New.mono _ _)
   | (with_reducible exact LeO.refl _)
   | (with_reducible exact LeO.none _)
   | (with_reducible refine LeO.ite ?_ ?_)
   | (with_reducible refine LeO.bind ?_ (fun _ => ?_))
   | exact spec_l01New.mono _ _
   | exact LeO.none _
   | refine LeO.ite ?_ ?_
   | refine LeO.bind ?_ (fun _ => ?_)
set_option maxHeartbeats 8000000 in
set_option maxRecDepth 100000 in
theorem spec_DrawDough.calls (k : Nat) (A0 : Option Addr) (c0 : Nat) (l0 : List Int) (r1 : Int) (r2 : Int) (r3 : Int) (w : World) (hr0 : Kd.C (Kd.int .u8) w A0 l0.length l0) (hc0 : l0.length ≤ c0) (h : spec_DrawDough.f k l0 = some (r1, r2, r3)) :
  Calls Try.prog 42 #[.slice A0 l0.length c0] w fun e w' => e = .returned (.agg #[.int .i64 r1, .int .i64 r2, .int .i64 r3]) ∧ Below w.heap.size w w' := by
 have hu56 := Try.underlying56
 have HR0 := Aside0.mk hr0
 have HC0 := Aside0.mk hc0
 clear hr0 hc0
 have HB := Aside0.mk (Below.refl w.heap.size w)
 have H : ((spec_l01New.f k l0).bind fun bt547 => ((spec_l02Dough.f bt547.1 bt547.2.1 bt547.2.2).bind fun bt551 => (some (bt551.1, bt551.2.1, bt551.2.2.1)))) = some (r1, r2, r3) := h
 clear h
 replace H := Option.bind_eq_some_iff.mp H
 obtain ⟨⟨t547, t548, t549⟩, A20, H⟩ := H
 replace H : ((spec_l02Dough.f t547 t548 t549).bind fun bt551 => (some (bt551.1, bt551.2.1, bt551.2.2.1))) = some (r1, r2, r3) := H
 have A2 := Aside0.mk A20
 clear A20
 replace H := Option.bind_eq_some_iff.mp H
 obtain ⟨⟨t551, t552, t553, t554, t555⟩, A30, H⟩ := H
 replace H : (some (t551, t552, t553)) = some (r1, r2, r3) := H
 have A3 := Aside0.mk A30
 clear A30
 simp only [Option.some.injEq, Prod.mk.injEq] at H
 obtain ⟨rfl, rfl, rfl⟩ := H
 go_enter Try.func42, Try.ntmps42
 go_wp2_with (first | ((with_reducible refine gate_dst (N := 2) rfl ?_); refine box_event ?hg (N := 2) ?hd (cs := #[.int .i64 0, .int .i64 0, .int .i64 0]) (t := 56) ?hr ?_; (case hd => rfl); (case hg => rfl); (case hr => first | (go_simp; done) | (go_simp; rfl)); intro gb546 hg w4 hbox hb; have BK546 := Aside0.mk (hbox); have GW546 := sQ hg HB; have GE546 := sQ hg HB; replace HB := hbs HB hb; clear hb hbox hg) | ((with_reducible refine gate_callee (f := 77) rfl ?_); refine gLq (some 4) Try.func77 #[.slice A0 l0.length c0] ?_; (with_reducible refine (spec_l01New.calls k _ _ l0 t547 t548 t549 w _ ?side1 ?side2 ?side3 A2.out).mono ?_); (case side1 => exact blq HB.out); (case side2 => exact HR0.out); (case side3 => exact HC0.out); rintro e w5 ⟨g550, rfl, hi, hb, hb2⟩; refine ⟨_, rfl, ?_⟩; have HI550 := Aside0.mk (hi); have NB550_546 := Aside0.mk (IsS139.ne_blk hi (blk_below (bkq BK546.out) hb2) (by decide)); have NB546_550 := Aside0.mk (Ne.symm (IsS139.ne_blk hi (blk_below (bkq BK546.out) hb2) (by decide))); replace BK546 := Aside0.mk (blk_below (bkq BK546.out) hb2); replace HB := Aside0.mk (hb); (try clear hb); (try clear hb2); (try clear hk); (try clear hi)) | ((with_reducible refine gate_callee (f := 103) rfl ?_); refine gLq (some 5) Try.func103 #[.pointer (some ⟨g550, 0, none⟩)] ?_; (with_reducible refine (spec_l02Dough.calls g550 t547 t548 t549 t551 t552 t553 t554 t555 w _ ?side1 ?side2 A3.out).mono ?_); (case side1 => repeat (first | (with_reducible first | exact HI550.out | apply IsS139.alloc | apply IsS139.drewN | apply IsS139.drew | apply IsS139.set_1 | apply IsS139.set_2 | refine IsS139.far ?_ NB550_546.out _) | exact HI550.out)); (case side2 => repeat (first | (with_reducible first | exact HB.out | apply below_alloc | apply pw_below_drewN | apply below_drew1 | refine below_set ?_ (IsS139.ge HI550.out) | refine below_set ?_ GE546.out) | exact HB.out)); rintro e w6 ⟨rfl, hi, hb, hk⟩; refine ⟨_, rfl, ?_⟩; replace BK546 := Aside0.mk (KeepBut.blk hk (g' := gb546) (o := .cells #[.int .i64 0, .int .i64 0, .int .i64 0] 56 (0, 0)) (bkq BK546.out) NB546_550.out (by simp)); replace HB := Aside0.mk (hb); replace HI550 := Aside0.mk (hi); (try clear hb); (try clear hb2); (try clear hk); (try clear hi); have hnb7 := NB546_550.out; have hnc7 := NB550_546.out; obtain ⟨hcz8_0, hcz8_1, hcz8_2, hfz8_0, hfz8_1, hfz8_2⟩ := bq3 BK546.out))
 refine bodyPost_ret (results_cell_row rfl _ _ gb546 56 #[.int .i64 t551, .int .i64 t552, .int .i64 t553] (0, 0) _ rfl (by (with_reducible repeat (first | refine blk_drewN ?_ _ | refine blk_drew ?_ | refine blk_alloc ?_ _)); refine blk_put (cs := #[.int .i64 t551, .int .i64 t552, .int .i64 0]) ?_ 2 _ rfl; (with_reducible repeat (first | refine blk_drewN ?_ _ | refine blk_drew ?_ | refine blk_alloc ?_ _)); refine blk_put (cs := #[.int .i64 t551, .int .i64 0, .int .i64 0]) ?_ 1 _ rfl; (with_reducible repeat (first | refine blk_drewN ?_ _ | refine blk_drew ?_ | refine blk_alloc ?_ _)); refine blk_put (cs := #[.int .i64 0, .int .i64 0, .int .i64 0]) ?_ 0 _ rfl; (with_reducible repeat (first | refine blk_drewN ?_ _ | refine blk_drew ?_ | refine blk_alloc ?_ _)); exact BK546.out) Try.underlying56 rfl (by kernel_rfl)) rfl ?_
 exact ⟨by first | rfl | (simp [errW_none, errW_some] <;> rfl) | (simp [*, errW_none, errW_some] <;> rfl), by repeat (first | (with_reducible first | exact HB.out | apply below_alloc | apply pw_below_drewN | apply below_drew1 | refine below_set ?_ (IsS139.ge HI550.out) | refine below_set ?_ GE546.out) | exact HB.out)⟩

/-! ### impl_FirstMissing: function 45 -/
def impl_FirstMissing.f (k : Nat) (l0_0 : List Int) (a1_0 : Int) (a1_1 : Int) (a1_2 : Int) (a2 : Int) : Option (Int) := (impl_Amounts.f k a1_0 a1_1 a1_2 a2).bind fun t581 => ((impl_StoreOk.f l0_0).bind fun t584 => (if t584 = true then (if (nilB t581) = true then (some (-1)) else ((impl_missing.f k l0_0 t581).bind fun t585 => (some t585))) else (some (-1))))
theorem impl_FirstMissing.mono : ∀ a0 a1 a2 a3 a4 k, LeO (impl_FirstMissing.f k a0 a1 a2 a3 a4) (impl_FirstMissing.f (k + 1) a0 a1 a2 a3 a4) := by
 intro a0 a1 a2 a3 a4 k
 unfold impl_FirstMissing.f
 repeat' first
   | (with_reducible exact impl_Amounts.mono _ _ _ _ _)
   | (with_reducible exact impl_missing.mono _ _ _)
   | (with_reducible exact LeO.refl _)
   | (with_reducible exact LeO.none _)
   | (with_reducible refine LeO.ite ?_ ?_)
   | (with_reducible refine LeO.bind ?_ (fun _ => ?_))
   | exact impl_Amounts.mono _ _ _ _ _
   | exact impl_missing.mono _ _ _
   | exact LeO.none _
   | refine LeO.ite ?_ ?_
   | refine LeO.bind ?_ (fun _ => ?_)
set_option maxHeartbeats 8000000 in
set_option maxRecDepth 100000 in
theorem impl_FirstMissing.calls (k : Nat) (A0_0 : Option Addr) (c0_0 : Nat) (l0_0 : List Int) (a1_0 : Int) (a1_1 : Int) (a1_2 : Int) (a2 : Int) (r : Int) (w : World) (hr0_0 : Kd.C (Kd.int .i64) w A0_0 l0_0.length l0_0) (hc0_0 : l0_0.length ≤ c0_0) (h : impl_FirstMissing.f k l0_0 a1_0 a1_1 a1_2 a2 = some r) :
  Calls Try.prog 45 #[.agg #[.slice A0_0 l0_0.length c0_0], .agg #[.int .i64 a1_0, .int .i64 a1_1, .int .i64 a1_2], .int .i64 a2] w fun e w' => e = .returned (.int .i64 r) ∧ Below w.heap.size w w' := by
 have hu54 := Try.underlying54
 have hu56 := Try.underlying56
 have HR0_0 := Aside0.mk hr0_0
 have HC0_0 := Aside0.mk hc0_0
 clear hr0_0 hc0_0
 have HB := Aside0.mk (Below.refl w.heap.size w)
 have H : ((impl_Amounts.f k a1_0 a1_1 a1_2 a2).bind fun t581 => ((impl_StoreOk.f l0_0).bind fun t584 => (if t584 = true then (if (nilB t581) = true then (some (-1)) else ((impl_missing.f k l0_0 t581).bind fun t585 => (some t585))) else (some (-1))))) = some r := h
 clear h
 replace H := Option.bind_eq_some_iff.mp H
 obtain ⟨t581, A40, H⟩ := H
 replace H : ((impl_StoreOk.f l0_0).bind fun t584 => (if t584 = true then (if (nilB t581) = true then (some (-1)) else ((impl_missing.f k l0_0 t581).bind fun t585 => (some t585))) else (some (-1)))) = some r := H
 have A4 := Aside0.mk A40
 clear A40
 replace H := Option.bind_eq_some_iff.mp H
 obtain ⟨t584, A50, H⟩ := H
 replace H : (if t584 = true then (if (nilB t581) = true then (some (-1)) else ((impl_missing.f k l0_0 t581).bind fun t585 => (some t585))) else (some (-1))) = some r := H
 have A5 := Aside0.mk A50
 clear A50
 by_cases c6 : t584 = true
 ·
  subst c6
  have H1 : (if (nilB t581) = true then (some (-1)) else ((impl_missing.f k l0_0 t581).bind fun t585 => (some t585))) = some r := by rw [if_pos rfl] at H; exact H
  clear H
  have H := H1
  clear H1
  by_cases c7 : (nilB t581) = true
  ·
   rw [if_pos c7] at H
   have c7b0 : (nilB t581) = true := c7
   clear c7
   obtain rfl := Option.some.inj H
   go_enter Try.func45, Try.ntmps45
   go_wp2_with (first | ((with_reducible refine gate_dst (N := 3) rfl ?_); refine box_event ?hg (N := 3) ?hd (cs := #[.slice A0_0 l0_0.length c0_0]) (t := 54) ?hr ?_; (case hd => rfl); (case hg => rfl); (case hr => first | (go_simp; done) | (go_simp; rfl)); intro gb579 hg w8 hbox hb; have BK579 := Aside0.mk (hbox); have GW579 := sQ hg HB; have GE579 := sQ hg HB; replace HB := hbs HB hb; clear hb hbox hg) | ((with_reducible refine gate_dst (N := 4) rfl ?_); refine box_event ?hg (N := 4) ?hd (cs := #[.int .i64 a1_0, .int .i64 a1_1, .int .i64 a1_2]) (t := 56) ?hr ?_; (case hd => rfl); (case hg => rfl); (case hr => first | (go_simp; done) | (go_simp; rfl)); intro gb580 hg w9 hbox hb; have BK580 := Aside0.mk (hbox); have GW580 := sQ hg HB; have GE580 := sQ hg HB; have NB579_580 := qL hg BK579; have NB580_579 := qG hg BK579; replace BK579 := bkb BK579 hb; replace HB := hbs HB hb; clear hb hbox hg; have hnb10 := NB580_579.out; have hnc10 := NB579_580.out; obtain ⟨hcz11_0, hcz11_1, hcz11_2, hfz11_0, hfz11_1, hfz11_2⟩ := bq3 BK580.out) | ((with_reducible refine gate_callee (f := 97) rfl ?_); refine gLq (some 10) Try.func97 #[.agg #[.int .i64 a1_0, .int .i64 a1_1, .int .i64 a1_2], .int .i64 a2] ?_; (with_reducible refine (impl_Amounts.calls k a1_0 a1_1 a1_2 a2 t581 _ A4.out).mono ?_); rintro e w12 ⟨v582, rfl, ho0, hb⟩; have hnq1 := fun W => ho0.2.2 _ _ W Try.underlying27; have hng1 := fun o1 o2 => ho0.2.1 27 o1 o2; replace ho0 := ho0.1; refine ⟨_, rfl, ?_⟩; have HO583 := Aside0.mk (Kd.R_lower ho0 (below_size (blq HB.out))); replace BK579 := bkb BK579 hb; replace BK580 := bkb BK580 hb; replace HB := hbs HB hb; (try clear hb); (try clear hb2); (try clear hk); (try clear hi); (try clear ho0); have hcz13_0 : w12.cell? ⟨gb579, 0, none⟩ = some (.slice A0_0 l0_0.length c0_0) := (blk_cell BK579.out 0).trans rfl; have hfz13_0 := blk_frozen BK579.out 0) | ((with_reducible refine gate_callee (f := 44) rfl ?_); refine gLq (some 12) Try.func44 #[.agg #[.slice A0_0 l0_0.length c0_0]] ?_; (with_reducible refine (impl_StoreOk.calls _ _ l0_0 true _ ?side1 ?side2 A5.out).mono ?_); (case side1 => exact Kd.Cq (Kd.C_below HR0_0.out HB.out)); (case side2 => exact HC0_0.out); rintro e w14 ⟨rfl, hb⟩; refine ⟨_, rfl, ?_⟩; replace HO583 := rob HO583 hb; replace BK579 := bkb BK579 hb; replace BK580 := bkb BK580 hb; replace HB := hbs HB hb; (try clear hb); (try clear hb2); (try clear hk); (try clear hi)))
   go_ret
   exact ⟨by first | rfl | (simp [errW_none, errW_some] <;> rfl) | (simp [*, errW_none, errW_some] <;> rfl), blq HB.out⟩
  ·
   rw [if_neg c7] at H
   have c7b0 : (nilB t581) = false := by simpa using c7
   clear c7
   replace H := Option.bind_eq_some_iff.mp H
   obtain ⟨t585, A150, H⟩ := H
   replace H : (some t585) = some r := H
   have A15 := Aside0.mk A150
   clear A150
   obtain rfl := Option.some.inj H
   go_enter Try.func45, Try.ntmps45
   go_wp2_with (first | ((with_reducible refine gate_dst (N := 3) rfl ?_); refine box_event ?hg (N := 3) ?hd (cs := #[.slice A0_0 l0_0.length c0_0]) (t := 54) ?hr ?_; (case hd => rfl); (case hg => rfl); (case hr => first | (go_simp; done) | (go_simp; rfl)); intro gb579 hg w16 hbox hb; have BK579 := Aside0.mk (hbox); have GW579 := sQ hg HB; have GE579 := sQ hg HB; replace HB := hbs HB hb; clear hb hbox hg) | ((with_reducible refine gate_dst (N := 4) rfl ?_); refine box_event ?hg (N := 4) ?hd (cs := #[.int .i64 a1_0, .int .i64 a1_1, .int .i64 a1_2]) (t := 56) ?hr ?_; (case hd => rfl); (case hg => rfl); (case hr => first | (go_simp; done) | (go_simp; rfl)); intro gb580 hg w17 hbox hb; have BK580 := Aside0.mk (hbox); have GW580 := sQ hg HB; have GE580 := sQ hg HB; have NB579_580 := qL hg BK579; have NB580_579 := qG hg BK579; replace BK579 := bkb BK579 hb; replace HB := hbs HB hb; clear hb hbox hg; have hnb18 := NB580_579.out; have hnc18 := NB579_580.out; obtain ⟨hcz19_0, hcz19_1, hcz19_2, hfz19_0, hfz19_1, hfz19_2⟩ := bq3 BK580.out) | ((with_reducible refine gate_callee (f := 97) rfl ?_); refine gLq (some 10) Try.func97 #[.agg #[.int .i64 a1_0, .int .i64 a1_1, .int .i64 a1_2], .int .i64 a2] ?_; (with_reducible refine (impl_Amounts.calls k a1_0 a1_1 a1_2 a2 t581 _ A4.out).mono ?_); rintro e w20 ⟨v582, rfl, ho0, hb⟩; have hnq2 := fun W => ho0.2.2 _ _ W Try.underlying27; have hng2 := fun o1 o2 => ho0.2.1 27 o1 o2; replace ho0 := ho0.1; refine ⟨_, rfl, ?_⟩; have HO583 := Aside0.mk (Kd.R_lower ho0 (below_size (blq HB.out))); replace BK579 := bkb BK579 hb; replace BK580 := bkb BK580 hb; replace HB := hbs HB hb; (try clear hb); (try clear hb2); (try clear hk); (try clear hi); (try clear ho0); have hcz21_0 : w20.cell? ⟨gb579, 0, none⟩ = some (.slice A0_0 l0_0.length c0_0) := (blk_cell BK579.out 0).trans rfl; have hfz21_0 := blk_frozen BK579.out 0) | ((with_reducible refine gate_callee (f := 44) rfl ?_); refine gLq (some 12) Try.func44 #[.agg #[.slice A0_0 l0_0.length c0_0]] ?_; (with_reducible refine (impl_StoreOk.calls _ _ l0_0 true _ ?side1 ?side2 A5.out).mono ?_); (case side1 => exact Kd.Cq (Kd.C_below HR0_0.out HB.out)); (case side2 => exact HC0_0.out); rintro e w22 ⟨rfl, hb⟩; refine ⟨_, rfl, ?_⟩; replace HO583 := rob HO583 hb; replace BK579 := bkb BK579 hb; replace BK580 := bkb BK580 hb; replace HB := hbs HB hb; (try clear hb); (try clear hb2); (try clear hk); (try clear hi); have hcz23_0 : w22.cell? ⟨gb579, 0, none⟩ = some (.slice A0_0 l0_0.length c0_0) := (blk_cell BK579.out 0).trans rfl; have hfz23_0 := blk_frozen BK579.out 0; obtain ⟨Ao24, co24, eo24⟩ := Kd.R_slice HO583.out; subst eo24) | ((with_reducible refine gate_callee (f := 96) rfl ?_); refine gLq (some 20) Try.func96 #[.agg #[.slice A0_0 l0_0.length c0_0], .slice Ao24 t581.length co24] ?_; (with_reducible refine (impl_missing.calls k _ _ l0_0 _ _ t581 t585 _ ?side1 ?side2 ?side3 ?side4 A15.out).mono ?_); (case side1 => exact Kd.Cq (Kd.C_below HR0_0.out HB.out)); (case side2 => exact HC0_0.out); (case side3 => repeat (first | exact (Kd.R_reads' HO583.out).2.2 | (with_reducible refine Kd.C_alloc ?_ _) | (with_reducible refine Kd.C_drewN ?_ _) | (with_reducible refine Kd.C_drew ?_))); (case side4 => exact (Kd.R_reads' HO583.out).2.1); rintro e w25 ⟨rfl, hb⟩; refine ⟨_, rfl, ?_⟩; replace HO583 := rob HO583 hb; replace BK579 := bkb BK579 hb; replace BK580 := bkb BK580 hb; replace HB := hbs HB hb; (try clear hb); (try clear hb2); (try clear hk); (try clear hi)))
   go_ret
   exact ⟨by first | rfl | (simp [errW_none, errW_some] <;> rfl) | (simp [*, errW_none, errW_some] <;> rfl), blq HB.out⟩
 ·
  replace c6 := Bool.eq_false_iff.mpr c6
  subst c6
  have H1 : (some (-1)) = some r := by rw [if_neg (show ¬ (false = true) by decide)] at H; exact H
  clear H
  have H := H1
  clear H1
  obtain rfl := Option.some.inj H
  go_enter Try.func45, Try.ntmps45
  go_wp2_with (first | ((with_reducible refine gate_dst (N := 3) rfl ?_); refine box_event ?hg (N := 3) ?hd (cs := #[.slice A0_0 l0_0.length c0_0]) (t := 54) ?hr ?_; (case hd => rfl); (case hg => rfl); (case hr => first | (go_simp; done) | (go_simp; rfl)); intro gb579 hg w26 hbox hb; have BK579 := Aside0.mk (hbox); have GW579 := sQ hg HB; have GE579 := sQ hg HB; replace HB := hbs HB hb; clear hb hbox hg) | ((with_reducible refine gate_dst (N := 4) rfl ?_); refine box_event ?hg (N := 4) ?hd (cs := #[.int .i64 a1_0, .int .i64 a1_1, .int .i64 a1_2]) (t := 56) ?hr ?_; (case hd => rfl); (case hg => rfl); (case hr => first | (go_simp; done) | (go_simp; rfl)); intro gb580 hg w27 hbox hb; have BK580 := Aside0.mk (hbox); have GW580 := sQ hg HB; have GE580 := sQ hg HB; have NB579_580 := qL hg BK579; have NB580_579 := qG hg BK579; replace BK579 := bkb BK579 hb; replace HB := hbs HB hb; clear hb hbox hg; have hnb28 := NB580_579.out; have hnc28 := NB579_580.out; obtain ⟨hcz29_0, hcz29_1, hcz29_2, hfz29_0, hfz29_1, hfz29_2⟩ := bq3 BK580.out) | ((with_reducible refine gate_callee (f := 97) rfl ?_); refine gLq (some 10) Try.func97 #[.agg #[.int .i64 a1_0, .int .i64 a1_1, .int .i64 a1_2], .int .i64 a2] ?_; (with_reducible refine (impl_Amounts.calls k a1_0 a1_1 a1_2 a2 t581 _ A4.out).mono ?_); rintro e w30 ⟨v582, rfl, ho0, hb⟩; have hnq3 := fun W => ho0.2.2 _ _ W Try.underlying27; have hng3 := fun o1 o2 => ho0.2.1 27 o1 o2; replace ho0 := ho0.1; refine ⟨_, rfl, ?_⟩; have HO583 := Aside0.mk (Kd.R_lower ho0 (below_size (blq HB.out))); replace BK579 := bkb BK579 hb; replace BK580 := bkb BK580 hb; replace HB := hbs HB hb; (try clear hb); (try clear hb2); (try clear hk); (try clear hi); (try clear ho0); have hcz31_0 : w30.cell? ⟨gb579, 0, none⟩ = some (.slice A0_0 l0_0.length c0_0) := (blk_cell BK579.out 0).trans rfl; have hfz31_0 := blk_frozen BK579.out 0) | ((with_reducible refine gate_callee (f := 44) rfl ?_); refine gLq (some 12) Try.func44 #[.agg #[.slice A0_0 l0_0.length c0_0]] ?_; (with_reducible refine (impl_StoreOk.calls _ _ l0_0 false _ ?side1 ?side2 A5.out).mono ?_); (case side1 => exact Kd.Cq (Kd.C_below HR0_0.out HB.out)); (case side2 => exact HC0_0.out); rintro e w32 ⟨rfl, hb⟩; refine ⟨_, rfl, ?_⟩; replace HO583 := rob HO583 hb; replace BK579 := bkb BK579 hb; replace BK580 := bkb BK580 hb; replace HB := hbs HB hb; (try clear hb); (try clear hb2); (try clear hk); (try clear hi)))
  go_ret
  exact ⟨by first | rfl | (simp [errW_none, errW_some] <;> rfl) | (simp [*, errW_none, errW_some] <;> rfl), blq HB.out⟩

/-! ### impl_FillStock: function 48 -/
def impl_FillStock.j0 : Nat → Int → Int → Bool → List Int → List Int → Option (List Int × Bool)
 | 0, _, _, _, _, _ => none
 | k + 1, x1, x2, x23, x604000, x609000 => if x23 = true then (some (x609000, false)) else (if 0 ≤ x1 then (if x1 < (x609000.length : Int) then ((some (x609000.set (x1 : Int).toNat (wrap64 ((rd x609000 x1) + x2)) : List Int)).bind fun y613 => ((impl_StoreOk.f y613).bind fun t614 => (if t614 = true then (some (y613, true)) else ((impl_stockCopy.f x604000).bind fun t615 => (some (t615, false)))))) else (none)) else (none))
def impl_FillStock.f (k : Nat) (l0_0 : List Int) (a1 : Int) (a2 : Int) : Option (List Int × Bool) := (impl_stockCopy.f l0_0).bind fun t605 => ((impl_StoreOk.f l0_0).bind fun t609 => (if t609 = true then ((impl_in.f a1 0 3).bind fun t610 => (if t610 = true then ((impl_in.f a2 0 1000000).bind fun t611 => (impl_FillStock.j0 k a1 a2 (!t611) l0_0 t605)) else (impl_FillStock.j0 k a1 a2 true l0_0 t605))) else (impl_FillStock.j0 k a1 a2 true l0_0 t605)))
theorem impl_FillStock.mono_l : ∀ k, (∀ y0 y1 y2 y3 y4, LeO (impl_FillStock.j0 k y0 y1 y2 y3 y4) (impl_FillStock.j0 (k + 1) y0 y1 y2 y3 y4))
 | 0 => fun _ _ _ _ _ r h => by simp [impl_FillStock.j0] at h
 | k + 1 => by
  have ih0 := impl_FillStock.mono_l k
  ·
   intro y0 y1 y2 y3 y4
   unfold impl_FillStock.j0
   repeat' first
   | (with_reducible exact ih0 _ _ _ _ _)
   | (with_reducible exact LeO.refl _)
   | (with_reducible exact LeO.none _)
   | (with_reducible refine LeO.ite ?_ ?_)
   | (with_reducible refine LeO.bind ?_ (fun _ => ?_))
   | exact ih0 _ _ _ _ _
   | exact LeO.none _
   | refine LeO.ite ?_ ?_
   | refine LeO.bind ?_ (fun _ => ?_)
theorem impl_FillStock.mono : ∀ a0 a1 a2 k, LeO (impl_FillStock.f k a0 a1 a2) (impl_FillStock.f (k + 1) a0 a1 a2) := by
 intro a0 a1 a2 k
 have ih0 := impl_FillStock.mono_l k
 unfold impl_FillStock.f
 repeat' first
   | (with_reducible exact ih0 _ _ _ _ _)
   | (with_reducible exact LeO.refl _)
   | (with_reducible exact LeO.none _)
   | (with_reducible refine LeO.ite ?_ ?_)
   | (with_reducible refine LeO.bind ?_ (fun _ => ?_))
   | exact ih0 _ _ _ _ _
   | exact LeO.none _
   | refine LeO.ite ?_ ?_
   | refine LeO.bind ?_ (fun _ => ?_)
set_option maxHeartbeats 8000000 in
set_option maxRecDepth 100000 in
theorem impl_FillStock.calls (k : Nat) (A0_0 : Option Addr) (c0_0 : Nat) (l0_0 : List Int) (a1 : Int) (a2 : Int) (r1 : List Int) (r2 : Bool) (w : World) (hr0_0 : Kd.C (Kd.int .i64) w A0_0 l0_0.length l0_0) (hc0_0 : l0_0.length ≤ c0_0) (h : impl_FillStock.f k l0_0 a1 a2 = some (r1, r2)) :
  Calls Try.prog 48 #[.agg #[.slice A0_0 l0_0.length c0_0], .int .i64 a1, .int .i64 a2] w fun e w' => ∃ v0_ : Value, e = .returned (.tuple #[.agg #[v0_], .bool r2]) ∧ Kd.R (Kd.int .i64) 3 w' w.heap.size (fun _ => True) v0_ r1 ∧ Below w.heap.size w w' := by
 have hu54 := Try.underlying54
 have HR0_0 := Aside0.mk hr0_0
 have HC0_0 := Aside0.mk hc0_0
 clear hr0_0 hc0_0
 have HB := Aside0.mk (Below.refl w.heap.size w)
 have H : ((impl_stockCopy.f l0_0).bind fun t605 => ((impl_StoreOk.f l0_0).bind fun t609 => (if t609 = true then ((impl_in.f a1 0 3).bind fun t610 => (if t610 = true then ((impl_in.f a2 0 1000000).bind fun t611 => (impl_FillStock.j0 k a1 a2 (!t611) l0_0 t605)) else (impl_FillStock.j0 k a1 a2 true l0_0 t605))) else (impl_FillStock.j0 k a1 a2 true l0_0 t605)))) = some (r1, r2) := h
 clear h
 replace H := Option.bind_eq_some_iff.mp H
 obtain ⟨t605, A40, H⟩ := H
 replace H : ((impl_StoreOk.f l0_0).bind fun t609 => (if t609 = true then ((impl_in.f a1 0 3).bind fun t610 => (if t610 = true then ((impl_in.f a2 0 1000000).bind fun t611 => (impl_FillStock.j0 k a1 a2 (!t611) l0_0 t605)) else (impl_FillStock.j0 k a1 a2 true l0_0 t605))) else (impl_FillStock.j0 k a1 a2 true l0_0 t605))) = some (r1, r2) := H
 have A4 := Aside0.mk A40
 clear A40
 have HC5 := Aside0.mk H
 clear H
 go_enter Try.func48, Try.ntmps48
 go_upto_region 2 with (first | ((with_reducible refine gate_dst (N := 3) rfl ?_); refine box_event ?hg (N := 3) ?hd (cs := #[.slice A0_0 l0_0.length c0_0]) (t := 54) ?hr ?_; (case hd => rfl); (case hg => rfl); (case hr => first | (go_simp; done) | (go_simp; rfl)); intro gb603 hg w6 hbox hb; have BK603 := Aside0.mk (hbox); have GW603 := sQ hg HB; have GE603 := sQ hg HB; replace HB := hbs HB hb; clear hb hbox hg) | ((with_reducible refine gate_dst (N := 6) rfl ?_); refine box_event ?hg (N := 6) ?hd (cs := #[.slice none 0 0]) (t := 54) ?hr ?_; (case hd => rfl); (case hg => rfl); (case hr => first | (go_simp; done) | (go_simp; rfl)); intro gb604 hg w7 hbox hb; have BK604 := Aside0.mk (hbox); have GW604 := sQ hg HB; have GE604 := sQ hg HB; have NB603_604 := qL hg BK603; have NB604_603 := qG hg BK603; replace BK603 := bkb BK603 hb; replace HB := hbs HB hb; clear hb hbox hg; have hnb8 := NB603_604.out; have hnc8 := NB604_603.out; have hcz9_0 : w7.cell? ⟨gb603, 0, none⟩ = some (.slice A0_0 l0_0.length c0_0) := (blk_cell BK603.out 0).trans rfl; have hfz9_0 := blk_frozen BK603.out 0) | ((with_reducible refine gate_callee (f := 104) rfl ?_); refine gLq (some 10) Try.func104 #[.agg #[.slice A0_0 l0_0.length c0_0]] ?_; (with_reducible refine (impl_stockCopy.calls _ _ l0_0 t605 _ ?side1 ?side2 A4.out).mono ?_); (case side1 => exact Kd.Cq (Kd.C_below HR0_0.out HB.out)); (case side2 => exact HC0_0.out); rintro e w10 ⟨v606, rfl, ho0, hb⟩; refine ⟨_, rfl, ?_⟩; have HO607 := Aside0.mk (Kd.R_lower ho0 (below_size (blq HB.out))); replace BK603 := bkb BK603 hb; replace BK604 := bkb BK604 hb; replace HB := hbs HB hb; (try clear hb); (try clear hb2); (try clear hk); (try clear hi); (try clear ho0)) | ((with_reducible refine gate_dst (N := 8) rfl ?_); refine box_event ?hg (N := 8) ?hd (cs := #[.slice none 0 0]) (t := 54) ?hr ?_; (case hd => rfl); (case hg => rfl); (case hr => first | (go_simp; done) | (go_simp; rfl)); intro gb608 hg w11 hbox hb; have BK608 := Aside0.mk (hbox); have GW608 := sQ hg HB; have GE608 := sQ hg HB; have NB603_608 := qL hg BK603; have NB608_603 := qG hg BK603; have NB604_608 := qL hg BK604; have NB608_604 := qG hg BK604; replace HO607 := rob HO607 hb; replace BK603 := bkb BK603 hb; replace BK604 := bkb BK604 hb; replace HB := hbs HB hb; clear hb hbox hg; obtain ⟨Ao12, co12, eo12⟩ := Kd.R_slice HO607.out; subst eo12; have hnb13 := NB608_603.out; have hnc13 := NB603_608.out; have hnb14 := NB608_604.out; have hnc14 := NB604_608.out; have hcz15_0 : w11.cell? ⟨gb608, 0, none⟩ = some (.slice none 0 0) := (blk_cell BK608.out 0).trans rfl; have hfz15_0 := blk_frozen BK608.out 0))
 (try simp only [Act.put, List.setIfInBounds_toArray, List.set_cons_zero, List.set_cons_succ])
 go_cut [23] (fun v23 wc => ∃ (kq : Nat) (x23_4 : Bool), v23 = .bool x23_4 ∧ Aside0 (impl_FillStock.j0 kq a1 a2 x23_4 l0_0 t605 = some (r1, r2)) ∧ Aside0 (kq ≤ k) ∧ Aside0 (Kd.R (Kd.int .i64) 3 wc w.heap.size (fun _ => True) (.slice Ao12 t605.length co12) t605) ∧ Aside0 (wc.heap[gb603]? = some (.cells #[(.slice A0_0 l0_0.length c0_0)] 54 (0, 0))) ∧ Aside0 (wc.heap[gb604]? = some (.cells #[(.slice none 0 0)] 54 (0, 0))) ∧ Aside0 (wc.heap[gb608]? = some (.cells #[(.slice Ao12 t605.length co12)] 54 (0, 0))) ∧ Aside0 (Below w.heap.size w wc))
 case first =>
  have H := HC5.out
  clear HC5
  replace H := Option.bind_eq_some_iff.mp H
  obtain ⟨t609, A160, H⟩ := H
  replace H : (if t609 = true then ((impl_in.f a1 0 3).bind fun t610 => (if t610 = true then ((impl_in.f a2 0 1000000).bind fun t611 => (impl_FillStock.j0 k a1 a2 (!t611) l0_0 t605)) else (impl_FillStock.j0 k a1 a2 true l0_0 t605))) else (impl_FillStock.j0 k a1 a2 true l0_0 t605)) = some (r1, r2) := H
  have A16 := Aside0.mk A160
  clear A160
  by_cases c17 : t609 = true
  ·
   subst c17
   have H1 : ((impl_in.f a1 0 3).bind fun t610 => (if t610 = true then ((impl_in.f a2 0 1000000).bind fun t611 => (impl_FillStock.j0 k a1 a2 (!t611) l0_0 t605)) else (impl_FillStock.j0 k a1 a2 true l0_0 t605))) = some (r1, r2) := by rw [if_pos rfl] at H; exact H
   clear H
   have H := H1
   clear H1
   replace H := Option.bind_eq_some_iff.mp H
   obtain ⟨t610, A180, H⟩ := H
   replace H : (if t610 = true then ((impl_in.f a2 0 1000000).bind fun t611 => (impl_FillStock.j0 k a1 a2 (!t611) l0_0 t605)) else (impl_FillStock.j0 k a1 a2 true l0_0 t605)) = some (r1, r2) := H
   have A18 := Aside0.mk A180
   clear A180
   by_cases c19 : t610 = true
   ·
    subst c19
    have H1 : ((impl_in.f a2 0 1000000).bind fun t611 => (impl_FillStock.j0 k a1 a2 (!t611) l0_0 t605)) = some (r1, r2) := by rw [if_pos rfl] at H; exact H
    clear H
    have H := H1
    clear H1
    replace H := Option.bind_eq_some_iff.mp H
    obtain ⟨t611, A200, H⟩ := H
    replace H : (impl_FillStock.j0 k a1 a2 (!t611) l0_0 t605) = some (r1, r2) := H
    have A20 := Aside0.mk A200
    clear A200
    have H' := Aside0.mk H
    clear H
    have hnb21 := NB603_604.out
    have hnc21 := NB604_603.out
    have hnb22 := NB603_608.out
    have hnc22 := NB608_603.out
    have hcz23_0 : w11.cell? ⟨gb603, 0, none⟩ = some (.slice A0_0 l0_0.length c0_0) := (blk_cell BK603.out 0).trans rfl
    have hfz23_0 := blk_frozen BK603.out 0
    go_wp2_with (first | ((with_reducible refine gate_callee (f := 44) rfl ?_); refine gLq (some 12) Try.func44 #[.agg #[.slice A0_0 l0_0.length c0_0]] ?_; (with_reducible refine (impl_StoreOk.calls _ _ l0_0 true _ ?side1 ?side2 A16.out).mono ?_); (case side1 => exact Kd.C_below HR0_0.out (blq HB.out)); (case side2 => exact HC0_0.out); rintro e w24 ⟨rfl, hb⟩; refine ⟨_, rfl, ?_⟩; replace HO607 := Aside0.mk (Kd.R_below (Kd.Rq (Kd.R_mono (Kd.R_far (p := ⟨gb608, 0, none⟩) (Kd.R_types HO607.out BK608.out (by decide)) (fun _ hk => hk.2) (.slice Ao12 t605.length co12)) (fun _ h_ => h_.1))) hb); replace BK603 := Aside0.mk (blk_below (g := gb603) (o := .cells #[.slice A0_0 l0_0.length c0_0] 54 (0, 0)) (by (with_reducible repeat (first | refine blk_drewN ?_ _ | refine blk_drew ?_ | refine blk_alloc ?_ _)); refine blk_far ?_ NB603_608.out _; (with_reducible repeat (first | refine blk_drewN ?_ _ | refine blk_drew ?_ | refine blk_alloc ?_ _)); exact BK603.out) hb); replace BK604 := Aside0.mk (blk_below (g := gb604) (o := .cells #[.slice none 0 0] 54 (0, 0)) (by (with_reducible repeat (first | refine blk_drewN ?_ _ | refine blk_drew ?_ | refine blk_alloc ?_ _)); refine blk_far ?_ NB604_608.out _; (with_reducible repeat (first | refine blk_drewN ?_ _ | refine blk_drew ?_ | refine blk_alloc ?_ _)); exact BK604.out) hb); replace BK608 := Aside0.mk (blk_below (g := gb608) (o := .cells #[.slice Ao12 t605.length co12] 54 (0, 0)) (by (with_reducible repeat (first | refine blk_drewN ?_ _ | refine blk_drew ?_ | refine blk_alloc ?_ _)); refine blk_put (cs := #[.slice none 0 0]) ?_ 0 _ rfl; (with_reducible repeat (first | refine blk_drewN ?_ _ | refine blk_drew ?_ | refine blk_alloc ?_ _)); exact BK608.out) hb); replace HB := hbs HB hb; (try clear hb); (try clear hb2); (try clear hk); (try clear hi)) | (go_at_call 81; (with_reducible refine (impl_in.calls a1 0 3 true _ A18.out).mono ?_); rintro e w' ⟨rfl, ⟨nd, rfl⟩⟩) | (go_at_call 81; (with_reducible refine (impl_in.calls a2 0 1000000 t611 _ A20.out).mono ?_); rintro e w' ⟨rfl, ⟨nd, rfl⟩⟩))
    go_meet
    case rel => exact ⟨_, (!t611), (by first | rfl | (simp; done) | (simp [*]; done)), H', ⟨by first | omega | exact Nat.le_refl _⟩, ⟨Kd.Rq HO607.out⟩, ⟨bkq BK603.out⟩, ⟨bkq BK604.out⟩, ⟨bkq BK608.out⟩, ⟨blq HB.out⟩⟩
   ·
    replace c19 := Bool.eq_false_iff.mpr c19
    subst c19
    have H1 : (impl_FillStock.j0 k a1 a2 true l0_0 t605) = some (r1, r2) := by rw [if_neg (show ¬ (false = true) by decide)] at H; exact H
    clear H
    have H := H1
    clear H1
    have H' := Aside0.mk H
    clear H
    have hnb25 := NB603_604.out
    have hnc25 := NB604_603.out
    have hnb26 := NB603_608.out
    have hnc26 := NB608_603.out
    have hcz27_0 : w11.cell? ⟨gb603, 0, none⟩ = some (.slice A0_0 l0_0.length c0_0) := (blk_cell BK603.out 0).trans rfl
    have hfz27_0 := blk_frozen BK603.out 0
    go_wp2_with (first | ((with_reducible refine gate_callee (f := 44) rfl ?_); refine gLq (some 12) Try.func44 #[.agg #[.slice A0_0 l0_0.length c0_0]] ?_; (with_reducible refine (impl_StoreOk.calls _ _ l0_0 true _ ?side1 ?side2 A16.out).mono ?_); (case side1 => exact Kd.C_below HR0_0.out (blq HB.out)); (case side2 => exact HC0_0.out); rintro e w28 ⟨rfl, hb⟩; refine ⟨_, rfl, ?_⟩; replace HO607 := Aside0.mk (Kd.R_below (Kd.Rq (Kd.R_mono (Kd.R_far (p := ⟨gb608, 0, none⟩) (Kd.R_types HO607.out BK608.out (by decide)) (fun _ hk => hk.2) (.slice Ao12 t605.length co12)) (fun _ h_ => h_.1))) hb); replace BK603 := Aside0.mk (blk_below (g := gb603) (o := .cells #[.slice A0_0 l0_0.length c0_0] 54 (0, 0)) (by (with_reducible repeat (first | refine blk_drewN ?_ _ | refine blk_drew ?_ | refine blk_alloc ?_ _)); refine blk_far ?_ NB603_608.out _; (with_reducible repeat (first | refine blk_drewN ?_ _ | refine blk_drew ?_ | refine blk_alloc ?_ _)); exact BK603.out) hb); replace BK604 := Aside0.mk (blk_below (g := gb604) (o := .cells #[.slice none 0 0] 54 (0, 0)) (by (with_reducible repeat (first | refine blk_drewN ?_ _ | refine blk_drew ?_ | refine blk_alloc ?_ _)); refine blk_far ?_ NB604_608.out _; (with_reducible repeat (first | refine blk_drewN ?_ _ | refine blk_drew ?_ | refine blk_alloc ?_ _)); exact BK604.out) hb); replace BK608 := Aside0.mk (blk_below (g := gb608) (o := .cells #[.slice Ao12 t605.length co12] 54 (0, 0)) (by (with_reducible repeat (first | refine blk_drewN ?_ _ | refine blk_drew ?_ | refine blk_alloc ?_ _)); refine blk_put (cs := #[.slice none 0 0]) ?_ 0 _ rfl; (with_reducible repeat (first | refine blk_drewN ?_ _ | refine blk_drew ?_ | refine blk_alloc ?_ _)); exact BK608.out) hb); replace HB := hbs HB hb; (try clear hb); (try clear hb2); (try clear hk); (try clear hi)) | (go_at_call 81; (with_reducible refine (impl_in.calls a1 0 3 false _ A18.out).mono ?_); rintro e w' ⟨rfl, ⟨nd, rfl⟩⟩))
    go_meet
    case rel => exact ⟨_, (true), (by first | rfl | (simp; done) | (simp [*]; done)), H', ⟨by first | omega | exact Nat.le_refl _⟩, ⟨Kd.Rq HO607.out⟩, ⟨bkq BK603.out⟩, ⟨bkq BK604.out⟩, ⟨bkq BK608.out⟩, ⟨blq HB.out⟩⟩
  ·
   replace c17 := Bool.eq_false_iff.mpr c17
   subst c17
   have H1 : (impl_FillStock.j0 k a1 a2 true l0_0 t605) = some (r1, r2) := by rw [if_neg (show ¬ (false = true) by decide)] at H; exact H
   clear H
   have H := H1
   clear H1
   have H' := Aside0.mk H
   clear H
   have hnb29 := NB603_604.out
   have hnc29 := NB604_603.out
   have hnb30 := NB603_608.out
   have hnc30 := NB608_603.out
   have hcz31_0 : w11.cell? ⟨gb603, 0, none⟩ = some (.slice A0_0 l0_0.length c0_0) := (blk_cell BK603.out 0).trans rfl
   have hfz31_0 := blk_frozen BK603.out 0
   go_wp2_with (first | ((with_reducible refine gate_callee (f := 44) rfl ?_); refine gLq (some 12) Try.func44 #[.agg #[.slice A0_0 l0_0.length c0_0]] ?_; (with_reducible refine (impl_StoreOk.calls _ _ l0_0 false _ ?side1 ?side2 A16.out).mono ?_); (case side1 => exact Kd.C_below HR0_0.out (blq HB.out)); (case side2 => exact HC0_0.out); rintro e w32 ⟨rfl, hb⟩; refine ⟨_, rfl, ?_⟩; replace HO607 := Aside0.mk (Kd.R_below (Kd.Rq (Kd.R_mono (Kd.R_far (p := ⟨gb608, 0, none⟩) (Kd.R_types HO607.out BK608.out (by decide)) (fun _ hk => hk.2) (.slice Ao12 t605.length co12)) (fun _ h_ => h_.1))) hb); replace BK603 := Aside0.mk (blk_below (g := gb603) (o := .cells #[.slice A0_0 l0_0.length c0_0] 54 (0, 0)) (by (with_reducible repeat (first | refine blk_drewN ?_ _ | refine blk_drew ?_ | refine blk_alloc ?_ _)); refine blk_far ?_ NB603_608.out _; (with_reducible repeat (first | refine blk_drewN ?_ _ | refine blk_drew ?_ | refine blk_alloc ?_ _)); exact BK603.out) hb); replace BK604 := Aside0.mk (blk_below (g := gb604) (o := .cells #[.slice none 0 0] 54 (0, 0)) (by (with_reducible repeat (first | refine blk_drewN ?_ _ | refine blk_drew ?_ | refine blk_alloc ?_ _)); refine blk_far ?_ NB604_608.out _; (with_reducible repeat (first | refine blk_drewN ?_ _ | refine blk_drew ?_ | refine blk_alloc ?_ _)); exact BK604.out) hb); replace BK608 := Aside0.mk (blk_below (g := gb608) (o := .cells #[.slice Ao12 t605.length co12] 54 (0, 0)) (by (with_reducible repeat (first | refine blk_drewN ?_ _ | refine blk_drew ?_ | refine blk_alloc ?_ _)); refine blk_put (cs := #[.slice none 0 0]) ?_ 0 _ rfl; (with_reducible repeat (first | refine blk_drewN ?_ _ | refine blk_drew ?_ | refine blk_alloc ?_ _)); exact BK608.out) hb); replace HB := hbs HB hb; (try clear hb); (try clear hb2); (try clear hk); (try clear hi)))
   go_meet
   case rel => exact ⟨_, (true), (by first | rfl | (simp; done) | (simp [*]; done)), H', ⟨by first | omega | exact Nat.le_refl _⟩, ⟨Kd.Rq HO607.out⟩, ⟨bkq BK603.out⟩, ⟨bkq BK604.out⟩, ⟨bkq BK608.out⟩, ⟨blq HB.out⟩⟩
 case rest =>
  clear HC5
  try clear c1
  try clear c2
  try clear p2
  try clear c3
  try clear c4
  try clear c8
  try clear c10
  try clear c13
  try clear c14
  try clear c17
  try clear c19
  try clear c21
  try clear c22
  try clear c25
  try clear c26
  try clear c29
  try clear c30
  try clear hcz15_0
  try clear hcz23_0
  try clear hcz27_0
  try clear hcz31_0
  try clear hcz9_0
  try clear hfz15_0
  try clear hfz23_0
  try clear hfz27_0
  try clear hfz31_0
  try clear hfz9_0
  obtain ⟨kq, x23_4, rfl, HA, HJ4, HO_609000, BK603, BK604, BK608, HB⟩ := hcut
  cases kq with
  | zero => exact absurd HA.out (by simp [impl_FillStock.j0])
  | succ kj4 =>
   have H := HA.out
   clear HA
   simp only [impl_FillStock.j0] at H
   by_cases c33 : x23_4 = true
   ·
    subst c33
    have H1 : (some (t605, false)) = some (r1, r2) := by rw [if_pos rfl] at H; exact H
    clear H
    have H := H1
    clear H1
    simp only [Option.some.injEq, Prod.mk.injEq] at H
    obtain ⟨rfl, rfl⟩ := H
    have hnb34 := NB608_603.out
    have hnc34 := NB603_608.out
    have hnb35 := NB608_604.out
    have hnc35 := NB604_608.out
    have hcz36_0 : wc.cell? ⟨gb608, 0, none⟩ = some (.slice Ao12 t605.length co12) := (blk_cell BK608.out 0).trans rfl
    have hfz36_0 := blk_frozen BK608.out 0
    have hnb37 := NB604_603.out
    have hnc37 := NB603_604.out
    have hcz38_0 : wc.cell? ⟨gb604, 0, none⟩ = some (.slice none 0 0) := (blk_cell BK604.out 0).trans rfl
    have hfz38_0 := blk_frozen BK604.out 0
    go_wp2
    refine bodyPost_ret (results_ct rfl _ _ gb604 54 #[.slice Ao12 t605.length co12] (0, 0) _ rfl (by (with_reducible repeat (first | refine blk_drewN ?_ _ | refine blk_drew ?_ | refine blk_alloc ?_ _)); refine blk_put (cs := #[.slice none 0 0]) ?_ 0 _ rfl; (with_reducible repeat (first | refine blk_drewN ?_ _ | refine blk_drew ?_ | refine blk_alloc ?_ _)); exact BK604.out) Try.underlying54 rfl (by kernel_rfl)) rfl ?_
    exact ⟨_, by first | rfl | (simp [errW_none, errW_some] <;> rfl) | (simp [*, errW_none, errW_some] <;> rfl), Kd.Rq (Kd.R_mono (Kd.R_far (p := ⟨gb604, 0, none⟩) (Kd.R_types HO_609000.out BK604.out (by decide)) (fun _ hk => hk.2) (.slice Ao12 t605.length co12)) (fun _ hk => trivial)), blq HB.out⟩
   ·
    replace c33 := Bool.eq_false_iff.mpr c33
    subst c33
    have H1 : (if 0 ≤ a1 then (if a1 < (t605.length : Int) then ((some (t605.set (a1 : Int).toNat (wrap64 ((rd t605 a1) + a2)) : List Int)).bind fun y613 => ((impl_StoreOk.f y613).bind fun t614 => (if t614 = true then (some (y613, true)) else ((impl_stockCopy.f l0_0).bind fun t615 => (some (t615, false)))))) else (none)) else (none)) = some (r1, r2) := by rw [if_neg (show ¬ (false = true) by decide)] at H; exact H
    clear H
    have H := H1
    clear H1
    by_cases c39 : 0 ≤ a1
    ·
     rw [if_pos c39] at H
     have c39b0 : decide (0 ≤ a1) = true := decide_eq_true c39
     clear c39
     by_cases c40 : a1 < (t605.length : Int)
     ·
      rw [if_pos c40] at H
      have c40b0 : decide (a1 < (t605.length : Int)) = true := decide_eq_true c40
      clear c40
      obtain ⟨y613, hy613⟩ : ∃ y_ : List Int, y_ = (t605.set (a1 : Int).toNat (wrap64 ((rd t605 a1) + a2))) := ⟨_, rfl⟩
      replace H : ((impl_StoreOk.f y613).bind fun t614 => (if t614 = true then (some (y613, true)) else ((impl_stockCopy.f l0_0).bind fun t615 => (some (t615, false))))) = some (r1, r2) := by first | (rw [hy613]; with_reducible exact H) | (have H2_ := (Option.bind_some _ _).symm.trans H; rw [hy613]; with_reducible exact H2_) | (have H2_ := (Option.bind_some _ _).symm.trans H; with_reducible exact H2_) | with_reducible exact H | (rw [hy613]; exact H) | exact H
      have Ny613 := Aside0.mk hy613
      clear hy613
      replace H := Option.bind_eq_some_iff.mp H
      obtain ⟨t614, A420, H⟩ := H
      replace H : (if t614 = true then (some (y613, true)) else ((impl_stockCopy.f l0_0).bind fun t615 => (some (t615, false)))) = some (r1, r2) := H
      have A42 := Aside0.mk A420
      clear A420
      by_cases c43 : t614 = true
      ·
       subst c43
       have H1 : (some (y613, true)) = some (r1, r2) := by rw [if_pos rfl] at H; exact H
       clear H
       have H := H1
       clear H1
       simp only [Option.some.injEq, Prod.mk.injEq] at H
       obtain ⟨rfl, rfl⟩ := H
       have hnb44 := NB608_603.out
       have hnc44 := NB603_608.out
       have hnb45 := NB608_604.out
       have hnc45 := NB604_608.out
       have hcz46_0 : wc.cell? ⟨gb608, 0, none⟩ = some (.slice Ao12 t605.length co12) := (blk_cell BK608.out 0).trans rfl
       have hfz46_0 := blk_frozen BK608.out 0
       have p612 : 0 ≤ (a1 : Int) := of_decide_eq_true (by first | (with_reducible assumption) | assumption)
       have q612 : a1 < (t605.length : Int) := of_decide_eq_true (by first | (with_reducible assumption) | assumption)
       obtain ⟨ad612, e612, hx612_0⟩ := Kd.at_int (Kd.R_reads' HO_609000.out).2.2 a1 p612 q612
       cases e612
       replace p612 := eq_true p612
       replace q612 := eq_true q612
       have p41 : 0 ≤ (a1 : Int) := of_decide_eq_true (by first | (with_reducible assumption) | assumption)
       have q41 : (a1 : Int) < ((t605.length : Int) : Int) := of_decide_eq_true (by first | (with_reducible assumption) | assumption)
       obtain ⟨go41, co41, eo41, gb41, gl41, cl41, HG41⟩ := Kd.R_form HO_609000.out (by omega)
       (first | cases eo41 | (injection eo41 with ea_ en_ ec_; (first | subst ea_ | (injection ea_ with ea_; subst ea_)); subst ec_; clear en_))
       have GB41 := Aside0.mk gb41
       have GG41 := Aside0.mk HG41
       clear gb41 gl41 HG41
       (first | simp only [add_plain] at hx612_0 | skip)
       obtain ⟨hx41_0, hf41_0⟩ := Kd.R_celln 0 HO_609000.out (a1 : Int) p41 q41
       replace p41 := eq_true p41
       replace q41 := eq_true q41
       have HP47 := Kd.R_putg HO_609000.out (a1 : Int) (wrap64 ((rd t605 a1) + a2))
       go_wp2_with (first | ((with_reducible refine gate_store (t := 3) (p := 32) rfl ?_); refine store_event (t := 3) (p := 32) (v := ?vo_w48) (w1 := (wc.setCell ⟨go41, (a1 : Int).toNat, none⟩ (.int .i64 (wrap64 ((rd t605 a1) + a2))))) ?hg ?ho ?hn ?hr ?_; (case ho => rfl); (case hg => rfl); (case hn => rfl); (case hr => first | (go_simp; done) | (go_simp; rfl)); intro w48 hw; have hg : wc.grownBy w48 (some go41) := (by rw [hw]; exact HP47.2); have hp_ : Kd.R (Kd.int .i64) 3 w48 w.heap.size (fun _ => True) (.slice (some ⟨go41, 0, none⟩) t605.length co12) y613 := (by rw [hw, Ny613.out]; exact HP47.1); clear HP47; replace BK603 := Aside0.mk (blk_grown (bkq BK603.out) hg (Kd.R_ne HO_609000.out BK603.out (by decide))); replace BK604 := Aside0.mk (blk_grown (bkq BK604.out) hg (Kd.R_ne HO_609000.out BK604.out (by decide))); replace BK608 := Aside0.mk (blk_grown (bkq BK608.out) hg (Kd.R_ne HO_609000.out BK608.out (by decide))); replace HO_609000 := Aside0.mk (hp_); replace HB := Aside0.mk ((by rw [hw]; exact below_set (HB.out) GB41.out : Below w.heap.size w w48)); clear hg hw hp_; have hcz49_0 : w48.cell? ⟨gb608, 0, none⟩ = some (.slice (some ⟨go41, 0, none⟩) t605.length co12) := (blk_cell BK608.out 0).trans rfl; have hfz49_0 := blk_frozen BK608.out 0) | ((with_reducible refine gate_callee (f := 44) rfl ?_); refine goesL_ (some 34) rfl rfl Try.func44 (by kernel_rfl) rfl #[.agg #[.slice (some ⟨go41, 0, none⟩) y613.length co12]] rfl (by (try simp only [List.map_toArray, List.map_cons, List.map_nil]); first | done | (rw [show y613.length = t605.length from (Kd.R_reads' HO_609000.out).1.symm] <;> rfl) | rfl | (simp only [List.length_drop, List.length_take]; rfl)) ?_; (with_reducible refine (impl_StoreOk.calls _ _ y613 true _ ?side1 ?side2 A42.out).mono ?_); (case side1 => repeat (first | exact (Kd.R_reads' HO_609000.out).2.2 | (with_reducible refine Kd.C_alloc ?_ _) | (with_reducible refine Kd.C_drewN ?_ _) | (with_reducible refine Kd.C_drew ?_))); (case side2 => rw [show y613.length = t605.length from (Kd.R_reads' HO_609000.out).1.symm]; exact (Kd.R_reads' HO_609000.out).2.1); rintro e w50 ⟨rfl, hb⟩; refine ⟨_, rfl, ?_⟩; replace HO_609000 := rob HO_609000 hb; replace BK603 := bkb BK603 hb; replace BK604 := bkb BK604 hb; replace BK608 := bkb BK608 hb; replace HB := hbs HB hb; (try clear hb); (try clear hb2); (try clear hk); (try clear hi); have hcz51_0 : w50.cell? ⟨gb608, 0, none⟩ = some (.slice (some ⟨go41, 0, none⟩) t605.length co12) := (blk_cell BK608.out 0).trans rfl; have hfz51_0 := blk_frozen BK608.out 0; have hnb52 := NB604_603.out; have hnc52 := NB603_604.out; have hcz53_0 : w50.cell? ⟨gb604, 0, none⟩ = some (.slice none 0 0) := (blk_cell BK604.out 0).trans rfl; have hfz53_0 := blk_frozen BK604.out 0))
       refine bodyPost_ret (results_ct rfl _ _ gb604 54 #[.slice (some ⟨go41, 0, none⟩) t605.length co12] (0, 0) _ rfl (by (with_reducible repeat (first | refine blk_drewN ?_ _ | refine blk_drew ?_ | refine blk_alloc ?_ _)); refine blk_put (cs := #[.slice none 0 0]) ?_ 0 _ rfl; (with_reducible repeat (first | refine blk_drewN ?_ _ | refine blk_drew ?_ | refine blk_alloc ?_ _)); exact BK604.out) Try.underlying54 rfl (by kernel_rfl)) rfl ?_
       exact ⟨_, by first | rfl | (simp [errW_none, errW_some] <;> rfl) | (simp [*, errW_none, errW_some] <;> rfl), Kd.Rq (Kd.R_mono (Kd.R_far (p := ⟨gb604, 0, none⟩) (Kd.R_types HO_609000.out BK604.out (by decide)) (fun _ hk => hk.2) (.slice (some ⟨go41, 0, none⟩) t605.length co12)) (fun _ hk => trivial)), blq HB.out⟩
      ·
       replace c43 := Bool.eq_false_iff.mpr c43
       subst c43
       have H1 : ((impl_stockCopy.f l0_0).bind fun t615 => (some (t615, false))) = some (r1, r2) := by rw [if_neg (show ¬ (false = true) by decide)] at H; exact H
       clear H
       have H := H1
       clear H1
       replace H := Option.bind_eq_some_iff.mp H
       obtain ⟨t615, A540, H⟩ := H
       replace H : (some (t615, false)) = some (r1, r2) := H
       have A54 := Aside0.mk A540
       clear A540
       simp only [Option.some.injEq, Prod.mk.injEq] at H
       obtain ⟨rfl, rfl⟩ := H
       have hnb55 := NB608_603.out
       have hnc55 := NB603_608.out
       have hnb56 := NB608_604.out
       have hnc56 := NB604_608.out
       have hcz57_0 : wc.cell? ⟨gb608, 0, none⟩ = some (.slice Ao12 t605.length co12) := (blk_cell BK608.out 0).trans rfl
       have hfz57_0 := blk_frozen BK608.out 0
       have p612 : 0 ≤ (a1 : Int) := of_decide_eq_true (by first | (with_reducible assumption) | assumption)
       have q612 : a1 < (t605.length : Int) := of_decide_eq_true (by first | (with_reducible assumption) | assumption)
       obtain ⟨ad612, e612, hx612_0⟩ := Kd.at_int (Kd.R_reads' HO_609000.out).2.2 a1 p612 q612
       cases e612
       replace p612 := eq_true p612
       replace q612 := eq_true q612
       have p41 : 0 ≤ (a1 : Int) := of_decide_eq_true (by first | (with_reducible assumption) | assumption)
       have q41 : (a1 : Int) < ((t605.length : Int) : Int) := of_decide_eq_true (by first | (with_reducible assumption) | assumption)
       obtain ⟨go41, co41, eo41, gb41, gl41, cl41, HG41⟩ := Kd.R_form HO_609000.out (by omega)
       (first | cases eo41 | (injection eo41 with ea_ en_ ec_; (first | subst ea_ | (injection ea_ with ea_; subst ea_)); subst ec_; clear en_))
       have GB41 := Aside0.mk gb41
       have GG41 := Aside0.mk HG41
       clear gb41 gl41 HG41
       (first | simp only [add_plain] at hx612_0 | skip)
       obtain ⟨hx41_0, hf41_0⟩ := Kd.R_celln 0 HO_609000.out (a1 : Int) p41 q41
       replace p41 := eq_true p41
       replace q41 := eq_true q41
       have HP58 := Kd.R_putg HO_609000.out (a1 : Int) (wrap64 ((rd t605 a1) + a2))
       go_wp2_with (first | ((with_reducible refine gate_store (t := 3) (p := 32) rfl ?_); refine store_event (t := 3) (p := 32) (v := ?vo_w59) (w1 := (wc.setCell ⟨go41, (a1 : Int).toNat, none⟩ (.int .i64 (wrap64 ((rd t605 a1) + a2))))) ?hg ?ho ?hn ?hr ?_; (case ho => rfl); (case hg => rfl); (case hn => rfl); (case hr => first | (go_simp; done) | (go_simp; rfl)); intro w59 hw; have hg : wc.grownBy w59 (some go41) := (by rw [hw]; exact HP58.2); have hp_ : Kd.R (Kd.int .i64) 3 w59 w.heap.size (fun _ => True) (.slice (some ⟨go41, 0, none⟩) t605.length co12) y613 := (by rw [hw, Ny613.out]; exact HP58.1); clear HP58; replace BK603 := Aside0.mk (blk_grown (bkq BK603.out) hg (Kd.R_ne HO_609000.out BK603.out (by decide))); replace BK604 := Aside0.mk (blk_grown (bkq BK604.out) hg (Kd.R_ne HO_609000.out BK604.out (by decide))); replace BK608 := Aside0.mk (blk_grown (bkq BK608.out) hg (Kd.R_ne HO_609000.out BK608.out (by decide))); replace HO_609000 := Aside0.mk (hp_); replace HB := Aside0.mk ((by rw [hw]; exact below_set (HB.out) GB41.out : Below w.heap.size w w59)); clear hg hw hp_; have hcz60_0 : w59.cell? ⟨gb608, 0, none⟩ = some (.slice (some ⟨go41, 0, none⟩) t605.length co12) := (blk_cell BK608.out 0).trans rfl; have hfz60_0 := blk_frozen BK608.out 0) | ((with_reducible refine gate_callee (f := 44) rfl ?_); refine goesL_ (some 34) rfl rfl Try.func44 (by kernel_rfl) rfl #[.agg #[.slice (some ⟨go41, 0, none⟩) y613.length co12]] rfl (by (try simp only [List.map_toArray, List.map_cons, List.map_nil]); first | done | (rw [show y613.length = t605.length from (Kd.R_reads' HO_609000.out).1.symm] <;> rfl) | rfl | (simp only [List.length_drop, List.length_take]; rfl)) ?_; (with_reducible refine (impl_StoreOk.calls _ _ y613 false _ ?side1 ?side2 A42.out).mono ?_); (case side1 => repeat (first | exact (Kd.R_reads' HO_609000.out).2.2 | (with_reducible refine Kd.C_alloc ?_ _) | (with_reducible refine Kd.C_drewN ?_ _) | (with_reducible refine Kd.C_drew ?_))); (case side2 => rw [show y613.length = t605.length from (Kd.R_reads' HO_609000.out).1.symm]; exact (Kd.R_reads' HO_609000.out).2.1); rintro e w61 ⟨rfl, hb⟩; refine ⟨_, rfl, ?_⟩; replace HO_609000 := rob HO_609000 hb; replace BK603 := bkb BK603 hb; replace BK604 := bkb BK604 hb; replace BK608 := bkb BK608 hb; replace HB := hbs HB hb; (try clear hb); (try clear hb2); (try clear hk); (try clear hi); have hnb62 := NB603_604.out; have hnc62 := NB604_603.out; have hcz63_0 : w61.cell? ⟨gb603, 0, none⟩ = some (.slice A0_0 l0_0.length c0_0) := (blk_cell BK603.out 0).trans rfl; have hfz63_0 := blk_frozen BK603.out 0) | ((with_reducible refine gate_callee (f := 104) rfl ?_); refine gLq (some 37) Try.func104 #[.agg #[.slice A0_0 l0_0.length c0_0]] ?_; (with_reducible refine (impl_stockCopy.calls _ _ l0_0 t615 _ ?side1 ?side2 A54.out).mono ?_); (case side1 => exact Kd.Cq (Kd.C_below HR0_0.out HB.out)); (case side2 => exact HC0_0.out); rintro e w64 ⟨v616, rfl, ho0, hb⟩; refine ⟨_, rfl, ?_⟩; have HO617 := Aside0.mk (Kd.R_lower (Kd.R_new' ho0 (Kd.R_lt (Kd.Rq HO_609000.out))) (below_size (blq HB.out))); replace HO_609000 := Aside0.mk (Kd.R_elder' (Kd.Rq HO_609000.out) (Kd.R_base ho0) hb); replace BK603 := bkb BK603 hb; replace BK604 := bkb BK604 hb; replace BK608 := bkb BK608 hb; replace HB := hbs HB hb; (try clear hb); (try clear hb2); (try clear hk); (try clear hi); (try clear ho0); obtain ⟨Ao65, co65, eo65⟩ := Kd.R_slice HO617.out; subst eo65; have hcz66_0 : w64.cell? ⟨gb604, 0, none⟩ = some (.slice none 0 0) := (blk_cell BK604.out 0).trans rfl; have hfz66_0 := blk_frozen BK604.out 0))
       refine bodyPost_ret (results_ct rfl _ _ gb604 54 #[.slice Ao65 t615.length co65] (0, 0) _ rfl (by (with_reducible repeat (first | refine blk_drewN ?_ _ | refine blk_drew ?_ | refine blk_alloc ?_ _)); refine blk_put (cs := #[.slice none 0 0]) ?_ 0 _ rfl; (with_reducible repeat (first | refine blk_drewN ?_ _ | refine blk_drew ?_ | refine blk_alloc ?_ _)); exact BK604.out) Try.underlying54 rfl (by kernel_rfl)) rfl ?_
       exact ⟨_, by first | rfl | (simp [errW_none, errW_some] <;> rfl) | (simp [*, errW_none, errW_some] <;> rfl), Kd.Rq (Kd.R_mono (Kd.R_far (p := ⟨gb604, 0, none⟩) (Kd.R_types HO617.out BK604.out (by decide)) (fun _ hk => hk.2) (.slice Ao65 t615.length co65)) (fun _ hk => trivial)), blq HB.out⟩
     ·
      rw [if_neg c40] at H
      exact absurd H (by simp)
    ·
     rw [if_neg c39] at H
     exact absurd H (by simp)

end Go.Proofs.Ytnlioefgpgamdaa.Q
