-- Written for this claim by wip/xprint.py of this repository (by way of the kit's print); Lean checks every line.
import Derived.Test.YtnlioefgpgamdaaQ0
import Derived.Test.YtnlioefgpgamdaaQ18
import Derived.Test.YtnlioefgpgamdaaQ19
import Derived.Test.YtnlioefgpgamdaaQ24
namespace Go.Proofs.Ytnlioefgpgamdaa.Q
open Go.RowKit Go.Proofs.YtnlioefgpgamdaaW.PrintWords Go.Proofs.YtnlioefgpgamdaaW.PrintLast Go.Proofs.YtnlioefgpgamdaaW.PrintMore
attribute [local go_sem] max2_int min2_int max_two min_two max_three min_three max_four min_four   -- for this text's walks alone
set_option linter.unusedVariables false
set_option linter.unusedSimpArgs false

/-! ### impl_stockCopy: function 104 -/
def impl_stockCopy.f (l0_0 : List Int) : Option (List Int) := (some (([] : List Int) : List Int)).bind fun y558 => (if y558.length + l0_0.length < 17592186044416 then (some (y558 ++ l0_0)) else (none))
set_option maxHeartbeats 8000000 in
set_option maxRecDepth 100000 in
theorem impl_stockCopy.calls (A0_0 : Option Addr) (c0_0 : Nat) (l0_0 : List Int) (r : List Int) (w : World) (hr0_0 : Kd.C (Kd.int .i64) w A0_0 l0_0.length l0_0) (hc0_0 : l0_0.length ≤ c0_0) (h : impl_stockCopy.f l0_0 = some r) :
  Calls Try.prog 104 #[.agg #[.slice A0_0 l0_0.length c0_0]] w fun e w' => ∃ v0_ : Value, e = .returned (.agg #[v0_]) ∧ Kd.R (Kd.int .i64) 3 w' w.heap.size (fun _ => True) v0_ r ∧ Below w.heap.size w w' := by
 have hu54 := Try.underlying54
 have HR0_0 := Aside0.mk hr0_0
 have HC0_0 := Aside0.mk hc0_0
 clear hr0_0 hc0_0
 have HB := Aside0.mk (Below.refl w.heap.size w)
 have H : ((some (([] : List Int) : List Int)).bind fun y558 => (if y558.length + l0_0.length < 17592186044416 then (some (y558 ++ l0_0)) else (none))) = some r := h
 clear h
 obtain ⟨y558, hy558⟩ : ∃ y_ : List Int, y_ = (([] : List Int)) := ⟨_, rfl⟩
 replace H : (if y558.length + l0_0.length < 17592186044416 then (some (y558 ++ l0_0)) else (none)) = some r := by first | (rw [hy558]; with_reducible exact H) | (have H2_ := (Option.bind_some _ _).symm.trans H; rw [hy558]; with_reducible exact H2_) | (have H2_ := (Option.bind_some _ _).symm.trans H; with_reducible exact H2_) | with_reducible exact H | (rw [hy558]; exact H) | exact H
 have Ny558 := Aside0.mk hy558
 clear hy558
 by_cases c2 : y558.length + l0_0.length < 17592186044416
 ·
  rw [if_pos c2] at H
  have LMc2 := Aside0.mk c2
  clear c2
  obtain ⟨y561, hy561⟩ : ∃ y_ : List Int, y_ = (y558 ++ l0_0) := ⟨_, rfl⟩
  replace H : (some y561) = some r := by first | (rw [hy561]; with_reducible exact H) | (have H2_ := (Option.bind_some _ _).symm.trans H; rw [hy561]; with_reducible exact H2_) | (have H2_ := (Option.bind_some _ _).symm.trans H; with_reducible exact H2_) | with_reducible exact H | (rw [hy561]; exact H) | exact H
  have Ny561 := Aside0.mk hy561
  clear hy561
  obtain rfl := Option.some.inj H
  go_enter Try.func104, Try.ntmps104
  go_wp2_with (first | ((with_reducible refine gate_dst (N := 1) rfl ?_); refine box_event ?hg (N := 1) ?hd (cs := #[.slice A0_0 l0_0.length c0_0]) (t := 54) ?hr ?_; (case hd => rfl); (case hg => rfl); (case hr => first | (go_simp; done) | (go_simp; rfl)); intro gb556 hg w3 hbox hb; have BK556 := Aside0.mk (hbox); have GW556 := sQ hg HB; have GE556 := sQ hg HB; replace HB := hbs HB hb; clear hb hbox hg) | ((with_reducible refine gate_dst (N := 2) rfl ?_); refine box_event ?hg (N := 2) ?hd (cs := #[.slice none 0 0]) (t := 54) ?hr ?_; (case hd => rfl); (case hg => rfl); (case hr => first | (go_simp; done) | (go_simp; rfl)); intro gb557 hg w4 hbox hb; have BK557 := Aside0.mk (hbox); have GW557 := sQ hg HB; have GE557 := sQ hg HB; have NB556_557 := qL hg BK556; have NB557_556 := qG hg BK556; replace BK556 := bkb BK556 hb; replace HB := hbs HB hb; clear hb hbox hg) | ((with_reducible refine gate_dst (N := 3) rfl ?_); refine Kd.R_lit (Kd.int .i64) _ 3 ?hg (N := 3) ?hd (xs := ([] : List Int)) (inner := []) (ok := fun _ => True) (okp := fun _ => True) ?hr ?hp (fun _ hk => hk) trivial (Below.refl _ _) (Nat.le_refl _) (by simp) ?_; (case hd => rfl); (case hg => rfl); (case hr => first | (go_simp; done) | (go_simp; rfl)); (case hp => exact (Reps.none _ _)); intro v559 w5 ho6 hb hg_ hnew_; clear hg_ hnew_; (first | rw [← Ny558.out] at ho6 | (simp only [Int.reduceToNat] at ho6; rw [← Ny558.out] at ho6)); have HO560 := Aside0.mk (Kd.R_lower ho6 (below_size (blq HB.out))); replace BK556 := bkb BK556 hb; replace BK557 := bkb BK557 hb; replace HB := hbs HB hb; clear hb ho6; have hnb7 := NB556_557.out; have hnc7 := NB557_556.out; have hcz8_0 : w5.cell? ⟨gb556, 0, none⟩ = some (.slice A0_0 l0_0.length c0_0) := (blk_cell BK556.out 0).trans rfl; have hfz8_0 := blk_frozen BK556.out 0) | ((with_reducible refine gate_builtin (b := .append) (xs := #[.tmp 3, .tmp 5]) rfl ?_); at_builtin; refine Kd.R_append_rows (Kd.int .i64) (w0 := w) w.heap.size rfl (.tmp 3) (.tmp 5) 27 3 (.int .i64 0) 8 rfl Try.underlying27 info3 rfl (by decide) (by omega) v559 y558 l0_0 _ _ _ (fun _ => True) (fun _ => False) rfl rfl ?aO ?aR (fun _ _ h => h) (fun _ h => h.elim) ?aF ?aB ?aS ?aL ?_; (case aR => repeat (first | exact (Kd.C_below HR0_0.out HB.out) | (with_reducible refine Kd.C_alloc ?_ _) | (with_reducible refine Kd.C_drewN ?_ _) | (with_reducible refine Kd.C_drew ?_))); (case aB => exact (blq HB.out)); (case aF => exact (fun _ _ => trivial)); (case aO => exact (Kd.Rq HO560.out)); (case aS => exact (below_size (blq HB.out))); (case aL => have := LMc2.out; omega); intro v562 w9 ho hb hg hat; rw [← Ny561.out] at ho; have HO563 := Aside0.mk (ho); replace BK556 := Aside0.mk (blk_grown (bkq BK556.out) hg (Kd.R_ne HO560.out BK556.out (by decide))); replace BK557 := Aside0.mk (blk_grown (bkq BK557.out) hg (Kd.R_ne HO560.out BK557.out (by decide))); replace HB := Aside0.mk (hb); clear HO560; clear ho hb hg hat; obtain ⟨Ao10, co10, eo10⟩ := Kd.R_slice HO563.out; subst eo10; have hcz11_0 : w9.cell? ⟨gb557, 0, none⟩ = some (.slice none 0 0) := (blk_cell BK557.out 0).trans rfl; have hfz11_0 := blk_frozen BK557.out 0))
  refine bodyPost_ret (results_cell_row rfl _ _ gb557 54 #[.slice Ao10 y561.length co10] (0, 0) _ rfl (by (with_reducible repeat (first | refine blk_drewN ?_ _ | refine blk_drew ?_ | refine blk_alloc ?_ _)); refine blk_put (cs := #[.slice none 0 0]) ?_ 0 _ rfl; (with_reducible repeat (first | refine blk_drewN ?_ _ | refine blk_drew ?_ | refine blk_alloc ?_ _)); exact BK557.out) Try.underlying54 rfl (by kernel_rfl)) rfl ?_
  exact ⟨_, by first | rfl | (simp [errW_none, errW_some] <;> rfl) | (simp [*, errW_none, errW_some] <;> rfl), Kd.Rq (Kd.R_mono (Kd.R_far (p := ⟨gb557, 0, none⟩) (Kd.R_types HO563.out BK557.out (by decide)) (fun _ hk => hk.2) (.slice Ao10 y561.length co10)) (fun _ hk => trivial)), blq HB.out⟩
 ·
  rw [if_neg c2] at H
  exact absurd H (by simp)

/-! ### impl_TakeFor: function 43 -/
mutual
def impl_TakeFor.j0 : Nat → List Int → Bool → List Int → Option (List Int × Bool)
 | 0, _, _, _ => none
 | k + 1, x8, x29, x574000 => if x29 = true then (some (x574000, false)) else (impl_TakeFor.l0 k x8 (x8.length : Int) 0 x574000)
def impl_TakeFor.l0 : Nat → List Int → Int → Int → List Int → Option (List Int × Bool)
 | 0, _, _, _, _ => none
 | k + 1, x31, x32, x33, x574000 => if x33 < x32 then (if 0 ≤ x33 then (if x33 < (x31.length : Int) then (if x33 < (x574000.length : Int) then (impl_TakeFor.l0 k x31 x32 (wrap64 (x33 + 1)) (x574000.set (x33 : Int).toNat (wrap64 ((rd x574000 x33) - (rd x31 x33))))) else (none)) else (none)) else (none)) else (some (x574000, true))
end
def impl_TakeFor.f (k : Nat) (l0_0 : List Int) (a1_0 : Int) (a1_1 : Int) (a1_2 : Int) (a2 : Int) : Option (List Int × Bool) := (impl_Amounts.f k a1_0 a1_1 a1_2 a2).bind fun t567 => ((impl_stockCopy.f l0_0).bind fun t570 => ((impl_StoreOk.f l0_0).bind fun t574 => (if t574 = true then (if (nilB t567) = true then (impl_TakeFor.j0 k t567 true t570) else ((impl_missing.f k l0_0 t567).bind fun t575 => (impl_TakeFor.j0 k t567 (decide (t575 ≥ 0)) t570))) else (impl_TakeFor.j0 k t567 true t570))))
theorem impl_TakeFor.mono_l : ∀ k, (∀ y0 y1 y2, LeO (impl_TakeFor.j0 k y0 y1 y2) (impl_TakeFor.j0 (k + 1) y0 y1 y2)) ∧ (∀ y0 y1 y2 y3, LeO (impl_TakeFor.l0 k y0 y1 y2 y3) (impl_TakeFor.l0 (k + 1) y0 y1 y2 y3))
 | 0 => ⟨fun _ _ _ r h => by simp [impl_TakeFor.j0] at h, fun _ _ _ _ r h => by simp [impl_TakeFor.l0] at h⟩
 | k + 1 => by
  obtain ⟨ih0, ih1⟩ := impl_TakeFor.mono_l k
  refine ⟨?_, ?_⟩
  ·
   intro y0 y1 y2
   unfold impl_TakeFor.j0
   repeat' first
   | (with_reducible exact ih0 _ _ _)
   | (with_reducible exact ih1 _ _ _ _)
   | (with_reducible exact impl_Amounts.mono _ _ _ _ _)
   | (with_reducible exact impl_missing.mono _ _ _)
   | (with_reducible exact LeO.refl _)
   | (with_reducible exact LeO.none _)
   | (with_reducible refine LeO.ite ?_ ?_)
   | (with_reducible refine LeO.bind ?_ (fun _ => ?_))
   | exact ih0 _ _ _
   | exact ih1 _ _ _ _
   | exact impl_Amounts.mono _ _ _ _ _
   | exact impl_missing.mono _ _ _
   | exact LeO.none _
   | refine LeO.ite ?_ ?_
   | refine LeO.bind ?_ (fun _ => ?_)
  ·
   intro y0 y1 y2 y3
   unfold impl_TakeFor.l0
   repeat' first
   | (with_reducible exact ih0 _ _ _)
   | (with_reducible exact ih1 _ _ _ _)
   | (with_reducible exact impl_Amounts.mono _ _ _ _ _)
   | (with_reducible exact impl_missing.mono _ _ _)
   | (with_reducible exact LeO.refl _)
   | (with_reducible exact LeO.none _)
   | (with_reducible refine LeO.ite ?_ ?_)
   | (with_reducible refine LeO.bind ?_ (fun _ => ?_))
   | exact ih0 _ _ _
   | exact ih1 _ _ _ _
   | exact impl_Amounts.mono _ _ _ _ _
   | exact impl_missing.mono _ _ _
   | exact LeO.none _
   | refine LeO.ite ?_ ?_
   | refine LeO.bind ?_ (fun _ => ?_)
theorem impl_TakeFor.mono : ∀ a0 a1 a2 a3 a4 k, LeO (impl_TakeFor.f k a0 a1 a2 a3 a4) (impl_TakeFor.f (k + 1) a0 a1 a2 a3 a4) := by
 intro a0 a1 a2 a3 a4 k
 obtain ⟨ih0, ih1⟩ := impl_TakeFor.mono_l k
 unfold impl_TakeFor.f
 repeat' first
   | (with_reducible exact ih0 _ _ _)
   | (with_reducible exact ih1 _ _ _ _)
   | (with_reducible exact impl_Amounts.mono _ _ _ _ _)
   | (with_reducible exact impl_missing.mono _ _ _)
   | (with_reducible exact LeO.refl _)
   | (with_reducible exact LeO.none _)
   | (with_reducible refine LeO.ite ?_ ?_)
   | (with_reducible refine LeO.bind ?_ (fun _ => ?_))
   | exact ih0 _ _ _
   | exact ih1 _ _ _ _
   | exact impl_Amounts.mono _ _ _ _ _
   | exact impl_missing.mono _ _ _
   | exact LeO.none _
   | refine LeO.ite ?_ ?_
   | refine LeO.bind ?_ (fun _ => ?_)
def impl_TakeFor.T1 : Bool × List (List Nat × List Nat) := (true, [([], []), ([], []), ([0, 1], [0, 1]), ([], []), ([3, 2], [3]), ([], []), ([2, 4, 0, 1, 2, 5], [2]), ([5, 4, 6, 0, 1, 2, 3, 4, 5, 6], [4, 5])])
def impl_TakeFor.B1 : List Nat := [0, 0, 3, 0, 15, 0, 63, 127]
theorem impl_TakeFor.tab1 : rtab .any (opsOf Try.f43 1) = impl_TakeFor.T1 := by kernel_rfl
theorem impl_TakeFor.bits1 : waitsOk impl_TakeFor.T1.2 impl_TakeFor.B1 = true := by kernel_rfl
set_option maxHeartbeats 8000000 in
set_option maxRecDepth 100000 in
theorem impl_TakeFor.calls (k : Nat) (A0_0 : Option Addr) (c0_0 : Nat) (l0_0 : List Int) (a1_0 : Int) (a1_1 : Int) (a1_2 : Int) (a2 : Int) (r1 : List Int) (r2 : Bool) (w : World) (hr0_0 : Kd.C (Kd.int .i64) w A0_0 l0_0.length l0_0) (hc0_0 : l0_0.length ≤ c0_0) (h : impl_TakeFor.f k l0_0 a1_0 a1_1 a1_2 a2 = some (r1, r2)) :
  Calls Try.prog 43 #[.agg #[.slice A0_0 l0_0.length c0_0], .agg #[.int .i64 a1_0, .int .i64 a1_1, .int .i64 a1_2], .int .i64 a2] w fun e w' => ∃ v0_ : Value, e = .returned (.tuple #[.agg #[v0_], .bool r2]) ∧ Kd.R (Kd.int .i64) 3 w' w.heap.size (fun _ => True) v0_ r1 ∧ Below w.heap.size w w' := by
 have hu54 := Try.underlying54
 have hu56 := Try.underlying56
 have HR0_0 := Aside0.mk hr0_0
 have HC0_0 := Aside0.mk hc0_0
 clear hr0_0 hc0_0
 have HB := Aside0.mk (Below.refl w.heap.size w)
 have H : ((impl_Amounts.f k a1_0 a1_1 a1_2 a2).bind fun t567 => ((impl_stockCopy.f l0_0).bind fun t570 => ((impl_StoreOk.f l0_0).bind fun t574 => (if t574 = true then (if (nilB t567) = true then (impl_TakeFor.j0 k t567 true t570) else ((impl_missing.f k l0_0 t567).bind fun t575 => (impl_TakeFor.j0 k t567 (decide (t575 ≥ 0)) t570))) else (impl_TakeFor.j0 k t567 true t570))))) = some (r1, r2) := h
 clear h
 replace H := Option.bind_eq_some_iff.mp H
 obtain ⟨t567, A40, H⟩ := H
 replace H : ((impl_stockCopy.f l0_0).bind fun t570 => ((impl_StoreOk.f l0_0).bind fun t574 => (if t574 = true then (if (nilB t567) = true then (impl_TakeFor.j0 k t567 true t570) else ((impl_missing.f k l0_0 t567).bind fun t575 => (impl_TakeFor.j0 k t567 (decide (t575 ≥ 0)) t570))) else (impl_TakeFor.j0 k t567 true t570)))) = some (r1, r2) := H
 have A4 := Aside0.mk A40
 clear A40
 replace H := Option.bind_eq_some_iff.mp H
 obtain ⟨t570, A50, H⟩ := H
 replace H : ((impl_StoreOk.f l0_0).bind fun t574 => (if t574 = true then (if (nilB t567) = true then (impl_TakeFor.j0 k t567 true t570) else ((impl_missing.f k l0_0 t567).bind fun t575 => (impl_TakeFor.j0 k t567 (decide (t575 ≥ 0)) t570))) else (impl_TakeFor.j0 k t567 true t570))) = some (r1, r2) := H
 have A5 := Aside0.mk A50
 clear A50
 have HC6 := Aside0.mk H
 clear H
 go_enter Try.func43, Try.ntmps43
 try go_wp2_with (first | ((with_reducible refine gate_dst (N := 3) rfl ?_); refine box_event ?hg (N := 3) ?hd (cs := #[.slice A0_0 l0_0.length c0_0]) (t := 54) ?hr ?_; (case hd => rfl); (case hg => rfl); (case hr => first | (go_simp; done) | (go_simp; rfl)); intro gb564 hg w7 hbox hb; have BK564 := Aside0.mk (hbox); have GW564 := sQ hg HB; have GE564 := sQ hg HB; replace HB := hbs HB hb; clear hb hbox hg) | ((with_reducible refine gate_dst (N := 4) rfl ?_); refine box_event ?hg (N := 4) ?hd (cs := #[.int .i64 a1_0, .int .i64 a1_1, .int .i64 a1_2]) (t := 56) ?hr ?_; (case hd => rfl); (case hg => rfl); (case hr => first | (go_simp; done) | (go_simp; rfl)); intro gb565 hg w8 hbox hb; have BK565 := Aside0.mk (hbox); have GW565 := sQ hg HB; have GE565 := sQ hg HB; have NB564_565 := qL hg BK564; have NB565_564 := qG hg BK564; replace BK564 := bkb BK564 hb; replace HB := hbs HB hb; clear hb hbox hg) | ((with_reducible refine gate_dst (N := 6) rfl ?_); refine box_event ?hg (N := 6) ?hd (cs := #[.slice none 0 0]) (t := 54) ?hr ?_; (case hd => rfl); (case hg => rfl); (case hr => first | (go_simp; done) | (go_simp; rfl)); intro gb566 hg w9 hbox hb; have BK566 := Aside0.mk (hbox); have GW566 := sQ hg HB; have GE566 := sQ hg HB; have NB564_566 := qL hg BK564; have NB566_564 := qG hg BK564; have NB565_566 := qL hg BK565; have NB566_565 := qG hg BK565; replace BK564 := bkb BK564 hb; replace BK565 := bkb BK565 hb; replace HB := hbs HB hb; clear hb hbox hg))
 replace BK564 := Aside0.mk (blk_drew BK564.out)
 replace BK565 := Aside0.mk (blk_drew BK565.out)
 replace BK566 := Aside0.mk (blk_drew BK566.out)
 replace HB := Aside0.mk (below_drew1 HB.out)
 refine start_ (n := 8) (S := fun w' => w'.cell? ⟨gb565, 0, none⟩ = some (.int .i64 a1_0) ∧ w'.cell? ⟨gb565, 1, none⟩ = some (.int .i64 a1_1) ∧ w'.cell? ⟨gb565, 2, none⟩ = some (.int .i64 a1_2) ∧ w'.cell? ⟨gb564, 0, none⟩ = some (.slice A0_0 l0_0.length c0_0)) (ds := []) #[false, false, false, false, false, false, false, false] (by kernel_rfl) rfl rfl ⟨(blk_cell BK565.out 0).trans rfl, (blk_cell BK565.out 1).trans rfl, (blk_cell BK565.out 2).trans rfl, (blk_cell BK564.out 0).trans rfl⟩ (fun hHeld => ?_); refine with_tabW impl_TakeFor.tab1 impl_TakeFor.bits1 (fun HT_ HW_ => ?_)
 generalize w9.drew = w10 at BK564 BK565 BK566 HB hHeld ⊢
 refine pure_ (i := 1) (N := some 13) (v := ?_) (a' := ?_) #[false, true, false, false, false, false, false, false] rfl rfl (any_of HT_.out (by kernel_rfl)) (fun _ _ _ h => h) (Or.inl ⟨by rfl, ?_⟩) ?_ ?_
 rotate_left
 ·
  intro w'
  go_simp
  with_reducible rfl
 rotate_left
 ·
  simp only [Act.put, List.setIfInBounds_toArray, List.set_cons_zero, List.set_cons_succ, i64_w, i32_w]
  rfl
 refine take_ (i := 0) (N := some 12) (v := ?_) (a' := ?_) #[true, true, false, false, false, false, false, false] rfl rfl (take_ofW HT_.out HW_.out (by kernel_rfl)) (fun _ _ _ h => h) (Or.inl ⟨by rfl, ?_⟩) hHeld ?_ ?_
 rotate_left
 ·
  rintro w' ⟨s0, s1, s2, s3⟩
  go_simp
  with_reducible rfl
 rotate_left
 ·
  simp only [Act.put, List.setIfInBounds_toArray, List.set_cons_zero, List.set_cons_succ, i64_w, i32_w]
  rfl
 refine take_ (i := 3) (N := some 15) (v := ?_) (a' := ?_) #[true, true, false, true, false, false, false, false] rfl rfl (take_ofW HT_.out HW_.out (by kernel_rfl)) (fun _ _ _ h => h) (Or.inl ⟨by rfl, ?_⟩) hHeld ?_ ?_
 rotate_left
 ·
  rintro w' ⟨s0, s1, s2, s3⟩
  go_simp
  with_reducible rfl
 rotate_left
 ·
  simp only [Act.put, List.setIfInBounds_toArray, List.set_cons_zero, List.set_cons_succ, i64_w, i32_w]
  rfl
 refine join_ (σ := Value × Value × Nat) 2 #[true, true, true, true, true, true, false, false] (fun s_ => [(14, s_.1), (16, .agg #[s_.2.1]), (9, .pointer (some ⟨s_.2.2, 0, none⟩))]) (fun s_ w' => (w'.cell? ⟨gb565, 0, none⟩ = some (.int .i64 a1_0) ∧ w'.cell? ⟨gb565, 1, none⟩ = some (.int .i64 a1_1) ∧ w'.cell? ⟨gb565, 2, none⟩ = some (.int .i64 a1_2) ∧ w'.cell? ⟨gb564, 0, none⟩ = some (.slice A0_0 l0_0.length c0_0)) ∧ (NilR Try.prog (Kd.R (Kd.int .i64) 3 w' w.heap.size (fun k_ => some k_ ≠ (s_.2.1 : Value).ownBlock) s_.1 t567) s_.1 t567) ∧ (Kd.R (Kd.int .i64) 3 w' w.heap.size (fun k_ => some k_ ≠ (s_.1 : Value).ownBlock) s_.2.1 t570) ∧ (w'.heap[gb564]? = some (.cells #[.slice A0_0 l0_0.length c0_0] 54 (0, 0))) ∧ (w'.heap[gb565]? = some (.cells #[.int .i64 a1_0, .int .i64 a1_1, .int .i64 a1_2] 56 (0, 0))) ∧ (w'.heap[gb566]? = some (.cells #[.slice none 0 0] 54 (0, 0))) ∧ (w'.heap[s_.2.2]? = some (.cells #[.slice none 0 0] 54 (0, 0))) ∧ (w.heap.size ≤ s_.2.2) ∧ (w.heap.size ≤ s_.2.2) ∧ (gb564 ≠ s_.2.2) ∧ (s_.2.2 ≠ gb564) ∧ (gb565 ≠ s_.2.2) ∧ (s_.2.2 ≠ gb565) ∧ (gb566 ≠ s_.2.2) ∧ (s_.2.2 ≠ gb566) ∧ (Below w.heap.size w w')) ?_ ?_
 rotate_left
 ·
  intro hCont
  refine two_ (i := 2) (j := 5) (Ni := some 14) (Nj := some 9) #[true, true, true, true, false, false, false, false] #[true, true, false, true, false, true, false, false] rfl rfl rfl rfl (two_of HT_.out (by kernel_rfl)) (by decide) (by decide) (fun K hK => ?_) (fun K hK => ?_)
  ·
   skip
   refine goes_ Try.func97 (by kernel_rfl) rfl #[.agg #[.int .i64 a1_0, .int .i64 a1_1, .int .i64 a1_2], .int .i64 a2] (by rfl) rfl rfl (by (try simp only [List.map_toArray, List.map_cons, List.map_nil]); first | done | rfl | (simp only [List.length_drop, List.length_take]; rfl)) ?_
   with_reducible refine (impl_Amounts.calls k a1_0 a1_1 a1_2 a2 t567 _ A4.out).mono ?_
   rintro e w11 ⟨v568, rfl, ho0, hb⟩
   have hnq1 := fun W => ho0.2.2 _ _ W Try.underlying27
   have hng1 := fun o1 o2 => ho0.2.1 27 o1 o2
   have hnl_ := ho0.2
   replace ho0 := ho0.1
   refine ⟨_, rfl, ?_⟩
   have HO569 := Aside0.mk (Kd.R_lower ho0 (below_size (blq HB.out)))
   replace BK564 := bkb BK564 hb
   replace BK565 := bkb BK565 hb
   replace BK566 := bkb BK566 hb
   replace HB := hbs HB hb
   (try clear hb)
   (try clear hb2)
   (try clear hk)
   (try clear hi)
   (try clear ho0)
   refine hK.out _ _ ⟨(blk_cell BK565.out 0).trans rfl, (blk_cell BK565.out 1).trans rfl, (blk_cell BK565.out 2).trans rfl, (blk_cell BK564.out 0).trans rfl⟩ (fun hHeld => ?_)
   clear hK K
   refine norm_ (a' := ?_) ?_ ?_
   rotate_left
   ·
    show Act.put _ (some 14) _ = _
    simp only [Act.put, List.setIfInBounds_toArray, List.set_cons_zero, List.set_cons_succ, i64_w, i32_w]
    rfl
   refine two_ (i := 4) (j := 5) (Ni := some 16) (Nj := some 9) #[true, true, true, true, true, false, false, false] #[true, true, true, true, false, true, false, false] rfl rfl rfl rfl (two_of HT_.out (by kernel_rfl)) (by decide) (by decide) (fun K hK => ?_) (fun K hK => ?_)
   ·
    skip
    refine goes_ Try.func104 (by kernel_rfl) rfl #[.agg #[.slice A0_0 l0_0.length c0_0]] (by rfl) rfl rfl (by (try simp only [List.map_toArray, List.map_cons, List.map_nil]); first | done | rfl | (simp only [List.length_drop, List.length_take]; rfl)) ?_
    with_reducible refine (impl_stockCopy.calls _ _ l0_0 t570 _ ?side1 ?side2 A5.out).mono ?_
    (case side1 => exact Kd.Cq (Kd.C_below HR0_0.out HB.out))
    (case side2 => exact HC0_0.out)
    rintro e w12 ⟨v571, rfl, ho0, hb⟩
    refine ⟨_, rfl, ?_⟩
    have HO572 := Aside0.mk (Kd.R_lower (Kd.R_new' ho0 (Kd.R_lt (Kd.Rq HO569.out))) (below_size (blq HB.out)))
    replace HO569 := Aside0.mk (Kd.R_elder' (Kd.Rq HO569.out) (Kd.R_base ho0) hb)
    replace BK564 := bkb BK564 hb
    replace BK565 := bkb BK565 hb
    replace BK566 := bkb BK566 hb
    replace HB := hbs HB hb
    (try clear hb)
    (try clear hb2)
    (try clear hk)
    (try clear hi)
    (try clear ho0)
    refine hK.out _ _ ⟨(blk_cell BK565.out 0).trans rfl, (blk_cell BK565.out 1).trans rfl, (blk_cell BK565.out 2).trans rfl, (blk_cell BK564.out 0).trans rfl⟩ (fun hHeld => ?_)
    clear hK K
    refine norm_ (a' := ?_) ?_ ?_
    rotate_left
    ·
     show Act.put _ (some 16) _ = _
     simp only [Act.put, List.setIfInBounds_toArray, List.set_cons_zero, List.set_cons_succ, i64_w, i32_w]
     rfl
    refine one_ (i := 5) (N := some 9) #[true, true, true, true, true, true, false, false] rfl rfl (one_of HT_.out (by kernel_rfl)) (by decide) (fun K hK => ?_)
    refine box_step ?hg (N := 9) ?hd (cs := #[.slice none 0 0]) (t := 54) ?hr ?_; (case hd => rfl); (case hg => rfl); (case hr => first | (go_simp; done) | (go_simp; rfl))
    intro gb573 hg w13 hbox hb
    have BK573 := Aside0.mk (hbox)
    have GW573 := sQ hg HB
    have GE573 := sQ hg HB
    have NB564_573 := qL hg BK564
    have NB573_564 := qG hg BK564
    have NB565_573 := qL hg BK565
    have NB573_565 := qG hg BK565
    have NB566_573 := qL hg BK566
    have NB573_566 := qG hg BK566
    replace HO569 := rob HO569 hb
    replace HO572 := rob HO572 hb
    replace BK564 := bkb BK564 hb
    replace BK565 := bkb BK565 hb
    replace BK566 := bkb BK566 hb
    replace HB := hbs HB hb
    clear hb hbox hg
    refine hK.out _ _ ⟨(blk_cell BK565.out 0).trans rfl, (blk_cell BK565.out 1).trans rfl, (blk_cell BK565.out 2).trans rfl, (blk_cell BK564.out 0).trans rfl⟩ (fun hHeld => ?_)
    clear hK K
    refine norm_ (a' := ?_) ?_ ?_
    rotate_left
    ·
     show Act.put _ (some 9) _ = _
     simp only [Act.put, List.setIfInBounds_toArray, List.set_cons_zero, List.set_cons_succ, i64_w, i32_w]
     rfl
    exact norm_ (by simp only [putAll, Act.put, List.setIfInBounds_toArray, List.set_cons_zero, List.set_cons_succ]) (hCont (v568, v571, gb573) _ ⟨hHeld, ⟨(Kd.Rq (Kd.R_mono HO569.out (fun _ hk => hk.2))), hnl_⟩, (Kd.Rq (Kd.R_mono HO572.out (fun _ hk => hk.2))), (bkq BK564.out), (bkq BK565.out), (bkq BK566.out), (bkq BK573.out), GW573.out, GE573.out, NB564_573.out, NB573_564.out, NB565_573.out, NB573_565.out, NB566_573.out, NB573_566.out, (blq HB.out)⟩)
   ·
    skip
    refine box_step ?hg (N := 9) ?hd (cs := #[.slice none 0 0]) (t := 54) ?hr ?_; (case hd => rfl); (case hg => rfl); (case hr => first | (go_simp; done) | (go_simp; rfl))
    intro gb573 hg w12 hbox hb
    have BK573 := Aside0.mk (hbox)
    have GW573 := sQ hg HB
    have GE573 := sQ hg HB
    have NB564_573 := qL hg BK564
    have NB573_564 := qG hg BK564
    have NB565_573 := qL hg BK565
    have NB573_565 := qG hg BK565
    have NB566_573 := qL hg BK566
    have NB573_566 := qG hg BK566
    replace HO569 := rob HO569 hb
    replace BK564 := bkb BK564 hb
    replace BK565 := bkb BK565 hb
    replace BK566 := bkb BK566 hb
    replace HB := hbs HB hb
    clear hb hbox hg
    refine hK.out _ _ ⟨(blk_cell BK565.out 0).trans rfl, (blk_cell BK565.out 1).trans rfl, (blk_cell BK565.out 2).trans rfl, (blk_cell BK564.out 0).trans rfl⟩ (fun hHeld => ?_)
    clear hK K
    refine norm_ (a' := ?_) ?_ ?_
    rotate_left
    ·
     show Act.put _ (some 9) _ = _
     simp only [Act.put, List.setIfInBounds_toArray, List.set_cons_zero, List.set_cons_succ, i64_w, i32_w]
     rfl
    refine one_ (i := 4) (N := some 16) #[true, true, true, true, true, true, false, false] rfl rfl (one_of HT_.out (by kernel_rfl)) (by decide) (fun K hK => ?_)
    refine goes_ Try.func104 (by kernel_rfl) rfl #[.agg #[.slice A0_0 l0_0.length c0_0]] (by rfl) rfl rfl (by (try simp only [List.map_toArray, List.map_cons, List.map_nil]); first | done | rfl | (simp only [List.length_drop, List.length_take]; rfl)) ?_
    with_reducible refine (impl_stockCopy.calls _ _ l0_0 t570 _ ?side1 ?side2 A5.out).mono ?_
    (case side1 => exact Kd.Cq (Kd.C_below HR0_0.out HB.out))
    (case side2 => exact HC0_0.out)
    rintro e w13 ⟨v571, rfl, ho0, hb⟩
    refine ⟨_, rfl, ?_⟩
    have HO572 := Aside0.mk (Kd.R_lower (Kd.R_new' ho0 (Kd.R_lt (Kd.Rq HO569.out))) (below_size (blq HB.out)))
    replace HO569 := Aside0.mk (Kd.R_elder' (Kd.Rq HO569.out) (Kd.R_base ho0) hb)
    replace BK564 := bkb BK564 hb
    replace BK565 := bkb BK565 hb
    replace BK566 := bkb BK566 hb
    replace BK573 := bkb BK573 hb
    replace HB := hbs HB hb
    (try clear hb)
    (try clear hb2)
    (try clear hk)
    (try clear hi)
    (try clear ho0)
    refine hK.out _ _ ⟨(blk_cell BK565.out 0).trans rfl, (blk_cell BK565.out 1).trans rfl, (blk_cell BK565.out 2).trans rfl, (blk_cell BK564.out 0).trans rfl⟩ (fun hHeld => ?_)
    clear hK K
    refine norm_ (a' := ?_) ?_ ?_
    rotate_left
    ·
     show Act.put _ (some 16) _ = _
     simp only [Act.put, List.setIfInBounds_toArray, List.set_cons_zero, List.set_cons_succ, i64_w, i32_w]
     rfl
    exact norm_ (by simp only [putAll, Act.put, List.setIfInBounds_toArray, List.set_cons_zero, List.set_cons_succ]) (hCont (v568, v571, gb573) _ ⟨hHeld, ⟨(Kd.Rq (Kd.R_mono HO569.out (fun _ hk => hk.2))), hnl_⟩, (Kd.Rq (Kd.R_mono HO572.out (fun _ hk => hk.2))), (bkq BK564.out), (bkq BK565.out), (bkq BK566.out), (bkq BK573.out), GW573.out, GE573.out, NB564_573.out, NB573_564.out, NB565_573.out, NB573_565.out, NB566_573.out, NB573_566.out, (blq HB.out)⟩)
  ·
   skip
   refine box_step ?hg (N := 9) ?hd (cs := #[.slice none 0 0]) (t := 54) ?hr ?_; (case hd => rfl); (case hg => rfl); (case hr => first | (go_simp; done) | (go_simp; rfl))
   intro gb573 hg w11 hbox hb
   have BK573 := Aside0.mk (hbox)
   have GW573 := sQ hg HB
   have GE573 := sQ hg HB
   have NB564_573 := qL hg BK564
   have NB573_564 := qG hg BK564
   have NB565_573 := qL hg BK565
   have NB573_565 := qG hg BK565
   have NB566_573 := qL hg BK566
   have NB573_566 := qG hg BK566
   replace BK564 := bkb BK564 hb
   replace BK565 := bkb BK565 hb
   replace BK566 := bkb BK566 hb
   replace HB := hbs HB hb
   clear hb hbox hg
   refine hK.out _ _ ⟨(blk_cell BK565.out 0).trans rfl, (blk_cell BK565.out 1).trans rfl, (blk_cell BK565.out 2).trans rfl, (blk_cell BK564.out 0).trans rfl⟩ (fun hHeld => ?_)
   clear hK K
   refine norm_ (a' := ?_) ?_ ?_
   rotate_left
   ·
    show Act.put _ (some 9) _ = _
    simp only [Act.put, List.setIfInBounds_toArray, List.set_cons_zero, List.set_cons_succ, i64_w, i32_w]
    rfl
   refine one_ (i := 2) (N := some 14) #[true, true, true, true, false, true, false, false] rfl rfl (one_of HT_.out (by kernel_rfl)) (by decide) (fun K hK => ?_)
   refine goes_ Try.func97 (by kernel_rfl) rfl #[.agg #[.int .i64 a1_0, .int .i64 a1_1, .int .i64 a1_2], .int .i64 a2] (by rfl) rfl rfl (by (try simp only [List.map_toArray, List.map_cons, List.map_nil]); first | done | rfl | (simp only [List.length_drop, List.length_take]; rfl)) ?_
   with_reducible refine (impl_Amounts.calls k a1_0 a1_1 a1_2 a2 t567 _ A4.out).mono ?_
   rintro e w12 ⟨v568, rfl, ho0, hb⟩
   have hnq2 := fun W => ho0.2.2 _ _ W Try.underlying27
   have hng2 := fun o1 o2 => ho0.2.1 27 o1 o2
   have hnl_ := ho0.2
   replace ho0 := ho0.1
   refine ⟨_, rfl, ?_⟩
   have HO569 := Aside0.mk (Kd.R_lower ho0 (below_size (blq HB.out)))
   replace BK564 := bkb BK564 hb
   replace BK565 := bkb BK565 hb
   replace BK566 := bkb BK566 hb
   replace BK573 := bkb BK573 hb
   replace HB := hbs HB hb
   (try clear hb)
   (try clear hb2)
   (try clear hk)
   (try clear hi)
   (try clear ho0)
   refine hK.out _ _ ⟨(blk_cell BK565.out 0).trans rfl, (blk_cell BK565.out 1).trans rfl, (blk_cell BK565.out 2).trans rfl, (blk_cell BK564.out 0).trans rfl⟩ (fun hHeld => ?_)
   clear hK K
   refine norm_ (a' := ?_) ?_ ?_
   rotate_left
   ·
    show Act.put _ (some 14) _ = _
    simp only [Act.put, List.setIfInBounds_toArray, List.set_cons_zero, List.set_cons_succ, i64_w, i32_w]
    rfl
   refine one_ (i := 4) (N := some 16) #[true, true, true, true, true, true, false, false] rfl rfl (one_of HT_.out (by kernel_rfl)) (by decide) (fun K hK => ?_)
   refine goes_ Try.func104 (by kernel_rfl) rfl #[.agg #[.slice A0_0 l0_0.length c0_0]] (by rfl) rfl rfl (by (try simp only [List.map_toArray, List.map_cons, List.map_nil]); first | done | rfl | (simp only [List.length_drop, List.length_take]; rfl)) ?_
   with_reducible refine (impl_stockCopy.calls _ _ l0_0 t570 _ ?side1 ?side2 A5.out).mono ?_
   (case side1 => exact Kd.Cq (Kd.C_below HR0_0.out HB.out))
   (case side2 => exact HC0_0.out)
   rintro e w13 ⟨v571, rfl, ho0, hb⟩
   refine ⟨_, rfl, ?_⟩
   have HO572 := Aside0.mk (Kd.R_lower (Kd.R_new' ho0 (Kd.R_lt (Kd.Rq HO569.out))) (below_size (blq HB.out)))
   replace HO569 := Aside0.mk (Kd.R_elder' (Kd.Rq HO569.out) (Kd.R_base ho0) hb)
   replace BK564 := bkb BK564 hb
   replace BK565 := bkb BK565 hb
   replace BK566 := bkb BK566 hb
   replace BK573 := bkb BK573 hb
   replace HB := hbs HB hb
   (try clear hb)
   (try clear hb2)
   (try clear hk)
   (try clear hi)
   (try clear ho0)
   refine hK.out _ _ ⟨(blk_cell BK565.out 0).trans rfl, (blk_cell BK565.out 1).trans rfl, (blk_cell BK565.out 2).trans rfl, (blk_cell BK564.out 0).trans rfl⟩ (fun hHeld => ?_)
   clear hK K
   refine norm_ (a' := ?_) ?_ ?_
   rotate_left
   ·
    show Act.put _ (some 16) _ = _
    simp only [Act.put, List.setIfInBounds_toArray, List.set_cons_zero, List.set_cons_succ, i64_w, i32_w]
    rfl
   exact norm_ (by simp only [putAll, Act.put, List.setIfInBounds_toArray, List.set_cons_zero, List.set_cons_succ]) (hCont (v568, v571, gb573) _ ⟨hHeld, ⟨(Kd.Rq (Kd.R_mono HO569.out (fun _ hk => hk.2))), hnl_⟩, (Kd.Rq (Kd.R_mono HO572.out (fun _ hk => hk.2))), (bkq BK564.out), (bkq BK565.out), (bkq BK566.out), (bkq BK573.out), GW573.out, GE573.out, NB564_573.out, NB573_564.out, NB565_573.out, NB573_565.out, NB566_573.out, NB573_566.out, (blq HB.out)⟩)
 rintro ⟨v568, v571, gb573⟩ w14 ⟨hS_, h0_, h1_, h2_, h3_, h4_, h5_, h6_, h7_, h8_, h9_, h10_, h11_, h12_, h13_, h14_⟩
 have hnl_ := h0_.2
 replace h0_ := h0_.1
 have hnq9 := fun W => hnl_.2 _ _ W Try.underlying27
 have hng9 := fun o1 o2 => hnl_.1 27 o1 o2
 clear hnl_
 have n0_ : Aside0 (Kd.R (Kd.int .i64) 3 w14 w.heap.size (fun k_ => some k_ ≠ (v571 : Value).ownBlock) v568 t567) := ⟨h0_⟩
 have n1_ : Aside0 (Kd.R (Kd.int .i64) 3 w14 w.heap.size (fun k_ => some k_ ≠ (v568 : Value).ownBlock) v571 t570) := ⟨h1_⟩
 have n2_ : Aside0 (w14.heap[gb564]? = some (.cells #[.slice A0_0 l0_0.length c0_0] 54 (0, 0))) := ⟨h2_⟩
 have n3_ : Aside0 (w14.heap[gb565]? = some (.cells #[.int .i64 a1_0, .int .i64 a1_1, .int .i64 a1_2] 56 (0, 0))) := ⟨h3_⟩
 have n4_ : Aside0 (w14.heap[gb566]? = some (.cells #[.slice none 0 0] 54 (0, 0))) := ⟨h4_⟩
 have n5_ : Aside0 (w14.heap[gb573]? = some (.cells #[.slice none 0 0] 54 (0, 0))) := ⟨h5_⟩
 have n6_ : Aside0 (w.heap.size ≤ gb573) := ⟨h6_⟩
 have n7_ : Aside0 (w.heap.size ≤ gb573) := ⟨h7_⟩
 have n8_ : Aside0 (gb564 ≠ gb573) := ⟨h8_⟩
 have n9_ : Aside0 (gb573 ≠ gb564) := ⟨h9_⟩
 have n10_ : Aside0 (gb565 ≠ gb573) := ⟨h10_⟩
 have n11_ : Aside0 (gb573 ≠ gb565) := ⟨h11_⟩
 have n12_ : Aside0 (gb566 ≠ gb573) := ⟨h12_⟩
 have n13_ : Aside0 (gb573 ≠ gb566) := ⟨h13_⟩
 have n14_ : Aside0 (Below w.heap.size w w14) := ⟨h14_⟩
 clear BK564
 clear BK565
 clear BK566
 clear HB
 clear h0_ h1_ h2_ h3_ h4_ h5_ h6_ h7_ h8_ h9_ h10_ h11_ h12_ h13_ h14_
 have HO569 := n0_
 have HO572 := n1_
 have BK564 := n2_
 have BK565 := n3_
 have BK566 := n4_
 have BK573 := n5_
 have GW573 := n6_
 have GE573 := n7_
 have NB564_573 := n8_
 have NB573_564 := n9_
 have NB565_573 := n10_
 have NB573_565 := n11_
 have NB566_573 := n12_
 have NB573_566 := n13_
 have HB := n14_
 clear n0_ n1_ n2_ n3_ n4_ n5_ n6_ n7_ n8_ n9_ n10_ n11_ n12_ n13_ n14_
 have hHeld : w14.cell? ⟨gb565, 0, none⟩ = some (.int .i64 a1_0) ∧ w14.cell? ⟨gb565, 1, none⟩ = some (.int .i64 a1_1) ∧ w14.cell? ⟨gb565, 2, none⟩ = some (.int .i64 a1_2) ∧ w14.cell? ⟨gb564, 0, none⟩ = some (.slice A0_0 l0_0.length c0_0) := hS_
 obtain ⟨Ao15, co15, eo15⟩ := Kd.R_slice HO572.out
 (first | subst eo15 | (injection eo15 with f1_ f2_ f3_; have f4_ := f1_.symm; have f5_ := f3_.symm; clear f1_ f2_ f3_; subst f4_; subst f5_))
 refine norm_ (a' := ?_) ?_ ?_
 rotate_left
 ·
  simp only [putAll, Act.put, List.setIfInBounds_toArray, List.set_cons_zero, List.set_cons_succ]
  rfl
 refine pure_ (i := 6) (N := some 8) (v := ?_) (a' := ?_) #[true, true, true, true, true, true, true, false] rfl rfl (any_of HT_.out (by kernel_rfl)) (fun _ _ _ h => h) (Or.inl ⟨by rfl, ?_⟩) ?_ ?_
 rotate_left
 ·
  intro w'
  go_simp
  with_reducible rfl
 rotate_left
 ·
  simp only [Act.put, List.setIfInBounds_toArray, List.set_cons_zero, List.set_cons_succ, i64_w, i32_w]
  rfl
 refine one_ (i := 7) (N := none) #[true, true, true, true, true, true, true, true] rfl rfl (one_of HT_.out (by kernel_rfl)) (by decide) (fun K hK => ?_)
 have hs16 : w14.cell? ⟨gb573, 0, none⟩ = some (.slice none 0 0) := (blk_cell BK573.out 0).trans rfl
 have hfs16 := blk_frozen BK573.out 0
 have hns16_0 := NB564_573.out
 have hns16_1 := NB565_573.out
 have hns16_2 := NB566_573.out
 have hms16_0 := NB573_564.out
 have hms16_1 := NB573_565.out
 have hms16_2 := NB573_566.out
 refine skip_ (w1 := ?_) (by rfl) rfl ?_ ?_
 rotate_left
 ·
  go_simp
  rfl
 refine hK.out _ _ ⟨((cell_far (p := ⟨gb573, _, none⟩) NB565_573.out _).trans (hHeld.1)), ((cell_far (p := ⟨gb573, _, none⟩) NB565_573.out _).trans (hHeld.2.1)), ((cell_far (p := ⟨gb573, _, none⟩) NB565_573.out _).trans (hHeld.2.2.1)), ((cell_far (p := ⟨gb573, _, none⟩) NB564_573.out _).trans (hHeld.2.2.2))⟩ (fun hHeld => ?_)
 clear hK K
 refine done_ (done_of HT_.out (by kernel_rfl)) ?_
 go_upto_region 2 with (fail)
 go_cut [29] (fun v29 wc => ∃ (kq : Nat) (x29_5 : Bool), v29 = .bool x29_5 ∧ Aside0 (impl_TakeFor.j0 kq t567 x29_5 t570 = some (r1, r2)) ∧ Aside0 (kq ≤ k) ∧ Aside0 (Kd.R (Kd.int .i64) 3 wc w.heap.size (fun k_ => some k_ ≠ ((.slice Ao15 t570.length co15) : Value).ownBlock) v568 t567) ∧ Aside0 (Kd.R (Kd.int .i64) 3 wc w.heap.size (fun k_ => some k_ ≠ (v568 : Value).ownBlock) (.slice Ao15 t570.length co15) t570) ∧ Aside0 (wc.heap[gb564]? = some (.cells #[(.slice A0_0 l0_0.length c0_0)] 54 (0, 0))) ∧ Aside0 (wc.heap[gb565]? = some (.cells #[.int .i64 a1_0, .int .i64 a1_1, .int .i64 a1_2] 56 (0, 0))) ∧ Aside0 (wc.heap[gb566]? = some (.cells #[(.slice none 0 0)] 54 (0, 0))) ∧ Aside0 (wc.heap[gb573]? = some (.cells #[(.slice Ao15 t570.length co15)] 54 (0, 0))) ∧ Aside0 (Below w.heap.size w wc))
 case first =>
  have H := HC6.out
  clear HC6
  replace H := Option.bind_eq_some_iff.mp H
  obtain ⟨t574, A170, H⟩ := H
  replace H : (if t574 = true then (if (nilB t567) = true then (impl_TakeFor.j0 k t567 true t570) else ((impl_missing.f k l0_0 t567).bind fun t575 => (impl_TakeFor.j0 k t567 (decide (t575 ≥ 0)) t570))) else (impl_TakeFor.j0 k t567 true t570)) = some (r1, r2) := H
  have A17 := Aside0.mk A170
  clear A170
  by_cases c18 : t574 = true
  ·
   subst c18
   have H1 : (if (nilB t567) = true then (impl_TakeFor.j0 k t567 true t570) else ((impl_missing.f k l0_0 t567).bind fun t575 => (impl_TakeFor.j0 k t567 (decide (t575 ≥ 0)) t570))) = some (r1, r2) := by rw [if_pos rfl] at H; exact H
   clear H
   have H := H1
   clear H1
   by_cases c19 : (nilB t567) = true
   ·
    rw [if_pos c19] at H
    have c19b0 : (nilB t567) = true := c19
    clear c19
    (first | rw [c19b0] | (simp only [i64_w, i32_w]; rw [c19b0]) | skip)
    have H' := Aside0.mk H
    clear H
    have hnb20 := NB564_565.out
    have hnc20 := NB565_564.out
    have hnb21 := NB564_566.out
    have hnc21 := NB566_564.out
    have hnb22 := NB564_573.out
    have hnc22 := NB573_564.out
    have hcz23_0 : w14.cell? ⟨gb564, 0, none⟩ = some (.slice A0_0 l0_0.length c0_0) := (blk_cell BK564.out 0).trans rfl
    have hfz23_0 := blk_frozen BK564.out 0
    go_wp2_with (first | ((with_reducible refine gate_callee (f := 44) rfl ?_); refine gLq (some 18) Try.func44 #[.agg #[.slice A0_0 l0_0.length c0_0]] ?_; (with_reducible refine (impl_StoreOk.calls _ _ l0_0 true _ ?side1 ?side2 A17.out).mono ?_); (case side1 => exact Kd.C_below HR0_0.out (blq HB.out)); (case side2 => exact HC0_0.out); rintro e w24 ⟨rfl, hb⟩; refine ⟨_, rfl, ?_⟩; replace HO569 := Aside0.mk (Kd.R_below (Kd.Rq (Kd.R_mono (Kd.R_far (p := ⟨gb573, 0, none⟩) (Kd.R_types HO569.out BK573.out (by decide)) (fun _ hk => hk.2) (.slice Ao15 t570.length co15)) (fun _ h_ => h_.1))) hb); replace HO572 := Aside0.mk (Kd.R_below (Kd.Rq (Kd.R_mono (Kd.R_far (p := ⟨gb573, 0, none⟩) (Kd.R_types HO572.out BK573.out (by decide)) (fun _ hk => hk.2) (.slice Ao15 t570.length co15)) (fun _ h_ => h_.1))) hb); replace BK564 := Aside0.mk (blk_below (g := gb564) (o := .cells #[.slice A0_0 l0_0.length c0_0] 54 (0, 0)) (by (with_reducible repeat (first | refine blk_drewN ?_ _ | refine blk_drew ?_ | refine blk_alloc ?_ _)); refine blk_far ?_ NB564_573.out _; (with_reducible repeat (first | refine blk_drewN ?_ _ | refine blk_drew ?_ | refine blk_alloc ?_ _)); exact BK564.out) hb); replace BK565 := Aside0.mk (blk_below (g := gb565) (o := .cells #[.int .i64 a1_0, .int .i64 a1_1, .int .i64 a1_2] 56 (0, 0)) (by (with_reducible repeat (first | refine blk_drewN ?_ _ | refine blk_drew ?_ | refine blk_alloc ?_ _)); refine blk_far ?_ NB565_573.out _; (with_reducible repeat (first | refine blk_drewN ?_ _ | refine blk_drew ?_ | refine blk_alloc ?_ _)); exact BK565.out) hb); replace BK566 := Aside0.mk (blk_below (g := gb566) (o := .cells #[.slice none 0 0] 54 (0, 0)) (by (with_reducible repeat (first | refine blk_drewN ?_ _ | refine blk_drew ?_ | refine blk_alloc ?_ _)); refine blk_far ?_ NB566_573.out _; (with_reducible repeat (first | refine blk_drewN ?_ _ | refine blk_drew ?_ | refine blk_alloc ?_ _)); exact BK566.out) hb); replace BK573 := Aside0.mk (blk_below (g := gb573) (o := .cells #[.slice Ao15 t570.length co15] 54 (0, 0)) (by (with_reducible repeat (first | refine blk_drewN ?_ _ | refine blk_drew ?_ | refine blk_alloc ?_ _)); refine blk_put (cs := #[.slice none 0 0]) ?_ 0 _ rfl; (with_reducible repeat (first | refine blk_drewN ?_ _ | refine blk_drew ?_ | refine blk_alloc ?_ _)); exact BK573.out) hb); replace HB := hbs HB hb; (try clear hb); (try clear hb2); (try clear hk); (try clear hi)))
    go_meet
    case rel => exact ⟨_, (true), (by first | rfl | (simp; done) | (simp [*]; done)), H', ⟨by first | omega | exact Nat.le_refl _⟩, ⟨Kd.Rq HO569.out⟩, ⟨Kd.Rq HO572.out⟩, ⟨bkq BK564.out⟩, ⟨bkq BK565.out⟩, ⟨bkq BK566.out⟩, ⟨bkq BK573.out⟩, ⟨blq HB.out⟩⟩
   ·
    rw [if_neg c19] at H
    have c19b0 : (nilB t567) = false := by simpa using c19
    clear c19
    (first | rw [c19b0] | (simp only [i64_w, i32_w]; rw [c19b0]) | skip)
    replace H := Option.bind_eq_some_iff.mp H
    obtain ⟨t575, A250, H⟩ := H
    replace H : (impl_TakeFor.j0 k t567 (decide (t575 ≥ 0)) t570) = some (r1, r2) := H
    have A25 := Aside0.mk A250
    clear A250
    have H' := Aside0.mk H
    clear H
    have hnb26 := NB564_565.out
    have hnc26 := NB565_564.out
    have hnb27 := NB564_566.out
    have hnc27 := NB566_564.out
    have hnb28 := NB564_573.out
    have hnc28 := NB573_564.out
    have hcz29_0 : w14.cell? ⟨gb564, 0, none⟩ = some (.slice A0_0 l0_0.length c0_0) := (blk_cell BK564.out 0).trans rfl
    have hfz29_0 := blk_frozen BK564.out 0
    go_wp2_with (first | ((with_reducible refine gate_callee (f := 44) rfl ?_); refine gLq (some 18) Try.func44 #[.agg #[.slice A0_0 l0_0.length c0_0]] ?_; (with_reducible refine (impl_StoreOk.calls _ _ l0_0 true _ ?side1 ?side2 A17.out).mono ?_); (case side1 => exact Kd.C_below HR0_0.out (blq HB.out)); (case side2 => exact HC0_0.out); rintro e w30 ⟨rfl, hb⟩; refine ⟨_, rfl, ?_⟩; replace HO569 := Aside0.mk (Kd.R_below (Kd.Rq (Kd.R_mono (Kd.R_far (p := ⟨gb573, 0, none⟩) (Kd.R_types HO569.out BK573.out (by decide)) (fun _ hk => hk.2) (.slice Ao15 t570.length co15)) (fun _ h_ => h_.1))) hb); replace HO572 := Aside0.mk (Kd.R_below (Kd.Rq (Kd.R_mono (Kd.R_far (p := ⟨gb573, 0, none⟩) (Kd.R_types HO572.out BK573.out (by decide)) (fun _ hk => hk.2) (.slice Ao15 t570.length co15)) (fun _ h_ => h_.1))) hb); replace BK564 := Aside0.mk (blk_below (g := gb564) (o := .cells #[.slice A0_0 l0_0.length c0_0] 54 (0, 0)) (by (with_reducible repeat (first | refine blk_drewN ?_ _ | refine blk_drew ?_ | refine blk_alloc ?_ _)); refine blk_far ?_ NB564_573.out _; (with_reducible repeat (first | refine blk_drewN ?_ _ | refine blk_drew ?_ | refine blk_alloc ?_ _)); exact BK564.out) hb); replace BK565 := Aside0.mk (blk_below (g := gb565) (o := .cells #[.int .i64 a1_0, .int .i64 a1_1, .int .i64 a1_2] 56 (0, 0)) (by (with_reducible repeat (first | refine blk_drewN ?_ _ | refine blk_drew ?_ | refine blk_alloc ?_ _)); refine blk_far ?_ NB565_573.out _; (with_reducible repeat (first | refine blk_drewN ?_ _ | refine blk_drew ?_ | refine blk_alloc ?_ _)); exact BK565.out) hb); replace BK566 := Aside0.mk (blk_below (g := gb566) (o := .cells #[.slice none 0 0] 54 (0, 0)) (by (with_reducible repeat (first | refine blk_drewN ?_ _ | refine blk_drew ?_ | refine blk_alloc ?_ _)); refine blk_far ?_ NB566_573.out _; (with_reducible repeat (first | refine blk_drewN ?_ _ | refine blk_drew ?_ | refine blk_alloc ?_ _)); exact BK566.out) hb); replace BK573 := Aside0.mk (blk_below (g := gb573) (o := .cells #[.slice Ao15 t570.length co15] 54 (0, 0)) (by (with_reducible repeat (first | refine blk_drewN ?_ _ | refine blk_drew ?_ | refine blk_alloc ?_ _)); refine blk_put (cs := #[.slice none 0 0]) ?_ 0 _ rfl; (with_reducible repeat (first | refine blk_drewN ?_ _ | refine blk_drew ?_ | refine blk_alloc ?_ _)); exact BK573.out) hb); replace HB := hbs HB hb; (try clear hb); (try clear hb2); (try clear hk); (try clear hi); have hcz31_0 : w30.cell? ⟨gb564, 0, none⟩ = some (.slice A0_0 l0_0.length c0_0) := (blk_cell BK564.out 0).trans rfl; have hfz31_0 := blk_frozen BK564.out 0; obtain ⟨Ao32, co32, eo32⟩ := Kd.R_slice HO569.out; subst eo32) | (go_at_call 96; (with_reducible refine (impl_missing.calls k _ _ l0_0 _ _ t567 t575 _ ?side1 ?side2 ?side3 ?side4 A25.out).mono ?_); (case side1 => exact Kd.Cq (Kd.C_below HR0_0.out HB.out)); (case side2 => exact HC0_0.out); (case side3 => repeat (first | exact (Kd.R_reads' HO569.out).2.2 | (with_reducible refine Kd.C_alloc ?_ _) | (with_reducible refine Kd.C_drewN ?_ _) | (with_reducible refine Kd.C_drew ?_))); (case side4 => exact (Kd.R_reads' HO569.out).2.1); rintro e w33 ⟨rfl, hb⟩; replace HO569 := rob HO569 hb; replace HO572 := rob HO572 hb; replace BK564 := bkb BK564 hb; replace BK565 := bkb BK565 hb; replace BK566 := bkb BK566 hb; replace BK573 := bkb BK573 hb; replace HB := hbs HB hb; (try clear hb); (try clear hb2); (try clear hk); (try clear hi)))
    go_meet
    case rel => exact ⟨_, (decide (t575 ≥ 0)), (by first | rfl | (simp; done) | (simp [*]; done)), H', ⟨by first | omega | exact Nat.le_refl _⟩, ⟨Kd.Rq HO569.out⟩, ⟨Kd.Rq HO572.out⟩, ⟨bkq BK564.out⟩, ⟨bkq BK565.out⟩, ⟨bkq BK566.out⟩, ⟨bkq BK573.out⟩, ⟨blq HB.out⟩⟩
  ·
   replace c18 := Bool.eq_false_iff.mpr c18
   subst c18
   have H1 : (impl_TakeFor.j0 k t567 true t570) = some (r1, r2) := by rw [if_neg (show ¬ (false = true) by decide)] at H; exact H
   clear H
   have H := H1
   clear H1
   have H' := Aside0.mk H
   clear H
   have hnb34 := NB564_565.out
   have hnc34 := NB565_564.out
   have hnb35 := NB564_566.out
   have hnc35 := NB566_564.out
   have hnb36 := NB564_573.out
   have hnc36 := NB573_564.out
   have hcz37_0 : w14.cell? ⟨gb564, 0, none⟩ = some (.slice A0_0 l0_0.length c0_0) := (blk_cell BK564.out 0).trans rfl
   have hfz37_0 := blk_frozen BK564.out 0
   go_wp2_with (first | ((with_reducible refine gate_callee (f := 44) rfl ?_); refine gLq (some 18) Try.func44 #[.agg #[.slice A0_0 l0_0.length c0_0]] ?_; (with_reducible refine (impl_StoreOk.calls _ _ l0_0 false _ ?side1 ?side2 A17.out).mono ?_); (case side1 => exact Kd.C_below HR0_0.out (blq HB.out)); (case side2 => exact HC0_0.out); rintro e w38 ⟨rfl, hb⟩; refine ⟨_, rfl, ?_⟩; replace HO569 := Aside0.mk (Kd.R_below (Kd.Rq (Kd.R_mono (Kd.R_far (p := ⟨gb573, 0, none⟩) (Kd.R_types HO569.out BK573.out (by decide)) (fun _ hk => hk.2) (.slice Ao15 t570.length co15)) (fun _ h_ => h_.1))) hb); replace HO572 := Aside0.mk (Kd.R_below (Kd.Rq (Kd.R_mono (Kd.R_far (p := ⟨gb573, 0, none⟩) (Kd.R_types HO572.out BK573.out (by decide)) (fun _ hk => hk.2) (.slice Ao15 t570.length co15)) (fun _ h_ => h_.1))) hb); replace BK564 := Aside0.mk (blk_below (g := gb564) (o := .cells #[.slice A0_0 l0_0.length c0_0] 54 (0, 0)) (by (with_reducible repeat (first | refine blk_drewN ?_ _ | refine blk_drew ?_ | refine blk_alloc ?_ _)); refine blk_far ?_ NB564_573.out _; (with_reducible repeat (first | refine blk_drewN ?_ _ | refine blk_drew ?_ | refine blk_alloc ?_ _)); exact BK564.out) hb); replace BK565 := Aside0.mk (blk_below (g := gb565) (o := .cells #[.int .i64 a1_0, .int .i64 a1_1, .int .i64 a1_2] 56 (0, 0)) (by (with_reducible repeat (first | refine blk_drewN ?_ _ | refine blk_drew ?_ | refine blk_alloc ?_ _)); refine blk_far ?_ NB565_573.out _; (with_reducible repeat (first | refine blk_drewN ?_ _ | refine blk_drew ?_ | refine blk_alloc ?_ _)); exact BK565.out) hb); replace BK566 := Aside0.mk (blk_below (g := gb566) (o := .cells #[.slice none 0 0] 54 (0, 0)) (by (with_reducible repeat (first | refine blk_drewN ?_ _ | refine blk_drew ?_ | refine blk_alloc ?_ _)); refine blk_far ?_ NB566_573.out _; (with_reducible repeat (first | refine blk_drewN ?_ _ | refine blk_drew ?_ | refine blk_alloc ?_ _)); exact BK566.out) hb); replace BK573 := Aside0.mk (blk_below (g := gb573) (o := .cells #[.slice Ao15 t570.length co15] 54 (0, 0)) (by (with_reducible repeat (first | refine blk_drewN ?_ _ | refine blk_drew ?_ | refine blk_alloc ?_ _)); refine blk_put (cs := #[.slice none 0 0]) ?_ 0 _ rfl; (with_reducible repeat (first | refine blk_drewN ?_ _ | refine blk_drew ?_ | refine blk_alloc ?_ _)); exact BK573.out) hb); replace HB := hbs HB hb; (try clear hb); (try clear hb2); (try clear hk); (try clear hi)))
   go_meet
   case rel => exact ⟨_, (true), (by first | rfl | (simp; done) | (simp [*]; done)), H', ⟨by first | omega | exact Nat.le_refl _⟩, ⟨Kd.Rq HO569.out⟩, ⟨Kd.Rq HO572.out⟩, ⟨bkq BK564.out⟩, ⟨bkq BK565.out⟩, ⟨bkq BK566.out⟩, ⟨bkq BK573.out⟩, ⟨blq HB.out⟩⟩
 case rest =>
  clear HC6
  try clear c1
  try clear c2
  try clear p2
  try clear c3
  try clear c4
  try clear c9
  try clear c10
  try clear c18
  try clear c19
  try clear c19b0
  try clear c20
  try clear c21
  try clear c22
  try clear c26
  try clear c27
  try clear c28
  try clear c34
  try clear c35
  try clear c36
  try clear hcz23_0
  try clear hcz29_0
  try clear hcz31_0
  try clear hcz37_0
  try clear hfz23_0
  try clear hfz29_0
  try clear hfz31_0
  try clear hfz37_0
  obtain ⟨kq, x29_5, rfl, HA, HJ5, HO_8, HO_574000, BK564, BK565, BK566, BK573, HB⟩ := hcut
  cases kq with
  | zero => exact absurd HA.out (by simp [impl_TakeFor.j0])
  | succ kj5 =>
   have H := HA.out
   clear HA
   simp only [impl_TakeFor.j0] at H
   by_cases c39 : x29_5 = true
   ·
    subst c39
    have H1 : (some (t570, false)) = some (r1, r2) := by rw [if_pos rfl] at H; exact H
    clear H
    have H := H1
    clear H1
    simp only [Option.some.injEq, Prod.mk.injEq] at H
    obtain ⟨rfl, rfl⟩ := H
    have hnb40 := NB573_564.out
    have hnc40 := NB564_573.out
    have hnb41 := NB573_565.out
    have hnc41 := NB565_573.out
    have hnb42 := NB573_566.out
    have hnc42 := NB566_573.out
    have hcz43_0 : wc.cell? ⟨gb573, 0, none⟩ = some (.slice Ao15 t570.length co15) := (blk_cell BK573.out 0).trans rfl
    have hfz43_0 := blk_frozen BK573.out 0
    have hnb44 := NB566_564.out
    have hnc44 := NB564_566.out
    have hnb45 := NB566_565.out
    have hnc45 := NB565_566.out
    have hcz46_0 : wc.cell? ⟨gb566, 0, none⟩ = some (.slice none 0 0) := (blk_cell BK566.out 0).trans rfl
    have hfz46_0 := blk_frozen BK566.out 0
    go_wp2
    refine bodyPost_ret (results_ct rfl _ _ gb566 54 #[.slice Ao15 t570.length co15] (0, 0) _ rfl (by (with_reducible repeat (first | refine blk_drewN ?_ _ | refine blk_drew ?_ | refine blk_alloc ?_ _)); refine blk_put (cs := #[.slice none 0 0]) ?_ 0 _ rfl; (with_reducible repeat (first | refine blk_drewN ?_ _ | refine blk_drew ?_ | refine blk_alloc ?_ _)); exact BK566.out) Try.underlying54 rfl (by kernel_rfl)) rfl ?_
    exact ⟨_, by first | rfl | (simp [errW_none, errW_some] <;> rfl) | (simp [*, errW_none, errW_some] <;> rfl), Kd.Rq (Kd.R_mono (Kd.R_far (p := ⟨gb566, 0, none⟩) (Kd.R_types HO_574000.out BK566.out (by decide)) (fun _ hk => hk.2) (.slice Ao15 t570.length co15)) (fun _ hk => trivial)), blq HB.out⟩
   ·
    replace c39 := Bool.eq_false_iff.mpr c39
    subst c39
    have H1 : (impl_TakeFor.l0 kj5 t567 (t567.length : Int) 0 t570) = some (r1, r2) := by rw [if_neg (show ¬ (false = true) by decide)] at H; exact H
    clear H
    have H := H1
    clear H1
    have H' := Aside0.mk H
    clear H
    obtain ⟨Ao47, co47, eo47⟩ := Kd.R_slice HO_8.out
    subst eo47
    go_wp2
    go_loopg [33] kj5 (fun kq v33 w' => ∃ (x31_2 : List Int) (x33_2 : Int) (x574000_2 : List Int) (u574000 : Value), v33 = .int .i64 x33_2 ∧ Aside0 (impl_TakeFor.l0 kq x31_2 (t567.length : Int) x33_2 x574000_2 = some (r1, r2)) ∧ Aside0 (kq ≤ kj5) ∧ Aside0 (Kd.R (Kd.int .i64) 3 w' w.heap.size (fun k_ => some k_ ≠ (u574000 : Value).ownBlock) (.slice Ao47 t567.length co47) x31_2) ∧ Aside0 (Kd.R (Kd.int .i64) 3 w' w.heap.size (fun k_ => some k_ ≠ ((.slice Ao47 t567.length co47) : Value).ownBlock) u574000 x574000_2) ∧ Aside0 (w'.heap[gb564]? = some (.cells #[(.slice A0_0 l0_0.length c0_0)] 54 (0, 0))) ∧ Aside0 (w'.heap[gb565]? = some (.cells #[.int .i64 a1_0, .int .i64 a1_1, .int .i64 a1_2] 56 (0, 0))) ∧ Aside0 (w'.heap[gb566]? = some (.cells #[(.slice none 0 0)] 54 (0, 0))) ∧ Aside0 (w'.heap[gb573]? = some (.cells #[u574000] 54 (0, 0))) ∧ Aside0 (Below w.heap.size w w'))
    case atStart => exact ⟨(t567), (0), (t570), (.slice Ao15 t570.length co15), (by first | rfl | (simp; done) | (simp [*]; done)), H', ⟨Nat.le_refl _⟩, ⟨Kd.Rq HO_8.out⟩, ⟨Kd.Rq HO_574000.out⟩, ⟨bkq BK564.out⟩, ⟨bkq BK565.out⟩, ⟨bkq BK566.out⟩, ⟨bkq BK573.out⟩, ⟨blq HB.out⟩⟩
    case round =>
     clear H'
     try clear c1
     try clear c2
     try clear p2
     try clear c3
     try clear c4
     try clear c9
     try clear c10
     try clear c18
     try clear c19
     try clear c19b0
     try clear c20
     try clear c21
     try clear c22
     try clear c26
     try clear c27
     try clear c28
     try clear c34
     try clear c35
     try clear c36
     try clear c39
     try clear c40
     try clear c41
     try clear c42
     try clear c43
     try clear c44
     try clear c45
     try clear hcz23_0
     try clear hcz29_0
     try clear hcz31_0
     try clear hcz37_0
     try clear hcz43_0
     try clear hcz46_0
     try clear hfz23_0
     try clear hfz29_0
     try clear hfz31_0
     try clear hfz37_0
     try clear hfz43_0
     try clear hfz46_0
     try clear p2
     obtain ⟨x31_2, x33_2, x574000_2, u574000, rfl, HA, HK2, HO_31, HO_574000, BK564, BK565, BK566, BK573, HB⟩ := hrel
     have hl31_2 := (Kd.R_reads' HO_31.out).1
     rw [hl31_2] at HO_31
     (try simp only [hl31_2])
     (try simp only [hl31_2] at BK564)
     (try simp only [hl31_2] at BK565)
     (try simp only [hl31_2] at BK566)
     (try simp only [hl31_2] at BK573)
     (try simp only [hl31_2] at HO_574000)
     cases gk with
     | zero => exact absurd HA.out (by simp [impl_TakeFor.l0])
     | succ k2 =>
      have H := HA.out
      clear HA
      simp only [impl_TakeFor.l0] at H
      by_cases c48 : x33_2 < (t567.length : Int)
      ·
       rw [if_pos c48] at H
       have c48b0 : decide (x33_2 < (t567.length : Int)) = true := decide_eq_true c48
       try (have c48b9 := c48b0; simp only [hl31_2] at c48b9)
       clear c48
       by_cases c49 : 0 ≤ x33_2
       ·
        rw [if_pos c49] at H
        have c49b0 : decide (0 ≤ x33_2) = true := decide_eq_true c49
        clear c49
        by_cases c50 : x33_2 < (x31_2.length : Int)
        ·
         rw [if_pos c50] at H
         have c50b0 : decide (x33_2 < (x31_2.length : Int)) = true := decide_eq_true c50
         clear c50
         by_cases c51 : x33_2 < (x574000_2.length : Int)
         ·
          rw [if_pos c51] at H
          have c51b0 : decide (x33_2 < (x574000_2.length : Int)) = true := decide_eq_true c51
          clear c51
          obtain ⟨y578, hy578⟩ : ∃ y_ : List Int, y_ = (x574000_2.set (x33_2 : Int).toNat (wrap64 ((rd x574000_2 x33_2) - (rd x31_2 x33_2)))) := ⟨_, rfl⟩
          replace H : (impl_TakeFor.l0 k2 x31_2 (t567.length : Int) (wrap64 (x33_2 + 1)) y578) = some (r1, r2) := by first | (rw [hy578]; with_reducible exact H) | (have H2_ := (Option.bind_some _ _).symm.trans H; rw [hy578]; with_reducible exact H2_) | (have H2_ := (Option.bind_some _ _).symm.trans H; with_reducible exact H2_) | with_reducible exact H | (rw [hy578]; exact H) | exact H
          have Ny578 := Aside0.mk hy578
          clear hy578
          have H' := Aside0.mk H
          clear H
          have p576 : 0 ≤ (x33_2 : Int) := of_decide_eq_true (by first | (with_reducible assumption) | assumption)
          have q576 : x33_2 < (x31_2.length : Int) := of_decide_eq_true (by first | (with_reducible assumption) | assumption)
          obtain ⟨ad576, e576, hx576_0⟩ := Kd.at_int (Kd.R_reads' HO_31.out).2.2 x33_2 p576 q576
          cases e576
          replace p576 := eq_true p576
          replace q576 := eq_true q576
          have hnb53 := NB573_564.out
          have hnc53 := NB564_573.out
          have hnb54 := NB573_565.out
          have hnc54 := NB565_573.out
          have hnb55 := NB573_566.out
          have hnc55 := NB566_573.out
          have hcz56_0 : wr.cell? ⟨gb573, 0, none⟩ = some (u574000) := (blk_cell BK573.out 0).trans rfl
          have hfz56_0 := blk_frozen BK573.out 0
          obtain ⟨Ao57, co57, eo57⟩ := Kd.R_slice HO_574000.out
          subst eo57
          have p577 : 0 ≤ (x33_2 : Int) := of_decide_eq_true (by first | (with_reducible assumption) | assumption)
          have q577 : x33_2 < (x574000_2.length : Int) := of_decide_eq_true (by first | (with_reducible assumption) | assumption)
          obtain ⟨ad577, e577, hx577_0⟩ := Kd.at_int (Kd.R_reads' HO_574000.out).2.2 x33_2 p577 q577
          cases e577
          replace p577 := eq_true p577
          replace q577 := eq_true q577
          have p52 : 0 ≤ (x33_2 : Int) := of_decide_eq_true (by first | (with_reducible assumption) | assumption)
          have q52 : (x33_2 : Int) < ((x574000_2.length : Int) : Int) := of_decide_eq_true (by first | (with_reducible assumption) | assumption)
          obtain ⟨go52, co52, eo52, gb52, gl52, cl52, HG52⟩ := Kd.R_form HO_574000.out (by omega)
          (first | cases eo52 | (injection eo52 with ea_ en_ ec_; (first | subst ea_ | (injection ea_ with ea_; subst ea_)); subst ec_; clear en_))
          have GB52 := Aside0.mk gb52
          have GG52 := Aside0.mk HG52
          clear gb52 gl52 HG52
          (first | simp only [add_plain] at hx577_0 | skip)
          obtain ⟨hx52_0, hf52_0⟩ := Kd.R_celln 0 HO_574000.out (x33_2 : Int) p52 q52
          replace p52 := eq_true p52
          replace q52 := eq_true q52
          have HP58 := Kd.R_putg HO_574000.out (x33_2 : Int) (wrap64 ((rd x574000_2 x33_2) - (rd x31_2 x33_2)))
          go_wp2_with (first | ((with_reducible refine gate_store (t := 3) (p := 45) rfl ?_); refine store_event (t := 3) (p := 45) (v := ?vo_w59) (w1 := (wr.setCell ⟨go52, (x33_2 : Int).toNat, none⟩ (.int .i64 (wrap64 ((rd x574000_2 x33_2) - (rd x31_2 x33_2)))))) ?hg ?ho ?hn ?hr ?_; (case ho => rfl); (case hg => rfl); (case hn => rfl); (case hr => first | (go_simp; done) | (go_simp; rfl)); intro w59 hw; have hg : wr.grownBy w59 (some go52) := (by rw [hw]; exact HP58.2); have hp_ : Kd.R (Kd.int .i64) 3 w59 w.heap.size (fun k_ => some k_ ≠ (.slice (some ad576) x31_2.length co47 : Value).ownBlock) (.slice (some ⟨go52, 0, none⟩) x574000_2.length co57) y578 := (by rw [hw, Ny578.out]; exact HP58.1); clear HP58; replace HO_31 := Aside0.mk (Kd.R_after (v := (.slice (some ⟨go52, 0, none⟩) x574000_2.length co57)) (v1 := (.slice (some ⟨go52, 0, none⟩) x574000_2.length co57)) (ok := (fun _ => True)) (Kd.Rq (Kd.R_mono HO_31.out (fun _ hk => ⟨trivial, hk⟩))) hg (.inl rfl)); replace BK564 := Aside0.mk (blk_grown (bkq BK564.out) hg (Kd.R_ne HO_574000.out BK564.out (by decide))); replace BK565 := Aside0.mk (blk_grown (bkq BK565.out) hg (Kd.R_ne HO_574000.out BK565.out (by decide))); replace BK566 := Aside0.mk (blk_grown (bkq BK566.out) hg (Kd.R_ne HO_574000.out BK566.out (by decide))); replace BK573 := Aside0.mk (blk_grown (bkq BK573.out) hg (Kd.R_ne HO_574000.out BK573.out (by decide))); replace HO_574000 := Aside0.mk (hp_); replace HB := Aside0.mk ((by rw [hw]; exact below_set (HB.out) GB52.out : Below w.heap.size w w59)); clear hg hw hp_))
          (try simp only [← hl31_2])
          go_roundg k2
          case measure => have := HJ5.out; have := HK2.out; omega
          case rel => exact ⟨(x31_2), (wrap64 (x33_2 + 1)), (y578), (.slice (some ⟨go52, 0, none⟩) x574000_2.length co57), (by first | rfl | (simp; done) | (simp [*]; done)), H', ⟨by have := HJ5.out; have := HK2.out; omega⟩, ⟨by (try simp only [hl31_2]); (with_reducible repeat (first | apply Kd.R_alloc | apply Kd.R_drewN | apply Kd.R_drew)); exact Kd.R_mono HO_31.out (fun _ hk => hk.2)⟩, ⟨by (try simp only [hl31_2]); (with_reducible repeat (first | apply Kd.R_alloc | apply Kd.R_drewN | apply Kd.R_drew)); exact HO_574000.out⟩, ⟨by (try simp only [hl31_2]); (with_reducible repeat (first | refine blk_drewN ?_ _ | refine blk_drew ?_ | refine blk_alloc ?_ _)); exact BK564.out⟩, ⟨by (try simp only [hl31_2]); (with_reducible repeat (first | refine blk_drewN ?_ _ | refine blk_drew ?_ | refine blk_alloc ?_ _)); exact BK565.out⟩, ⟨by (try simp only [hl31_2]); (with_reducible repeat (first | refine blk_drewN ?_ _ | refine blk_drew ?_ | refine blk_alloc ?_ _)); exact BK566.out⟩, ⟨by (try simp only [hl31_2]); (with_reducible repeat (first | refine blk_drewN ?_ _ | refine blk_drew ?_ | refine blk_alloc ?_ _)); exact BK573.out⟩, ⟨blq HB.out⟩⟩
         ·
          rw [if_neg c51] at H
          exact absurd H (by simp)
        ·
         rw [if_neg c50] at H
         exact absurd H (by simp)
       ·
        rw [if_neg c49] at H
        exact absurd H (by simp)
      ·
       rw [if_neg c48] at H
       have c48b0 : decide (x33_2 < (t567.length : Int)) = false := decide_eq_false c48
       try (have c48b9 := c48b0; simp only [hl31_2] at c48b9)
       clear c48
       simp only [Option.some.injEq, Prod.mk.injEq] at H
       obtain ⟨rfl, rfl⟩ := H
       have hnb60 := NB573_564.out
       have hnc60 := NB564_573.out
       have hnb61 := NB573_565.out
       have hnc61 := NB565_573.out
       have hnb62 := NB573_566.out
       have hnc62 := NB566_573.out
       have hcz63_0 : wr.cell? ⟨gb573, 0, none⟩ = some (u574000) := (blk_cell BK573.out 0).trans rfl
       have hfz63_0 := blk_frozen BK573.out 0
       obtain ⟨Ao64, co64, eo64⟩ := Kd.R_slice HO_574000.out
       subst eo64
       have hnb65 := NB566_564.out
       have hnc65 := NB564_566.out
       have hnb66 := NB566_565.out
       have hnc66 := NB565_566.out
       have hcz67_0 : wr.cell? ⟨gb566, 0, none⟩ = some (.slice none 0 0) := (blk_cell BK566.out 0).trans rfl
       have hfz67_0 := blk_frozen BK566.out 0
       go_wp2
       refine bodyPost_ret (results_ct rfl _ _ gb566 54 #[.slice Ao64 x574000_2.length co64] (0, 0) _ rfl (by (with_reducible repeat (first | refine blk_drewN ?_ _ | refine blk_drew ?_ | refine blk_alloc ?_ _)); refine blk_put (cs := #[.slice none 0 0]) ?_ 0 _ rfl; (with_reducible repeat (first | refine blk_drewN ?_ _ | refine blk_drew ?_ | refine blk_alloc ?_ _)); exact BK566.out) Try.underlying54 rfl (by kernel_rfl)) rfl ?_
       exact ⟨_, by first | rfl | (simp [errW_none, errW_some] <;> rfl) | (simp [*, errW_none, errW_some] <;> rfl), Kd.Rq (Kd.R_mono (Kd.R_far (p := ⟨gb566, 0, none⟩) (Kd.R_types HO_574000.out BK566.out (by decide)) (fun _ hk => hk.2) (.slice Ao64 x574000_2.length co64)) (fun _ hk => trivial)), blq HB.out⟩

end Go.Proofs.Ytnlioefgpgamdaa.Q
