-- Written for this claim by wip/xprint.py of this repository (by way of the kit's print); Lean checks every line.
import Derived.Test.YtnlioefgpgamdaaQ0
import Derived.Test.YtnlioefgpgamdaaQ18
import Derived.Test.YtnlioefgpgamdaaQ19
namespace Go.Proofs.Ytnlioefgpgamdaa.Q
open Go.RowKit Go.Proofs.YtnlioefgpgamdaaW.PrintWords Go.Proofs.YtnlioefgpgamdaaW.PrintLast Go.Proofs.YtnlioefgpgamdaaW.PrintMore
attribute [local go_sem] max2_int min2_int max_two min_two max_three min_three max_four min_four   -- for this text's walks alone
set_option linter.unusedVariables false
set_option linter.unusedSimpArgs false

/-! ### impl_MustBuy: function 47 -/
mutual
def impl_MustBuy.j0 : Nat → List (S56) → List Int → Bool → List Int → Option (List Int)
 | 0, _, _, _, _ => none
 | k + 1, x1, x2, x29, x587000 => if x29 = true then (some ([] : List Int)) else (if 4 ≤ 35184372088832 then (impl_MustBuy.l0 k x2 (List.replicate 4 0) x1 (x1.length : Int) 0 x587000) else (none))
def impl_MustBuy.l0 : Nat → List Int → List Int → List (S56) → Int → Int → List Int → Option (List Int)
 | 0, _, _, _, _, _, _ => none
 | k + 1, x2, x7, x31, x32, x33, x587000 => if x33 < x32 then (if 0 ≤ x33 then (if x33 < (x31.length : Int) then (if x33 < (x2.length : Int) then ((impl_Amounts.f k ((rd_T56 x31 x33).f0) ((rd_T56 x31 x33).f1) ((rd_T56 x31 x33).f2) (rd x2 x33)).bind fun t594 => (if (nilB t594) = true then (some ([] : List Int)) else (impl_MustBuy.l1 k x2 x7 x31 x32 x33 t594 (t594.length : Int) 0 x587000))) else (none)) else (none)) else (none)) else (impl_MustBuy.l2 k x7 x587000 (x587000.length : Int) 0)
def impl_MustBuy.l1 : Nat → List Int → List Int → List (S56) → Int → Int → List Int → Int → Int → List Int → Option (List Int)
 | 0, _, _, _, _, _, _, _, _, _ => none
 | k + 1, x2, x7, x31, x32, x33, x46, x47, x48, x587000 => if x48 < x47 then (if 0 ≤ x48 then (if x48 < (x46.length : Int) then (if x48 < (x7.length : Int) then (impl_MustBuy.l1 k x2 (x7.set (x48 : Int).toNat (wrap64 ((rd x7 x48) + (rd x46 x48)))) x31 x32 x33 x46 x47 (wrap64 (x48 + 1)) x587000) else (none)) else (none)) else (none)) else (impl_MustBuy.l0 k x2 x7 x31 x32 (wrap64 (x33 + 1)) x587000)
def impl_MustBuy.l2 : Nat → List Int → List Int → Int → Int → Option (List Int)
 | 0, _, _, _, _ => none
 | k + 1, x7, x63, x64, x65 => if x65 < x64 then (if 0 ≤ x65 then (if x65 < (x63.length : Int) then (if x65 < (x7.length : Int) then (impl_MustBuy.l2 k (x7.set (x65 : Int).toNat (mx (wrap64 ((rd x7 x65) - (rd x63 x65))) 0)) x63 x64 (wrap64 (x65 + 1))) else (none)) else (none)) else (none)) else (some x7)
end
def impl_MustBuy.f (k : Nat) (l0_0 : List Int) (l1 : List (S56)) (l2 : List Int) : Option (List Int) := (impl_StoreOk.f l0_0).bind fun t587 => (if t587 = true then (if (l1.length : Int) > 10 then (impl_MustBuy.j0 k l1 l2 true l0_0) else (impl_MustBuy.j0 k l1 l2 ((l2.length : Int) != (l1.length : Int)) l0_0)) else (impl_MustBuy.j0 k l1 l2 true l0_0))
theorem impl_MustBuy.mono_l : ∀ k, (∀ y0 y1 y2 y3, LeO (impl_MustBuy.j0 k y0 y1 y2 y3) (impl_MustBuy.j0 (k + 1) y0 y1 y2 y3)) ∧ (∀ y0 y1 y2 y3 y4 y5, LeO (impl_MustBuy.l0 k y0 y1 y2 y3 y4 y5) (impl_MustBuy.l0 (k + 1) y0 y1 y2 y3 y4 y5)) ∧ (∀ y0 y1 y2 y3 y4 y5 y6 y7 y8, LeO (impl_MustBuy.l1 k y0 y1 y2 y3 y4 y5 y6 y7 y8) (impl_MustBuy.l1 (k + 1) y0 y1 y2 y3 y4 y5 y6 y7 y8)) ∧ (∀ y0 y1 y2 y3, LeO (impl_MustBuy.l2 k y0 y1 y2 y3) (impl_MustBuy.l2 (k + 1) y0 y1 y2 y3))
 | 0 => ⟨fun _ _ _ _ r h => by simp [impl_MustBuy.j0] at h, fun _ _ _ _ _ _ r h => by simp [impl_MustBuy.l0] at h, fun _ _ _ _ _ _ _ _ _ r h => by simp [impl_MustBuy.l1] at h, fun _ _ _ _ r h => by simp [impl_MustBuy.l2] at h⟩
 | k + 1 => by
  obtain ⟨ih0, ih1, ih2, ih3⟩ := impl_MustBuy.mono_l k
  refine ⟨?_, ?_, ?_, ?_⟩
  ·
   intro y0 y1 y2 y3
   unfold impl_MustBuy.j0
   repeat' first
   | (with_reducible exact ih0 _ _ _ _)
   | (with_reducible exact ih1 _ _ _ _ _ _)
   | (with_reducible exact ih2 _ _ _ _ _ _ _ _ _)
   | (with_reducible exact ih3 _ _ _ _)
   | (with_reducible exact impl_Amounts.mono _ _ _ _ _)
   | (with_reducible exact LeO.refl _)
   | (with_reducible exact LeO.none _)
   | (with_reducible refine LeO.ite ?_ ?_)
   | (with_reducible refine LeO.bind ?_ (fun _ => ?_))
   | exact ih0 _ _ _ _
   | exact ih1 _ _ _ _ _ _
   | exact ih2 _ _ _ _ _ _ _ _ _
   | exact ih3 _ _ _ _
   | exact impl_Amounts.mono _ _ _ _ _
   | exact LeO.none _
   | refine LeO.ite ?_ ?_
   | refine LeO.bind ?_ (fun _ => ?_)
  ·
   intro y0 y1 y2 y3 y4 y5
   unfold impl_MustBuy.l0
   repeat' first
   | (with_reducible exact ih0 _ _ _ _)
   | (with_reducible exact ih1 _ _ _ _ _ _)
   | (with_reducible exact ih2 _ _ _ _ _ _ _ _ _)
   | (with_reducible exact ih3 _ _ _ _)
   | (with_reducible exact impl_Amounts.mono _ _ _ _ _)
   | (with_reducible exact LeO.refl _)
   | (with_reducible exact LeO.none _)
   | (with_reducible refine LeO.ite ?_ ?_)
   | (with_reducible refine LeO.bind ?_ (fun _ => ?_))
   | exact ih0 _ _ _ _
   | exact ih1 _ _ _ _ _ _
   | exact ih2 _ _ _ _ _ _ _ _ _
   | exact ih3 _ _ _ _
   | exact impl_Amounts.mono _ _ _ _ _
   | exact LeO.none _
   | refine LeO.ite ?_ ?_
   | refine LeO.bind ?_ (fun _ => ?_)
  ·
   intro y0 y1 y2 y3 y4 y5 y6 y7 y8
   unfold impl_MustBuy.l1
   repeat' first
   | (with_reducible exact ih0 _ _ _ _)
   | (with_reducible exact ih1 _ _ _ _ _ _)
   | (with_reducible exact ih2 _ _ _ _ _ _ _ _ _)
   | (with_reducible exact ih3 _ _ _ _)
   | (with_reducible exact impl_Amounts.mono _ _ _ _ _)
   | (with_reducible exact LeO.refl _)
   | (with_reducible exact LeO.none _)
   | (with_reducible refine LeO.ite ?_ ?_)
   | (with_reducible refine LeO.bind ?_ (fun _ => ?_))
   | exact ih0 _ _ _ _
   | exact ih1 _ _ _ _ _ _
   | exact ih2 _ _ _ _ _ _ _ _ _
   | exact ih3 _ _ _ _
   | exact impl_Amounts.mono _ _ _ _ _
   | exact LeO.none _
   | refine LeO.ite ?_ ?_
   | refine LeO.bind ?_ (fun _ => ?_)
  ·
   intro y0 y1 y2 y3
   unfold impl_MustBuy.l2
   repeat' first
   | (with_reducible exact ih0 _ _ _ _)
   | (with_reducible exact ih1 _ _ _ _ _ _)
   | (with_reducible exact ih2 _ _ _ _ _ _ _ _ _)
   | (with_reducible exact ih3 _ _ _ _)
   | (with_reducible exact impl_Amounts.mono _ _ _ _ _)
   | (with_reducible exact LeO.refl _)
   | (with_reducible exact LeO.none _)
   | (with_reducible refine LeO.ite ?_ ?_)
   | (with_reducible refine LeO.bind ?_ (fun _ => ?_))
   | exact ih0 _ _ _ _
   | exact ih1 _ _ _ _ _ _
   | exact ih2 _ _ _ _ _ _ _ _ _
   | exact ih3 _ _ _ _
   | exact impl_Amounts.mono _ _ _ _ _
   | exact LeO.none _
   | refine LeO.ite ?_ ?_
   | refine LeO.bind ?_ (fun _ => ?_)
theorem impl_MustBuy.mono : ∀ a0 a1 a2 k, LeO (impl_MustBuy.f k a0 a1 a2) (impl_MustBuy.f (k + 1) a0 a1 a2) := by
 intro a0 a1 a2 k
 obtain ⟨ih0, ih1, ih2, ih3⟩ := impl_MustBuy.mono_l k
 unfold impl_MustBuy.f
 repeat' first
   | (with_reducible exact ih0 _ _ _ _)
   | (with_reducible exact ih1 _ _ _ _ _ _)
   | (with_reducible exact ih2 _ _ _ _ _ _ _ _ _)
   | (with_reducible exact ih3 _ _ _ _)
   | (with_reducible exact impl_Amounts.mono _ _ _ _ _)
   | (with_reducible exact LeO.refl _)
   | (with_reducible exact LeO.none _)
   | (with_reducible refine LeO.ite ?_ ?_)
   | (with_reducible refine LeO.bind ?_ (fun _ => ?_))
   | exact ih0 _ _ _ _
   | exact ih1 _ _ _ _ _ _
   | exact ih2 _ _ _ _ _ _ _ _ _
   | exact ih3 _ _ _ _
   | exact impl_Amounts.mono _ _ _ _ _
   | exact LeO.none _
   | refine LeO.ite ?_ ?_
   | refine LeO.bind ?_ (fun _ => ?_)
set_option maxHeartbeats 8000000 in
set_option maxRecDepth 100000 in
theorem impl_MustBuy.calls (k : Nat) (A0_0 : Option Addr) (c0_0 : Nat) (l0_0 : List Int) (A1 : Option Addr) (c1 : Nat) (l1 : List (S56)) (A2 : Option Addr) (c2 : Nat) (l2 : List Int) (r : List Int) (w : World) (hr0_0 : Kd.C (Kd.int .i64) w A0_0 l0_0.length l0_0) (hc0_0 : l0_0.length ≤ c0_0) (hr1 : Kd.C k56 w A1 l1.length l1) (hc1 : l1.length ≤ c1) (hr2 : Kd.C (Kd.int .i64) w A2 l2.length l2) (hc2 : l2.length ≤ c2) (h : impl_MustBuy.f k l0_0 l1 l2 = some r) :
  Calls Try.prog 47 #[.agg #[.slice A0_0 l0_0.length c0_0], .slice A1 l1.length c1, .slice A2 l2.length c2] w fun e w' => ∃ v0_ : Value, e = .returned (v0_) ∧ Kd.R (Kd.int .i64) 3 w' w.heap.size (fun _ => True) v0_ r ∧ Below w.heap.size w w' := by
 have hu54 := Try.underlying54
 have hu56 := Try.underlying56
 have HR0_0 := Aside0.mk hr0_0
 have HC0_0 := Aside0.mk hc0_0
 clear hr0_0 hc0_0
 have HR1 := Aside0.mk hr1
 have HC1 := Aside0.mk hc1
 clear hr1 hc1
 have HR2 := Aside0.mk hr2
 have HC2 := Aside0.mk hc2
 clear hr2 hc2
 have HB := Aside0.mk (Below.refl w.heap.size w)
 have H : ((impl_StoreOk.f l0_0).bind fun t587 => (if t587 = true then (if (l1.length : Int) > 10 then (impl_MustBuy.j0 k l1 l2 true l0_0) else (impl_MustBuy.j0 k l1 l2 ((l2.length : Int) != (l1.length : Int)) l0_0)) else (impl_MustBuy.j0 k l1 l2 true l0_0))) = some r := h
 clear h
 have HC4 := Aside0.mk H
 clear H
 go_enter Try.func47, Try.ntmps47
 go_upto_region 1 with (first | ((with_reducible refine gate_dst (N := 3) rfl ?_); (try (refine gate_guard (by rfl) ?_; dsimp only)); refine box_event ?hg (N := 3) ?hd (cs := #[.slice A0_0 l0_0.length c0_0]) (t := 54) ?hr ?_; (case hd => rfl); (case hg => rfl); (case hr => first | (go_simp; done) | (go_simp; rfl)); intro gb586 hg w5 hbox hb; have BK586 := Aside0.mk (hbox); have GW586 := sQ hg HB; have GE586 := sQ hg HB; replace HB := hbs HB hb; clear hb hbox hg))
 (try simp only [Act.put, List.setIfInBounds_toArray, List.set_cons_zero, List.set_cons_succ])
 go_cut [29] (fun v29 wc => ∃ (kq : Nat) (x29_3 : Bool), v29 = .bool x29_3 ∧ Aside0 (impl_MustBuy.j0 kq l1 l2 x29_3 l0_0 = some r) ∧ Aside0 (kq ≤ k) ∧ Aside0 (wc.heap[gb586]? = some (.cells #[(.slice A0_0 l0_0.length c0_0)] 54 (0, 0))) ∧ Aside0 (Below w.heap.size w wc))
 case first =>
  have H := HC4.out
  clear HC4
  replace H := Option.bind_eq_some_iff.mp H
  obtain ⟨t587, A60, H⟩ := H
  replace H : (if t587 = true then (if (l1.length : Int) > 10 then (impl_MustBuy.j0 k l1 l2 true l0_0) else (impl_MustBuy.j0 k l1 l2 ((l2.length : Int) != (l1.length : Int)) l0_0)) else (impl_MustBuy.j0 k l1 l2 true l0_0)) = some r := H
  have A6 := Aside0.mk A60
  clear A60
  by_cases c7 : t587 = true
  ·
   subst c7
   have H1 : (if (l1.length : Int) > 10 then (impl_MustBuy.j0 k l1 l2 true l0_0) else (impl_MustBuy.j0 k l1 l2 ((l2.length : Int) != (l1.length : Int)) l0_0)) = some r := by rw [if_pos rfl] at H; exact H
   clear H
   have H := H1
   clear H1
   by_cases c8 : (l1.length : Int) > 10
   ·
    rw [if_pos c8] at H
    have c8b0 : decide (10 < (l1.length : Int)) = true := decide_eq_true c8
    have c8b1 : decide (10 < l1.length) = true := decide_eq_true (by omega)
    clear c8
    (first | rw [c8b0] | (simp only [i64_w, i32_w]; rw [c8b0]) | skip)
    have H' := Aside0.mk H
    clear H
    have hcz9_0 : w5.cell? ⟨gb586, 0, none⟩ = some (.slice A0_0 l0_0.length c0_0) := (blk_cell BK586.out 0).trans rfl
    have hfz9_0 := blk_frozen BK586.out 0
    go_wp2_with (first | ((with_reducible refine gate_callee (f := 44) rfl ?_); refine gLq (some 16) Try.func44 #[.agg #[.slice A0_0 l0_0.length c0_0]] ?_; (with_reducible refine (impl_StoreOk.calls _ _ l0_0 true _ ?side1 ?side2 A6.out).mono ?_); (case side1 => exact Kd.Cq (Kd.C_below HR0_0.out HB.out)); (case side2 => exact HC0_0.out); rintro e w10 ⟨rfl, hb⟩; refine ⟨_, rfl, ?_⟩; replace BK586 := bkb BK586 hb; replace HB := hbs HB hb; (try clear hb); (try clear hb2); (try clear hk); (try clear hi)))
    go_meet
    case rel => exact ⟨_, (true), (by first | rfl | (simp; done) | (simp [*]; done)), H', ⟨by first | omega | exact Nat.le_refl _⟩, ⟨bkq BK586.out⟩, ⟨blq HB.out⟩⟩
   ·
    rw [if_neg c8] at H
    have c8b0 : decide (10 < (l1.length : Int)) = false := decide_eq_false c8
    have c8b1 : decide (10 < l1.length) = false := decide_eq_false (by omega)
    clear c8
    (first | rw [c8b0] | (simp only [i64_w, i32_w]; rw [c8b0]) | skip)
    have H' := Aside0.mk H
    clear H
    have hcz11_0 : w5.cell? ⟨gb586, 0, none⟩ = some (.slice A0_0 l0_0.length c0_0) := (blk_cell BK586.out 0).trans rfl
    have hfz11_0 := blk_frozen BK586.out 0
    go_wp2_with (first | ((with_reducible refine gate_callee (f := 44) rfl ?_); refine gLq (some 16) Try.func44 #[.agg #[.slice A0_0 l0_0.length c0_0]] ?_; (with_reducible refine (impl_StoreOk.calls _ _ l0_0 true _ ?side1 ?side2 A6.out).mono ?_); (case side1 => exact Kd.Cq (Kd.C_below HR0_0.out HB.out)); (case side2 => exact HC0_0.out); rintro e w12 ⟨rfl, hb⟩; refine ⟨_, rfl, ?_⟩; replace BK586 := bkb BK586 hb; replace HB := hbs HB hb; (try clear hb); (try clear hb2); (try clear hk); (try clear hi)))
    go_meet
    case rel => exact ⟨_, (((l2.length : Int) != (l1.length : Int))), (by first | rfl | (simp; done) | (simp [*]; done)), H', ⟨by first | omega | exact Nat.le_refl _⟩, ⟨bkq BK586.out⟩, ⟨blq HB.out⟩⟩
  ·
   replace c7 := Bool.eq_false_iff.mpr c7
   subst c7
   have H1 : (impl_MustBuy.j0 k l1 l2 true l0_0) = some r := by rw [if_neg (show ¬ (false = true) by decide)] at H; exact H
   clear H
   have H := H1
   clear H1
   have H' := Aside0.mk H
   clear H
   have hcz13_0 : w5.cell? ⟨gb586, 0, none⟩ = some (.slice A0_0 l0_0.length c0_0) := (blk_cell BK586.out 0).trans rfl
   have hfz13_0 := blk_frozen BK586.out 0
   go_wp2_with (first | ((with_reducible refine gate_callee (f := 44) rfl ?_); refine gLq (some 16) Try.func44 #[.agg #[.slice A0_0 l0_0.length c0_0]] ?_; (with_reducible refine (impl_StoreOk.calls _ _ l0_0 false _ ?side1 ?side2 A6.out).mono ?_); (case side1 => exact Kd.Cq (Kd.C_below HR0_0.out HB.out)); (case side2 => exact HC0_0.out); rintro e w14 ⟨rfl, hb⟩; refine ⟨_, rfl, ?_⟩; replace BK586 := bkb BK586 hb; replace HB := hbs HB hb; (try clear hb); (try clear hb2); (try clear hk); (try clear hi)))
   go_meet
   case rel => exact ⟨_, (true), (by first | rfl | (simp; done) | (simp [*]; done)), H', ⟨by first | omega | exact Nat.le_refl _⟩, ⟨bkq BK586.out⟩, ⟨blq HB.out⟩⟩
 case rest =>
  clear HC4
  try clear c1
  try clear c2
  try clear p2
  try clear c4
  try clear c7
  try clear c8
  try clear c8b0
  try clear c8b1
  try clear hcz11_0
  try clear hcz13_0
  try clear hcz9_0
  try clear hfz11_0
  try clear hfz13_0
  try clear hfz9_0
  obtain ⟨kq, x29_3, rfl, HA, HJ3, BK586, HB⟩ := hcut
  cases kq with
  | zero => exact absurd HA.out (by simp [impl_MustBuy.j0])
  | succ kj3 =>
   have H := HA.out
   clear HA
   simp only [impl_MustBuy.j0] at H
   by_cases c15 : x29_3 = true
   ·
    subst c15
    have H1 : (some ([] : List Int)) = some r := by rw [if_pos rfl] at H; exact H
    clear H
    have H := H1
    clear H1
    obtain rfl := Option.some.inj H
    go_wp2
    go_ret
    exact ⟨_, by first | rfl | (simp [errW_none, errW_some] <;> rfl) | (simp [*, errW_none, errW_some] <;> rfl), by first | exact Kd.R_nil _ _ _ _ _ | exact Kd.N_nil _ _ _ _ _ | exact Kd.V_nil _ _ _ _ _ | exact Kd.Q_nil _ _ _ _ _ | exact Kd.S_nil _ _ _ _ _, blq HB.out⟩
   ·
    replace c15 := Bool.eq_false_iff.mpr c15
    subst c15
    have H1 : (if 4 ≤ 35184372088832 then (impl_MustBuy.l0 kj3 l2 (List.replicate 4 0) l1 (l1.length : Int) 0 l0_0) else (none)) = some r := by rw [if_neg (show ¬ (false = true) by decide)] at H; exact H
    clear H
    have H := H1
    clear H1
    by_cases c16 : 4 ≤ 35184372088832
    ·
     rw [if_pos c16] at H
     have c16b0 := eq_true c16
     have c16b1 : decide (4 ≤ 35184372088832) = true := decide_eq_true c16
     clear c16
     obtain ⟨y588, hy588⟩ : ∃ y_ : List Int, y_ = (List.replicate 4 0) := ⟨_, rfl⟩
     replace H : (impl_MustBuy.l0 kj3 l2 y588 l1 (l1.length : Int) 0 l0_0) = some r := by first | (rw [hy588]; with_reducible exact H) | (have H2_ := (Option.bind_some _ _).symm.trans H; rw [hy588]; with_reducible exact H2_) | (have H2_ := (Option.bind_some _ _).symm.trans H; with_reducible exact H2_) | with_reducible exact H | (rw [hy588]; exact H) | exact H
     have Ny588 := Aside0.mk hy588
     clear hy588
     have H' := Aside0.mk H
     clear H
     go_wp2_with (first | ((with_reducible refine gate_dst (N := 30) rfl ?_); (try (refine gate_guard (by rfl) ?_; dsimp only)); refine Kd.R_make (Kd.int .i64) _ 3 rfl (N := 30) rfl 27 _ _ rfl 4 rfl rfl Try.underlying27 (.int .i64 0) 8 info3 rfl (by decide) (by omega) 0 (ok := fun _ => True) (okp := fun _ => True) rfl (fun _ hk => hk) trivial (by omega) (by omega) (Below.refl _ _) (Nat.le_refl _) ?_; intro v589 w17 ho18 hb hg_ hnew_; clear hg_ hnew_; (first | rw [← Ny588.out] at ho18 | (simp only [Int.reduceToNat] at ho18; rw [← Ny588.out] at ho18)); have HO590 := Aside0.mk (Kd.R_lower ho18 (below_size (blq HB.out))); replace BK586 := bkb BK586 hb; replace HB := hbs HB hb; clear hb ho18))
     go_loopg [33] kj3 (fun kq v33 w' => ∃ (x7_2 : List Int) (x33_2 : Int), v33 = .int .i64 x33_2 ∧ Aside0 (impl_MustBuy.l0 kq l2 x7_2 l1 (l1.length : Int) x33_2 l0_0 = some r) ∧ Aside0 (kq ≤ kj3) ∧ Aside0 (Kd.R (Kd.int .i64) 3 w' w.heap.size (fun _ => True) v589 x7_2) ∧ Aside0 (w'.heap[gb586]? = some (.cells #[(.slice A0_0 l0_0.length c0_0)] 54 (0, 0))) ∧ Aside0 (Below w.heap.size w w'))
     case atStart => exact ⟨(y588), (0), (by first | rfl | (simp; done) | (simp [*]; done)), H', ⟨Nat.le_refl _⟩, ⟨Kd.Rq HO590.out⟩, ⟨bkq BK586.out⟩, ⟨blq HB.out⟩⟩
     case round =>
      clear H'
      try clear c1
      try clear c2
      try clear p2
      try clear c4
      try clear c7
      try clear c8
      try clear c8b0
      try clear c8b1
      try clear c15
      try clear c16
      try clear c16b0
      try clear c16b1
      try clear hcz11_0
      try clear hcz13_0
      try clear hcz9_0
      try clear hfz11_0
      try clear hfz13_0
      try clear hfz9_0
      try clear p2
      obtain ⟨x7_2, x33_2, rfl, HA, HK2, HO_7, BK586, HB⟩ := hrel
      cases gk with
      | zero => exact absurd HA.out (by simp [impl_MustBuy.l0])
      | succ k2 =>
       have H := HA.out
       clear HA
       simp only [impl_MustBuy.l0] at H
       by_cases c19 : x33_2 < (l1.length : Int)
       ·
        rw [if_pos c19] at H
        have c19b0 : decide (x33_2 < (l1.length : Int)) = true := decide_eq_true c19
        clear c19
        by_cases c20 : 0 ≤ x33_2
        ·
         rw [if_pos c20] at H
         have c20b0 : decide (0 ≤ x33_2) = true := decide_eq_true c20
         clear c20
         by_cases c21 : x33_2 < (l1.length : Int)
         ·
          rw [if_pos c21] at H
          have c21b0 : decide (x33_2 < (l1.length : Int)) = true := decide_eq_true c21
          clear c21
          by_cases c22 : x33_2 < (l2.length : Int)
          ·
           rw [if_pos c22] at H
           have c22b0 : decide (x33_2 < (l2.length : Int)) = true := decide_eq_true c22
           clear c22
           replace H := Option.bind_eq_some_iff.mp H
           obtain ⟨t594, A230, H⟩ := H
           replace H : (if (nilB t594) = true then (some ([] : List Int)) else (impl_MustBuy.l1 k2 l2 x7_2 l1 (l1.length : Int) x33_2 t594 (t594.length : Int) 0 l0_0)) = some r := H
           have A23 := Aside0.mk A230
           clear A230
           have HF24 := Aside0.mk H
           clear H
           have p591 : 0 ≤ (x33_2 : Int) := of_decide_eq_true (by first | (with_reducible assumption) | assumption)
           have q591 : x33_2 < (l1.length : Int) := of_decide_eq_true (by first | (with_reducible assumption) | assumption)
           obtain ⟨ad591, e591, hx591_0, hx591_1, hx591_2⟩ := at_T56 HR1.out x33_2 p591 q591
           cases e591
           replace hx591_0 := (HB.out.cell (World.block_lt_of_cell? w _ hx591_0)).trans hx591_0
           replace hx591_1 := (HB.out.cell (World.block_lt_of_cell? w _ hx591_1)).trans hx591_1
           replace hx591_2 := (HB.out.cell (World.block_lt_of_cell? w _ hx591_2)).trans hx591_2
           replace p591 := eq_true p591
           replace q591 := eq_true q591
           try go_wp2_with (first | ((with_reducible refine gate_dst (N := 9) rfl ?_); (try (refine gate_guard (by rfl) ?_; dsimp only)); refine box_event ?hg (N := 9) ?hd (cs := #[.int .i64 0, .int .i64 0, .int .i64 0]) (t := 56) ?hr ?_; (case hd => rfl); (case hg => rfl); (case hr => first | (go_simp; done) | (go_simp; rfl)); intro gb592 hg w25 hbox hb; have BK592 := Aside0.mk (hbox); have GW592 := sQ hg HB; have GE592 := sQ hg HB; have NB586_592 := qL hg BK586; have NB592_586 := qG hg BK586; replace HO_7 := rob HO_7 hb; replace BK586 := bkb BK586 hb; replace HB := hbs HB hb; clear hb hbox hg; have hnb26 := NB592_586.out; have hnc26 := NB586_592.out; obtain ⟨hcz27_0, hcz27_1, hcz27_2, hfz27_0, hfz27_1, hfz27_2⟩ := bq3 BK592.out))
           have n0_ : Aside0 (Kd.R (Kd.int .i64) 3 (((w25.setCell ⟨gb592, 0, none⟩ (.int .i64 ((rd_T56 l1 x33_2).f0))).setCell ⟨gb592, 1, none⟩ (.int .i64 ((rd_T56 l1 x33_2).f1))).setCell ⟨gb592, 2, none⟩ (.int .i64 ((rd_T56 l1 x33_2).f2))) w.heap.size (fun _ => True) v589 x7_2) := ⟨Kd.Rq (Kd.R_mono (Kd.R_far (p := ⟨gb592, 2, none⟩) (Kd.R_far (p := ⟨gb592, 1, none⟩) (Kd.R_far (p := ⟨gb592, 0, none⟩) (Kd.R_types HO_7.out BK592.out (by decide)) (fun _ hk => hk.2) (.int .i64 ((rd_T56 l1 x33_2).f0))) (fun _ hk => hk.2) (.int .i64 ((rd_T56 l1 x33_2).f1))) (fun _ hk => hk.2) (.int .i64 ((rd_T56 l1 x33_2).f2))) (fun _ hk => trivial))⟩
           have n1_ : Aside0 ((((w25.setCell ⟨gb592, 0, none⟩ (.int .i64 ((rd_T56 l1 x33_2).f0))).setCell ⟨gb592, 1, none⟩ (.int .i64 ((rd_T56 l1 x33_2).f1))).setCell ⟨gb592, 2, none⟩ (.int .i64 ((rd_T56 l1 x33_2).f2))).heap[gb586]? = some (.cells #[.slice A0_0 l0_0.length c0_0] 54 (0, 0))) := ⟨by (with_reducible repeat (first | refine blk_drewN ?_ _ | refine blk_drew ?_ | refine blk_alloc ?_ _)); refine blk_far ?_ NB586_592.out _; (with_reducible repeat (first | refine blk_drewN ?_ _ | refine blk_drew ?_ | refine blk_alloc ?_ _)); refine blk_far ?_ NB586_592.out _; (with_reducible repeat (first | refine blk_drewN ?_ _ | refine blk_drew ?_ | refine blk_alloc ?_ _)); refine blk_far ?_ NB586_592.out _; (with_reducible repeat (first | refine blk_drewN ?_ _ | refine blk_drew ?_ | refine blk_alloc ?_ _)); exact BK586.out⟩
           have n2_ : Aside0 ((((w25.setCell ⟨gb592, 0, none⟩ (.int .i64 ((rd_T56 l1 x33_2).f0))).setCell ⟨gb592, 1, none⟩ (.int .i64 ((rd_T56 l1 x33_2).f1))).setCell ⟨gb592, 2, none⟩ (.int .i64 ((rd_T56 l1 x33_2).f2))).heap[gb592]? = some (.cells #[.int .i64 ((rd_T56 l1 x33_2).f0), .int .i64 ((rd_T56 l1 x33_2).f1), .int .i64 ((rd_T56 l1 x33_2).f2)] 56 (0, 0))) := ⟨by (with_reducible repeat (first | refine blk_drewN ?_ _ | refine blk_drew ?_ | refine blk_alloc ?_ _)); refine blk_put (cs := #[.int .i64 ((rd_T56 l1 x33_2).f0), .int .i64 ((rd_T56 l1 x33_2).f1), .int .i64 0]) ?_ 2 _ rfl; (with_reducible repeat (first | refine blk_drewN ?_ _ | refine blk_drew ?_ | refine blk_alloc ?_ _)); refine blk_put (cs := #[.int .i64 ((rd_T56 l1 x33_2).f0), .int .i64 0, .int .i64 0]) ?_ 1 _ rfl; (with_reducible repeat (first | refine blk_drewN ?_ _ | refine blk_drew ?_ | refine blk_alloc ?_ _)); refine blk_put (cs := #[.int .i64 0, .int .i64 0, .int .i64 0]) ?_ 0 _ rfl; (with_reducible repeat (first | refine blk_drewN ?_ _ | refine blk_drew ?_ | refine blk_alloc ?_ _)); exact BK592.out⟩
           have n3_ : Aside0 (Below w.heap.size w (((w25.setCell ⟨gb592, 0, none⟩ (.int .i64 ((rd_T56 l1 x33_2).f0))).setCell ⟨gb592, 1, none⟩ (.int .i64 ((rd_T56 l1 x33_2).f1))).setCell ⟨gb592, 2, none⟩ (.int .i64 ((rd_T56 l1 x33_2).f2)))) := ⟨blq HB.out⟩
           (try clear HO_7)
           (try clear BK586)
           (try clear BK592)
           (try clear HB)
           generalize (((w25.setCell ⟨gb592, 0, none⟩ (.int .i64 ((rd_T56 l1 x33_2).f0))).setCell ⟨gb592, 1, none⟩ (.int .i64 ((rd_T56 l1 x33_2).f1))).setCell ⟨gb592, 2, none⟩ (.int .i64 ((rd_T56 l1 x33_2).f2))) = w28 at n0_ n1_ n2_ n3_ ⊢
           have HO_7 := n0_
           have BK586 := n1_
           have BK592 := n2_
           have HB := n3_
           clear n0_ n1_ n2_ n3_
           replace HO_7 := Aside0.mk (Kd.R_drew HO_7.out)
           replace BK586 := Aside0.mk (blk_drew BK586.out)
           replace BK592 := Aside0.mk (blk_drew BK592.out)
           replace HB := Aside0.mk (below_drew1 HB.out)
           have p593 : 0 ≤ (x33_2 : Int) := of_decide_eq_true (by first | (with_reducible assumption) | assumption)
           have q593 : x33_2 < (l2.length : Int) := of_decide_eq_true (by first | (with_reducible assumption) | assumption)
           obtain ⟨ad593, e593, hx593_0⟩ := Kd.at_int HR2.out x33_2 p593 q593
           have hw593_0 := hx593_0
           cases e593
           replace hx593_0 := (HB.out.cell (World.block_lt_of_cell? w _ hx593_0)).trans hx593_0
           replace p593 := eq_true p593
           replace q593 := eq_true q593
           refine start_ (n := 7) (S := fun w' => w'.cell? ⟨gb592, 0, none⟩ = some (.int .i64 ((rd_T56 l1 x33_2).f0)) ∧ w'.cell? ⟨gb592, 1, none⟩ = some (.int .i64 ((rd_T56 l1 x33_2).f1)) ∧ w'.cell? ⟨gb592, 2, none⟩ = some (.int .i64 ((rd_T56 l1 x33_2).f2)) ∧ w'.cell? (ad593.add (x33_2).toNat) = some (.int .i64 (rd l2 x33_2))) (ds := []) #[false, false, false, false, false, false, false] (by kernel_rfl) rfl rfl ⟨(blk_cell BK592.out 0).trans rfl, (blk_cell BK592.out 1).trans rfl, (blk_cell BK592.out 2).trans rfl, ((HB.out.cell (World.block_lt_of_cell? w _ hw593_0)).trans hw593_0)⟩ (fun hHeld => ?_)
           generalize w28.drew = w29 at HO_7 BK586 BK592 HB hx593_0 hHeld ⊢
           refine pure_ (i := 1) (N := some 39) (v := ?_) (a' := ?_) #[false, true, false, false, false, false, false] rfl rfl (by kernel_rfl) (fun _ _ _ h => h) (Or.inl ⟨by rfl, ?_⟩) ?_ ?_
           rotate_left
           ·
            intro w'
            go_simp
            with_reducible rfl
           rotate_left
           ·
            simp only [Act.put, List.setIfInBounds_toArray, List.set_cons_zero, List.set_cons_succ, i64_w, i32_w]
            rfl
           refine pure_ (i := 2) (N := some 40) (v := ?_) (a' := ?_) #[false, true, true, false, false, false, false] rfl rfl (by kernel_rfl) (fun _ _ _ h => h) (Or.inl ⟨by rfl, ?_⟩) ?_ ?_
           rotate_left
           ·
            intro w'
            go_simp
            with_reducible rfl
           rotate_left
           ·
            simp only [Act.put, List.setIfInBounds_toArray, List.set_cons_zero, List.set_cons_succ, i64_w, i32_w]
            rfl
           refine pure_ (i := 3) (N := some 41) (v := ?_) (a' := ?_) #[false, true, true, true, false, false, false] rfl rfl (by kernel_rfl) (fun _ _ _ h => h) (Or.inl ⟨by rfl, ?_⟩) ?_ ?_
           rotate_left
           ·
            intro w'
            go_simp
            with_reducible rfl
           rotate_left
           ·
            simp only [Act.put, List.setIfInBounds_toArray, List.set_cons_zero, List.set_cons_succ, i64_w, i32_w]
            rfl
           refine take_ (i := 0) (N := some 38) (v := ?_) (a' := ?_) #[true, true, true, true, false, false, false] rfl rfl (by kernel_rfl) (fun _ _ _ h => h) (Or.inl ⟨by rfl, ?_⟩) hHeld ?_ ?_
           rotate_left
           ·
            rintro w' ⟨s0, s1, s2, s3⟩
            go_simp
            with_reducible rfl
           rotate_left
           ·
            simp only [Act.put, List.setIfInBounds_toArray, List.set_cons_zero, List.set_cons_succ, i64_w, i32_w]
            rfl
           refine take_ (i := 4) (N := some 42) (v := ?_) (a' := ?_) #[true, true, true, true, true, false, false] rfl rfl (by kernel_rfl) (fun _ _ _ h => h) (Or.inl ⟨by rfl, ?_⟩) hHeld ?_ ?_
           rotate_left
           ·
            rintro w' ⟨s0, s1, s2, s3⟩
            go_simp
            with_reducible rfl
           rotate_left
           ·
            simp only [Act.put, List.setIfInBounds_toArray, List.set_cons_zero, List.set_cons_succ, i64_w, i32_w]
            rfl
           refine one_ (i := 5) (N := some 43) #[true, true, true, true, true, true, false] rfl rfl (by kernel_rfl) (by decide) (fun K hK => ?_)
           refine goes_ Try.func97 (by kernel_rfl) rfl #[.agg #[.int .i64 ((rd_T56 l1 x33_2).f0), .int .i64 ((rd_T56 l1 x33_2).f1), .int .i64 ((rd_T56 l1 x33_2).f2)], .int .i64 (rd l2 x33_2)] (by rfl) rfl rfl (by (try simp only [List.map_toArray, List.map_cons, List.map_nil]); first | done | rfl | (simp only [List.length_drop, List.length_take]; rfl)) ?_
           with_reducible refine (impl_Amounts.calls k2 ((rd_T56 l1 x33_2).f0) ((rd_T56 l1 x33_2).f1) ((rd_T56 l1 x33_2).f2) (rd l2 x33_2) t594 _ A23.out).mono ?_
           rintro e w30 ⟨v595, rfl, ho0, hb⟩
           have hnq1 := fun W => ho0.2.2 _ _ W Try.underlying27
           have hng1 := fun o1 o2 => ho0.2.1 27 o1 o2
           have hnl_ := ho0.2
           replace ho0 := ho0.1
           refine ⟨_, rfl, ?_⟩
           have HO596 := Aside0.mk (Kd.R_lower (Kd.R_new' ho0 (Kd.R_lt (Kd.Rq HO_7.out))) (below_size (blq HB.out)))
           replace HO_7 := Aside0.mk (Kd.R_elder' (Kd.Rq HO_7.out) (Kd.R_base ho0) hb)
           replace BK586 := bkb BK586 hb
           replace BK592 := bkb BK592 hb
           replace HB := hbs HB hb
           (try clear hb)
           (try clear hb2)
           (try clear hk)
           (try clear hi)
           (try clear ho0)
           refine hK.out _ _ ⟨(blk_cell BK592.out 0).trans rfl, (blk_cell BK592.out 1).trans rfl, (blk_cell BK592.out 2).trans rfl, ((HB.out.cell (World.block_lt_of_cell? w _ hw593_0)).trans hw593_0)⟩ (fun hHeld => ?_)
           clear hK K
           refine norm_ (a' := ?_) ?_ ?_
           rotate_left
           ·
            show Act.put _ (some 43) _ = _
            simp only [Act.put, List.setIfInBounds_toArray, List.set_cons_zero, List.set_cons_succ, i64_w, i32_w]
            rfl
           refine pure_ (i := 6) (N := some 10) (v := ?_) (a' := ?_) #[true, true, true, true, true, true, true] rfl rfl (by kernel_rfl) (fun _ _ _ h => h) (Or.inl ⟨by rfl, ?_⟩) ?_ ?_
           rotate_left
           ·
            intro w'
            go_simp
            with_reducible rfl
           rotate_left
           ·
            simp only [Act.put, List.setIfInBounds_toArray, List.set_cons_zero, List.set_cons_succ, i64_w, i32_w]
            rfl
           refine done_ (by kernel_rfl) ?_
           go_upto_if 45 with (fail)
           have H := HF24.out
           clear HF24
           by_cases c31 : (nilB t594) = true
           ·
            rw [if_pos c31] at H
            have c31b0 : (nilB t594) = true := c31
            clear c31
            (first | rw [c31b0] | (simp only [i64_w, i32_w]; rw [c31b0]) | skip)
            obtain rfl := Option.some.inj H
            go_wp2
            go_ret
            exact ⟨_, by first | rfl | (simp [errW_none, errW_some] <;> rfl) | (simp [*, errW_none, errW_some] <;> rfl), by first | exact Kd.R_nil _ _ _ _ _ | exact Kd.N_nil _ _ _ _ _ | exact Kd.V_nil _ _ _ _ _ | exact Kd.Q_nil _ _ _ _ _ | exact Kd.S_nil _ _ _ _ _, blq HB.out⟩
           ·
            rw [if_neg c31] at H
            have c31b0 : (nilB t594) = false := by simpa using c31
            clear c31
            (first | rw [c31b0] | (simp only [i64_w, i32_w]; rw [c31b0]) | skip)
            have H' := Aside0.mk H
            clear H
            obtain ⟨Ao32, co32, eo32⟩ := Kd.R_slice HO596.out
            subst eo32
            go_wp2
            go_loopg [48] k2 (fun kq v48 w' => ∃ (x7_3 : List Int) (x48_3 : Int), v48 = .int .i64 x48_3 ∧ Aside0 (impl_MustBuy.l1 kq l2 x7_3 l1 (l1.length : Int) x33_2 t594 (t594.length : Int) x48_3 l0_0 = some r) ∧ Aside0 (kq ≤ k2) ∧ Aside0 (Kd.R (Kd.int .i64) 3 w' w.heap.size (fun k_ => some k_ ≠ ((.slice Ao32 t594.length co32) : Value).ownBlock) v589 x7_3) ∧ Aside0 (Kd.R (Kd.int .i64) 3 w' w.heap.size (fun k_ => some k_ ≠ (v589 : Value).ownBlock) (.slice Ao32 t594.length co32) t594) ∧ Aside0 (w'.heap[gb586]? = some (.cells #[(.slice A0_0 l0_0.length c0_0)] 54 (0, 0))) ∧ Aside0 (w'.heap[gb592]? = some (.cells #[.int .i64 ((rd_T56 l1 x33_2).f0), .int .i64 ((rd_T56 l1 x33_2).f1), .int .i64 ((rd_T56 l1 x33_2).f2)] 56 (0, 0))) ∧ Aside0 (Below w.heap.size w w'))
            case atStart => exact ⟨(x7_2), (0), (by first | rfl | (simp; done) | (simp [*]; done)), H', ⟨Nat.le_refl _⟩, ⟨Kd.Rq (Kd.R_mono HO_7.out (fun _ hk => hk.2))⟩, ⟨Kd.Rq (Kd.R_mono HO596.out (fun _ hk => hk.2))⟩, ⟨bkq BK586.out⟩, ⟨bkq BK592.out⟩, ⟨blq HB.out⟩⟩
            case round =>
             clear H'
             try clear c1
             try clear c2
             try clear p2
             try clear c3
             try clear c4
             try clear p5
             try clear q5
             try clear hx5
             try clear c7
             try clear c8
             try clear c8b0
             try clear c8b1
             try clear c9
             try clear c15
             try clear c16
             try clear c16b0
             try clear c16b1
             try clear c19
             try clear c19b0
             try clear c20
             try clear c20b0
             try clear c21
             try clear c21b0
             try clear c22
             try clear c22b0
             try clear c26
             try clear c31
             try clear c31b0
             try clear hcz11_0
             try clear hcz13_0
             try clear hcz27_0
             try clear hcz27_1
             try clear hcz27_2
             try clear hcz9_0
             try clear hfz11_0
             try clear hfz13_0
             try clear hfz27_0
             try clear hfz27_1
             try clear hfz27_2
             try clear hfz9_0
             try clear hx591_0
             try clear hx591_1
             try clear hx591_2
             try clear hx593_0
             try clear p2
             try clear p591
             try clear p593
             try clear q591
             try clear q593
             obtain ⟨x7_3, x48_3, rfl, HA, HK3, HO_7, HO_46, BK586, BK592, HB⟩ := hrel
             cases gk with
             | zero => exact absurd HA.out (by simp [impl_MustBuy.l1])
             | succ k3 =>
              have H := HA.out
              clear HA
              simp only [impl_MustBuy.l1] at H
              by_cases c33 : x48_3 < (t594.length : Int)
              ·
               rw [if_pos c33] at H
               have c33b0 : decide (x48_3 < (t594.length : Int)) = true := decide_eq_true c33
               clear c33
               by_cases c34 : 0 ≤ x48_3
               ·
                rw [if_pos c34] at H
                have c34b0 : decide (0 ≤ x48_3) = true := decide_eq_true c34
                clear c34
                by_cases c35 : x48_3 < (t594.length : Int)
                ·
                 rw [if_pos c35] at H
                 have c35b0 : decide (x48_3 < (t594.length : Int)) = true := decide_eq_true c35
                 clear c35
                 by_cases c36 : x48_3 < (x7_3.length : Int)
                 ·
                  rw [if_pos c36] at H
                  have c36b0 : decide (x48_3 < (x7_3.length : Int)) = true := decide_eq_true c36
                  clear c36
                  obtain ⟨y599, hy599⟩ : ∃ y_ : List Int, y_ = (x7_3.set (x48_3 : Int).toNat (wrap64 ((rd x7_3 x48_3) + (rd t594 x48_3)))) := ⟨_, rfl⟩
                  replace H : (impl_MustBuy.l1 k3 l2 y599 l1 (l1.length : Int) x33_2 t594 (t594.length : Int) (wrap64 (x48_3 + 1)) l0_0) = some r := by first | (rw [hy599]; with_reducible exact H) | (have H2_ := (Option.bind_some _ _).symm.trans H; rw [hy599]; with_reducible exact H2_) | (have H2_ := (Option.bind_some _ _).symm.trans H; with_reducible exact H2_) | with_reducible exact H | (rw [hy599]; exact H) | exact H
                  have Ny599 := Aside0.mk hy599
                  clear hy599
                  have H' := Aside0.mk H
                  clear H
                  have p597 : 0 ≤ (x48_3 : Int) := of_decide_eq_true (by first | (with_reducible assumption) | assumption)
                  have q597 : x48_3 < (t594.length : Int) := of_decide_eq_true (by first | (with_reducible assumption) | assumption)
                  obtain ⟨ad597, e597, hx597_0⟩ := Kd.at_int (Kd.R_reads' HO_46.out).2.2 x48_3 p597 q597
                  cases e597
                  replace p597 := eq_true p597
                  replace q597 := eq_true q597
                  obtain ⟨Ao38, co38, eo38⟩ := Kd.R_slice HO_7.out
                  subst eo38
                  have p598 : 0 ≤ (x48_3 : Int) := of_decide_eq_true (by first | (with_reducible assumption) | assumption)
                  have q598 : x48_3 < (x7_3.length : Int) := of_decide_eq_true (by first | (with_reducible assumption) | assumption)
                  obtain ⟨ad598, e598, hx598_0⟩ := Kd.at_int (Kd.R_reads' HO_7.out).2.2 x48_3 p598 q598
                  cases e598
                  replace p598 := eq_true p598
                  replace q598 := eq_true q598
                  have p37 : 0 ≤ (x48_3 : Int) := of_decide_eq_true (by first | (with_reducible assumption) | assumption)
                  have q37 : (x48_3 : Int) < ((x7_3.length : Int) : Int) := of_decide_eq_true (by first | (with_reducible assumption) | assumption)
                  obtain ⟨go37, co37, eo37, gb37, gl37, cl37, HG37⟩ := Kd.R_form HO_7.out (by omega)
                  (first | cases eo37 | (injection eo37 with ea_ en_ ec_; (first | subst ea_ | (injection ea_ with ea_; subst ea_)); subst ec_; clear en_))
                  have GB37 := Aside0.mk gb37
                  have GG37 := Aside0.mk HG37
                  clear gb37 gl37 HG37
                  (first | simp only [add_plain] at hx598_0 | skip)
                  obtain ⟨hx37_0, hf37_0⟩ := Kd.R_celln 0 HO_7.out (x48_3 : Int) p37 q37
                  replace p37 := eq_true p37
                  replace q37 := eq_true q37
                  have HP39 := Kd.R_putg HO_7.out (x48_3 : Int) (wrap64 ((rd x7_3 x48_3) + (rd t594 x48_3)))
                  go_wp2_with (first | ((with_reducible refine gate_store (t := 3) (p := 59) rfl ?_); refine store_event (t := 3) (p := 59) (v := ?vo_w40) (w1 := (wr.setCell ⟨go37, (x48_3 : Int).toNat, none⟩ (.int .i64 (wrap64 ((rd x7_3 x48_3) + (rd t594 x48_3)))))) ?hg ?ho ?hn ?hr ?_; (case ho => rfl); (case hg => rfl); (case hn => rfl); (case hr => first | (go_simp; done) | (go_simp; rfl)); intro w40 hw; have hg : wr.grownBy w40 (some go37) := (by rw [hw]; exact HP39.2); have hp_ : Kd.R (Kd.int .i64) 3 w40 w.heap.size (fun k_ => some k_ ≠ (.slice (some ad597) t594.length co32 : Value).ownBlock) (.slice (some ⟨go37, 0, none⟩) x7_3.length co38) y599 := (by rw [hw, Ny599.out]; exact HP39.1); clear HP39; replace HO_46 := Aside0.mk (Kd.R_after (v := (.slice (some ⟨go37, 0, none⟩) x7_3.length co38)) (v1 := (.slice (some ⟨go37, 0, none⟩) x7_3.length co38)) (ok := (fun _ => True)) (Kd.Rq (Kd.R_mono HO_46.out (fun _ hk => ⟨trivial, hk⟩))) hg (.inl rfl)); replace BK586 := Aside0.mk (blk_grown (bkq BK586.out) hg (Kd.R_ne HO_7.out BK586.out (by decide))); replace BK592 := Aside0.mk (blk_grown (bkq BK592.out) hg (Kd.R_ne HO_7.out BK592.out (by decide))); replace HO_7 := Aside0.mk (hp_); replace HB := Aside0.mk ((by rw [hw]; exact below_set (HB.out) GB37.out : Below w.heap.size w w40)); clear hg hw hp_))
                  go_roundg k3
                  case measure => have := HJ3.out; have := HK2.out; have := HK3.out; omega
                  case rel => exact ⟨(y599), (wrap64 (x48_3 + 1)), (by first | rfl | (simp; done) | (simp [*]; done)), H', ⟨by have := HJ3.out; have := HK2.out; have := HK3.out; omega⟩, ⟨Kd.Rq HO_7.out⟩, ⟨Kd.Rq (Kd.R_mono HO_46.out (fun _ hk => hk.2))⟩, ⟨bkq BK586.out⟩, ⟨bkq BK592.out⟩, ⟨blq HB.out⟩⟩
                 ·
                  rw [if_neg c36] at H
                  exact absurd H (by simp)
                ·
                 rw [if_neg c35] at H
                 exact absurd H (by simp)
               ·
                rw [if_neg c34] at H
                exact absurd H (by simp)
              ·
               rw [if_neg c33] at H
               have c33b0 : decide (x48_3 < (t594.length : Int)) = false := decide_eq_false c33
               clear c33
               have H' := Aside0.mk H
               clear H
               go_wp2
               go_roundg k3
               case measure => have := HJ3.out; have := HK2.out; have := HK3.out; omega
               case rel => exact ⟨(x7_3), (wrap64 (x33_2 + 1)), (by first | rfl | (simp; done) | (simp [*]; done)), H', ⟨by have := HJ3.out; have := HK2.out; have := HK3.out; omega⟩, ⟨Kd.Rq (Kd.R_mono HO_7.out (fun _ hk => trivial))⟩, ⟨bkq BK586.out⟩, ⟨blq HB.out⟩⟩
          ·
           rw [if_neg c22] at H
           exact absurd H (by simp)
         ·
          rw [if_neg c21] at H
          exact absurd H (by simp)
        ·
         rw [if_neg c20] at H
         exact absurd H (by simp)
       ·
        rw [if_neg c19] at H
        have c19b0 : decide (x33_2 < (l1.length : Int)) = false := decide_eq_false c19
        clear c19
        have H' := Aside0.mk H
        clear H
        have hcz41_0 : wr.cell? ⟨gb586, 0, none⟩ = some (.slice A0_0 l0_0.length c0_0) := (blk_cell BK586.out 0).trans rfl
        have hfz41_0 := blk_frozen BK586.out 0
        go_wp2
        go_loopg [65] k2 (fun kq v65 w' => ∃ (x7_3 : List Int) (x65_3 : Int), v65 = .int .i64 x65_3 ∧ Aside0 (impl_MustBuy.l2 kq x7_3 l0_0 (l0_0.length : Int) x65_3 = some r) ∧ Aside0 (kq ≤ k2) ∧ Aside0 (Kd.R (Kd.int .i64) 3 w' w.heap.size (fun _ => True) v589 x7_3) ∧ Aside0 (w'.heap[gb586]? = some (.cells #[(.slice A0_0 l0_0.length c0_0)] 54 (0, 0))) ∧ Aside0 (Below w.heap.size w w'))
        case atStart => exact ⟨(x7_2), (0), (by first | rfl | (simp; done) | (simp [*]; done)), H', ⟨Nat.le_refl _⟩, ⟨Kd.Rq HO_7.out⟩, ⟨bkq BK586.out⟩, ⟨blq HB.out⟩⟩
        case round =>
         clear H'
         try clear c1
         try clear c2
         try clear p2
         try clear c3
         try clear p3
         try clear q3
         try clear hx3
         try clear hf3
         try clear c4
         try clear p5
         try clear q5
         try clear hx5
         try clear p6
         try clear c7
         try clear c8
         try clear c8b0
         try clear c8b1
         try clear c9
         try clear c15
         try clear c16
         try clear c16b0
         try clear c16b1
         try clear c19
         try clear c19b0
         try clear c20
         try clear c20b0
         try clear c21
         try clear c21b0
         try clear c22
         try clear c22b0
         try clear c26
         try clear c31
         try clear c31b0
         try clear c33
         try clear c33b0
         try clear c34
         try clear c34b0
         try clear c35
         try clear c35b0
         try clear c36
         try clear c36b0
         try clear p37
         try clear q37
         try clear hx37
         try clear hf37
         try clear hcz11_0
         try clear hcz13_0
         try clear hcz27_0
         try clear hcz27_1
         try clear hcz27_2
         try clear hcz41_0
         try clear hcz9_0
         try clear hfz11_0
         try clear hfz13_0
         try clear hfz27_0
         try clear hfz27_1
         try clear hfz27_2
         try clear hfz41_0
         try clear hfz9_0
         try clear hx37_0
         try clear hx591_0
         try clear hx591_1
         try clear hx591_2
         try clear hx593_0
         try clear hx597_0
         try clear hx598_0
         try clear p2
         try clear p37
         try clear p5
         try clear p591
         try clear p593
         try clear p597
         try clear p598
         try clear q37
         try clear q5
         try clear q591
         try clear q593
         try clear q597
         try clear q598
         obtain ⟨x7_3, x65_3, rfl, HA, HK3, HO_7, BK586, HB⟩ := hrel
         cases gk with
         | zero => exact absurd HA.out (by simp [impl_MustBuy.l2])
         | succ k3 =>
          have H := HA.out
          clear HA
          simp only [impl_MustBuy.l2] at H
          by_cases c42 : x65_3 < (l0_0.length : Int)
          ·
           rw [if_pos c42] at H
           have c42b0 : decide (x65_3 < (l0_0.length : Int)) = true := decide_eq_true c42
           clear c42
           by_cases c43 : 0 ≤ x65_3
           ·
            rw [if_pos c43] at H
            have c43b0 : decide (0 ≤ x65_3) = true := decide_eq_true c43
            clear c43
            by_cases c44 : x65_3 < (l0_0.length : Int)
            ·
             rw [if_pos c44] at H
             have c44b0 : decide (x65_3 < (l0_0.length : Int)) = true := decide_eq_true c44
             clear c44
             by_cases c45 : x65_3 < (x7_3.length : Int)
             ·
              rw [if_pos c45] at H
              have c45b0 : decide (x65_3 < (x7_3.length : Int)) = true := decide_eq_true c45
              clear c45
              obtain ⟨ji46, hji46⟩ : ∃ j_ : Int, (mx (wrap64 ((rd x7_3 x65_3) - (rd l0_0 x65_3))) 0) = j_ := ⟨_, rfl⟩
              replace H : (impl_MustBuy.l2 k3 (x7_3.set (x65_3 : Int).toNat (ji46)) l0_0 (l0_0.length : Int) (wrap64 (x65_3 + 1))) = some r := by first | (rw [hji46] at H; exact H) | (simp only [hji46] at H ⊢; exact H)
              have hji46_ : (if (wrap64 ((rd x7_3 x65_3) - (rd l0_0 x65_3))) < 0 then 0 else (wrap64 ((rd x7_3 x65_3) - (rd l0_0 x65_3)))) = ji46 := hji46
              obtain ⟨y602, hy602⟩ : ∃ y_ : List Int, y_ = (x7_3.set (x65_3 : Int).toNat (ji46)) := ⟨_, rfl⟩
              replace H : (impl_MustBuy.l2 k3 y602 l0_0 (l0_0.length : Int) (wrap64 (x65_3 + 1))) = some r := by first | (rw [hy602]; with_reducible exact H) | (have H2_ := (Option.bind_some _ _).symm.trans H; rw [hy602]; with_reducible exact H2_) | (have H2_ := (Option.bind_some _ _).symm.trans H; with_reducible exact H2_) | with_reducible exact H | (rw [hy602]; exact H) | exact H
              have Ny602 := Aside0.mk hy602
              clear hy602
              have H' := Aside0.mk H
              clear H
              have p600 : 0 ≤ (x65_3 : Int) := of_decide_eq_true (by first | (with_reducible assumption) | assumption)
              have q600 : x65_3 < (l0_0.length : Int) := of_decide_eq_true (by first | (with_reducible assumption) | assumption)
              obtain ⟨ad600, e600, hx600_0⟩ := Kd.at_int HR0_0.out x65_3 p600 q600
              cases e600
              replace hx600_0 := (HB.out.cell (World.block_lt_of_cell? w _ hx600_0)).trans hx600_0
              replace p600 := eq_true p600
              replace q600 := eq_true q600
              obtain ⟨Ao48, co48, eo48⟩ := Kd.R_slice HO_7.out
              subst eo48
              have p601 : 0 ≤ (x65_3 : Int) := of_decide_eq_true (by first | (with_reducible assumption) | assumption)
              have q601 : x65_3 < (x7_3.length : Int) := of_decide_eq_true (by first | (with_reducible assumption) | assumption)
              obtain ⟨ad601, e601, hx601_0⟩ := Kd.at_int (Kd.R_reads' HO_7.out).2.2 x65_3 p601 q601
              cases e601
              replace p601 := eq_true p601
              replace q601 := eq_true q601
              have p47 : 0 ≤ (x65_3 : Int) := of_decide_eq_true (by first | (with_reducible assumption) | assumption)
              have q47 : (x65_3 : Int) < ((x7_3.length : Int) : Int) := of_decide_eq_true (by first | (with_reducible assumption) | assumption)
              obtain ⟨go47, co47, eo47, gb47, gl47, cl47, HG47⟩ := Kd.R_form HO_7.out (by omega)
              (first | cases eo47 | (injection eo47 with ea_ en_ ec_; (first | subst ea_ | (injection ea_ with ea_; subst ea_)); subst ec_; clear en_))
              have GB47 := Aside0.mk gb47
              have GG47 := Aside0.mk HG47
              clear gb47 gl47 HG47
              (first | simp only [add_plain] at hx601_0 | skip)
              obtain ⟨hx47_0, hf47_0⟩ := Kd.R_celln 0 HO_7.out (x65_3 : Int) p47 q47
              replace p47 := eq_true p47
              replace q47 := eq_true q47
              have HP49 := Kd.R_putg HO_7.out (x65_3 : Int) ji46
              go_wp2_with (first | ((with_reducible refine gate_store (t := 3) (p := 79) rfl ?_); refine store_event (t := 3) (p := 79) (v := ?vo_w50) (w1 := (wr.setCell ⟨go47, (x65_3 : Int).toNat, none⟩ (.int .i64 ji46))) ?hg ?ho ?hn ?hr ?_; (case ho => rfl); (case hg => rfl); (case hn => rfl); (case hr => first | (go_simp; done) | (go_simp; rfl)); intro w50 hw; have hg : wr.grownBy w50 (some go47) := (by rw [hw]; exact HP49.2); have hp_ : Kd.R (Kd.int .i64) 3 w50 w.heap.size (fun _ => True) (.slice (some ⟨go47, 0, none⟩) x7_3.length co48) y602 := (by rw [hw, Ny602.out]; exact HP49.1); clear HP49; replace BK586 := Aside0.mk (blk_grown (bkq BK586.out) hg (Kd.R_ne HO_7.out BK586.out (by decide))); replace HO_7 := Aside0.mk (hp_); replace HB := Aside0.mk ((by rw [hw]; exact below_set (HB.out) GB47.out : Below w.heap.size w w50)); clear hg hw hp_))
              go_roundg k3
              case measure => have := HJ3.out; have := HK2.out; have := HK3.out; omega
              case rel => exact ⟨(y602), (wrap64 (x65_3 + 1)), (by first | rfl | (simp; done) | (simp [*]; done)), H', ⟨by have := HJ3.out; have := HK2.out; have := HK3.out; omega⟩, ⟨Kd.Rq HO_7.out⟩, ⟨bkq BK586.out⟩, ⟨blq HB.out⟩⟩
             ·
              rw [if_neg c45] at H
              exact absurd H (by simp)
            ·
             rw [if_neg c44] at H
             exact absurd H (by simp)
           ·
            rw [if_neg c43] at H
            exact absurd H (by simp)
          ·
           rw [if_neg c42] at H
           have c42b0 : decide (x65_3 < (l0_0.length : Int)) = false := decide_eq_false c42
           clear c42
           obtain rfl := Option.some.inj H
           go_wp2
           go_ret
           exact ⟨_, by first | rfl | (simp [errW_none, errW_some] <;> rfl) | (simp [*, errW_none, errW_some] <;> rfl), Kd.Rq HO_7.out, blq HB.out⟩
    ·
     rw [if_neg c16] at H
     exact absurd H (by simp)

end Go.Proofs.Ytnlioefgpgamdaa.Q
