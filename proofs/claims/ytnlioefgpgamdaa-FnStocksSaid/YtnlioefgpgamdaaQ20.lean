-- Written for this claim by wip/xprint.py of this repository (by way of the kit's print); Lean checks every line.
import Derived.Test.YtnlioefgpgamdaaQ0
import Derived.Test.YtnlioefgpgamdaaQ17
import Derived.Test.YtnlioefgpgamdaaQ18
namespace Go.Proofs.Ytnlioefgpgamdaa.Q
open Go.RowKit Go.Proofs.YtnlioefgpgamdaaW.PrintWords Go.Proofs.YtnlioefgpgamdaaW.PrintLast Go.Proofs.YtnlioefgpgamdaaW.PrintMore
attribute [local go_sem] max2_int min2_int max_two min_two max_three min_three max_four min_four   -- for this text's walks alone
set_option linter.unusedVariables false
set_option linter.unusedSimpArgs false

/-! ### spec_FirstMissing: function 94 -/
mutual
def spec_FirstMissing.l0 : Nat → List Int → Int → List Int → Option (Int)
 | 0, _, _, _ => none
 | k + 1, x7, x8, x364000 => if x8 < (x7.length : Int) then ((spec_StoreOk.f k x364000).bind fun t368 => (spec_FirstMissing.j1 k x7 x8 t368 x364000)) else (spec_FirstMissing.j1 k x7 x8 false x364000)
def spec_FirstMissing.j1 : Nat → List Int → Int → Bool → List Int → Option (Int)
 | 0, _, _, _, _ => none
 | k + 1, x7, x8, x19, x364000 => if x19 = true then (if 0 ≤ x8 then (if x8 < (x7.length : Int) then (if x8 < (x364000.length : Int) then (if (rd x7 x8) > (rd x364000 x8) then (some x8) else (spec_FirstMissing.l0 k x7 (wrap64 (x8 + 1)) x364000)) else (none)) else (none)) else (none)) else (some (-1))
end
def spec_FirstMissing.f (k : Nat) (l0_0 : List Int) (a1_0 : Int) (a1_1 : Int) (a1_2 : Int) (a2 : Int) : Option (Int) := (spec_Amounts.f k a1_0 a1_1 a1_2 a2).bind fun t365 => (spec_FirstMissing.l0 k t365 0 l0_0)
theorem spec_FirstMissing.mono_l : ∀ k, (∀ y0 y1 y2, LeO (spec_FirstMissing.l0 k y0 y1 y2) (spec_FirstMissing.l0 (k + 1) y0 y1 y2)) ∧ (∀ y0 y1 y2 y3, LeO (spec_FirstMissing.j1 k y0 y1 y2 y3) (spec_FirstMissing.j1 (k + 1) y0 y1 y2 y3))
 | 0 => ⟨fun _ _ _ r h => by simp [spec_FirstMissing.l0] at h, fun _ _ _ _ r h => by simp [spec_FirstMissing.j1] at h⟩
 | k + 1 => by
  obtain ⟨ih0, ih1⟩ := spec_FirstMissing.mono_l k
  refine ⟨?_, ?_⟩
  ·
   intro y0 y1 y2
   unfold spec_FirstMissing.l0
   repeat' first
   | (with_reducible exact ih0 _ _ _)
   | (with_reducible exact ih1 _ _ _ _)
   | (with_reducible exact spec_Amounts.mono _ _ _ _ _)
   | (with_reducible exact spec_StoreOk.mono _ _)
   | (with_reducible exact LeO.refl _)
   | (with_reducible exact LeO.none _)
   | (with_reducible refine LeO.ite ?_ ?_)
   | (with_reducible refine LeO.bind ?_ (fun _ => ?_))
   | exact ih0 _ _ _
   | exact ih1 _ _ _ _
   | exact spec_Amounts.mono _ _ _ _ _
   | exact spec_StoreOk.mono _ _
   | exact LeO.none _
   | refine LeO.ite ?_ ?_
   | refine LeO.bind ?_ (fun _ => ?_)
  ·
   intro y0 y1 y2 y3
   unfold spec_FirstMissing.j1
   repeat' first
   | (with_reducible exact ih0 _ _ _)
   | (with_reducible exact ih1 _ _ _ _)
   | (with_reducible exact spec_Amounts.mono _ _ _ _ _)
   | (with_reducible exact spec_StoreOk.mono _ _)
   | (with_reducible exact LeO.refl _)
   | (with_reducible exact LeO.none _)
   | (with_reducible refine LeO.ite ?_ ?_)
   | (with_reducible refine LeO.bind ?_ (fun _ => ?_))
   | exact ih0 _ _ _
   | exact ih1 _ _ _ _
   | exact spec_Amounts.mono _ _ _ _ _
   | exact spec_StoreOk.mono _ _
   | exact LeO.none _
   | refine LeO.ite ?_ ?_
   | refine LeO.bind ?_ (fun _ => ?_)
theorem spec_FirstMissing.mono : ∀ a0 a1 a2 a3 a4 k, LeO (spec_FirstMissing.f k a0 a1 a2 a3 a4) (spec_FirstMissing.f (k + 1) a0 a1 a2 a3 a4) := by
 intro a0 a1 a2 a3 a4 k
 obtain ⟨ih0, ih1⟩ := spec_FirstMissing.mono_l k
 unfold spec_FirstMissing.f
 repeat' first
   | (with_reducible exact ih0 _ _ _)
   | (with_reducible exact ih1 _ _ _ _)
   | (with_reducible exact spec_Amounts.mono _ _ _ _ _)
   | (with_reducible exact spec_StoreOk.mono _ _)
   | (with_reducible exact LeO.refl _)
   | (with_reducible exact LeO.none _)
   | (with_reducible refine LeO.ite ?_ ?_)
   | (with_reducible refine LeO.bind ?_ (fun _ => ?_))
   | exact ih0 _ _ _
   | exact ih1 _ _ _ _
   | exact spec_Amounts.mono _ _ _ _ _
   | exact spec_StoreOk.mono _ _
   | exact LeO.none _
   | refine LeO.ite ?_ ?_
   | refine LeO.bind ?_ (fun _ => ?_)
set_option maxHeartbeats 8000000 in
set_option maxRecDepth 100000 in
theorem spec_FirstMissing.calls (k : Nat) (A0_0 : Option Addr) (c0_0 : Nat) (l0_0 : List Int) (a1_0 : Int) (a1_1 : Int) (a1_2 : Int) (a2 : Int) (r : Int) (w : World) (hr0_0 : Kd.C (Kd.int .i64) w A0_0 l0_0.length l0_0) (hc0_0 : l0_0.length ≤ c0_0) (h : spec_FirstMissing.f k l0_0 a1_0 a1_1 a1_2 a2 = some r) :
  Calls Try.prog 94 #[.agg #[.slice A0_0 l0_0.length c0_0], .agg #[.int .i64 a1_0, .int .i64 a1_1, .int .i64 a1_2], .int .i64 a2] w fun e w' => e = .returned (.int .i64 r) ∧ Below w.heap.size w w' := by
 have hu54 := Try.underlying54
 have hu56 := Try.underlying56
 have HR0_0 := Aside0.mk hr0_0
 have HC0_0 := Aside0.mk hc0_0
 clear hr0_0 hc0_0
 have HB := Aside0.mk (Below.refl w.heap.size w)
 have H : ((spec_Amounts.f k a1_0 a1_1 a1_2 a2).bind fun t365 => (spec_FirstMissing.l0 k t365 0 l0_0)) = some r := h
 clear h
 replace H := Option.bind_eq_some_iff.mp H
 obtain ⟨t365, A40, H⟩ := H
 replace H : (spec_FirstMissing.l0 k t365 0 l0_0) = some r := H
 have A4 := Aside0.mk A40
 clear A40
 have H' := Aside0.mk H
 clear H
 go_enter Try.func94, Try.ntmps94
 go_wp2_with (first | ((with_reducible refine gate_dst (N := 3) rfl ?_); refine box_event ?hg (N := 3) ?hd (cs := #[.slice A0_0 l0_0.length c0_0]) (t := 54) ?hr ?_; (case hd => rfl); (case hg => rfl); (case hr => first | (go_simp; done) | (go_simp; rfl)); intro gb363 hg w5 hbox hb; have BK363 := Aside0.mk (hbox); have GW363 := sQ hg HB; have GE363 := sQ hg HB; replace HB := hbs HB hb; clear hb hbox hg) | ((with_reducible refine gate_dst (N := 4) rfl ?_); refine box_event ?hg (N := 4) ?hd (cs := #[.int .i64 a1_0, .int .i64 a1_1, .int .i64 a1_2]) (t := 56) ?hr ?_; (case hd => rfl); (case hg => rfl); (case hr => first | (go_simp; done) | (go_simp; rfl)); intro gb364 hg w6 hbox hb; have BK364 := Aside0.mk (hbox); have GW364 := sQ hg HB; have GE364 := sQ hg HB; have NB363_364 := qL hg BK363; have NB364_363 := qG hg BK363; replace BK363 := bkb BK363 hb; replace HB := hbs HB hb; clear hb hbox hg; have hnb7 := NB364_363.out; have hnc7 := NB363_364.out; obtain ⟨hcz8_0, hcz8_1, hcz8_2, hfz8_0, hfz8_1, hfz8_2⟩ := bq3 BK364.out) | (go_at_call 46; (with_reducible refine (spec_Amounts.calls k a1_0 a1_1 a1_2 a2 t365 _ A4.out).mono ?_); rintro e w9 ⟨v366, rfl, ho0, hb⟩; have HO367 := Aside0.mk (Kd.R_lower ho0 (below_size (blq HB.out))); replace BK363 := bkb BK363 hb; replace BK364 := bkb BK364 hb; replace HB := hbs HB hb; (try clear hb); (try clear hb2); (try clear hk); (try clear hi); (try clear ho0)))
 repeat (go_quiet (first | ((with_reducible refine gate_dst (N := 3) rfl ?_); refine box_event ?hg (N := 3) ?hd (cs := #[.slice A0_0 l0_0.length c0_0]) (t := 54) ?hr ?_; (case hd => rfl); (case hg => rfl); (case hr => first | (go_simp; done) | (go_simp; rfl)); intro gb363 hg w5 hbox hb; have BK363 := Aside0.mk (hbox); have GW363 := sQ hg HB; have GE363 := sQ hg HB; replace HB := hbs HB hb; clear hb hbox hg) | ((with_reducible refine gate_dst (N := 4) rfl ?_); refine box_event ?hg (N := 4) ?hd (cs := #[.int .i64 a1_0, .int .i64 a1_1, .int .i64 a1_2]) (t := 56) ?hr ?_; (case hd => rfl); (case hg => rfl); (case hr => first | (go_simp; done) | (go_simp; rfl)); intro gb364 hg w6 hbox hb; have BK364 := Aside0.mk (hbox); have GW364 := sQ hg HB; have GE364 := sQ hg HB; have NB363_364 := qL hg BK363; have NB364_363 := qG hg BK363; replace BK363 := bkb BK363 hb; replace HB := hbs HB hb; clear hb hbox hg; have hnb7 := NB364_363.out; have hnc7 := NB363_364.out; obtain ⟨hcz8_0, hcz8_1, hcz8_2, hfz8_0, hfz8_1, hfz8_2⟩ := bq3 BK364.out) | (go_at_call 46; (with_reducible refine (spec_Amounts.calls k a1_0 a1_1 a1_2 a2 t365 _ A4.out).mono ?_); rintro e w9 ⟨v366, rfl, ho0, hb⟩; have HO367 := Aside0.mk (Kd.R_lower ho0 (below_size (blq HB.out))); replace BK363 := bkb BK363 hb; replace BK364 := bkb BK364 hb; replace HB := hbs HB hb; (try clear hb); (try clear hb2); (try clear hk); (try clear hi); (try clear ho0))); try go_wp2_with (first | ((with_reducible refine gate_dst (N := 3) rfl ?_); refine box_event ?hg (N := 3) ?hd (cs := #[.slice A0_0 l0_0.length c0_0]) (t := 54) ?hr ?_; (case hd => rfl); (case hg => rfl); (case hr => first | (go_simp; done) | (go_simp; rfl)); intro gb363 hg w5 hbox hb; have BK363 := Aside0.mk (hbox); have GW363 := sQ hg HB; have GE363 := sQ hg HB; replace HB := hbs HB hb; clear hb hbox hg) | ((with_reducible refine gate_dst (N := 4) rfl ?_); refine box_event ?hg (N := 4) ?hd (cs := #[.int .i64 a1_0, .int .i64 a1_1, .int .i64 a1_2]) (t := 56) ?hr ?_; (case hd => rfl); (case hg => rfl); (case hr => first | (go_simp; done) | (go_simp; rfl)); intro gb364 hg w6 hbox hb; have BK364 := Aside0.mk (hbox); have GW364 := sQ hg HB; have GE364 := sQ hg HB; have NB363_364 := qL hg BK363; have NB364_363 := qG hg BK363; replace BK363 := bkb BK363 hb; replace HB := hbs HB hb; clear hb hbox hg; have hnb7 := NB364_363.out; have hnc7 := NB363_364.out; obtain ⟨hcz8_0, hcz8_1, hcz8_2, hfz8_0, hfz8_1, hfz8_2⟩ := bq3 BK364.out) | (go_at_call 46; (with_reducible refine (spec_Amounts.calls k a1_0 a1_1 a1_2 a2 t365 _ A4.out).mono ?_); rintro e w9 ⟨v366, rfl, ho0, hb⟩; have HO367 := Aside0.mk (Kd.R_lower ho0 (below_size (blq HB.out))); replace BK363 := bkb BK363 hb; replace BK364 := bkb BK364 hb; replace HB := hbs HB hb; (try clear hb); (try clear hb2); (try clear hk); (try clear hi); (try clear ho0))))
 go_loopg [8] k (fun kq v8 w' => ∃ (x8_1 : Int), v8 = .int .i64 x8_1 ∧ Aside0 (spec_FirstMissing.l0 kq t365 x8_1 l0_0 = some r) ∧ Aside0 (kq ≤ k) ∧ Aside0 (Kd.R (Kd.int .i64) 3 w' w.heap.size (fun _ => True) v366 t365) ∧ Aside0 (w'.heap[gb363]? = some (.cells #[(.slice A0_0 l0_0.length c0_0)] 54 (0, 0))) ∧ Aside0 (w'.heap[gb364]? = some (.cells #[.int .i64 a1_0, .int .i64 a1_1, .int .i64 a1_2] 56 (0, 0))) ∧ Aside0 (Below w.heap.size w w'))
 case atStart => exact ⟨(0), (by first | rfl | (simp; done) | (simp [*]; done)), H', ⟨Nat.le_refl _⟩, ⟨Kd.Rq HO367.out⟩, ⟨bkq BK363.out⟩, ⟨bkq BK364.out⟩, ⟨blq HB.out⟩⟩
 case round =>
  clear H'
  try clear p2
  try clear c7
  try clear c9
  try clear hcz8_0
  try clear hcz8_1
  try clear hcz8_2
  try clear hfz8_0
  try clear hfz8_1
  try clear hfz8_2
  obtain ⟨x8_1, rfl, HA, HK1, HO_7, BK363, BK364, HB⟩ := hrel
  cases gk with
  | zero => exact absurd HA.out (by simp [spec_FirstMissing.l0])
  | succ k1 =>
   have H := HA.out
   clear HA
   simp only [spec_FirstMissing.l0] at H
   have HC10 := Aside0.mk H
   clear H
   go_upto_region 3 with (fail)
   repeat (go_quiet (fail); go_upto_region 3 with (fail))
   go_cut [19] (fun v19 wc => ∃ (kq : Nat) (x19_9 : Bool), v19 = .bool x19_9 ∧ Aside0 (spec_FirstMissing.j1 kq t365 x8_1 x19_9 l0_0 = some r) ∧ Aside0 (kq ≤ k1) ∧ Aside0 (Kd.R (Kd.int .i64) 3 wc w.heap.size (fun _ => True) v366 t365) ∧ Aside0 (wc.heap[gb363]? = some (.cells #[(.slice A0_0 l0_0.length c0_0)] 54 (0, 0))) ∧ Aside0 (wc.heap[gb364]? = some (.cells #[.int .i64 a1_0, .int .i64 a1_1, .int .i64 a1_2] 56 (0, 0))) ∧ Aside0 (Below w.heap.size w wc))
   case first =>
    have H := HC10.out
    clear HC10
    by_cases c11 : x8_1 < (t365.length : Int)
    ·
     rw [if_pos c11] at H
     have c11b0 : decide (x8_1 < (t365.length : Int)) = true := decide_eq_true c11
     clear c11
     (first | rw [c11b0] | (simp only [i64_w, i32_w]; rw [c11b0]) | skip)
     replace H := Option.bind_eq_some_iff.mp H
     obtain ⟨t368, A120, H⟩ := H
     replace H : (spec_FirstMissing.j1 k1 t365 x8_1 t368 l0_0) = some r := H
     have A12 := Aside0.mk A120
     clear A120
     have H' := Aside0.mk H
     clear H
     obtain ⟨Ao13, co13, eo13⟩ := Kd.R_slice HO_7.out
     subst eo13
     have hnb14 := NB363_364.out
     have hnc14 := NB364_363.out
     have hcz15_0 : wr.cell? ⟨gb363, 0, none⟩ = some (.slice A0_0 l0_0.length c0_0) := (blk_cell BK363.out 0).trans rfl
     have hfz15_0 := blk_frozen BK363.out 0
     go_wp2_with (first | (go_at_call 92; (with_reducible refine (spec_StoreOk.calls k1 _ _ l0_0 t368 _ ?side1 ?side2 A12.out).mono ?_); (case side1 => exact Kd.Cq (Kd.C_below HR0_0.out HB.out)); (case side2 => exact HC0_0.out); rintro e w16 ⟨rfl, hb⟩; replace HO_7 := rob HO_7 hb; replace BK363 := bkb BK363 hb; replace BK364 := bkb BK364 hb; replace HB := hbs HB hb; (try clear hb); (try clear hb2); (try clear hk); (try clear hi)))
     repeat (go_quiet (first | (go_at_call 92; (with_reducible refine (spec_StoreOk.calls k1 _ _ l0_0 t368 _ ?side1 ?side2 A12.out).mono ?_); (case side1 => exact Kd.Cq (Kd.C_below HR0_0.out HB.out)); (case side2 => exact HC0_0.out); rintro e w16 ⟨rfl, hb⟩; replace HO_7 := rob HO_7 hb; replace BK363 := bkb BK363 hb; replace BK364 := bkb BK364 hb; replace HB := hbs HB hb; (try clear hb); (try clear hb2); (try clear hk); (try clear hi))); try go_wp2_with (first | (go_at_call 92; (with_reducible refine (spec_StoreOk.calls k1 _ _ l0_0 t368 _ ?side1 ?side2 A12.out).mono ?_); (case side1 => exact Kd.Cq (Kd.C_below HR0_0.out HB.out)); (case side2 => exact HC0_0.out); rintro e w16 ⟨rfl, hb⟩; replace HO_7 := rob HO_7 hb; replace BK363 := bkb BK363 hb; replace BK364 := bkb BK364 hb; replace HB := hbs HB hb; (try clear hb); (try clear hb2); (try clear hk); (try clear hi))))
     go_meet
     case rel => exact ⟨_, (t368), (by first | rfl | (simp; done) | (simp [*]; done)), H', ⟨by have := HK1.out; first | omega | exact Nat.le_refl _⟩, ⟨Kd.Rq HO_7.out⟩, ⟨bkq BK363.out⟩, ⟨bkq BK364.out⟩, ⟨blq HB.out⟩⟩
    ·
     rw [if_neg c11] at H
     have c11b0 : decide (x8_1 < (t365.length : Int)) = false := decide_eq_false c11
     clear c11
     (first | rw [c11b0] | (simp only [i64_w, i32_w]; rw [c11b0]) | skip)
     have H' := Aside0.mk H
     clear H
     obtain ⟨Ao17, co17, eo17⟩ := Kd.R_slice HO_7.out
     subst eo17
     go_wp2
     repeat (go_quiet (fail); try go_wp2)
     go_meet
     case rel => exact ⟨_, (false), (by first | rfl | (simp; done) | (simp [*]; done)), H', ⟨by have := HK1.out; first | omega | exact Nat.le_refl _⟩, ⟨Kd.Rq HO_7.out⟩, ⟨bkq BK363.out⟩, ⟨bkq BK364.out⟩, ⟨blq HB.out⟩⟩
   case rest =>
    clear HC10
    try clear c1
    try clear p2
    try clear c7
    try clear c9
    try clear c11
    try clear c11b0
    try clear c14
    try clear hcz15_0
    try clear hcz8_0
    try clear hcz8_1
    try clear hcz8_2
    try clear hfz15_0
    try clear hfz8_0
    try clear hfz8_1
    try clear hfz8_2
    try clear p2
    obtain ⟨kq, x19_9, rfl, HA, HJ9, HO_7, BK363, BK364, HB⟩ := hcut
    cases kq with
    | zero => exact absurd HA.out (by simp [spec_FirstMissing.j1])
    | succ kj9 =>
     have H := HA.out
     clear HA
     simp only [spec_FirstMissing.j1] at H
     by_cases c18 : x19_9 = true
     ·
      subst c18
      have H1 : (if 0 ≤ x8_1 then (if x8_1 < (t365.length : Int) then (if x8_1 < (l0_0.length : Int) then (if (rd t365 x8_1) > (rd l0_0 x8_1) then (some x8_1) else (spec_FirstMissing.l0 kj9 t365 (wrap64 (x8_1 + 1)) l0_0)) else (none)) else (none)) else (none)) = some r := by rw [if_pos rfl] at H; exact H
      clear H
      have H := H1
      clear H1
      by_cases c19 : 0 ≤ x8_1
      ·
       rw [if_pos c19] at H
       have c19b0 : decide (0 ≤ x8_1) = true := decide_eq_true c19
       clear c19
       by_cases c20 : x8_1 < (t365.length : Int)
       ·
        rw [if_pos c20] at H
        have c20b0 : decide (x8_1 < (t365.length : Int)) = true := decide_eq_true c20
        clear c20
        by_cases c21 : x8_1 < (l0_0.length : Int)
        ·
         rw [if_pos c21] at H
         have c21b0 : decide (x8_1 < (l0_0.length : Int)) = true := decide_eq_true c21
         clear c21
         by_cases c22 : (rd t365 x8_1) > (rd l0_0 x8_1)
         ·
          rw [if_pos c22] at H
          have c22b0 : decide ((rd l0_0 x8_1) < (rd t365 x8_1)) = true := decide_eq_true c22
          clear c22
          obtain rfl := Option.some.inj H
          obtain ⟨Ao23, co23, eo23⟩ := Kd.R_slice HO_7.out
          subst eo23
          have p369 : 0 ≤ (x8_1 : Int) := of_decide_eq_true (by first | (with_reducible assumption) | assumption)
          have q369 : x8_1 < (t365.length : Int) := of_decide_eq_true (by first | (with_reducible assumption) | assumption)
          obtain ⟨ad369, e369, hx369_0⟩ := Kd.at_int (Kd.R_reads' HO_7.out).2.2 x8_1 p369 q369
          cases e369
          replace p369 := eq_true p369
          replace q369 := eq_true q369
          have hnb24 := NB363_364.out
          have hnc24 := NB364_363.out
          have hcz25_0 : wc.cell? ⟨gb363, 0, none⟩ = some (.slice A0_0 l0_0.length c0_0) := (blk_cell BK363.out 0).trans rfl
          have hfz25_0 := blk_frozen BK363.out 0
          have p370 : 0 ≤ (x8_1 : Int) := of_decide_eq_true (by first | (with_reducible assumption) | assumption)
          have q370 : x8_1 < (l0_0.length : Int) := of_decide_eq_true (by first | (with_reducible assumption) | assumption)
          obtain ⟨ad370, e370, hx370_0⟩ := Kd.at_int HR0_0.out x8_1 p370 q370
          cases e370
          replace hx370_0 := (HB.out.cell (World.block_lt_of_cell? w _ hx370_0)).trans hx370_0
          replace p370 := eq_true p370
          replace q370 := eq_true q370
          go_wp2
          repeat (go_quiet (fail); try go_wp2)
          go_ret
          exact ⟨by first | rfl | (simp [errW_none, errW_some] <;> rfl) | (simp [*, errW_none, errW_some] <;> rfl), blq HB.out⟩
         ·
          rw [if_neg c22] at H
          have c22b0 : decide ((rd l0_0 x8_1) < (rd t365 x8_1)) = false := decide_eq_false c22
          clear c22
          have H' := Aside0.mk H
          clear H
          obtain ⟨Ao26, co26, eo26⟩ := Kd.R_slice HO_7.out
          subst eo26
          have p369 : 0 ≤ (x8_1 : Int) := of_decide_eq_true (by first | (with_reducible assumption) | assumption)
          have q369 : x8_1 < (t365.length : Int) := of_decide_eq_true (by first | (with_reducible assumption) | assumption)
          obtain ⟨ad369, e369, hx369_0⟩ := Kd.at_int (Kd.R_reads' HO_7.out).2.2 x8_1 p369 q369
          cases e369
          replace p369 := eq_true p369
          replace q369 := eq_true q369
          have hnb27 := NB363_364.out
          have hnc27 := NB364_363.out
          have hcz28_0 : wc.cell? ⟨gb363, 0, none⟩ = some (.slice A0_0 l0_0.length c0_0) := (blk_cell BK363.out 0).trans rfl
          have hfz28_0 := blk_frozen BK363.out 0
          have p370 : 0 ≤ (x8_1 : Int) := of_decide_eq_true (by first | (with_reducible assumption) | assumption)
          have q370 : x8_1 < (l0_0.length : Int) := of_decide_eq_true (by first | (with_reducible assumption) | assumption)
          obtain ⟨ad370, e370, hx370_0⟩ := Kd.at_int HR0_0.out x8_1 p370 q370
          cases e370
          replace hx370_0 := (HB.out.cell (World.block_lt_of_cell? w _ hx370_0)).trans hx370_0
          replace p370 := eq_true p370
          replace q370 := eq_true q370
          go_wp2
          repeat (go_quiet (fail); try go_wp2)
          go_roundg kj9
          case measure => have := HK1.out; have := HJ9.out; omega
          case rel => exact ⟨(wrap64 (x8_1 + 1)), (by first | rfl | (simp; done) | (simp [*]; done)), H', ⟨by have := HK1.out; have := HJ9.out; omega⟩, ⟨Kd.Rq HO_7.out⟩, ⟨bkq BK363.out⟩, ⟨bkq BK364.out⟩, ⟨blq HB.out⟩⟩
        ·
         rw [if_neg c21] at H
         exact absurd H (by simp)
       ·
        rw [if_neg c20] at H
        exact absurd H (by simp)
      ·
       rw [if_neg c19] at H
       exact absurd H (by simp)
     ·
      replace c18 := Bool.eq_false_iff.mpr c18
      subst c18
      have H1 : (some (-1)) = some r := by rw [if_neg (show ¬ (false = true) by decide)] at H; exact H
      clear H
      have H := H1
      clear H1
      obtain rfl := Option.some.inj H
      go_wp2
      repeat (go_quiet (fail); try go_wp2)
      go_ret
      exact ⟨by first | rfl | (simp [errW_none, errW_some] <;> rfl) | (simp [*, errW_none, errW_some] <;> rfl), blq HB.out⟩

end Go.Proofs.Ytnlioefgpgamdaa.Q
