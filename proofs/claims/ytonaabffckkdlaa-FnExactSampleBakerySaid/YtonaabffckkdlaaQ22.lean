-- Written for this claim by wip/xprint.py of this repository (by way of the kit's print); Lean checks every line.
import Derived.Test.YtonaabffckkdlaaQ0
import Derived.Test.YtonaabffckkdlaaQ18
import Derived.Test.YtonaabffckkdlaaQ24
namespace Go.Proofs.Ytonaabffckkdlaa.Q
open Go.RowKit Go.Proofs.YtonaabffckkdlaaW.PrintWords Go.Proofs.YtonaabffckkdlaaW.PrintLast Go.Proofs.YtonaabffckkdlaaW.PrintMore
attribute [local go_sem] max2_int min2_int max_two min_two max_three min_three max_four min_four   -- for this text's walks alone
set_option linter.unusedVariables false
set_option linter.unusedSimpArgs false

/-! ### spec_OpenBakery: function 32 -/
def spec_OpenBakery.f (k : Nat) (l0 : List Int) (a1_0 : Int) (a1_1 : Int) (a1_2 : Int) (a2_0 : Int) (a2_1 : Int) (a3 : Int) : Option (List Int × Int × Int × Int × Int × Int × (List (S41)) × Int × Int × Int × Int × Int × Int × Int × Bool) := (some (([] : List Int) : List Int)).bind fun y771 => (if y771.length + l0.length < 17592186044416 then ((some (y771 ++ l0 : List Int)).bind fun y774 => ((spec_BakeryOk.f k y774 a1_0 a1_1 a1_2 a2_0 a2_1 ([] : List (S41)) 0 0 0 0 0 0 a3).bind fun t778 => (if t778 = true then (some (y774, a1_0, a1_1, a1_2, a2_0, a2_1, ([] : List (S41)), 0, 0, 0, 0, 0, 0, a3, true)) else (some (([] : List Int), 0, 0, 0, 0, 0, ([] : List (S41)), 0, 0, 0, 0, 0, 0, 0, false))))) else (none))
theorem spec_OpenBakery.mono : ∀ a0 a1 a2 a3 a4 a5 a6 k, LeO (spec_OpenBakery.f k a0 a1 a2 a3 a4 a5 a6) (spec_OpenBakery.f (k + 1) a0 a1 a2 a3 a4 a5 a6) := by
 intro a0 a1 a2 a3 a4 a5 a6 k
 unfold spec_OpenBakery.f
 repeat' first
   | (with_reducible exact spec_BakeryOk.mono _ _ _ _ _ _ _ _ _ _ _ _ _ _ _)
   | (with_reducible exact LeO.refl _)
   | (with_reducible exact LeO.none _)
   | (with_reducible refine LeO.ite ?_ ?_)
   | (with_reducible refine LeO.bind ?_ (fun _ => ?_))
   | exact spec_BakeryOk.mono _ _ _ _ _ _ _ _ _ _ _ _ _ _ _
   | exact LeO.none _
   | refine LeO.ite ?_ ?_
   | refine LeO.bind ?_ (fun _ => ?_)
def spec_OpenBakery.T1 : Bool × List (List Nat × List Nat) := (true, [([], []), ([], []), ([0, 1], [0, 1]), ([2], [2]), ([], []), ([], []), ([], []), ([3, 4, 5, 6], [3, 4, 5, 6]), ([], []), ([8, 7, 2, 0, 1, 2, 3, 4, 5, 6, 7, 8], [7, 8])])
def spec_OpenBakery.B1 : List Nat := [0, 0, 3, 7, 0, 0, 0, 127, 0, 511]
theorem spec_OpenBakery.tab1 : rtab .any (opsOf Try.f32 1) = spec_OpenBakery.T1 := by kernel_rfl
theorem spec_OpenBakery.bits1 : waitsOk spec_OpenBakery.T1.2 spec_OpenBakery.B1 = true := by kernel_rfl
set_option maxHeartbeats 8000000 in
set_option maxRecDepth 100000 in
theorem spec_OpenBakery.calls (k : Nat) (A0 : Option Addr) (c0 : Nat) (l0 : List Int) (a1_0 : Int) (a1_1 : Int) (a1_2 : Int) (a2_0 : Int) (a2_1 : Int) (a3 : Int) (r1 : List Int) (r2 : Int) (r3 : Int) (r4 : Int) (r5 : Int) (r6 : Int) (r7 : List (S41)) (r8 : Int) (r9 : Int) (r10 : Int) (r11 : Int) (r12 : Int) (r13 : Int) (r14 : Int) (r15 : Bool) (w : World) (hr0 : Kd.C (Kd.int .i64) w A0 l0.length l0) (hc0 : l0.length ≤ c0) (h : spec_OpenBakery.f k l0 a1_0 a1_1 a1_2 a2_0 a2_1 a3 = some (r1, r2, r3, r4, r5, r6, r7, r8, r9, r10, r11, r12, r13, r14, r15)) :
  Calls Try.prog 32 #[.slice A0 l0.length c0, .agg #[.int .i64 a1_0, .int .i64 a1_1, .int .i64 a1_2], .agg #[.int .i64 a2_0, .int .i64 a2_1], .int .i64 a3] w fun e w' => ∃ v0_ v6_ : Value, e = .returned (.tuple #[.agg #[v0_, .int .i64 r2, .int .i64 r3, .int .i64 r4, .int .i64 r5, .int .i64 r6, v6_, .int .i64 r8, .int .i64 r9, .int .i64 r10, .int .i64 r11, .int .i64 r12, .int .i64 r13, .int .i64 r14], .bool r15]) ∧ Kd.R (Kd.int .i64) 3 w' w.heap.size (fun _ => True) v0_ r1 ∧ Kd.R k41 41 w' w.heap.size (fun _ => True) v6_ r7 ∧ Below w.heap.size w w' := by
 have hu56 := Try.underlying56
 have hu57 := Try.underlying57
 have hu59 := Try.underlying59
 have hu55 := Try.underlying55
 have HR0 := Aside0.mk hr0
 have HC0 := Aside0.mk hc0
 clear hr0 hc0
 have HB := Aside0.mk (Below.refl w.heap.size w)
 have H : ((some (([] : List Int) : List Int)).bind fun y771 => (if y771.length + l0.length < 17592186044416 then ((some (y771 ++ l0 : List Int)).bind fun y774 => ((spec_BakeryOk.f k y774 a1_0 a1_1 a1_2 a2_0 a2_1 ([] : List (S41)) 0 0 0 0 0 0 a3).bind fun t778 => (if t778 = true then (some (y774, a1_0, a1_1, a1_2, a2_0, a2_1, ([] : List (S41)), 0, 0, 0, 0, 0, 0, a3, true)) else (some (([] : List Int), 0, 0, 0, 0, 0, ([] : List (S41)), 0, 0, 0, 0, 0, 0, 0, false))))) else (none))) = some (r1, r2, r3, r4, r5, r6, r7, r8, r9, r10, r11, r12, r13, r14, r15) := h
 clear h
 obtain ⟨y771, hy771⟩ : ∃ y_ : List Int, y_ = (([] : List Int)) := ⟨_, rfl⟩
 replace H : (if y771.length + l0.length < 17592186044416 then ((some (y771 ++ l0 : List Int)).bind fun y774 => ((spec_BakeryOk.f k y774 a1_0 a1_1 a1_2 a2_0 a2_1 ([] : List (S41)) 0 0 0 0 0 0 a3).bind fun t778 => (if t778 = true then (some (y774, a1_0, a1_1, a1_2, a2_0, a2_1, ([] : List (S41)), 0, 0, 0, 0, 0, 0, a3, true)) else (some (([] : List Int), 0, 0, 0, 0, 0, ([] : List (S41)), 0, 0, 0, 0, 0, 0, 0, false))))) else (none)) = some (r1, r2, r3, r4, r5, r6, r7, r8, r9, r10, r11, r12, r13, r14, r15) := by first | (rw [hy771]; with_reducible exact H) | (have H2_ := (Option.bind_some _ _).symm.trans H; rw [hy771]; with_reducible exact H2_) | (have H2_ := (Option.bind_some _ _).symm.trans H; with_reducible exact H2_) | with_reducible exact H | (rw [hy771]; exact H) | exact H
 have Ny771 := Aside0.mk hy771
 clear hy771
 by_cases c5 : y771.length + l0.length < 17592186044416
 ·
  rw [if_pos c5] at H
  have LMc5 := Aside0.mk c5
  clear c5
  obtain ⟨y774, hy774⟩ : ∃ y_ : List Int, y_ = (y771 ++ l0) := ⟨_, rfl⟩
  replace H : ((spec_BakeryOk.f k y774 a1_0 a1_1 a1_2 a2_0 a2_1 ([] : List (S41)) 0 0 0 0 0 0 a3).bind fun t778 => (if t778 = true then (some (y774, a1_0, a1_1, a1_2, a2_0, a2_1, ([] : List (S41)), 0, 0, 0, 0, 0, 0, a3, true)) else (some (([] : List Int), 0, 0, 0, 0, 0, ([] : List (S41)), 0, 0, 0, 0, 0, 0, 0, false)))) = some (r1, r2, r3, r4, r5, r6, r7, r8, r9, r10, r11, r12, r13, r14, r15) := by first | (rw [hy774]; with_reducible exact H) | (have H2_ := (Option.bind_some _ _).symm.trans H; rw [hy774]; with_reducible exact H2_) | (have H2_ := (Option.bind_some _ _).symm.trans H; with_reducible exact H2_) | with_reducible exact H | (rw [hy774]; exact H) | exact H
  have Ny774 := Aside0.mk hy774
  clear hy774
  replace H := Option.bind_eq_some_iff.mp H
  obtain ⟨t778, A60, H⟩ := H
  replace H : (if t778 = true then (some (y774, a1_0, a1_1, a1_2, a2_0, a2_1, ([] : List (S41)), 0, 0, 0, 0, 0, 0, a3, true)) else (some (([] : List Int), 0, 0, 0, 0, 0, ([] : List (S41)), 0, 0, 0, 0, 0, 0, 0, false))) = some (r1, r2, r3, r4, r5, r6, r7, r8, r9, r10, r11, r12, r13, r14, r15) := H
  have A6 := Aside0.mk A60
  clear A60
  have HF7 := Aside0.mk H
  clear H
  go_enter Try.func32, Try.ntmps32
  try go_wp2_with (first | ((with_reducible refine gate_dst (N := 5) rfl ?_); refine box_event ?hg (N := 5) ?hd (cs := #[.int .i64 a1_0, .int .i64 a1_1, .int .i64 a1_2]) (t := 56) ?hr ?_; (case hd => rfl); (case hg => rfl); (case hr => first | (go_simp; done) | (go_simp; rfl)); intro gb768 hg w8 hbox hb; have BK768 := Aside0.mk (hbox); have GW768 := sQ hg HB; have GE768 := sQ hg HB; replace HB := hbs HB hb; clear hb hbox hg) | ((with_reducible refine gate_dst (N := 6) rfl ?_); refine box_event ?hg (N := 6) ?hd (cs := #[.int .i64 a2_0, .int .i64 a2_1]) (t := 57) ?hr ?_; (case hd => rfl); (case hg => rfl); (case hr => first | (go_simp; done) | (go_simp; rfl)); intro gb769 hg w9 hbox hb; have BK769 := Aside0.mk (hbox); have GW769 := sQ hg HB; have GE769 := sQ hg HB; have NB768_769 := qL hg BK768; have NB769_768 := qG hg BK768; replace BK768 := bkb BK768 hb; replace HB := hbs HB hb; clear hb hbox hg) | ((with_reducible refine gate_dst (N := 8) rfl ?_); refine box_event ?hg (N := 8) ?hd (cs := #[.slice none 0 0, .int .i64 0, .int .i64 0, .int .i64 0, .int .i64 0, .int .i64 0, .slice none 0 0, .int .i64 0, .int .i64 0, .int .i64 0, .int .i64 0, .int .i64 0, .int .i64 0, .int .i64 0]) (t := 59) ?hr ?_; (case hd => rfl); (case hg => rfl); (case hr => first | (go_simp; done) | (go_simp; rfl)); intro gb770 hg w10 hbox hb; have BK770 := Aside0.mk (hbox); have GW770 := sQ hg HB; have GE770 := sQ hg HB; have NB768_770 := qL hg BK768; have NB770_768 := qG hg BK768; have NB769_770 := qL hg BK769; have NB770_769 := qG hg BK769; replace BK768 := bkb BK768 hb; replace BK769 := bkb BK769 hb; replace HB := hbs HB hb; clear hb hbox hg))
  replace BK768 := Aside0.mk (blk_drew BK768.out)
  replace BK769 := Aside0.mk (blk_drew BK769.out)
  replace BK770 := Aside0.mk (blk_drew BK770.out)
  replace HB := Aside0.mk (below_drew1 HB.out)
  refine start_ (n := 10) (S := fun w' => w'.cell? ⟨gb768, 0, none⟩ = some (.int .i64 a1_0) ∧ w'.cell? ⟨gb768, 1, none⟩ = some (.int .i64 a1_1) ∧ w'.cell? ⟨gb768, 2, none⟩ = some (.int .i64 a1_2) ∧ w'.cell? ⟨gb769, 0, none⟩ = some (.int .i64 a2_0) ∧ w'.cell? ⟨gb769, 1, none⟩ = some (.int .i64 a2_1)) (ds := []) #[false, false, false, false, false, false, false, false, false, false] (by kernel_rfl) rfl rfl ⟨(blk_cell BK768.out 0).trans rfl, (blk_cell BK768.out 1).trans rfl, (blk_cell BK768.out 2).trans rfl, (blk_cell BK769.out 0).trans rfl, (blk_cell BK769.out 1).trans rfl⟩ (fun hHeld => ?_); refine with_tabW spec_OpenBakery.tab1 spec_OpenBakery.bits1 (fun HT_ HW_ => ?_)
  generalize w10.drew = w11 at BK768 BK769 BK770 HB hHeld ⊢
  refine pure_ (i := 1) (N := some 12) (v := ?_) (a' := ?_) #[false, true, false, false, false, false, false, false, false, false] rfl rfl (any_of HT_.out (by kernel_rfl)) (fun _ _ _ h => h) (Or.inl ⟨by rfl, ?_⟩) ?_ ?_
  rotate_left
  ·
   intro w'
   go_simp
   with_reducible rfl
  rotate_left
  ·
   simp only [Act.put, List.setIfInBounds_toArray, List.set_cons_zero, List.set_cons_succ, i64_w, i32_w]
   rfl
  refine pure_ (i := 6) (N := some 17) (v := ?_) (a' := ?_) #[false, true, false, false, false, false, true, false, false, false] rfl rfl (any_of HT_.out (by kernel_rfl)) (fun _ _ _ h => h) (Or.inl ⟨by rfl, ?_⟩) ?_ ?_
  rotate_left
  ·
   intro w'
   go_simp
   with_reducible rfl
  rotate_left
  ·
   simp only [Act.put, List.setIfInBounds_toArray, List.set_cons_zero, List.set_cons_succ, i64_w, i32_w]
   rfl
  refine take_ (i := 4) (N := some 15) (v := ?_) (a' := ?_) #[false, true, false, false, true, false, true, false, false, false] rfl rfl (take_ofW HT_.out HW_.out (by kernel_rfl)) (fun _ _ _ h => h) (Or.inl ⟨by rfl, ?_⟩) hHeld ?_ ?_
  rotate_left
  ·
   rintro w' ⟨s0, s1, s2, s3, s4⟩
   go_simp
   with_reducible rfl
  rotate_left
  ·
   simp only [Act.put, List.setIfInBounds_toArray, List.set_cons_zero, List.set_cons_succ, i64_w, i32_w]
   rfl
  refine take_ (i := 5) (N := some 16) (v := ?_) (a' := ?_) #[false, true, false, false, true, true, true, false, false, false] rfl rfl (take_ofW HT_.out HW_.out (by kernel_rfl)) (fun _ _ _ h => h) (Or.inl ⟨by rfl, ?_⟩) hHeld ?_ ?_
  rotate_left
  ·
   rintro w' ⟨s0, s1, s2, s3, s4⟩
   go_simp
   with_reducible rfl
  rotate_left
  ·
   simp only [Act.put, List.setIfInBounds_toArray, List.set_cons_zero, List.set_cons_succ, i64_w, i32_w]
   rfl
  refine join_ (σ := Value × Value × Nat) 1 #[true, true, true, true, true, true, true, true, true, false] (fun s_ => [(11, s_.1), (13, s_.2.1), (10, .pointer (some ⟨s_.2.2, 0, none⟩)), (14, .agg #[s_.2.1]), (18, .agg #[s_.2.1, .int .i64 a1_0, .int .i64 a1_1, .int .i64 a1_2, .int .i64 a2_0, .int .i64 a2_1, .slice none 0 0, .int .i64 0, .int .i64 0, .int .i64 0, .int .i64 0, .int .i64 0, .int .i64 0, .int .i64 a3])]) (fun s_ w' => (w'.cell? ⟨gb768, 0, none⟩ = some (.int .i64 a1_0) ∧ w'.cell? ⟨gb768, 1, none⟩ = some (.int .i64 a1_1) ∧ w'.cell? ⟨gb768, 2, none⟩ = some (.int .i64 a1_2) ∧ w'.cell? ⟨gb769, 0, none⟩ = some (.int .i64 a2_0) ∧ w'.cell? ⟨gb769, 1, none⟩ = some (.int .i64 a2_1)) ∧ (Kd.R (Kd.int .i64) 3 w' w.heap.size (fun _ => True) s_.2.1 y774) ∧ (w'.heap[gb768]? = some (.cells #[.int .i64 a1_0, .int .i64 a1_1, .int .i64 a1_2] 56 (0, 0))) ∧ (w'.heap[gb769]? = some (.cells #[.int .i64 a2_0, .int .i64 a2_1] 57 (0, 0))) ∧ (w'.heap[gb770]? = some (.cells #[.slice none 0 0, .int .i64 0, .int .i64 0, .int .i64 0, .int .i64 0, .int .i64 0, .slice none 0 0, .int .i64 0, .int .i64 0, .int .i64 0, .int .i64 0, .int .i64 0, .int .i64 0, .int .i64 0] 59 (0, 0))) ∧ (w'.heap[s_.2.2]? = some (.cells #[.slice none 0 0, .int .i64 0, .int .i64 0, .int .i64 0, .int .i64 0, .int .i64 0, .slice none 0 0, .int .i64 0, .int .i64 0, .int .i64 0, .int .i64 0, .int .i64 0, .int .i64 0, .int .i64 0] 59 (0, 0))) ∧ (w.heap.size ≤ s_.2.2) ∧ (w.heap.size ≤ s_.2.2) ∧ (gb768 ≠ s_.2.2) ∧ (s_.2.2 ≠ gb768) ∧ (gb769 ≠ s_.2.2) ∧ (s_.2.2 ≠ gb769) ∧ (gb770 ≠ s_.2.2) ∧ (s_.2.2 ≠ gb770) ∧ (Below w.heap.size w w')) ?_ ?_
  rotate_left
  ·
   intro hCont
   refine two_ (i := 0) (j := 8) (Ni := some 11) (Nj := some 10) #[true, true, false, false, true, true, true, false, false, false] #[false, true, false, false, true, true, true, false, true, false] rfl rfl rfl rfl (two_of HT_.out (by kernel_rfl)) (by decide) (by decide) (fun K hK => ?_) (fun K hK => ?_)
   ·
    skip
    refine Kd.R_lit_step (Kd.int .i64) _ 3 ?hg (N := 11) ?hd (xs := ([] : List Int)) (inner := []) (ok := fun _ => True) (okp := fun _ => True) ?hr ?hp (fun _ hk => hk) trivial (Below.refl _ _) (Nat.le_refl _) (by simp) ?_; (case hd => rfl); (case hg => rfl); (case hr => first | (go_simp; done) | (go_simp; rfl)); (case hp => exact (Reps.none _ _))
    intro v772 w12 ho13 hb hg_ hnew_
    clear hg_ hnew_
    (first | rw [← Ny771.out] at ho13 | (simp only [Int.reduceToNat] at ho13; rw [← Ny771.out] at ho13))
    have HO773 := Aside0.mk (Kd.R_lower ho13 (below_size (blq HB.out)))
    replace BK768 := bkb BK768 hb
    replace BK769 := bkb BK769 hb
    replace BK770 := bkb BK770 hb
    replace HB := hbs HB hb
    clear hb ho13
    refine hK.out _ _ ⟨(blk_cell BK768.out 0).trans rfl, (blk_cell BK768.out 1).trans rfl, (blk_cell BK768.out 2).trans rfl, (blk_cell BK769.out 0).trans rfl, (blk_cell BK769.out 1).trans rfl⟩ (fun hHeld => ?_)
    clear hK K
    refine norm_ (a' := ?_) ?_ ?_
    rotate_left
    ·
     show Act.put _ (some 11) _ = _
     simp only [Act.put, List.setIfInBounds_toArray, List.set_cons_zero, List.set_cons_succ, i64_w, i32_w]
     rfl
    refine two_ (i := 2) (j := 8) (Ni := some 13) (Nj := some 10) #[true, true, true, false, true, true, true, false, false, false] #[true, true, false, false, true, true, true, false, true, false] rfl rfl rfl rfl (two_of HT_.out (by kernel_rfl)) (by decide) (by decide) (fun K hK => ?_) (fun K hK => ?_)
    ·
     skip
     refine Kd.R_append_rows_step (Kd.int .i64) (w0 := w) w.heap.size (by rfl) (.tmp 11) (.tmp 12) 44 3 (.int .i64 0) 8 rfl Try.underlying44 info3 rfl (by decide) (by omega) v772 y771 l0 _ _ _ (fun _ => True) (fun _ => False) rfl rfl ?aO ?aR (fun _ _ h => h) (fun _ h => h.elim) ?aF ?aB ?aS ?aL ?_
     (case aR => repeat (first | exact (Kd.C_below HR0.out HB.out) | (with_reducible refine Kd.C_alloc ?_ _) | (with_reducible refine Kd.C_drewN ?_ _) | (with_reducible refine Kd.C_drew ?_)))
     (case aB => exact (blq HB.out))
     (case aF => exact (fun _ _ => trivial))
     (case aO => exact (Kd.Rq HO773.out))
     (case aS => exact (below_size (blq HB.out)))
     (case aL => have := LMc5.out; omega)
     intro v775 w14 ho hb hg hat
     rw [← Ny774.out] at ho
     have HO776 := Aside0.mk (ho)
     replace BK768 := Aside0.mk (blk_grown (bkq BK768.out) hg (Kd.R_ne HO773.out BK768.out (by decide)))
     replace BK769 := Aside0.mk (blk_grown (bkq BK769.out) hg (Kd.R_ne HO773.out BK769.out (by decide)))
     replace BK770 := Aside0.mk (blk_grown (bkq BK770.out) hg (Kd.R_ne HO773.out BK770.out (by decide)))
     replace HB := Aside0.mk (hb)
     clear HO773
     clear ho hb hg hat
     obtain ⟨Ao15, co15, eo15⟩ := Kd.R_slice HO776.out
     (first | subst eo15 | (injection eo15 with f1_ f2_ f3_; have f4_ := f1_.symm; have f5_ := f3_.symm; clear f1_ f2_ f3_; subst f4_; subst f5_))
     refine hK.out _ _ ⟨(blk_cell BK768.out 0).trans rfl, (blk_cell BK768.out 1).trans rfl, (blk_cell BK768.out 2).trans rfl, (blk_cell BK769.out 0).trans rfl, (blk_cell BK769.out 1).trans rfl⟩ (fun hHeld => ?_)
     clear hK K
     refine norm_ (a' := ?_) ?_ ?_
     rotate_left
     ·
      show Act.put _ (some 13) _ = _
      simp only [Act.put, List.setIfInBounds_toArray, List.set_cons_zero, List.set_cons_succ, i64_w, i32_w]
      rfl
     refine pure_ (i := 3) (N := some 14) (v := ?_) (a' := ?_) #[true, true, true, true, true, true, true, false, false, false] rfl rfl (any_of HT_.out (by kernel_rfl)) (fun _ _ _ h => h) (Or.inl ⟨by rfl, ?_⟩) ?_ ?_
     rotate_left
     ·
      intro w'
      go_simp
      with_reducible rfl
     rotate_left
     ·
      simp only [Act.put, List.setIfInBounds_toArray, List.set_cons_zero, List.set_cons_succ, i64_w, i32_w]
      rfl
     refine pure_ (i := 7) (N := some 18) (v := ?_) (a' := ?_) #[true, true, true, true, true, true, true, true, false, false] rfl rfl (any_of HT_.out (by kernel_rfl)) (fun _ _ _ h => h) (Or.inl ⟨by rfl, ?_⟩) ?_ ?_
     rotate_left
     ·
      intro w'
      go_simp
      with_reducible rfl
     rotate_left
     ·
      simp only [Act.put, List.setIfInBounds_toArray, List.set_cons_zero, List.set_cons_succ, i64_w, i32_w]
      rfl
     refine one_ (i := 8) (N := some 10) #[true, true, true, true, true, true, true, true, true, false] rfl rfl (one_of HT_.out (by kernel_rfl)) (by decide) (fun K hK => ?_)
     refine box_step ?hg (N := 10) ?hd (cs := #[.slice none 0 0, .int .i64 0, .int .i64 0, .int .i64 0, .int .i64 0, .int .i64 0, .slice none 0 0, .int .i64 0, .int .i64 0, .int .i64 0, .int .i64 0, .int .i64 0, .int .i64 0, .int .i64 0]) (t := 59) ?hr ?_; (case hd => rfl); (case hg => rfl); (case hr => first | (go_simp; done) | (go_simp; rfl))
     intro gb777 hg w16 hbox hb
     have BK777 := Aside0.mk (hbox)
     have GW777 := sQ hg HB
     have GE777 := sQ hg HB
     have NB768_777 := qL hg BK768
     have NB777_768 := qG hg BK768
     have NB769_777 := qL hg BK769
     have NB777_769 := qG hg BK769
     have NB770_777 := qL hg BK770
     have NB777_770 := qG hg BK770
     replace HO776 := rob HO776 hb
     replace BK768 := bkb BK768 hb
     replace BK769 := bkb BK769 hb
     replace BK770 := bkb BK770 hb
     replace HB := hbs HB hb
     clear hb hbox hg
     refine hK.out _ _ ⟨(blk_cell BK768.out 0).trans rfl, (blk_cell BK768.out 1).trans rfl, (blk_cell BK768.out 2).trans rfl, (blk_cell BK769.out 0).trans rfl, (blk_cell BK769.out 1).trans rfl⟩ (fun hHeld => ?_)
     clear hK K
     refine norm_ (a' := ?_) ?_ ?_
     rotate_left
     ·
      show Act.put _ (some 10) _ = _
      simp only [Act.put, List.setIfInBounds_toArray, List.set_cons_zero, List.set_cons_succ, i64_w, i32_w]
      rfl
     exact norm_ (by simp only [putAll, Act.put, List.setIfInBounds_toArray, List.set_cons_zero, List.set_cons_succ]) (hCont (v772, .slice Ao15 y774.length co15, gb777) _ ⟨hHeld, (Kd.Rq HO776.out), (bkq BK768.out), (bkq BK769.out), (bkq BK770.out), (bkq BK777.out), GW777.out, GE777.out, NB768_777.out, NB777_768.out, NB769_777.out, NB777_769.out, NB770_777.out, NB777_770.out, (blq HB.out)⟩)
    ·
     skip
     refine box_step ?hg (N := 10) ?hd (cs := #[.slice none 0 0, .int .i64 0, .int .i64 0, .int .i64 0, .int .i64 0, .int .i64 0, .slice none 0 0, .int .i64 0, .int .i64 0, .int .i64 0, .int .i64 0, .int .i64 0, .int .i64 0, .int .i64 0]) (t := 59) ?hr ?_; (case hd => rfl); (case hg => rfl); (case hr => first | (go_simp; done) | (go_simp; rfl))
     intro gb777 hg w14 hbox hb
     have BK777 := Aside0.mk (hbox)
     have GW777 := sQ hg HB
     have GE777 := sQ hg HB
     have NB768_777 := qL hg BK768
     have NB777_768 := qG hg BK768
     have NB769_777 := qL hg BK769
     have NB777_769 := qG hg BK769
     have NB770_777 := qL hg BK770
     have NB777_770 := qG hg BK770
     replace HO773 := rob HO773 hb
     replace BK768 := bkb BK768 hb
     replace BK769 := bkb BK769 hb
     replace BK770 := bkb BK770 hb
     replace HB := hbs HB hb
     clear hb hbox hg
     refine hK.out _ _ ⟨(blk_cell BK768.out 0).trans rfl, (blk_cell BK768.out 1).trans rfl, (blk_cell BK768.out 2).trans rfl, (blk_cell BK769.out 0).trans rfl, (blk_cell BK769.out 1).trans rfl⟩ (fun hHeld => ?_)
     clear hK K
     refine norm_ (a' := ?_) ?_ ?_
     rotate_left
     ·
      show Act.put _ (some 10) _ = _
      simp only [Act.put, List.setIfInBounds_toArray, List.set_cons_zero, List.set_cons_succ, i64_w, i32_w]
      rfl
     refine one_ (i := 2) (N := some 13) #[true, true, true, false, true, true, true, false, true, false] rfl rfl (one_of HT_.out (by kernel_rfl)) (by decide) (fun K hK => ?_)
     refine Kd.R_append_rows_step (Kd.int .i64) (w0 := w) w.heap.size (by rfl) (.tmp 11) (.tmp 12) 44 3 (.int .i64 0) 8 rfl Try.underlying44 info3 rfl (by decide) (by omega) v772 y771 l0 _ _ _ (fun _ => True) (fun _ => False) rfl rfl ?aO ?aR (fun _ _ h => h) (fun _ h => h.elim) ?aF ?aB ?aS ?aL ?_
     (case aR => repeat (first | exact (Kd.C_below HR0.out HB.out) | (with_reducible refine Kd.C_alloc ?_ _) | (with_reducible refine Kd.C_drewN ?_ _) | (with_reducible refine Kd.C_drew ?_)))
     (case aB => exact (blq HB.out))
     (case aF => exact (fun _ _ => trivial))
     (case aO => exact (Kd.Rq HO773.out))
     (case aS => exact (below_size (blq HB.out)))
     (case aL => have := LMc5.out; omega)
     intro v775 w15 ho hb hg hat
     rw [← Ny774.out] at ho
     have HO776 := Aside0.mk (ho)
     replace BK768 := Aside0.mk (blk_grown (bkq BK768.out) hg (Kd.R_ne HO773.out BK768.out (by decide)))
     replace BK769 := Aside0.mk (blk_grown (bkq BK769.out) hg (Kd.R_ne HO773.out BK769.out (by decide)))
     replace BK770 := Aside0.mk (blk_grown (bkq BK770.out) hg (Kd.R_ne HO773.out BK770.out (by decide)))
     replace BK777 := Aside0.mk (blk_grown (bkq BK777.out) hg (Kd.R_ne HO773.out BK777.out (by decide)))
     replace HB := Aside0.mk (hb)
     clear HO773
     clear ho hb hg hat
     obtain ⟨Ao16, co16, eo16⟩ := Kd.R_slice HO776.out
     (first | subst eo16 | (injection eo16 with f1_ f2_ f3_; have f4_ := f1_.symm; have f5_ := f3_.symm; clear f1_ f2_ f3_; subst f4_; subst f5_))
     refine hK.out _ _ ⟨(blk_cell BK768.out 0).trans rfl, (blk_cell BK768.out 1).trans rfl, (blk_cell BK768.out 2).trans rfl, (blk_cell BK769.out 0).trans rfl, (blk_cell BK769.out 1).trans rfl⟩ (fun hHeld => ?_)
     clear hK K
     refine norm_ (a' := ?_) ?_ ?_
     rotate_left
     ·
      show Act.put _ (some 13) _ = _
      simp only [Act.put, List.setIfInBounds_toArray, List.set_cons_zero, List.set_cons_succ, i64_w, i32_w]
      rfl
     refine pure_ (i := 3) (N := some 14) (v := ?_) (a' := ?_) #[true, true, true, true, true, true, true, false, true, false] rfl rfl (any_of HT_.out (by kernel_rfl)) (fun _ _ _ h => h) (Or.inl ⟨by rfl, ?_⟩) ?_ ?_
     rotate_left
     ·
      intro w'
      go_simp
      with_reducible rfl
     rotate_left
     ·
      simp only [Act.put, List.setIfInBounds_toArray, List.set_cons_zero, List.set_cons_succ, i64_w, i32_w]
      rfl
     refine pure_ (i := 7) (N := some 18) (v := ?_) (a' := ?_) #[true, true, true, true, true, true, true, true, true, false] rfl rfl (any_of HT_.out (by kernel_rfl)) (fun _ _ _ h => h) (Or.inl ⟨by rfl, ?_⟩) ?_ ?_
     rotate_left
     ·
      intro w'
      go_simp
      with_reducible rfl
     rotate_left
     ·
      simp only [Act.put, List.setIfInBounds_toArray, List.set_cons_zero, List.set_cons_succ, i64_w, i32_w]
      rfl
     exact norm_ (by simp only [putAll, Act.put, List.setIfInBounds_toArray, List.set_cons_zero, List.set_cons_succ]) (hCont (v772, .slice Ao16 y774.length co16, gb777) _ ⟨hHeld, (Kd.Rq HO776.out), (bkq BK768.out), (bkq BK769.out), (bkq BK770.out), (bkq BK777.out), GW777.out, GE777.out, NB768_777.out, NB777_768.out, NB769_777.out, NB777_769.out, NB770_777.out, NB777_770.out, (blq HB.out)⟩)
   ·
    skip
    refine box_step ?hg (N := 10) ?hd (cs := #[.slice none 0 0, .int .i64 0, .int .i64 0, .int .i64 0, .int .i64 0, .int .i64 0, .slice none 0 0, .int .i64 0, .int .i64 0, .int .i64 0, .int .i64 0, .int .i64 0, .int .i64 0, .int .i64 0]) (t := 59) ?hr ?_; (case hd => rfl); (case hg => rfl); (case hr => first | (go_simp; done) | (go_simp; rfl))
    intro gb777 hg w12 hbox hb
    have BK777 := Aside0.mk (hbox)
    have GW777 := sQ hg HB
    have GE777 := sQ hg HB
    have NB768_777 := qL hg BK768
    have NB777_768 := qG hg BK768
    have NB769_777 := qL hg BK769
    have NB777_769 := qG hg BK769
    have NB770_777 := qL hg BK770
    have NB777_770 := qG hg BK770
    replace BK768 := bkb BK768 hb
    replace BK769 := bkb BK769 hb
    replace BK770 := bkb BK770 hb
    replace HB := hbs HB hb
    clear hb hbox hg
    refine hK.out _ _ ⟨(blk_cell BK768.out 0).trans rfl, (blk_cell BK768.out 1).trans rfl, (blk_cell BK768.out 2).trans rfl, (blk_cell BK769.out 0).trans rfl, (blk_cell BK769.out 1).trans rfl⟩ (fun hHeld => ?_)
    clear hK K
    refine norm_ (a' := ?_) ?_ ?_
    rotate_left
    ·
     show Act.put _ (some 10) _ = _
     simp only [Act.put, List.setIfInBounds_toArray, List.set_cons_zero, List.set_cons_succ, i64_w, i32_w]
     rfl
    refine one_ (i := 0) (N := some 11) #[true, true, false, false, true, true, true, false, true, false] rfl rfl (one_of HT_.out (by kernel_rfl)) (by decide) (fun K hK => ?_)
    refine Kd.R_lit_step (Kd.int .i64) _ 3 ?hg (N := 11) ?hd (xs := ([] : List Int)) (inner := []) (ok := fun _ => True) (okp := fun _ => True) ?hr ?hp (fun _ hk => hk) trivial (Below.refl _ _) (Nat.le_refl _) (by simp) ?_; (case hd => rfl); (case hg => rfl); (case hr => first | (go_simp; done) | (go_simp; rfl)); (case hp => exact (Reps.none _ _))
    intro v772 w13 ho14 hb hg_ hnew_
    clear hg_ hnew_
    (first | rw [← Ny771.out] at ho14 | (simp only [Int.reduceToNat] at ho14; rw [← Ny771.out] at ho14))
    have HO773 := Aside0.mk (Kd.R_lower ho14 (below_size (blq HB.out)))
    replace BK768 := bkb BK768 hb
    replace BK769 := bkb BK769 hb
    replace BK770 := bkb BK770 hb
    replace BK777 := bkb BK777 hb
    replace HB := hbs HB hb
    clear hb ho14
    refine hK.out _ _ ⟨(blk_cell BK768.out 0).trans rfl, (blk_cell BK768.out 1).trans rfl, (blk_cell BK768.out 2).trans rfl, (blk_cell BK769.out 0).trans rfl, (blk_cell BK769.out 1).trans rfl⟩ (fun hHeld => ?_)
    clear hK K
    refine norm_ (a' := ?_) ?_ ?_
    rotate_left
    ·
     show Act.put _ (some 11) _ = _
     simp only [Act.put, List.setIfInBounds_toArray, List.set_cons_zero, List.set_cons_succ, i64_w, i32_w]
     rfl
    refine one_ (i := 2) (N := some 13) #[true, true, true, false, true, true, true, false, true, false] rfl rfl (one_of HT_.out (by kernel_rfl)) (by decide) (fun K hK => ?_)
    refine Kd.R_append_rows_step (Kd.int .i64) (w0 := w) w.heap.size (by rfl) (.tmp 11) (.tmp 12) 44 3 (.int .i64 0) 8 rfl Try.underlying44 info3 rfl (by decide) (by omega) v772 y771 l0 _ _ _ (fun _ => True) (fun _ => False) rfl rfl ?aO ?aR (fun _ _ h => h) (fun _ h => h.elim) ?aF ?aB ?aS ?aL ?_
    (case aR => repeat (first | exact (Kd.C_below HR0.out HB.out) | (with_reducible refine Kd.C_alloc ?_ _) | (with_reducible refine Kd.C_drewN ?_ _) | (with_reducible refine Kd.C_drew ?_)))
    (case aB => exact (blq HB.out))
    (case aF => exact (fun _ _ => trivial))
    (case aO => exact (Kd.Rq HO773.out))
    (case aS => exact (below_size (blq HB.out)))
    (case aL => have := LMc5.out; omega)
    intro v775 w15 ho hb hg hat
    rw [← Ny774.out] at ho
    have HO776 := Aside0.mk (ho)
    replace BK768 := Aside0.mk (blk_grown (bkq BK768.out) hg (Kd.R_ne HO773.out BK768.out (by decide)))
    replace BK769 := Aside0.mk (blk_grown (bkq BK769.out) hg (Kd.R_ne HO773.out BK769.out (by decide)))
    replace BK770 := Aside0.mk (blk_grown (bkq BK770.out) hg (Kd.R_ne HO773.out BK770.out (by decide)))
    replace BK777 := Aside0.mk (blk_grown (bkq BK777.out) hg (Kd.R_ne HO773.out BK777.out (by decide)))
    replace HB := Aside0.mk (hb)
    clear HO773
    clear ho hb hg hat
    obtain ⟨Ao16, co16, eo16⟩ := Kd.R_slice HO776.out
    (first | subst eo16 | (injection eo16 with f1_ f2_ f3_; have f4_ := f1_.symm; have f5_ := f3_.symm; clear f1_ f2_ f3_; subst f4_; subst f5_))
    refine hK.out _ _ ⟨(blk_cell BK768.out 0).trans rfl, (blk_cell BK768.out 1).trans rfl, (blk_cell BK768.out 2).trans rfl, (blk_cell BK769.out 0).trans rfl, (blk_cell BK769.out 1).trans rfl⟩ (fun hHeld => ?_)
    clear hK K
    refine norm_ (a' := ?_) ?_ ?_
    rotate_left
    ·
     show Act.put _ (some 13) _ = _
     simp only [Act.put, List.setIfInBounds_toArray, List.set_cons_zero, List.set_cons_succ, i64_w, i32_w]
     rfl
    refine pure_ (i := 3) (N := some 14) (v := ?_) (a' := ?_) #[true, true, true, true, true, true, true, false, true, false] rfl rfl (any_of HT_.out (by kernel_rfl)) (fun _ _ _ h => h) (Or.inl ⟨by rfl, ?_⟩) ?_ ?_
    rotate_left
    ·
     intro w'
     go_simp
     with_reducible rfl
    rotate_left
    ·
     simp only [Act.put, List.setIfInBounds_toArray, List.set_cons_zero, List.set_cons_succ, i64_w, i32_w]
     rfl
    refine pure_ (i := 7) (N := some 18) (v := ?_) (a' := ?_) #[true, true, true, true, true, true, true, true, true, false] rfl rfl (any_of HT_.out (by kernel_rfl)) (fun _ _ _ h => h) (Or.inl ⟨by rfl, ?_⟩) ?_ ?_
    rotate_left
    ·
     intro w'
     go_simp
     with_reducible rfl
    rotate_left
    ·
     simp only [Act.put, List.setIfInBounds_toArray, List.set_cons_zero, List.set_cons_succ, i64_w, i32_w]
     rfl
    exact norm_ (by simp only [putAll, Act.put, List.setIfInBounds_toArray, List.set_cons_zero, List.set_cons_succ]) (hCont (v772, .slice Ao16 y774.length co16, gb777) _ ⟨hHeld, (Kd.Rq HO776.out), (bkq BK768.out), (bkq BK769.out), (bkq BK770.out), (bkq BK777.out), GW777.out, GE777.out, NB768_777.out, NB777_768.out, NB769_777.out, NB777_769.out, NB770_777.out, NB777_770.out, (blq HB.out)⟩)
  rintro ⟨v772, v775, gb777⟩ w17 ⟨hS_, h0_, h1_, h2_, h3_, h4_, h5_, h6_, h7_, h8_, h9_, h10_, h11_, h12_, h13_⟩
  have n0_ : Aside0 (Kd.R (Kd.int .i64) 3 w17 w.heap.size (fun _ => True) v775 y774) := ⟨h0_⟩
  have n1_ : Aside0 (w17.heap[gb768]? = some (.cells #[.int .i64 a1_0, .int .i64 a1_1, .int .i64 a1_2] 56 (0, 0))) := ⟨h1_⟩
  have n2_ : Aside0 (w17.heap[gb769]? = some (.cells #[.int .i64 a2_0, .int .i64 a2_1] 57 (0, 0))) := ⟨h2_⟩
  have n3_ : Aside0 (w17.heap[gb770]? = some (.cells #[.slice none 0 0, .int .i64 0, .int .i64 0, .int .i64 0, .int .i64 0, .int .i64 0, .slice none 0 0, .int .i64 0, .int .i64 0, .int .i64 0, .int .i64 0, .int .i64 0, .int .i64 0, .int .i64 0] 59 (0, 0))) := ⟨h3_⟩
  have n4_ : Aside0 (w17.heap[gb777]? = some (.cells #[.slice none 0 0, .int .i64 0, .int .i64 0, .int .i64 0, .int .i64 0, .int .i64 0, .slice none 0 0, .int .i64 0, .int .i64 0, .int .i64 0, .int .i64 0, .int .i64 0, .int .i64 0, .int .i64 0] 59 (0, 0))) := ⟨h4_⟩
  have n5_ : Aside0 (w.heap.size ≤ gb777) := ⟨h5_⟩
  have n6_ : Aside0 (w.heap.size ≤ gb777) := ⟨h6_⟩
  have n7_ : Aside0 (gb768 ≠ gb777) := ⟨h7_⟩
  have n8_ : Aside0 (gb777 ≠ gb768) := ⟨h8_⟩
  have n9_ : Aside0 (gb769 ≠ gb777) := ⟨h9_⟩
  have n10_ : Aside0 (gb777 ≠ gb769) := ⟨h10_⟩
  have n11_ : Aside0 (gb770 ≠ gb777) := ⟨h11_⟩
  have n12_ : Aside0 (gb777 ≠ gb770) := ⟨h12_⟩
  have n13_ : Aside0 (Below w.heap.size w w17) := ⟨h13_⟩
  clear BK768
  clear BK769
  clear BK770
  clear HB
  clear h0_ h1_ h2_ h3_ h4_ h5_ h6_ h7_ h8_ h9_ h10_ h11_ h12_ h13_
  have HO776 := n0_
  have BK768 := n1_
  have BK769 := n2_
  have BK770 := n3_
  have BK777 := n4_
  have GW777 := n5_
  have GE777 := n6_
  have NB768_777 := n7_
  have NB777_768 := n8_
  have NB769_777 := n9_
  have NB777_769 := n10_
  have NB770_777 := n11_
  have NB777_770 := n12_
  have HB := n13_
  clear n0_ n1_ n2_ n3_ n4_ n5_ n6_ n7_ n8_ n9_ n10_ n11_ n12_ n13_
  have hHeld : w17.cell? ⟨gb768, 0, none⟩ = some (.int .i64 a1_0) ∧ w17.cell? ⟨gb768, 1, none⟩ = some (.int .i64 a1_1) ∧ w17.cell? ⟨gb768, 2, none⟩ = some (.int .i64 a1_2) ∧ w17.cell? ⟨gb769, 0, none⟩ = some (.int .i64 a2_0) ∧ w17.cell? ⟨gb769, 1, none⟩ = some (.int .i64 a2_1) := hS_
  obtain ⟨Ao18, co18, eo18⟩ := Kd.R_slice HO776.out
  (first | subst eo18 | (injection eo18 with f1_ f2_ f3_; have f4_ := f1_.symm; have f5_ := f3_.symm; clear f1_ f2_ f3_; subst f4_; subst f5_))
  refine norm_ (a' := ?_) ?_ ?_
  rotate_left
  ·
   simp only [putAll, Act.put, List.setIfInBounds_toArray, List.set_cons_zero, List.set_cons_succ]
   rfl
  refine one_ (i := 9) (N := none) #[true, true, true, true, true, true, true, true, true, true] rfl rfl (one_of HT_.out (by kernel_rfl)) (by decide) (fun K hK => ?_)
  have hs19 : w17.cell? ⟨gb777, 0, none⟩ = some (.slice none 0 0) := (blk_cell BK777.out 0).trans rfl
  have hfs19 := blk_frozen BK777.out 0
  have hns19_0 := NB768_777.out
  have hns19_1 := NB769_777.out
  have hns19_2 := NB770_777.out
  have hms19_0 := NB777_768.out
  have hms19_1 := NB777_769.out
  have hms19_2 := NB777_770.out
  have hs20 : w17.cell? ⟨gb777, 1, none⟩ = some (.int .i64 0) := (blk_cell BK777.out 1).trans rfl
  have hfs20 := blk_frozen BK777.out 1
  have hns20_0 := NB768_777.out
  have hns20_1 := NB769_777.out
  have hns20_2 := NB770_777.out
  have hms20_0 := NB777_768.out
  have hms20_1 := NB777_769.out
  have hms20_2 := NB777_770.out
  have hs21 : w17.cell? ⟨gb777, 2, none⟩ = some (.int .i64 0) := (blk_cell BK777.out 2).trans rfl
  have hfs21 := blk_frozen BK777.out 2
  have hns21_0 := NB768_777.out
  have hns21_1 := NB769_777.out
  have hns21_2 := NB770_777.out
  have hms21_0 := NB777_768.out
  have hms21_1 := NB777_769.out
  have hms21_2 := NB777_770.out
  have hs22 : w17.cell? ⟨gb777, 3, none⟩ = some (.int .i64 0) := (blk_cell BK777.out 3).trans rfl
  have hfs22 := blk_frozen BK777.out 3
  have hns22_0 := NB768_777.out
  have hns22_1 := NB769_777.out
  have hns22_2 := NB770_777.out
  have hms22_0 := NB777_768.out
  have hms22_1 := NB777_769.out
  have hms22_2 := NB777_770.out
  have hs23 : w17.cell? ⟨gb777, 4, none⟩ = some (.int .i64 0) := (blk_cell BK777.out 4).trans rfl
  have hfs23 := blk_frozen BK777.out 4
  have hns23_0 := NB768_777.out
  have hns23_1 := NB769_777.out
  have hns23_2 := NB770_777.out
  have hms23_0 := NB777_768.out
  have hms23_1 := NB777_769.out
  have hms23_2 := NB777_770.out
  have hs24 : w17.cell? ⟨gb777, 5, none⟩ = some (.int .i64 0) := (blk_cell BK777.out 5).trans rfl
  have hfs24 := blk_frozen BK777.out 5
  have hns24_0 := NB768_777.out
  have hns24_1 := NB769_777.out
  have hns24_2 := NB770_777.out
  have hms24_0 := NB777_768.out
  have hms24_1 := NB777_769.out
  have hms24_2 := NB777_770.out
  have hs25 : w17.cell? ⟨gb777, 6, none⟩ = some (.slice none 0 0) := (blk_cell BK777.out 6).trans rfl
  have hfs25 := blk_frozen BK777.out 6
  have hns25_0 := NB768_777.out
  have hns25_1 := NB769_777.out
  have hns25_2 := NB770_777.out
  have hms25_0 := NB777_768.out
  have hms25_1 := NB777_769.out
  have hms25_2 := NB777_770.out
  have hs26 : w17.cell? ⟨gb777, 7, none⟩ = some (.int .i64 0) := (blk_cell BK777.out 7).trans rfl
  have hfs26 := blk_frozen BK777.out 7
  have hns26_0 := NB768_777.out
  have hns26_1 := NB769_777.out
  have hns26_2 := NB770_777.out
  have hms26_0 := NB777_768.out
  have hms26_1 := NB777_769.out
  have hms26_2 := NB777_770.out
  have hs27 : w17.cell? ⟨gb777, 8, none⟩ = some (.int .i64 0) := (blk_cell BK777.out 8).trans rfl
  have hfs27 := blk_frozen BK777.out 8
  have hns27_0 := NB768_777.out
  have hns27_1 := NB769_777.out
  have hns27_2 := NB770_777.out
  have hms27_0 := NB777_768.out
  have hms27_1 := NB777_769.out
  have hms27_2 := NB777_770.out
  have hs28 : w17.cell? ⟨gb777, 9, none⟩ = some (.int .i64 0) := (blk_cell BK777.out 9).trans rfl
  have hfs28 := blk_frozen BK777.out 9
  have hns28_0 := NB768_777.out
  have hns28_1 := NB769_777.out
  have hns28_2 := NB770_777.out
  have hms28_0 := NB777_768.out
  have hms28_1 := NB777_769.out
  have hms28_2 := NB777_770.out
  have hs29 : w17.cell? ⟨gb777, 10, none⟩ = some (.int .i64 0) := (blk_cell BK777.out 10).trans rfl
  have hfs29 := blk_frozen BK777.out 10
  have hns29_0 := NB768_777.out
  have hns29_1 := NB769_777.out
  have hns29_2 := NB770_777.out
  have hms29_0 := NB777_768.out
  have hms29_1 := NB777_769.out
  have hms29_2 := NB777_770.out
  have hs30 : w17.cell? ⟨gb777, 11, none⟩ = some (.int .i64 0) := (blk_cell BK777.out 11).trans rfl
  have hfs30 := blk_frozen BK777.out 11
  have hns30_0 := NB768_777.out
  have hns30_1 := NB769_777.out
  have hns30_2 := NB770_777.out
  have hms30_0 := NB777_768.out
  have hms30_1 := NB777_769.out
  have hms30_2 := NB777_770.out
  have hs31 : w17.cell? ⟨gb777, 12, none⟩ = some (.int .i64 0) := (blk_cell BK777.out 12).trans rfl
  have hfs31 := blk_frozen BK777.out 12
  have hns31_0 := NB768_777.out
  have hns31_1 := NB769_777.out
  have hns31_2 := NB770_777.out
  have hms31_0 := NB777_768.out
  have hms31_1 := NB777_769.out
  have hms31_2 := NB777_770.out
  have hs32 : w17.cell? ⟨gb777, 13, none⟩ = some (.int .i64 0) := (blk_cell BK777.out 13).trans rfl
  have hfs32 := blk_frozen BK777.out 13
  have hns32_0 := NB768_777.out
  have hns32_1 := NB769_777.out
  have hns32_2 := NB770_777.out
  have hms32_0 := NB777_768.out
  have hms32_1 := NB777_769.out
  have hms32_2 := NB777_770.out
  refine skip_ (w1 := ?_) (by rfl) rfl ?_ ?_
  rotate_left
  ·
   go_simp
   rfl
  refine hK.out _ _ ⟨((cell_far (p := ⟨gb777, _, none⟩) NB768_777.out _).trans (((cell_far (p := ⟨gb777, _, none⟩) NB768_777.out _).trans (((cell_far (p := ⟨gb777, _, none⟩) NB768_777.out _).trans (((cell_far (p := ⟨gb777, _, none⟩) NB768_777.out _).trans (((cell_far (p := ⟨gb777, _, none⟩) NB768_777.out _).trans (((cell_far (p := ⟨gb777, _, none⟩) NB768_777.out _).trans (((cell_far (p := ⟨gb777, _, none⟩) NB768_777.out _).trans (((cell_far (p := ⟨gb777, _, none⟩) NB768_777.out _).trans (((cell_far (p := ⟨gb777, _, none⟩) NB768_777.out _).trans (((cell_far (p := ⟨gb777, _, none⟩) NB768_777.out _).trans (((cell_far (p := ⟨gb777, _, none⟩) NB768_777.out _).trans (((cell_far (p := ⟨gb777, _, none⟩) NB768_777.out _).trans (((cell_far (p := ⟨gb777, _, none⟩) NB768_777.out _).trans (((cell_far (p := ⟨gb777, _, none⟩) NB768_777.out _).trans (hHeld.1)))))))))))))))))))))))))))), ((cell_far (p := ⟨gb777, _, none⟩) NB768_777.out _).trans (((cell_far (p := ⟨gb777, _, none⟩) NB768_777.out _).trans (((cell_far (p := ⟨gb777, _, none⟩) NB768_777.out _).trans (((cell_far (p := ⟨gb777, _, none⟩) NB768_777.out _).trans (((cell_far (p := ⟨gb777, _, none⟩) NB768_777.out _).trans (((cell_far (p := ⟨gb777, _, none⟩) NB768_777.out _).trans (((cell_far (p := ⟨gb777, _, none⟩) NB768_777.out _).trans (((cell_far (p := ⟨gb777, _, none⟩) NB768_777.out _).trans (((cell_far (p := ⟨gb777, _, none⟩) NB768_777.out _).trans (((cell_far (p := ⟨gb777, _, none⟩) NB768_777.out _).trans (((cell_far (p := ⟨gb777, _, none⟩) NB768_777.out _).trans (((cell_far (p := ⟨gb777, _, none⟩) NB768_777.out _).trans (((cell_far (p := ⟨gb777, _, none⟩) NB768_777.out _).trans (((cell_far (p := ⟨gb777, _, none⟩) NB768_777.out _).trans (hHeld.2.1)))))))))))))))))))))))))))), ((cell_far (p := ⟨gb777, _, none⟩) NB768_777.out _).trans (((cell_far (p := ⟨gb777, _, none⟩) NB768_777.out _).trans (((cell_far (p := ⟨gb777, _, none⟩) NB768_777.out _).trans (((cell_far (p := ⟨gb777, _, none⟩) NB768_777.out _).trans (((cell_far (p := ⟨gb777, _, none⟩) NB768_777.out _).trans (((cell_far (p := ⟨gb777, _, none⟩) NB768_777.out _).trans (((cell_far (p := ⟨gb777, _, none⟩) NB768_777.out _).trans (((cell_far (p := ⟨gb777, _, none⟩) NB768_777.out _).trans (((cell_far (p := ⟨gb777, _, none⟩) NB768_777.out _).trans (((cell_far (p := ⟨gb777, _, none⟩) NB768_777.out _).trans (((cell_far (p := ⟨gb777, _, none⟩) NB768_777.out _).trans (((cell_far (p := ⟨gb777, _, none⟩) NB768_777.out _).trans (((cell_far (p := ⟨gb777, _, none⟩) NB768_777.out _).trans (((cell_far (p := ⟨gb777, _, none⟩) NB768_777.out _).trans (hHeld.2.2.1)))))))))))))))))))))))))))), ((cell_far (p := ⟨gb777, _, none⟩) NB769_777.out _).trans (((cell_far (p := ⟨gb777, _, none⟩) NB769_777.out _).trans (((cell_far (p := ⟨gb777, _, none⟩) NB769_777.out _).trans (((cell_far (p := ⟨gb777, _, none⟩) NB769_777.out _).trans (((cell_far (p := ⟨gb777, _, none⟩) NB769_777.out _).trans (((cell_far (p := ⟨gb777, _, none⟩) NB769_777.out _).trans (((cell_far (p := ⟨gb777, _, none⟩) NB769_777.out _).trans (((cell_far (p := ⟨gb777, _, none⟩) NB769_777.out _).trans (((cell_far (p := ⟨gb777, _, none⟩) NB769_777.out _).trans (((cell_far (p := ⟨gb777, _, none⟩) NB769_777.out _).trans (((cell_far (p := ⟨gb777, _, none⟩) NB769_777.out _).trans (((cell_far (p := ⟨gb777, _, none⟩) NB769_777.out _).trans (((cell_far (p := ⟨gb777, _, none⟩) NB769_777.out _).trans (((cell_far (p := ⟨gb777, _, none⟩) NB769_777.out _).trans (hHeld.2.2.2.1)))))))))))))))))))))))))))), ((cell_far (p := ⟨gb777, _, none⟩) NB769_777.out _).trans (((cell_far (p := ⟨gb777, _, none⟩) NB769_777.out _).trans (((cell_far (p := ⟨gb777, _, none⟩) NB769_777.out _).trans (((cell_far (p := ⟨gb777, _, none⟩) NB769_777.out _).trans (((cell_far (p := ⟨gb777, _, none⟩) NB769_777.out _).trans (((cell_far (p := ⟨gb777, _, none⟩) NB769_777.out _).trans (((cell_far (p := ⟨gb777, _, none⟩) NB769_777.out _).trans (((cell_far (p := ⟨gb777, _, none⟩) NB769_777.out _).trans (((cell_far (p := ⟨gb777, _, none⟩) NB769_777.out _).trans (((cell_far (p := ⟨gb777, _, none⟩) NB769_777.out _).trans (((cell_far (p := ⟨gb777, _, none⟩) NB769_777.out _).trans (((cell_far (p := ⟨gb777, _, none⟩) NB769_777.out _).trans (((cell_far (p := ⟨gb777, _, none⟩) NB769_777.out _).trans (((cell_far (p := ⟨gb777, _, none⟩) NB769_777.out _).trans (hHeld.2.2.2.2))))))))))))))))))))))))))))⟩ (fun hHeld => ?_)
  clear hK K
  refine done_ (done_of HT_.out (by kernel_rfl)) ?_
  have hnb33 := NB777_768.out
  have hnc33 := NB768_777.out
  have hnb34 := NB777_769.out
  have hnc34 := NB769_777.out
  have hnb35 := NB777_770.out
  have hnc35 := NB770_777.out
  have hcz36_0 : w17.cell? ⟨gb777, 0, none⟩ = some (.slice none 0 0) := (blk_cell BK777.out 0).trans rfl
  have hcz36_1 : w17.cell? ⟨gb777, 1, none⟩ = some (.int .i64 0) := (blk_cell BK777.out 1).trans rfl
  have hcz36_2 : w17.cell? ⟨gb777, 2, none⟩ = some (.int .i64 0) := (blk_cell BK777.out 2).trans rfl
  have hcz36_3 : w17.cell? ⟨gb777, 3, none⟩ = some (.int .i64 0) := (blk_cell BK777.out 3).trans rfl
  have hcz36_4 : w17.cell? ⟨gb777, 4, none⟩ = some (.int .i64 0) := (blk_cell BK777.out 4).trans rfl
  have hcz36_5 : w17.cell? ⟨gb777, 5, none⟩ = some (.int .i64 0) := (blk_cell BK777.out 5).trans rfl
  have hcz36_6 : w17.cell? ⟨gb777, 6, none⟩ = some (.slice none 0 0) := (blk_cell BK777.out 6).trans rfl
  have hcz36_7 : w17.cell? ⟨gb777, 7, none⟩ = some (.int .i64 0) := (blk_cell BK777.out 7).trans rfl
  have hcz36_8 : w17.cell? ⟨gb777, 8, none⟩ = some (.int .i64 0) := (blk_cell BK777.out 8).trans rfl
  have hcz36_9 : w17.cell? ⟨gb777, 9, none⟩ = some (.int .i64 0) := (blk_cell BK777.out 9).trans rfl
  have hcz36_10 : w17.cell? ⟨gb777, 10, none⟩ = some (.int .i64 0) := (blk_cell BK777.out 10).trans rfl
  have hcz36_11 : w17.cell? ⟨gb777, 11, none⟩ = some (.int .i64 0) := (blk_cell BK777.out 11).trans rfl
  have hcz36_12 : w17.cell? ⟨gb777, 12, none⟩ = some (.int .i64 0) := (blk_cell BK777.out 12).trans rfl
  have hcz36_13 : w17.cell? ⟨gb777, 13, none⟩ = some (.int .i64 0) := (blk_cell BK777.out 13).trans rfl
  have hfz36_0 := blk_frozen BK777.out 0
  have hfz36_1 := blk_frozen BK777.out 1
  have hfz36_2 := blk_frozen BK777.out 2
  have hfz36_3 := blk_frozen BK777.out 3
  have hfz36_4 := blk_frozen BK777.out 4
  have hfz36_5 := blk_frozen BK777.out 5
  have hfz36_6 := blk_frozen BK777.out 6
  have hfz36_7 := blk_frozen BK777.out 7
  have hfz36_8 := blk_frozen BK777.out 8
  have hfz36_9 := blk_frozen BK777.out 9
  have hfz36_10 := blk_frozen BK777.out 10
  have hfz36_11 := blk_frozen BK777.out 11
  have hfz36_12 := blk_frozen BK777.out 12
  have hfz36_13 := blk_frozen BK777.out 13
  go_upto_if 21 with (first | ((with_reducible refine gate_callee (f := 24) rfl ?_); refine gLq (some 20) Try.func24 #[.agg #[.slice Ao18 y774.length co18, .int .i64 a1_0, .int .i64 a1_1, .int .i64 a1_2, .int .i64 a2_0, .int .i64 a2_1, .slice none 0 0, .int .i64 0, .int .i64 0, .int .i64 0, .int .i64 0, .int .i64 0, .int .i64 0, .int .i64 a3]] ?_; (refine (spec_BakeryOk.calls k _ _ y774 a1_0 a1_1 a1_2 a2_0 a2_1 _ _ ([] : List (S41)) 0 0 0 0 0 0 a3 t778 _ ?side1 ?side2 ?side3 ?side4 A6.out).mono ?_); (case side1 => refine (Kd.R_reads' (e := 3) (base := w.heap.size) (ok := fun k_ => True) (n := y774.length) (c := co18) ?_).2.2; exact (Kd.Rq (Kd.R_mono (Kd.R_far (p := ⟨gb777, 13, none⟩) (Kd.R_far (p := ⟨gb777, 12, none⟩) (Kd.R_far (p := ⟨gb777, 11, none⟩) (Kd.R_far (p := ⟨gb777, 10, none⟩) (Kd.R_far (p := ⟨gb777, 9, none⟩) (Kd.R_far (p := ⟨gb777, 8, none⟩) (Kd.R_far (p := ⟨gb777, 7, none⟩) (Kd.R_far (p := ⟨gb777, 6, none⟩) (Kd.R_far (p := ⟨gb777, 5, none⟩) (Kd.R_far (p := ⟨gb777, 4, none⟩) (Kd.R_far (p := ⟨gb777, 3, none⟩) (Kd.R_far (p := ⟨gb777, 2, none⟩) (Kd.R_far (p := ⟨gb777, 1, none⟩) (Kd.R_far (p := ⟨gb777, 0, none⟩) (Kd.R_types HO776.out BK777.out (by decide)) (fun _ hk => hk.2) (.slice Ao18 y774.length co18)) (fun _ hk => hk.2) (.int .i64 a1_0)) (fun _ hk => hk.2) (.int .i64 a1_1)) (fun _ hk => hk.2) (.int .i64 a1_2)) (fun _ hk => hk.2) (.int .i64 a2_0)) (fun _ hk => hk.2) (.int .i64 a2_1)) (fun _ hk => hk.2) (.slice none 0 0)) (fun _ hk => hk.2) (.int .i64 0)) (fun _ hk => hk.2) (.int .i64 0)) (fun _ hk => hk.2) (.int .i64 0)) (fun _ hk => hk.2) (.int .i64 0)) (fun _ hk => hk.2) (.int .i64 0)) (fun _ hk => hk.2) (.int .i64 0)) (fun _ hk => hk.2) (.int .i64 a3)) (fun _ h_ => h_.1)))); (case side2 => exact (Kd.R_reads' HO776.out).2.1); (case side3 => exact Kd.C_nil _ _); (case side4 => exact Nat.le_refl _); rintro e w37 ⟨rfl, hb⟩; refine ⟨_, rfl, ?_⟩; replace HO776 := Aside0.mk (Kd.R_below (Kd.Rq (Kd.R_mono (Kd.R_far (p := ⟨gb777, 13, none⟩) (Kd.R_far (p := ⟨gb777, 12, none⟩) (Kd.R_far (p := ⟨gb777, 11, none⟩) (Kd.R_far (p := ⟨gb777, 10, none⟩) (Kd.R_far (p := ⟨gb777, 9, none⟩) (Kd.R_far (p := ⟨gb777, 8, none⟩) (Kd.R_far (p := ⟨gb777, 7, none⟩) (Kd.R_far (p := ⟨gb777, 6, none⟩) (Kd.R_far (p := ⟨gb777, 5, none⟩) (Kd.R_far (p := ⟨gb777, 4, none⟩) (Kd.R_far (p := ⟨gb777, 3, none⟩) (Kd.R_far (p := ⟨gb777, 2, none⟩) (Kd.R_far (p := ⟨gb777, 1, none⟩) (Kd.R_far (p := ⟨gb777, 0, none⟩) (Kd.R_types HO776.out BK777.out (by decide)) (fun _ hk => hk.2) (.slice Ao18 y774.length co18)) (fun _ hk => hk.2) (.int .i64 a1_0)) (fun _ hk => hk.2) (.int .i64 a1_1)) (fun _ hk => hk.2) (.int .i64 a1_2)) (fun _ hk => hk.2) (.int .i64 a2_0)) (fun _ hk => hk.2) (.int .i64 a2_1)) (fun _ hk => hk.2) (.slice none 0 0)) (fun _ hk => hk.2) (.int .i64 0)) (fun _ hk => hk.2) (.int .i64 0)) (fun _ hk => hk.2) (.int .i64 0)) (fun _ hk => hk.2) (.int .i64 0)) (fun _ hk => hk.2) (.int .i64 0)) (fun _ hk => hk.2) (.int .i64 0)) (fun _ hk => hk.2) (.int .i64 a3)) (fun _ h_ => h_.1))) hb); replace BK768 := Aside0.mk (blk_below (g := gb768) (o := .cells #[.int .i64 a1_0, .int .i64 a1_1, .int .i64 a1_2] 56 (0, 0)) (by (with_reducible repeat (first | refine blk_drewN ?_ _ | refine blk_drew ?_ | refine blk_alloc ?_ _)); refine blk_far ?_ NB768_777.out _; (with_reducible repeat (first | refine blk_drewN ?_ _ | refine blk_drew ?_ | refine blk_alloc ?_ _)); refine blk_far ?_ NB768_777.out _; (with_reducible repeat (first | refine blk_drewN ?_ _ | refine blk_drew ?_ | refine blk_alloc ?_ _)); refine blk_far ?_ NB768_777.out _; (with_reducible repeat (first | refine blk_drewN ?_ _ | refine blk_drew ?_ | refine blk_alloc ?_ _)); refine blk_far ?_ NB768_777.out _; (with_reducible repeat (first | refine blk_drewN ?_ _ | refine blk_drew ?_ | refine blk_alloc ?_ _)); refine blk_far ?_ NB768_777.out _; (with_reducible repeat (first | refine blk_drewN ?_ _ | refine blk_drew ?_ | refine blk_alloc ?_ _)); refine blk_far ?_ NB768_777.out _; (with_reducible repeat (first | refine blk_drewN ?_ _ | refine blk_drew ?_ | refine blk_alloc ?_ _)); refine blk_far ?_ NB768_777.out _; (with_reducible repeat (first | refine blk_drewN ?_ _ | refine blk_drew ?_ | refine blk_alloc ?_ _)); refine blk_far ?_ NB768_777.out _; (with_reducible repeat (first | refine blk_drewN ?_ _ | refine blk_drew ?_ | refine blk_alloc ?_ _)); refine blk_far ?_ NB768_777.out _; (with_reducible repeat (first | refine blk_drewN ?_ _ | refine blk_drew ?_ | refine blk_alloc ?_ _)); refine blk_far ?_ NB768_777.out _; (with_reducible repeat (first | refine blk_drewN ?_ _ | refine blk_drew ?_ | refine blk_alloc ?_ _)); refine blk_far ?_ NB768_777.out _; (with_reducible repeat (first | refine blk_drewN ?_ _ | refine blk_drew ?_ | refine blk_alloc ?_ _)); refine blk_far ?_ NB768_777.out _; (with_reducible repeat (first | refine blk_drewN ?_ _ | refine blk_drew ?_ | refine blk_alloc ?_ _)); refine blk_far ?_ NB768_777.out _; (with_reducible repeat (first | refine blk_drewN ?_ _ | refine blk_drew ?_ | refine blk_alloc ?_ _)); refine blk_far ?_ NB768_777.out _; (with_reducible repeat (first | refine blk_drewN ?_ _ | refine blk_drew ?_ | refine blk_alloc ?_ _)); exact BK768.out) hb); replace BK769 := Aside0.mk (blk_below (g := gb769) (o := .cells #[.int .i64 a2_0, .int .i64 a2_1] 57 (0, 0)) (by (with_reducible repeat (first | refine blk_drewN ?_ _ | refine blk_drew ?_ | refine blk_alloc ?_ _)); refine blk_far ?_ NB769_777.out _; (with_reducible repeat (first | refine blk_drewN ?_ _ | refine blk_drew ?_ | refine blk_alloc ?_ _)); refine blk_far ?_ NB769_777.out _; (with_reducible repeat (first | refine blk_drewN ?_ _ | refine blk_drew ?_ | refine blk_alloc ?_ _)); refine blk_far ?_ NB769_777.out _; (with_reducible repeat (first | refine blk_drewN ?_ _ | refine blk_drew ?_ | refine blk_alloc ?_ _)); refine blk_far ?_ NB769_777.out _; (with_reducible repeat (first | refine blk_drewN ?_ _ | refine blk_drew ?_ | refine blk_alloc ?_ _)); refine blk_far ?_ NB769_777.out _; (with_reducible repeat (first | refine blk_drewN ?_ _ | refine blk_drew ?_ | refine blk_alloc ?_ _)); refine blk_far ?_ NB769_777.out _; (with_reducible repeat (first | refine blk_drewN ?_ _ | refine blk_drew ?_ | refine blk_alloc ?_ _)); refine blk_far ?_ NB769_777.out _; (with_reducible repeat (first | refine blk_drewN ?_ _ | refine blk_drew ?_ | refine blk_alloc ?_ _)); refine blk_far ?_ NB769_777.out _; (with_reducible repeat (first | refine blk_drewN ?_ _ | refine blk_drew ?_ | refine blk_alloc ?_ _)); refine blk_far ?_ NB769_777.out _; (with_reducible repeat (first | refine blk_drewN ?_ _ | refine blk_drew ?_ | refine blk_alloc ?_ _)); refine blk_far ?_ NB769_777.out _; (with_reducible repeat (first | refine blk_drewN ?_ _ | refine blk_drew ?_ | refine blk_alloc ?_ _)); refine blk_far ?_ NB769_777.out _; (with_reducible repeat (first | refine blk_drewN ?_ _ | refine blk_drew ?_ | refine blk_alloc ?_ _)); refine blk_far ?_ NB769_777.out _; (with_reducible repeat (first | refine blk_drewN ?_ _ | refine blk_drew ?_ | refine blk_alloc ?_ _)); refine blk_far ?_ NB769_777.out _; (with_reducible repeat (first | refine blk_drewN ?_ _ | refine blk_drew ?_ | refine blk_alloc ?_ _)); refine blk_far ?_ NB769_777.out _; (with_reducible repeat (first | refine blk_drewN ?_ _ | refine blk_drew ?_ | refine blk_alloc ?_ _)); exact BK769.out) hb); replace BK770 := Aside0.mk (blk_below (g := gb770) (o := .cells #[.slice none 0 0, .int .i64 0, .int .i64 0, .int .i64 0, .int .i64 0, .int .i64 0, .slice none 0 0, .int .i64 0, .int .i64 0, .int .i64 0, .int .i64 0, .int .i64 0, .int .i64 0, .int .i64 0] 59 (0, 0)) (by (with_reducible repeat (first | refine blk_drewN ?_ _ | refine blk_drew ?_ | refine blk_alloc ?_ _)); refine blk_far ?_ NB770_777.out _; (with_reducible repeat (first | refine blk_drewN ?_ _ | refine blk_drew ?_ | refine blk_alloc ?_ _)); refine blk_far ?_ NB770_777.out _; (with_reducible repeat (first | refine blk_drewN ?_ _ | refine blk_drew ?_ | refine blk_alloc ?_ _)); refine blk_far ?_ NB770_777.out _; (with_reducible repeat (first | refine blk_drewN ?_ _ | refine blk_drew ?_ | refine blk_alloc ?_ _)); refine blk_far ?_ NB770_777.out _; (with_reducible repeat (first | refine blk_drewN ?_ _ | refine blk_drew ?_ | refine blk_alloc ?_ _)); refine blk_far ?_ NB770_777.out _; (with_reducible repeat (first | refine blk_drewN ?_ _ | refine blk_drew ?_ | refine blk_alloc ?_ _)); refine blk_far ?_ NB770_777.out _; (with_reducible repeat (first | refine blk_drewN ?_ _ | refine blk_drew ?_ | refine blk_alloc ?_ _)); refine blk_far ?_ NB770_777.out _; (with_reducible repeat (first | refine blk_drewN ?_ _ | refine blk_drew ?_ | refine blk_alloc ?_ _)); refine blk_far ?_ NB770_777.out _; (with_reducible repeat (first | refine blk_drewN ?_ _ | refine blk_drew ?_ | refine blk_alloc ?_ _)); refine blk_far ?_ NB770_777.out _; (with_reducible repeat (first | refine blk_drewN ?_ _ | refine blk_drew ?_ | refine blk_alloc ?_ _)); refine blk_far ?_ NB770_777.out _; (with_reducible repeat (first | refine blk_drewN ?_ _ | refine blk_drew ?_ | refine blk_alloc ?_ _)); refine blk_far ?_ NB770_777.out _; (with_reducible repeat (first | refine blk_drewN ?_ _ | refine blk_drew ?_ | refine blk_alloc ?_ _)); refine blk_far ?_ NB770_777.out _; (with_reducible repeat (first | refine blk_drewN ?_ _ | refine blk_drew ?_ | refine blk_alloc ?_ _)); refine blk_far ?_ NB770_777.out _; (with_reducible repeat (first | refine blk_drewN ?_ _ | refine blk_drew ?_ | refine blk_alloc ?_ _)); refine blk_far ?_ NB770_777.out _; (with_reducible repeat (first | refine blk_drewN ?_ _ | refine blk_drew ?_ | refine blk_alloc ?_ _)); exact BK770.out) hb); replace BK777 := Aside0.mk (blk_below (g := gb777) (o := .cells #[.slice Ao18 y774.length co18, .int .i64 a1_0, .int .i64 a1_1, .int .i64 a1_2, .int .i64 a2_0, .int .i64 a2_1, .slice none 0 0, .int .i64 0, .int .i64 0, .int .i64 0, .int .i64 0, .int .i64 0, .int .i64 0, .int .i64 a3] 59 (0, 0)) (by (with_reducible repeat (first | refine blk_drewN ?_ _ | refine blk_drew ?_ | refine blk_alloc ?_ _)); refine blk_put (cs := #[.slice Ao18 y774.length co18, .int .i64 a1_0, .int .i64 a1_1, .int .i64 a1_2, .int .i64 a2_0, .int .i64 a2_1, .slice none 0 0, .int .i64 0, .int .i64 0, .int .i64 0, .int .i64 0, .int .i64 0, .int .i64 0, .int .i64 0]) ?_ 13 _ rfl; (with_reducible repeat (first | refine blk_drewN ?_ _ | refine blk_drew ?_ | refine blk_alloc ?_ _)); refine blk_put (cs := #[.slice Ao18 y774.length co18, .int .i64 a1_0, .int .i64 a1_1, .int .i64 a1_2, .int .i64 a2_0, .int .i64 a2_1, .slice none 0 0, .int .i64 0, .int .i64 0, .int .i64 0, .int .i64 0, .int .i64 0, .int .i64 0, .int .i64 0]) ?_ 12 _ rfl; (with_reducible repeat (first | refine blk_drewN ?_ _ | refine blk_drew ?_ | refine blk_alloc ?_ _)); refine blk_put (cs := #[.slice Ao18 y774.length co18, .int .i64 a1_0, .int .i64 a1_1, .int .i64 a1_2, .int .i64 a2_0, .int .i64 a2_1, .slice none 0 0, .int .i64 0, .int .i64 0, .int .i64 0, .int .i64 0, .int .i64 0, .int .i64 0, .int .i64 0]) ?_ 11 _ rfl; (with_reducible repeat (first | refine blk_drewN ?_ _ | refine blk_drew ?_ | refine blk_alloc ?_ _)); refine blk_put (cs := #[.slice Ao18 y774.length co18, .int .i64 a1_0, .int .i64 a1_1, .int .i64 a1_2, .int .i64 a2_0, .int .i64 a2_1, .slice none 0 0, .int .i64 0, .int .i64 0, .int .i64 0, .int .i64 0, .int .i64 0, .int .i64 0, .int .i64 0]) ?_ 10 _ rfl; (with_reducible repeat (first | refine blk_drewN ?_ _ | refine blk_drew ?_ | refine blk_alloc ?_ _)); refine blk_put (cs := #[.slice Ao18 y774.length co18, .int .i64 a1_0, .int .i64 a1_1, .int .i64 a1_2, .int .i64 a2_0, .int .i64 a2_1, .slice none 0 0, .int .i64 0, .int .i64 0, .int .i64 0, .int .i64 0, .int .i64 0, .int .i64 0, .int .i64 0]) ?_ 9 _ rfl; (with_reducible repeat (first | refine blk_drewN ?_ _ | refine blk_drew ?_ | refine blk_alloc ?_ _)); refine blk_put (cs := #[.slice Ao18 y774.length co18, .int .i64 a1_0, .int .i64 a1_1, .int .i64 a1_2, .int .i64 a2_0, .int .i64 a2_1, .slice none 0 0, .int .i64 0, .int .i64 0, .int .i64 0, .int .i64 0, .int .i64 0, .int .i64 0, .int .i64 0]) ?_ 8 _ rfl; (with_reducible repeat (first | refine blk_drewN ?_ _ | refine blk_drew ?_ | refine blk_alloc ?_ _)); refine blk_put (cs := #[.slice Ao18 y774.length co18, .int .i64 a1_0, .int .i64 a1_1, .int .i64 a1_2, .int .i64 a2_0, .int .i64 a2_1, .slice none 0 0, .int .i64 0, .int .i64 0, .int .i64 0, .int .i64 0, .int .i64 0, .int .i64 0, .int .i64 0]) ?_ 7 _ rfl; (with_reducible repeat (first | refine blk_drewN ?_ _ | refine blk_drew ?_ | refine blk_alloc ?_ _)); refine blk_put (cs := #[.slice Ao18 y774.length co18, .int .i64 a1_0, .int .i64 a1_1, .int .i64 a1_2, .int .i64 a2_0, .int .i64 a2_1, .slice none 0 0, .int .i64 0, .int .i64 0, .int .i64 0, .int .i64 0, .int .i64 0, .int .i64 0, .int .i64 0]) ?_ 6 _ rfl; (with_reducible repeat (first | refine blk_drewN ?_ _ | refine blk_drew ?_ | refine blk_alloc ?_ _)); refine blk_put (cs := #[.slice Ao18 y774.length co18, .int .i64 a1_0, .int .i64 a1_1, .int .i64 a1_2, .int .i64 a2_0, .int .i64 0, .slice none 0 0, .int .i64 0, .int .i64 0, .int .i64 0, .int .i64 0, .int .i64 0, .int .i64 0, .int .i64 0]) ?_ 5 _ rfl; (with_reducible repeat (first | refine blk_drewN ?_ _ | refine blk_drew ?_ | refine blk_alloc ?_ _)); refine blk_put (cs := #[.slice Ao18 y774.length co18, .int .i64 a1_0, .int .i64 a1_1, .int .i64 a1_2, .int .i64 0, .int .i64 0, .slice none 0 0, .int .i64 0, .int .i64 0, .int .i64 0, .int .i64 0, .int .i64 0, .int .i64 0, .int .i64 0]) ?_ 4 _ rfl; (with_reducible repeat (first | refine blk_drewN ?_ _ | refine blk_drew ?_ | refine blk_alloc ?_ _)); refine blk_put (cs := #[.slice Ao18 y774.length co18, .int .i64 a1_0, .int .i64 a1_1, .int .i64 0, .int .i64 0, .int .i64 0, .slice none 0 0, .int .i64 0, .int .i64 0, .int .i64 0, .int .i64 0, .int .i64 0, .int .i64 0, .int .i64 0]) ?_ 3 _ rfl; (with_reducible repeat (first | refine blk_drewN ?_ _ | refine blk_drew ?_ | refine blk_alloc ?_ _)); refine blk_put (cs := #[.slice Ao18 y774.length co18, .int .i64 a1_0, .int .i64 0, .int .i64 0, .int .i64 0, .int .i64 0, .slice none 0 0, .int .i64 0, .int .i64 0, .int .i64 0, .int .i64 0, .int .i64 0, .int .i64 0, .int .i64 0]) ?_ 2 _ rfl; (with_reducible repeat (first | refine blk_drewN ?_ _ | refine blk_drew ?_ | refine blk_alloc ?_ _)); refine blk_put (cs := #[.slice Ao18 y774.length co18, .int .i64 0, .int .i64 0, .int .i64 0, .int .i64 0, .int .i64 0, .slice none 0 0, .int .i64 0, .int .i64 0, .int .i64 0, .int .i64 0, .int .i64 0, .int .i64 0, .int .i64 0]) ?_ 1 _ rfl; (with_reducible repeat (first | refine blk_drewN ?_ _ | refine blk_drew ?_ | refine blk_alloc ?_ _)); refine blk_put (cs := #[.slice none 0 0, .int .i64 0, .int .i64 0, .int .i64 0, .int .i64 0, .int .i64 0, .slice none 0 0, .int .i64 0, .int .i64 0, .int .i64 0, .int .i64 0, .int .i64 0, .int .i64 0, .int .i64 0]) ?_ 0 _ rfl; (with_reducible repeat (first | refine blk_drewN ?_ _ | refine blk_drew ?_ | refine blk_alloc ?_ _)); exact BK777.out) hb); replace HB := hbs HB hb; (try clear hb); (try clear hb2); (try clear hk); (try clear hi)))
  have H := HF7.out
  clear HF7
  by_cases c38 : t778 = true
  ·
   subst c38
   have H1 : (some (y774, a1_0, a1_1, a1_2, a2_0, a2_1, ([] : List (S41)), 0, 0, 0, 0, 0, 0, a3, true)) = some (r1, r2, r3, r4, r5, r6, r7, r8, r9, r10, r11, r12, r13, r14, r15) := by rw [if_pos rfl] at H; exact H
   clear H
   have H := H1
   clear H1
   simp only [Option.some.injEq, Prod.mk.injEq] at H
   obtain ⟨rfl, rfl, rfl, rfl, rfl, rfl, rfl, rfl, rfl, rfl, rfl, rfl, rfl, rfl, rfl⟩ := H
   have hnb39 := NB777_768.out
   have hnc39 := NB768_777.out
   have hnb40 := NB777_769.out
   have hnc40 := NB769_777.out
   have hnb41 := NB777_770.out
   have hnc41 := NB770_777.out
   have hcz42_0 : w37.cell? ⟨gb777, 0, none⟩ = some (.slice Ao18 y774.length co18) := (blk_cell BK777.out 0).trans rfl
   have hcz42_1 : w37.cell? ⟨gb777, 1, none⟩ = some (.int .i64 a1_0) := (blk_cell BK777.out 1).trans rfl
   have hcz42_2 : w37.cell? ⟨gb777, 2, none⟩ = some (.int .i64 a1_1) := (blk_cell BK777.out 2).trans rfl
   have hcz42_3 : w37.cell? ⟨gb777, 3, none⟩ = some (.int .i64 a1_2) := (blk_cell BK777.out 3).trans rfl
   have hcz42_4 : w37.cell? ⟨gb777, 4, none⟩ = some (.int .i64 a2_0) := (blk_cell BK777.out 4).trans rfl
   have hcz42_5 : w37.cell? ⟨gb777, 5, none⟩ = some (.int .i64 a2_1) := (blk_cell BK777.out 5).trans rfl
   have hcz42_6 : w37.cell? ⟨gb777, 6, none⟩ = some (.slice none 0 0) := (blk_cell BK777.out 6).trans rfl
   have hcz42_7 : w37.cell? ⟨gb777, 7, none⟩ = some (.int .i64 0) := (blk_cell BK777.out 7).trans rfl
   have hcz42_8 : w37.cell? ⟨gb777, 8, none⟩ = some (.int .i64 0) := (blk_cell BK777.out 8).trans rfl
   have hcz42_9 : w37.cell? ⟨gb777, 9, none⟩ = some (.int .i64 0) := (blk_cell BK777.out 9).trans rfl
   have hcz42_10 : w37.cell? ⟨gb777, 10, none⟩ = some (.int .i64 0) := (blk_cell BK777.out 10).trans rfl
   have hcz42_11 : w37.cell? ⟨gb777, 11, none⟩ = some (.int .i64 0) := (blk_cell BK777.out 11).trans rfl
   have hcz42_12 : w37.cell? ⟨gb777, 12, none⟩ = some (.int .i64 0) := (blk_cell BK777.out 12).trans rfl
   have hcz42_13 : w37.cell? ⟨gb777, 13, none⟩ = some (.int .i64 a3) := (blk_cell BK777.out 13).trans rfl
   have hfz42_0 := blk_frozen BK777.out 0
   have hfz42_1 := blk_frozen BK777.out 1
   have hfz42_2 := blk_frozen BK777.out 2
   have hfz42_3 := blk_frozen BK777.out 3
   have hfz42_4 := blk_frozen BK777.out 4
   have hfz42_5 := blk_frozen BK777.out 5
   have hfz42_6 := blk_frozen BK777.out 6
   have hfz42_7 := blk_frozen BK777.out 7
   have hfz42_8 := blk_frozen BK777.out 8
   have hfz42_9 := blk_frozen BK777.out 9
   have hfz42_10 := blk_frozen BK777.out 10
   have hfz42_11 := blk_frozen BK777.out 11
   have hfz42_12 := blk_frozen BK777.out 12
   have hfz42_13 := blk_frozen BK777.out 13
   have hnb43 := NB770_768.out
   have hnc43 := NB768_770.out
   have hnb44 := NB770_769.out
   have hnc44 := NB769_770.out
   obtain ⟨hcz45_0, hcz45_1, hcz45_2, hcz45_3, hcz45_4, hcz45_5, hcz45_6, hcz45_7, hcz45_8, hcz45_9, hcz45_10, hcz45_11, hcz45_12, hcz45_13, hfz45_0, hfz45_1, hfz45_2, hfz45_3, hfz45_4, hfz45_5, hfz45_6, hfz45_7, hfz45_8, hfz45_9, hfz45_10, hfz45_11, hfz45_12, hfz45_13⟩ := bq14 BK770.out
   go_wp2
   refine bodyPost_ret (results_ct rfl _ _ gb770 59 #[.slice Ao18 y774.length co18, .int .i64 a1_0, .int .i64 a1_1, .int .i64 a1_2, .int .i64 a2_0, .int .i64 a2_1, .slice none 0 0, .int .i64 0, .int .i64 0, .int .i64 0, .int .i64 0, .int .i64 0, .int .i64 0, .int .i64 a3] (0, 0) _ rfl (by (with_reducible repeat (first | refine blk_drewN ?_ _ | refine blk_drew ?_ | refine blk_alloc ?_ _)); refine blk_put (cs := #[.slice Ao18 y774.length co18, .int .i64 a1_0, .int .i64 a1_1, .int .i64 a1_2, .int .i64 a2_0, .int .i64 a2_1, .slice none 0 0, .int .i64 0, .int .i64 0, .int .i64 0, .int .i64 0, .int .i64 0, .int .i64 0, .int .i64 0]) ?_ 13 _ rfl; (with_reducible repeat (first | refine blk_drewN ?_ _ | refine blk_drew ?_ | refine blk_alloc ?_ _)); refine blk_put (cs := #[.slice Ao18 y774.length co18, .int .i64 a1_0, .int .i64 a1_1, .int .i64 a1_2, .int .i64 a2_0, .int .i64 a2_1, .slice none 0 0, .int .i64 0, .int .i64 0, .int .i64 0, .int .i64 0, .int .i64 0, .int .i64 0, .int .i64 0]) ?_ 12 _ rfl; (with_reducible repeat (first | refine blk_drewN ?_ _ | refine blk_drew ?_ | refine blk_alloc ?_ _)); refine blk_put (cs := #[.slice Ao18 y774.length co18, .int .i64 a1_0, .int .i64 a1_1, .int .i64 a1_2, .int .i64 a2_0, .int .i64 a2_1, .slice none 0 0, .int .i64 0, .int .i64 0, .int .i64 0, .int .i64 0, .int .i64 0, .int .i64 0, .int .i64 0]) ?_ 11 _ rfl; (with_reducible repeat (first | refine blk_drewN ?_ _ | refine blk_drew ?_ | refine blk_alloc ?_ _)); refine blk_put (cs := #[.slice Ao18 y774.length co18, .int .i64 a1_0, .int .i64 a1_1, .int .i64 a1_2, .int .i64 a2_0, .int .i64 a2_1, .slice none 0 0, .int .i64 0, .int .i64 0, .int .i64 0, .int .i64 0, .int .i64 0, .int .i64 0, .int .i64 0]) ?_ 10 _ rfl; (with_reducible repeat (first | refine blk_drewN ?_ _ | refine blk_drew ?_ | refine blk_alloc ?_ _)); refine blk_put (cs := #[.slice Ao18 y774.length co18, .int .i64 a1_0, .int .i64 a1_1, .int .i64 a1_2, .int .i64 a2_0, .int .i64 a2_1, .slice none 0 0, .int .i64 0, .int .i64 0, .int .i64 0, .int .i64 0, .int .i64 0, .int .i64 0, .int .i64 0]) ?_ 9 _ rfl; (with_reducible repeat (first | refine blk_drewN ?_ _ | refine blk_drew ?_ | refine blk_alloc ?_ _)); refine blk_put (cs := #[.slice Ao18 y774.length co18, .int .i64 a1_0, .int .i64 a1_1, .int .i64 a1_2, .int .i64 a2_0, .int .i64 a2_1, .slice none 0 0, .int .i64 0, .int .i64 0, .int .i64 0, .int .i64 0, .int .i64 0, .int .i64 0, .int .i64 0]) ?_ 8 _ rfl; (with_reducible repeat (first | refine blk_drewN ?_ _ | refine blk_drew ?_ | refine blk_alloc ?_ _)); refine blk_put (cs := #[.slice Ao18 y774.length co18, .int .i64 a1_0, .int .i64 a1_1, .int .i64 a1_2, .int .i64 a2_0, .int .i64 a2_1, .slice none 0 0, .int .i64 0, .int .i64 0, .int .i64 0, .int .i64 0, .int .i64 0, .int .i64 0, .int .i64 0]) ?_ 7 _ rfl; (with_reducible repeat (first | refine blk_drewN ?_ _ | refine blk_drew ?_ | refine blk_alloc ?_ _)); refine blk_put (cs := #[.slice Ao18 y774.length co18, .int .i64 a1_0, .int .i64 a1_1, .int .i64 a1_2, .int .i64 a2_0, .int .i64 a2_1, .slice none 0 0, .int .i64 0, .int .i64 0, .int .i64 0, .int .i64 0, .int .i64 0, .int .i64 0, .int .i64 0]) ?_ 6 _ rfl; (with_reducible repeat (first | refine blk_drewN ?_ _ | refine blk_drew ?_ | refine blk_alloc ?_ _)); refine blk_put (cs := #[.slice Ao18 y774.length co18, .int .i64 a1_0, .int .i64 a1_1, .int .i64 a1_2, .int .i64 a2_0, .int .i64 0, .slice none 0 0, .int .i64 0, .int .i64 0, .int .i64 0, .int .i64 0, .int .i64 0, .int .i64 0, .int .i64 0]) ?_ 5 _ rfl; (with_reducible repeat (first | refine blk_drewN ?_ _ | refine blk_drew ?_ | refine blk_alloc ?_ _)); refine blk_put (cs := #[.slice Ao18 y774.length co18, .int .i64 a1_0, .int .i64 a1_1, .int .i64 a1_2, .int .i64 0, .int .i64 0, .slice none 0 0, .int .i64 0, .int .i64 0, .int .i64 0, .int .i64 0, .int .i64 0, .int .i64 0, .int .i64 0]) ?_ 4 _ rfl; (with_reducible repeat (first | refine blk_drewN ?_ _ | refine blk_drew ?_ | refine blk_alloc ?_ _)); refine blk_put (cs := #[.slice Ao18 y774.length co18, .int .i64 a1_0, .int .i64 a1_1, .int .i64 0, .int .i64 0, .int .i64 0, .slice none 0 0, .int .i64 0, .int .i64 0, .int .i64 0, .int .i64 0, .int .i64 0, .int .i64 0, .int .i64 0]) ?_ 3 _ rfl; (with_reducible repeat (first | refine blk_drewN ?_ _ | refine blk_drew ?_ | refine blk_alloc ?_ _)); refine blk_put (cs := #[.slice Ao18 y774.length co18, .int .i64 a1_0, .int .i64 0, .int .i64 0, .int .i64 0, .int .i64 0, .slice none 0 0, .int .i64 0, .int .i64 0, .int .i64 0, .int .i64 0, .int .i64 0, .int .i64 0, .int .i64 0]) ?_ 2 _ rfl; (with_reducible repeat (first | refine blk_drewN ?_ _ | refine blk_drew ?_ | refine blk_alloc ?_ _)); refine blk_put (cs := #[.slice Ao18 y774.length co18, .int .i64 0, .int .i64 0, .int .i64 0, .int .i64 0, .int .i64 0, .slice none 0 0, .int .i64 0, .int .i64 0, .int .i64 0, .int .i64 0, .int .i64 0, .int .i64 0, .int .i64 0]) ?_ 1 _ rfl; (with_reducible repeat (first | refine blk_drewN ?_ _ | refine blk_drew ?_ | refine blk_alloc ?_ _)); refine blk_put (cs := #[.slice none 0 0, .int .i64 0, .int .i64 0, .int .i64 0, .int .i64 0, .int .i64 0, .slice none 0 0, .int .i64 0, .int .i64 0, .int .i64 0, .int .i64 0, .int .i64 0, .int .i64 0, .int .i64 0]) ?_ 0 _ rfl; (with_reducible repeat (first | refine blk_drewN ?_ _ | refine blk_drew ?_ | refine blk_alloc ?_ _)); exact BK770.out) Try.underlying59 rfl (by kernel_rfl)) rfl ?_
   exact ⟨_, _, by first | rfl | (simp [errW_none, errW_some] <;> rfl) | (simp [*, errW_none, errW_some] <;> rfl), Kd.Rq (Kd.R_mono (Kd.R_far (p := ⟨gb770, 13, none⟩) (Kd.R_far (p := ⟨gb770, 12, none⟩) (Kd.R_far (p := ⟨gb770, 11, none⟩) (Kd.R_far (p := ⟨gb770, 10, none⟩) (Kd.R_far (p := ⟨gb770, 9, none⟩) (Kd.R_far (p := ⟨gb770, 8, none⟩) (Kd.R_far (p := ⟨gb770, 7, none⟩) (Kd.R_far (p := ⟨gb770, 6, none⟩) (Kd.R_far (p := ⟨gb770, 5, none⟩) (Kd.R_far (p := ⟨gb770, 4, none⟩) (Kd.R_far (p := ⟨gb770, 3, none⟩) (Kd.R_far (p := ⟨gb770, 2, none⟩) (Kd.R_far (p := ⟨gb770, 1, none⟩) (Kd.R_far (p := ⟨gb770, 0, none⟩) (Kd.R_types HO776.out BK770.out (by decide)) (fun _ hk => hk.2) (.slice Ao18 y774.length co18)) (fun _ hk => hk.2) (.int .i64 a1_0)) (fun _ hk => hk.2) (.int .i64 a1_1)) (fun _ hk => hk.2) (.int .i64 a1_2)) (fun _ hk => hk.2) (.int .i64 a2_0)) (fun _ hk => hk.2) (.int .i64 a2_1)) (fun _ hk => hk.2) (.slice none 0 0)) (fun _ hk => hk.2) (.int .i64 0)) (fun _ hk => hk.2) (.int .i64 0)) (fun _ hk => hk.2) (.int .i64 0)) (fun _ hk => hk.2) (.int .i64 0)) (fun _ hk => hk.2) (.int .i64 0)) (fun _ hk => hk.2) (.int .i64 0)) (fun _ hk => hk.2) (.int .i64 a3)) (fun _ hk => trivial)), by first | exact Kd.R_nil _ _ _ _ _ | exact Kd.N_nil _ _ _ _ _ | exact Kd.V_nil _ _ _ _ _ | exact Kd.Q_nil _ _ _ _ _ | exact Kd.S_nil _ _ _ _ _, blq HB.out⟩
  ·
   replace c38 := Bool.eq_false_iff.mpr c38
   subst c38
   have H1 : (some (([] : List Int), 0, 0, 0, 0, 0, ([] : List (S41)), 0, 0, 0, 0, 0, 0, 0, false)) = some (r1, r2, r3, r4, r5, r6, r7, r8, r9, r10, r11, r12, r13, r14, r15) := by rw [if_neg (show ¬ (false = true) by decide)] at H; exact H
   clear H
   have H := H1
   clear H1
   simp only [Option.some.injEq, Prod.mk.injEq] at H
   obtain ⟨rfl, rfl, rfl, rfl, rfl, rfl, rfl, rfl, rfl, rfl, rfl, rfl, rfl, rfl, rfl⟩ := H
   have hnb46 := NB770_768.out
   have hnc46 := NB768_770.out
   have hnb47 := NB770_769.out
   have hnc47 := NB769_770.out
   have hnb48 := NB770_777.out
   have hnc48 := NB777_770.out
   obtain ⟨hcz49_0, hcz49_1, hcz49_2, hcz49_3, hcz49_4, hcz49_5, hcz49_6, hcz49_7, hcz49_8, hcz49_9, hcz49_10, hcz49_11, hcz49_12, hcz49_13, hfz49_0, hfz49_1, hfz49_2, hfz49_3, hfz49_4, hfz49_5, hfz49_6, hfz49_7, hfz49_8, hfz49_9, hfz49_10, hfz49_11, hfz49_12, hfz49_13⟩ := bq14 BK770.out
   go_wp2
   refine bodyPost_ret (results_ct rfl _ _ gb770 59 #[.slice none 0 0, .int .i64 0, .int .i64 0, .int .i64 0, .int .i64 0, .int .i64 0, .slice none 0 0, .int .i64 0, .int .i64 0, .int .i64 0, .int .i64 0, .int .i64 0, .int .i64 0, .int .i64 0] (0, 0) _ rfl (by (with_reducible repeat (first | refine blk_drewN ?_ _ | refine blk_drew ?_ | refine blk_alloc ?_ _)); refine blk_put (cs := #[.slice none 0 0, .int .i64 0, .int .i64 0, .int .i64 0, .int .i64 0, .int .i64 0, .slice none 0 0, .int .i64 0, .int .i64 0, .int .i64 0, .int .i64 0, .int .i64 0, .int .i64 0, .int .i64 0]) ?_ 13 _ rfl; (with_reducible repeat (first | refine blk_drewN ?_ _ | refine blk_drew ?_ | refine blk_alloc ?_ _)); refine blk_put (cs := #[.slice none 0 0, .int .i64 0, .int .i64 0, .int .i64 0, .int .i64 0, .int .i64 0, .slice none 0 0, .int .i64 0, .int .i64 0, .int .i64 0, .int .i64 0, .int .i64 0, .int .i64 0, .int .i64 0]) ?_ 12 _ rfl; (with_reducible repeat (first | refine blk_drewN ?_ _ | refine blk_drew ?_ | refine blk_alloc ?_ _)); refine blk_put (cs := #[.slice none 0 0, .int .i64 0, .int .i64 0, .int .i64 0, .int .i64 0, .int .i64 0, .slice none 0 0, .int .i64 0, .int .i64 0, .int .i64 0, .int .i64 0, .int .i64 0, .int .i64 0, .int .i64 0]) ?_ 11 _ rfl; (with_reducible repeat (first | refine blk_drewN ?_ _ | refine blk_drew ?_ | refine blk_alloc ?_ _)); refine blk_put (cs := #[.slice none 0 0, .int .i64 0, .int .i64 0, .int .i64 0, .int .i64 0, .int .i64 0, .slice none 0 0, .int .i64 0, .int .i64 0, .int .i64 0, .int .i64 0, .int .i64 0, .int .i64 0, .int .i64 0]) ?_ 10 _ rfl; (with_reducible repeat (first | refine blk_drewN ?_ _ | refine blk_drew ?_ | refine blk_alloc ?_ _)); refine blk_put (cs := #[.slice none 0 0, .int .i64 0, .int .i64 0, .int .i64 0, .int .i64 0, .int .i64 0, .slice none 0 0, .int .i64 0, .int .i64 0, .int .i64 0, .int .i64 0, .int .i64 0, .int .i64 0, .int .i64 0]) ?_ 9 _ rfl; (with_reducible repeat (first | refine blk_drewN ?_ _ | refine blk_drew ?_ | refine blk_alloc ?_ _)); refine blk_put (cs := #[.slice none 0 0, .int .i64 0, .int .i64 0, .int .i64 0, .int .i64 0, .int .i64 0, .slice none 0 0, .int .i64 0, .int .i64 0, .int .i64 0, .int .i64 0, .int .i64 0, .int .i64 0, .int .i64 0]) ?_ 8 _ rfl; (with_reducible repeat (first | refine blk_drewN ?_ _ | refine blk_drew ?_ | refine blk_alloc ?_ _)); refine blk_put (cs := #[.slice none 0 0, .int .i64 0, .int .i64 0, .int .i64 0, .int .i64 0, .int .i64 0, .slice none 0 0, .int .i64 0, .int .i64 0, .int .i64 0, .int .i64 0, .int .i64 0, .int .i64 0, .int .i64 0]) ?_ 7 _ rfl; (with_reducible repeat (first | refine blk_drewN ?_ _ | refine blk_drew ?_ | refine blk_alloc ?_ _)); refine blk_put (cs := #[.slice none 0 0, .int .i64 0, .int .i64 0, .int .i64 0, .int .i64 0, .int .i64 0, .slice none 0 0, .int .i64 0, .int .i64 0, .int .i64 0, .int .i64 0, .int .i64 0, .int .i64 0, .int .i64 0]) ?_ 6 _ rfl; (with_reducible repeat (first | refine blk_drewN ?_ _ | refine blk_drew ?_ | refine blk_alloc ?_ _)); refine blk_put (cs := #[.slice none 0 0, .int .i64 0, .int .i64 0, .int .i64 0, .int .i64 0, .int .i64 0, .slice none 0 0, .int .i64 0, .int .i64 0, .int .i64 0, .int .i64 0, .int .i64 0, .int .i64 0, .int .i64 0]) ?_ 5 _ rfl; (with_reducible repeat (first | refine blk_drewN ?_ _ | refine blk_drew ?_ | refine blk_alloc ?_ _)); refine blk_put (cs := #[.slice none 0 0, .int .i64 0, .int .i64 0, .int .i64 0, .int .i64 0, .int .i64 0, .slice none 0 0, .int .i64 0, .int .i64 0, .int .i64 0, .int .i64 0, .int .i64 0, .int .i64 0, .int .i64 0]) ?_ 4 _ rfl; (with_reducible repeat (first | refine blk_drewN ?_ _ | refine blk_drew ?_ | refine blk_alloc ?_ _)); refine blk_put (cs := #[.slice none 0 0, .int .i64 0, .int .i64 0, .int .i64 0, .int .i64 0, .int .i64 0, .slice none 0 0, .int .i64 0, .int .i64 0, .int .i64 0, .int .i64 0, .int .i64 0, .int .i64 0, .int .i64 0]) ?_ 3 _ rfl; (with_reducible repeat (first | refine blk_drewN ?_ _ | refine blk_drew ?_ | refine blk_alloc ?_ _)); refine blk_put (cs := #[.slice none 0 0, .int .i64 0, .int .i64 0, .int .i64 0, .int .i64 0, .int .i64 0, .slice none 0 0, .int .i64 0, .int .i64 0, .int .i64 0, .int .i64 0, .int .i64 0, .int .i64 0, .int .i64 0]) ?_ 2 _ rfl; (with_reducible repeat (first | refine blk_drewN ?_ _ | refine blk_drew ?_ | refine blk_alloc ?_ _)); refine blk_put (cs := #[.slice none 0 0, .int .i64 0, .int .i64 0, .int .i64 0, .int .i64 0, .int .i64 0, .slice none 0 0, .int .i64 0, .int .i64 0, .int .i64 0, .int .i64 0, .int .i64 0, .int .i64 0, .int .i64 0]) ?_ 1 _ rfl; (with_reducible repeat (first | refine blk_drewN ?_ _ | refine blk_drew ?_ | refine blk_alloc ?_ _)); refine blk_put (cs := #[.slice none 0 0, .int .i64 0, .int .i64 0, .int .i64 0, .int .i64 0, .int .i64 0, .slice none 0 0, .int .i64 0, .int .i64 0, .int .i64 0, .int .i64 0, .int .i64 0, .int .i64 0, .int .i64 0]) ?_ 0 _ rfl; (with_reducible repeat (first | refine blk_drewN ?_ _ | refine blk_drew ?_ | refine blk_alloc ?_ _)); exact BK770.out) Try.underlying59 rfl (by kernel_rfl)) rfl ?_
   exact ⟨_, _, by first | rfl | (simp [errW_none, errW_some] <;> rfl) | (simp [*, errW_none, errW_some] <;> rfl), by first | exact Kd.R_nil _ _ _ _ _ | exact Kd.N_nil _ _ _ _ _ | exact Kd.V_nil _ _ _ _ _ | exact Kd.Q_nil _ _ _ _ _ | exact Kd.S_nil _ _ _ _ _, by first | exact Kd.R_nil _ _ _ _ _ | exact Kd.N_nil _ _ _ _ _ | exact Kd.V_nil _ _ _ _ _ | exact Kd.Q_nil _ _ _ _ _ | exact Kd.S_nil _ _ _ _ _, blq HB.out⟩
 ·
  rw [if_neg c5] at H
  exact absurd H (by simp)

/-! ### impl_OpenBakery: function 36 -/
def impl_OpenBakery.f (k : Nat) (l0 : List Int) (a1_0 : Int) (a1_1 : Int) (a1_2 : Int) (a2_0 : Int) (a2_1 : Int) (a3 : Int) : Option (List Int × Int × Int × Int × Int × Int × (List (S41)) × Int × Int × Int × Int × Int × Int × Int × Bool) := (impl_bakeryCopy.f l0 a1_0 a1_1 a1_2 a2_0 a2_1 ([] : List (S41)) 0 0 0 0 0 0 a3).bind fun bt828 => ((impl_BakeryOk.f k bt828.1 bt828.2.1 bt828.2.2.1 bt828.2.2.2.1 bt828.2.2.2.2.1 bt828.2.2.2.2.2.1 bt828.2.2.2.2.2.2.1 bt828.2.2.2.2.2.2.2.1 bt828.2.2.2.2.2.2.2.2.1 bt828.2.2.2.2.2.2.2.2.2.1 bt828.2.2.2.2.2.2.2.2.2.2.1 bt828.2.2.2.2.2.2.2.2.2.2.2.1 bt828.2.2.2.2.2.2.2.2.2.2.2.2.1 bt828.2.2.2.2.2.2.2.2.2.2.2.2.2).bind fun t847 => (if t847 = true then (some (bt828.1, bt828.2.1, bt828.2.2.1, bt828.2.2.2.1, bt828.2.2.2.2.1, bt828.2.2.2.2.2.1, bt828.2.2.2.2.2.2.1, bt828.2.2.2.2.2.2.2.1, bt828.2.2.2.2.2.2.2.2.1, bt828.2.2.2.2.2.2.2.2.2.1, bt828.2.2.2.2.2.2.2.2.2.2.1, bt828.2.2.2.2.2.2.2.2.2.2.2.1, bt828.2.2.2.2.2.2.2.2.2.2.2.2.1, bt828.2.2.2.2.2.2.2.2.2.2.2.2.2, true)) else (some (([] : List Int), 0, 0, 0, 0, 0, ([] : List (S41)), 0, 0, 0, 0, 0, 0, 0, false))))
theorem impl_OpenBakery.mono : ∀ a0 a1 a2 a3 a4 a5 a6 k, LeO (impl_OpenBakery.f k a0 a1 a2 a3 a4 a5 a6) (impl_OpenBakery.f (k + 1) a0 a1 a2 a3 a4 a5 a6) := by
 intro a0 a1 a2 a3 a4 a5 a6 k
 unfold impl_OpenBakery.f
 repeat' first
   | (with_reducible exact impl_BakeryOk.mono _ _ _ _ _ _ _ _ _ _ _ _ _ _ _)
   | (with_reducible exact LeO.refl _)
   | (with_reducible exact LeO.none _)
   | (with_reducible refine LeO.ite ?_ ?_)
   | (with_reducible refine LeO.bind ?_ (fun _ => ?_))
   | exact impl_BakeryOk.mono _ _ _ _ _ _ _ _ _ _ _ _ _ _ _
   | exact LeO.none _
   | refine LeO.ite ?_ ?_
   | refine LeO.bind ?_ (fun _ => ?_)
set_option maxHeartbeats 8000000 in
set_option maxRecDepth 100000 in
theorem impl_OpenBakery.calls (k : Nat) (A0 : Option Addr) (c0 : Nat) (l0 : List Int) (a1_0 : Int) (a1_1 : Int) (a1_2 : Int) (a2_0 : Int) (a2_1 : Int) (a3 : Int) (r1 : List Int) (r2 : Int) (r3 : Int) (r4 : Int) (r5 : Int) (r6 : Int) (r7 : List (S41)) (r8 : Int) (r9 : Int) (r10 : Int) (r11 : Int) (r12 : Int) (r13 : Int) (r14 : Int) (r15 : Bool) (w : World) (hr0 : Kd.C (Kd.int .i64) w A0 l0.length l0) (hc0 : l0.length ≤ c0) (h : impl_OpenBakery.f k l0 a1_0 a1_1 a1_2 a2_0 a2_1 a3 = some (r1, r2, r3, r4, r5, r6, r7, r8, r9, r10, r11, r12, r13, r14, r15)) :
  Calls Try.prog 36 #[.slice A0 l0.length c0, .agg #[.int .i64 a1_0, .int .i64 a1_1, .int .i64 a1_2], .agg #[.int .i64 a2_0, .int .i64 a2_1], .int .i64 a3] w fun e w' => ∃ v0_ v6_ : Value, e = .returned (.tuple #[.agg #[v0_, .int .i64 r2, .int .i64 r3, .int .i64 r4, .int .i64 r5, .int .i64 r6, v6_, .int .i64 r8, .int .i64 r9, .int .i64 r10, .int .i64 r11, .int .i64 r12, .int .i64 r13, .int .i64 r14], .bool r15]) ∧ Kd.R (Kd.int .i64) 3 w' w.heap.size (fun _ => True) v0_ r1 ∧ Kd.R k41 41 w' w.heap.size (fun _ => True) v6_ r7 ∧ Below w.heap.size w w' := by
 have hu56 := Try.underlying56
 have hu57 := Try.underlying57
 have hu59 := Try.underlying59
 have hu55 := Try.underlying55
 have HR0 := Aside0.mk hr0
 have HC0 := Aside0.mk hc0
 clear hr0 hc0
 have HB := Aside0.mk (Below.refl w.heap.size w)
 have H : ((impl_bakeryCopy.f l0 a1_0 a1_1 a1_2 a2_0 a2_1 ([] : List (S41)) 0 0 0 0 0 0 a3).bind fun bt828 => ((impl_BakeryOk.f k bt828.1 bt828.2.1 bt828.2.2.1 bt828.2.2.2.1 bt828.2.2.2.2.1 bt828.2.2.2.2.2.1 bt828.2.2.2.2.2.2.1 bt828.2.2.2.2.2.2.2.1 bt828.2.2.2.2.2.2.2.2.1 bt828.2.2.2.2.2.2.2.2.2.1 bt828.2.2.2.2.2.2.2.2.2.2.1 bt828.2.2.2.2.2.2.2.2.2.2.2.1 bt828.2.2.2.2.2.2.2.2.2.2.2.2.1 bt828.2.2.2.2.2.2.2.2.2.2.2.2.2).bind fun t847 => (if t847 = true then (some (bt828.1, bt828.2.1, bt828.2.2.1, bt828.2.2.2.1, bt828.2.2.2.2.1, bt828.2.2.2.2.2.1, bt828.2.2.2.2.2.2.1, bt828.2.2.2.2.2.2.2.1, bt828.2.2.2.2.2.2.2.2.1, bt828.2.2.2.2.2.2.2.2.2.1, bt828.2.2.2.2.2.2.2.2.2.2.1, bt828.2.2.2.2.2.2.2.2.2.2.2.1, bt828.2.2.2.2.2.2.2.2.2.2.2.2.1, bt828.2.2.2.2.2.2.2.2.2.2.2.2.2, true)) else (some (([] : List Int), 0, 0, 0, 0, 0, ([] : List (S41)), 0, 0, 0, 0, 0, 0, 0, false))))) = some (r1, r2, r3, r4, r5, r6, r7, r8, r9, r10, r11, r12, r13, r14, r15) := h
 clear h
 replace H := Option.bind_eq_some_iff.mp H
 obtain ⟨⟨t828, t831, t832, t833, t834, t835, t836, t839, t840, t841, t842, t843, t844, t845⟩, A50, H⟩ := H
 replace H : ((impl_BakeryOk.f k t828 t831 t832 t833 t834 t835 t836 t839 t840 t841 t842 t843 t844 t845).bind fun t847 => (if t847 = true then (some (t828, t831, t832, t833, t834, t835, t836, t839, t840, t841, t842, t843, t844, t845, true)) else (some (([] : List Int), 0, 0, 0, 0, 0, ([] : List (S41)), 0, 0, 0, 0, 0, 0, 0, false)))) = some (r1, r2, r3, r4, r5, r6, r7, r8, r9, r10, r11, r12, r13, r14, r15) := H
 have A5 := Aside0.mk A50
 clear A50
 replace H := Option.bind_eq_some_iff.mp H
 obtain ⟨t847, A60, H⟩ := H
 replace H : (if t847 = true then (some (t828, t831, t832, t833, t834, t835, t836, t839, t840, t841, t842, t843, t844, t845, true)) else (some (([] : List Int), 0, 0, 0, 0, 0, ([] : List (S41)), 0, 0, 0, 0, 0, 0, 0, false))) = some (r1, r2, r3, r4, r5, r6, r7, r8, r9, r10, r11, r12, r13, r14, r15) := H
 have A6 := Aside0.mk A60
 clear A60
 have HF7 := Aside0.mk H
 clear H
 go_enter Try.func36, Try.ntmps36
 go_upto_if 20 with (first | ((with_reducible refine gate_dst (N := 5) rfl ?_); refine box_event ?hg (N := 5) ?hd (cs := #[.int .i64 a1_0, .int .i64 a1_1, .int .i64 a1_2]) (t := 56) ?hr ?_; (case hd => rfl); (case hg => rfl); (case hr => first | (go_simp; done) | (go_simp; rfl)); intro gb825 hg w8 hbox hb; have BK825 := Aside0.mk (hbox); have GW825 := sQ hg HB; have GE825 := sQ hg HB; replace HB := hbs HB hb; clear hb hbox hg) | ((with_reducible refine gate_dst (N := 6) rfl ?_); refine box_event ?hg (N := 6) ?hd (cs := #[.int .i64 a2_0, .int .i64 a2_1]) (t := 57) ?hr ?_; (case hd => rfl); (case hg => rfl); (case hr => first | (go_simp; done) | (go_simp; rfl)); intro gb826 hg w9 hbox hb; have BK826 := Aside0.mk (hbox); have GW826 := sQ hg HB; have GE826 := sQ hg HB; have NB825_826 := qL hg BK825; have NB826_825 := qG hg BK825; replace BK825 := bkb BK825 hb; replace HB := hbs HB hb; clear hb hbox hg) | ((with_reducible refine gate_dst (N := 8) rfl ?_); refine box_event ?hg (N := 8) ?hd (cs := #[.slice none 0 0, .int .i64 0, .int .i64 0, .int .i64 0, .int .i64 0, .int .i64 0, .slice none 0 0, .int .i64 0, .int .i64 0, .int .i64 0, .int .i64 0, .int .i64 0, .int .i64 0, .int .i64 0]) (t := 59) ?hr ?_; (case hd => rfl); (case hg => rfl); (case hr => first | (go_simp; done) | (go_simp; rfl)); intro gb827 hg w10 hbox hb; have BK827 := Aside0.mk (hbox); have GW827 := sQ hg HB; have GE827 := sQ hg HB; have NB825_827 := qL hg BK825; have NB827_825 := qG hg BK825; have NB826_827 := qL hg BK826; have NB827_826 := qG hg BK826; replace BK825 := bkb BK825 hb; replace BK826 := bkb BK826 hb; replace HB := hbs HB hb; clear hb hbox hg; have hnb11 := NB825_826.out; have hnc11 := NB826_825.out; have hnb12 := NB825_827.out; have hnc12 := NB827_825.out; obtain ⟨hcz13_0, hcz13_1, hcz13_2, hfz13_0, hfz13_1, hfz13_2⟩ := bq3 BK825.out; have hnb14 := NB826_827.out; have hnc14 := NB827_826.out; obtain ⟨hcz15_0, hcz15_1, hfz15_0, hfz15_1⟩ := bq2 BK826.out) | ((with_reducible refine gate_callee (f := 77) rfl ?_); refine gLq (some 17) Try.func77 #[.agg #[.slice A0 l0.length c0, .int .i64 a1_0, .int .i64 a1_1, .int .i64 a1_2, .int .i64 a2_0, .int .i64 a2_1, .slice none 0 0, .int .i64 0, .int .i64 0, .int .i64 0, .int .i64 0, .int .i64 0, .int .i64 0, .int .i64 a3]] ?_; (refine (impl_bakeryCopy.calls _ _ l0 a1_0 a1_1 a1_2 a2_0 a2_1 _ _ ([] : List (S41)) 0 0 0 0 0 0 a3 t828 t831 t832 t833 t834 t835 t836 t839 t840 t841 t842 t843 t844 t845 _ ?side1 ?side2 ?side3 ?side4 A5.out).mono ?_); (case side1 => exact Kd.Cq (Kd.C_below HR0.out HB.out)); (case side2 => exact HC0.out); (case side3 => exact Kd.C_nil _ _); (case side4 => exact Nat.le_refl _); rintro e w16 ⟨v829, v837, rfl, ho0, ho1, hb⟩; refine ⟨_, rfl, ?_⟩; have HO830 := Aside0.mk (Kd.R_lower ho0 (below_size (blq HB.out))); have HO838 := Aside0.mk (Kd.R_lower ho1 (below_size (blq HB.out))); replace BK825 := bkb BK825 hb; replace BK826 := bkb BK826 hb; replace BK827 := bkb BK827 hb; replace HB := hbs HB hb; (try clear hb); (try clear hb2); (try clear hk); (try clear hi); (try clear ho0); (try clear ho1)) | ((with_reducible refine gate_dst (N := 10) rfl ?_); refine box_event ?hg (N := 10) ?hd (cs := #[.slice none 0 0, .int .i64 0, .int .i64 0, .int .i64 0, .int .i64 0, .int .i64 0, .slice none 0 0, .int .i64 0, .int .i64 0, .int .i64 0, .int .i64 0, .int .i64 0, .int .i64 0, .int .i64 0]) (t := 59) ?hr ?_; (case hd => rfl); (case hg => rfl); (case hr => first | (go_simp; done) | (go_simp; rfl)); intro gb846 hg w17 hbox hb; have BK846 := Aside0.mk (hbox); have GW846 := sQ hg HB; have GE846 := sQ hg HB; have NB825_846 := qL hg BK825; have NB846_825 := qG hg BK825; have NB826_846 := qL hg BK826; have NB846_826 := qG hg BK826; have NB827_846 := qL hg BK827; have NB846_827 := qG hg BK827; replace HO830 := rob HO830 hb; replace HO838 := rob HO838 hb; replace BK825 := bkb BK825 hb; replace BK826 := bkb BK826 hb; replace BK827 := bkb BK827 hb; replace HB := hbs HB hb; clear hb hbox hg; obtain ⟨Ao18, co18, eo18⟩ := Kd.R_slice HO830.out; subst eo18; have hnb19 := NB846_825.out; have hnc19 := NB825_846.out; have hnb20 := NB846_826.out; have hnc20 := NB826_846.out; have hnb21 := NB846_827.out; have hnc21 := NB827_846.out; obtain ⟨hcz22_0, hcz22_1, hcz22_2, hcz22_3, hcz22_4, hcz22_5, hcz22_6, hcz22_7, hcz22_8, hcz22_9, hcz22_10, hcz22_11, hcz22_12, hcz22_13, hfz22_0, hfz22_1, hfz22_2, hfz22_3, hfz22_4, hfz22_5, hfz22_6, hfz22_7, hfz22_8, hfz22_9, hfz22_10, hfz22_11, hfz22_12, hfz22_13⟩ := bq14 BK846.out; obtain ⟨Ao23, co23, eo23⟩ := Kd.R_slice HO838.out; subst eo23) | ((with_reducible refine gate_callee (f := 26) rfl ?_); refine gLq (some 19) Try.func26 #[.agg #[.slice Ao18 t828.length co18, .int .i64 t831, .int .i64 t832, .int .i64 t833, .int .i64 t834, .int .i64 t835, .slice Ao23 t836.length co23, .int .i64 t839, .int .i64 t840, .int .i64 t841, .int .i64 t842, .int .i64 t843, .int .i64 t844, .int .i64 t845]] ?_; (with_reducible refine (impl_BakeryOk.calls k _ _ t828 t831 t832 t833 t834 t835 _ _ t836 t839 t840 t841 t842 t843 t844 t845 t847 _ ?side1 ?side2 ?side3 ?side4 A6.out).mono ?_); (case side1 => refine (Kd.R_reads' (e := 3) (base := w.heap.size) (ok := fun k_ => True) (n := t828.length) (c := co18) ?_).2.2; exact (Kd.Rq (Kd.R_mono (Kd.R_far (p := ⟨gb846, 13, none⟩) (Kd.R_far (p := ⟨gb846, 12, none⟩) (Kd.R_far (p := ⟨gb846, 11, none⟩) (Kd.R_far (p := ⟨gb846, 10, none⟩) (Kd.R_far (p := ⟨gb846, 9, none⟩) (Kd.R_far (p := ⟨gb846, 8, none⟩) (Kd.R_far (p := ⟨gb846, 7, none⟩) (Kd.R_far (p := ⟨gb846, 6, none⟩) (Kd.R_far (p := ⟨gb846, 5, none⟩) (Kd.R_far (p := ⟨gb846, 4, none⟩) (Kd.R_far (p := ⟨gb846, 3, none⟩) (Kd.R_far (p := ⟨gb846, 2, none⟩) (Kd.R_far (p := ⟨gb846, 1, none⟩) (Kd.R_far (p := ⟨gb846, 0, none⟩) (Kd.R_types HO830.out BK846.out (by decide)) (fun _ hk => hk.2) (.slice Ao18 t828.length co18)) (fun _ hk => hk.2) (.int .i64 t831)) (fun _ hk => hk.2) (.int .i64 t832)) (fun _ hk => hk.2) (.int .i64 t833)) (fun _ hk => hk.2) (.int .i64 t834)) (fun _ hk => hk.2) (.int .i64 t835)) (fun _ hk => hk.2) (.slice Ao23 t836.length co23)) (fun _ hk => hk.2) (.int .i64 t839)) (fun _ hk => hk.2) (.int .i64 t840)) (fun _ hk => hk.2) (.int .i64 t841)) (fun _ hk => hk.2) (.int .i64 t842)) (fun _ hk => hk.2) (.int .i64 t843)) (fun _ hk => hk.2) (.int .i64 t844)) (fun _ hk => hk.2) (.int .i64 t845)) (fun _ h_ => h_.1)))); (case side2 => exact (Kd.R_reads' HO830.out).2.1); (case side3 => refine (Kd.R_reads' (e := 41) (base := w.heap.size) (ok := fun k_ => True) (n := t836.length) (c := co23) ?_).2.2; exact (Kd.Rq (Kd.R_mono (Kd.R_far (p := ⟨gb846, 13, none⟩) (Kd.R_far (p := ⟨gb846, 12, none⟩) (Kd.R_far (p := ⟨gb846, 11, none⟩) (Kd.R_far (p := ⟨gb846, 10, none⟩) (Kd.R_far (p := ⟨gb846, 9, none⟩) (Kd.R_far (p := ⟨gb846, 8, none⟩) (Kd.R_far (p := ⟨gb846, 7, none⟩) (Kd.R_far (p := ⟨gb846, 6, none⟩) (Kd.R_far (p := ⟨gb846, 5, none⟩) (Kd.R_far (p := ⟨gb846, 4, none⟩) (Kd.R_far (p := ⟨gb846, 3, none⟩) (Kd.R_far (p := ⟨gb846, 2, none⟩) (Kd.R_far (p := ⟨gb846, 1, none⟩) (Kd.R_far (p := ⟨gb846, 0, none⟩) (Kd.R_types HO838.out BK846.out (by decide)) (fun _ hk => hk.2) (.slice Ao18 t828.length co18)) (fun _ hk => hk.2) (.int .i64 t831)) (fun _ hk => hk.2) (.int .i64 t832)) (fun _ hk => hk.2) (.int .i64 t833)) (fun _ hk => hk.2) (.int .i64 t834)) (fun _ hk => hk.2) (.int .i64 t835)) (fun _ hk => hk.2) (.slice Ao23 t836.length co23)) (fun _ hk => hk.2) (.int .i64 t839)) (fun _ hk => hk.2) (.int .i64 t840)) (fun _ hk => hk.2) (.int .i64 t841)) (fun _ hk => hk.2) (.int .i64 t842)) (fun _ hk => hk.2) (.int .i64 t843)) (fun _ hk => hk.2) (.int .i64 t844)) (fun _ hk => hk.2) (.int .i64 t845)) (fun _ h_ => h_.1)))); (case side4 => exact (Kd.R_reads' HO838.out).2.1); rintro e w24 ⟨rfl, hb⟩; refine ⟨_, rfl, ?_⟩; replace HO830 := Aside0.mk (Kd.R_below (Kd.Rq (Kd.R_mono (Kd.R_far (p := ⟨gb846, 13, none⟩) (Kd.R_far (p := ⟨gb846, 12, none⟩) (Kd.R_far (p := ⟨gb846, 11, none⟩) (Kd.R_far (p := ⟨gb846, 10, none⟩) (Kd.R_far (p := ⟨gb846, 9, none⟩) (Kd.R_far (p := ⟨gb846, 8, none⟩) (Kd.R_far (p := ⟨gb846, 7, none⟩) (Kd.R_far (p := ⟨gb846, 6, none⟩) (Kd.R_far (p := ⟨gb846, 5, none⟩) (Kd.R_far (p := ⟨gb846, 4, none⟩) (Kd.R_far (p := ⟨gb846, 3, none⟩) (Kd.R_far (p := ⟨gb846, 2, none⟩) (Kd.R_far (p := ⟨gb846, 1, none⟩) (Kd.R_far (p := ⟨gb846, 0, none⟩) (Kd.R_types HO830.out BK846.out (by decide)) (fun _ hk => hk.2) (.slice Ao18 t828.length co18)) (fun _ hk => hk.2) (.int .i64 t831)) (fun _ hk => hk.2) (.int .i64 t832)) (fun _ hk => hk.2) (.int .i64 t833)) (fun _ hk => hk.2) (.int .i64 t834)) (fun _ hk => hk.2) (.int .i64 t835)) (fun _ hk => hk.2) (.slice Ao23 t836.length co23)) (fun _ hk => hk.2) (.int .i64 t839)) (fun _ hk => hk.2) (.int .i64 t840)) (fun _ hk => hk.2) (.int .i64 t841)) (fun _ hk => hk.2) (.int .i64 t842)) (fun _ hk => hk.2) (.int .i64 t843)) (fun _ hk => hk.2) (.int .i64 t844)) (fun _ hk => hk.2) (.int .i64 t845)) (fun _ h_ => h_.1))) hb); replace HO838 := Aside0.mk (Kd.R_below (Kd.Rq (Kd.R_mono (Kd.R_far (p := ⟨gb846, 13, none⟩) (Kd.R_far (p := ⟨gb846, 12, none⟩) (Kd.R_far (p := ⟨gb846, 11, none⟩) (Kd.R_far (p := ⟨gb846, 10, none⟩) (Kd.R_far (p := ⟨gb846, 9, none⟩) (Kd.R_far (p := ⟨gb846, 8, none⟩) (Kd.R_far (p := ⟨gb846, 7, none⟩) (Kd.R_far (p := ⟨gb846, 6, none⟩) (Kd.R_far (p := ⟨gb846, 5, none⟩) (Kd.R_far (p := ⟨gb846, 4, none⟩) (Kd.R_far (p := ⟨gb846, 3, none⟩) (Kd.R_far (p := ⟨gb846, 2, none⟩) (Kd.R_far (p := ⟨gb846, 1, none⟩) (Kd.R_far (p := ⟨gb846, 0, none⟩) (Kd.R_types HO838.out BK846.out (by decide)) (fun _ hk => hk.2) (.slice Ao18 t828.length co18)) (fun _ hk => hk.2) (.int .i64 t831)) (fun _ hk => hk.2) (.int .i64 t832)) (fun _ hk => hk.2) (.int .i64 t833)) (fun _ hk => hk.2) (.int .i64 t834)) (fun _ hk => hk.2) (.int .i64 t835)) (fun _ hk => hk.2) (.slice Ao23 t836.length co23)) (fun _ hk => hk.2) (.int .i64 t839)) (fun _ hk => hk.2) (.int .i64 t840)) (fun _ hk => hk.2) (.int .i64 t841)) (fun _ hk => hk.2) (.int .i64 t842)) (fun _ hk => hk.2) (.int .i64 t843)) (fun _ hk => hk.2) (.int .i64 t844)) (fun _ hk => hk.2) (.int .i64 t845)) (fun _ h_ => h_.1))) hb); replace BK825 := Aside0.mk (blk_below (g := gb825) (o := .cells #[.int .i64 a1_0, .int .i64 a1_1, .int .i64 a1_2] 56 (0, 0)) (by (with_reducible repeat (first | refine blk_drewN ?_ _ | refine blk_drew ?_ | refine blk_alloc ?_ _)); refine blk_far ?_ NB825_846.out _; (with_reducible repeat (first | refine blk_drewN ?_ _ | refine blk_drew ?_ | refine blk_alloc ?_ _)); refine blk_far ?_ NB825_846.out _; (with_reducible repeat (first | refine blk_drewN ?_ _ | refine blk_drew ?_ | refine blk_alloc ?_ _)); refine blk_far ?_ NB825_846.out _; (with_reducible repeat (first | refine blk_drewN ?_ _ | refine blk_drew ?_ | refine blk_alloc ?_ _)); refine blk_far ?_ NB825_846.out _; (with_reducible repeat (first | refine blk_drewN ?_ _ | refine blk_drew ?_ | refine blk_alloc ?_ _)); refine blk_far ?_ NB825_846.out _; (with_reducible repeat (first | refine blk_drewN ?_ _ | refine blk_drew ?_ | refine blk_alloc ?_ _)); refine blk_far ?_ NB825_846.out _; (with_reducible repeat (first | refine blk_drewN ?_ _ | refine blk_drew ?_ | refine blk_alloc ?_ _)); refine blk_far ?_ NB825_846.out _; (with_reducible repeat (first | refine blk_drewN ?_ _ | refine blk_drew ?_ | refine blk_alloc ?_ _)); refine blk_far ?_ NB825_846.out _; (with_reducible repeat (first | refine blk_drewN ?_ _ | refine blk_drew ?_ | refine blk_alloc ?_ _)); refine blk_far ?_ NB825_846.out _; (with_reducible repeat (first | refine blk_drewN ?_ _ | refine blk_drew ?_ | refine blk_alloc ?_ _)); refine blk_far ?_ NB825_846.out _; (with_reducible repeat (first | refine blk_drewN ?_ _ | refine blk_drew ?_ | refine blk_alloc ?_ _)); refine blk_far ?_ NB825_846.out _; (with_reducible repeat (first | refine blk_drewN ?_ _ | refine blk_drew ?_ | refine blk_alloc ?_ _)); refine blk_far ?_ NB825_846.out _; (with_reducible repeat (first | refine blk_drewN ?_ _ | refine blk_drew ?_ | refine blk_alloc ?_ _)); refine blk_far ?_ NB825_846.out _; (with_reducible repeat (first | refine blk_drewN ?_ _ | refine blk_drew ?_ | refine blk_alloc ?_ _)); refine blk_far ?_ NB825_846.out _; (with_reducible repeat (first | refine blk_drewN ?_ _ | refine blk_drew ?_ | refine blk_alloc ?_ _)); exact BK825.out) hb); replace BK826 := Aside0.mk (blk_below (g := gb826) (o := .cells #[.int .i64 a2_0, .int .i64 a2_1] 57 (0, 0)) (by (with_reducible repeat (first | refine blk_drewN ?_ _ | refine blk_drew ?_ | refine blk_alloc ?_ _)); refine blk_far ?_ NB826_846.out _; (with_reducible repeat (first | refine blk_drewN ?_ _ | refine blk_drew ?_ | refine blk_alloc ?_ _)); refine blk_far ?_ NB826_846.out _; (with_reducible repeat (first | refine blk_drewN ?_ _ | refine blk_drew ?_ | refine blk_alloc ?_ _)); refine blk_far ?_ NB826_846.out _; (with_reducible repeat (first | refine blk_drewN ?_ _ | refine blk_drew ?_ | refine blk_alloc ?_ _)); refine blk_far ?_ NB826_846.out _; (with_reducible repeat (first | refine blk_drewN ?_ _ | refine blk_drew ?_ | refine blk_alloc ?_ _)); refine blk_far ?_ NB826_846.out _; (with_reducible repeat (first | refine blk_drewN ?_ _ | refine blk_drew ?_ | refine blk_alloc ?_ _)); refine blk_far ?_ NB826_846.out _; (with_reducible repeat (first | refine blk_drewN ?_ _ | refine blk_drew ?_ | refine blk_alloc ?_ _)); refine blk_far ?_ NB826_846.out _; (with_reducible repeat (first | refine blk_drewN ?_ _ | refine blk_drew ?_ | refine blk_alloc ?_ _)); refine blk_far ?_ NB826_846.out _; (with_reducible repeat (first | refine blk_drewN ?_ _ | refine blk_drew ?_ | refine blk_alloc ?_ _)); refine blk_far ?_ NB826_846.out _; (with_reducible repeat (first | refine blk_drewN ?_ _ | refine blk_drew ?_ | refine blk_alloc ?_ _)); refine blk_far ?_ NB826_846.out _; (with_reducible repeat (first | refine blk_drewN ?_ _ | refine blk_drew ?_ | refine blk_alloc ?_ _)); refine blk_far ?_ NB826_846.out _; (with_reducible repeat (first | refine blk_drewN ?_ _ | refine blk_drew ?_ | refine blk_alloc ?_ _)); refine blk_far ?_ NB826_846.out _; (with_reducible repeat (first | refine blk_drewN ?_ _ | refine blk_drew ?_ | refine blk_alloc ?_ _)); refine blk_far ?_ NB826_846.out _; (with_reducible repeat (first | refine blk_drewN ?_ _ | refine blk_drew ?_ | refine blk_alloc ?_ _)); refine blk_far ?_ NB826_846.out _; (with_reducible repeat (first | refine blk_drewN ?_ _ | refine blk_drew ?_ | refine blk_alloc ?_ _)); exact BK826.out) hb); replace BK827 := Aside0.mk (blk_below (g := gb827) (o := .cells #[.slice none 0 0, .int .i64 0, .int .i64 0, .int .i64 0, .int .i64 0, .int .i64 0, .slice none 0 0, .int .i64 0, .int .i64 0, .int .i64 0, .int .i64 0, .int .i64 0, .int .i64 0, .int .i64 0] 59 (0, 0)) (by (with_reducible repeat (first | refine blk_drewN ?_ _ | refine blk_drew ?_ | refine blk_alloc ?_ _)); refine blk_far ?_ NB827_846.out _; (with_reducible repeat (first | refine blk_drewN ?_ _ | refine blk_drew ?_ | refine blk_alloc ?_ _)); refine blk_far ?_ NB827_846.out _; (with_reducible repeat (first | refine blk_drewN ?_ _ | refine blk_drew ?_ | refine blk_alloc ?_ _)); refine blk_far ?_ NB827_846.out _; (with_reducible repeat (first | refine blk_drewN ?_ _ | refine blk_drew ?_ | refine blk_alloc ?_ _)); refine blk_far ?_ NB827_846.out _; (with_reducible repeat (first | refine blk_drewN ?_ _ | refine blk_drew ?_ | refine blk_alloc ?_ _)); refine blk_far ?_ NB827_846.out _; (with_reducible repeat (first | refine blk_drewN ?_ _ | refine blk_drew ?_ | refine blk_alloc ?_ _)); refine blk_far ?_ NB827_846.out _; (with_reducible repeat (first | refine blk_drewN ?_ _ | refine blk_drew ?_ | refine blk_alloc ?_ _)); refine blk_far ?_ NB827_846.out _; (with_reducible repeat (first | refine blk_drewN ?_ _ | refine blk_drew ?_ | refine blk_alloc ?_ _)); refine blk_far ?_ NB827_846.out _; (with_reducible repeat (first | refine blk_drewN ?_ _ | refine blk_drew ?_ | refine blk_alloc ?_ _)); refine blk_far ?_ NB827_846.out _; (with_reducible repeat (first | refine blk_drewN ?_ _ | refine blk_drew ?_ | refine blk_alloc ?_ _)); refine blk_far ?_ NB827_846.out _; (with_reducible repeat (first | refine blk_drewN ?_ _ | refine blk_drew ?_ | refine blk_alloc ?_ _)); refine blk_far ?_ NB827_846.out _; (with_reducible repeat (first | refine blk_drewN ?_ _ | refine blk_drew ?_ | refine blk_alloc ?_ _)); refine blk_far ?_ NB827_846.out _; (with_reducible repeat (first | refine blk_drewN ?_ _ | refine blk_drew ?_ | refine blk_alloc ?_ _)); refine blk_far ?_ NB827_846.out _; (with_reducible repeat (first | refine blk_drewN ?_ _ | refine blk_drew ?_ | refine blk_alloc ?_ _)); refine blk_far ?_ NB827_846.out _; (with_reducible repeat (first | refine blk_drewN ?_ _ | refine blk_drew ?_ | refine blk_alloc ?_ _)); exact BK827.out) hb); replace BK846 := Aside0.mk (blk_below (g := gb846) (o := .cells #[.slice Ao18 t828.length co18, .int .i64 t831, .int .i64 t832, .int .i64 t833, .int .i64 t834, .int .i64 t835, .slice Ao23 t836.length co23, .int .i64 t839, .int .i64 t840, .int .i64 t841, .int .i64 t842, .int .i64 t843, .int .i64 t844, .int .i64 t845] 59 (0, 0)) (by (with_reducible repeat (first | refine blk_drewN ?_ _ | refine blk_drew ?_ | refine blk_alloc ?_ _)); refine blk_put (cs := #[.slice Ao18 t828.length co18, .int .i64 t831, .int .i64 t832, .int .i64 t833, .int .i64 t834, .int .i64 t835, .slice Ao23 t836.length co23, .int .i64 t839, .int .i64 t840, .int .i64 t841, .int .i64 t842, .int .i64 t843, .int .i64 t844, .int .i64 0]) ?_ 13 _ rfl; (with_reducible repeat (first | refine blk_drewN ?_ _ | refine blk_drew ?_ | refine blk_alloc ?_ _)); refine blk_put (cs := #[.slice Ao18 t828.length co18, .int .i64 t831, .int .i64 t832, .int .i64 t833, .int .i64 t834, .int .i64 t835, .slice Ao23 t836.length co23, .int .i64 t839, .int .i64 t840, .int .i64 t841, .int .i64 t842, .int .i64 t843, .int .i64 0, .int .i64 0]) ?_ 12 _ rfl; (with_reducible repeat (first | refine blk_drewN ?_ _ | refine blk_drew ?_ | refine blk_alloc ?_ _)); refine blk_put (cs := #[.slice Ao18 t828.length co18, .int .i64 t831, .int .i64 t832, .int .i64 t833, .int .i64 t834, .int .i64 t835, .slice Ao23 t836.length co23, .int .i64 t839, .int .i64 t840, .int .i64 t841, .int .i64 t842, .int .i64 0, .int .i64 0, .int .i64 0]) ?_ 11 _ rfl; (with_reducible repeat (first | refine blk_drewN ?_ _ | refine blk_drew ?_ | refine blk_alloc ?_ _)); refine blk_put (cs := #[.slice Ao18 t828.length co18, .int .i64 t831, .int .i64 t832, .int .i64 t833, .int .i64 t834, .int .i64 t835, .slice Ao23 t836.length co23, .int .i64 t839, .int .i64 t840, .int .i64 t841, .int .i64 0, .int .i64 0, .int .i64 0, .int .i64 0]) ?_ 10 _ rfl; (with_reducible repeat (first | refine blk_drewN ?_ _ | refine blk_drew ?_ | refine blk_alloc ?_ _)); refine blk_put (cs := #[.slice Ao18 t828.length co18, .int .i64 t831, .int .i64 t832, .int .i64 t833, .int .i64 t834, .int .i64 t835, .slice Ao23 t836.length co23, .int .i64 t839, .int .i64 t840, .int .i64 0, .int .i64 0, .int .i64 0, .int .i64 0, .int .i64 0]) ?_ 9 _ rfl; (with_reducible repeat (first | refine blk_drewN ?_ _ | refine blk_drew ?_ | refine blk_alloc ?_ _)); refine blk_put (cs := #[.slice Ao18 t828.length co18, .int .i64 t831, .int .i64 t832, .int .i64 t833, .int .i64 t834, .int .i64 t835, .slice Ao23 t836.length co23, .int .i64 t839, .int .i64 0, .int .i64 0, .int .i64 0, .int .i64 0, .int .i64 0, .int .i64 0]) ?_ 8 _ rfl; (with_reducible repeat (first | refine blk_drewN ?_ _ | refine blk_drew ?_ | refine blk_alloc ?_ _)); refine blk_put (cs := #[.slice Ao18 t828.length co18, .int .i64 t831, .int .i64 t832, .int .i64 t833, .int .i64 t834, .int .i64 t835, .slice Ao23 t836.length co23, .int .i64 0, .int .i64 0, .int .i64 0, .int .i64 0, .int .i64 0, .int .i64 0, .int .i64 0]) ?_ 7 _ rfl; (with_reducible repeat (first | refine blk_drewN ?_ _ | refine blk_drew ?_ | refine blk_alloc ?_ _)); refine blk_put (cs := #[.slice Ao18 t828.length co18, .int .i64 t831, .int .i64 t832, .int .i64 t833, .int .i64 t834, .int .i64 t835, .slice none 0 0, .int .i64 0, .int .i64 0, .int .i64 0, .int .i64 0, .int .i64 0, .int .i64 0, .int .i64 0]) ?_ 6 _ rfl; (with_reducible repeat (first | refine blk_drewN ?_ _ | refine blk_drew ?_ | refine blk_alloc ?_ _)); refine blk_put (cs := #[.slice Ao18 t828.length co18, .int .i64 t831, .int .i64 t832, .int .i64 t833, .int .i64 t834, .int .i64 0, .slice none 0 0, .int .i64 0, .int .i64 0, .int .i64 0, .int .i64 0, .int .i64 0, .int .i64 0, .int .i64 0]) ?_ 5 _ rfl; (with_reducible repeat (first | refine blk_drewN ?_ _ | refine blk_drew ?_ | refine blk_alloc ?_ _)); refine blk_put (cs := #[.slice Ao18 t828.length co18, .int .i64 t831, .int .i64 t832, .int .i64 t833, .int .i64 0, .int .i64 0, .slice none 0 0, .int .i64 0, .int .i64 0, .int .i64 0, .int .i64 0, .int .i64 0, .int .i64 0, .int .i64 0]) ?_ 4 _ rfl; (with_reducible repeat (first | refine blk_drewN ?_ _ | refine blk_drew ?_ | refine blk_alloc ?_ _)); refine blk_put (cs := #[.slice Ao18 t828.length co18, .int .i64 t831, .int .i64 t832, .int .i64 0, .int .i64 0, .int .i64 0, .slice none 0 0, .int .i64 0, .int .i64 0, .int .i64 0, .int .i64 0, .int .i64 0, .int .i64 0, .int .i64 0]) ?_ 3 _ rfl; (with_reducible repeat (first | refine blk_drewN ?_ _ | refine blk_drew ?_ | refine blk_alloc ?_ _)); refine blk_put (cs := #[.slice Ao18 t828.length co18, .int .i64 t831, .int .i64 0, .int .i64 0, .int .i64 0, .int .i64 0, .slice none 0 0, .int .i64 0, .int .i64 0, .int .i64 0, .int .i64 0, .int .i64 0, .int .i64 0, .int .i64 0]) ?_ 2 _ rfl; (with_reducible repeat (first | refine blk_drewN ?_ _ | refine blk_drew ?_ | refine blk_alloc ?_ _)); refine blk_put (cs := #[.slice Ao18 t828.length co18, .int .i64 0, .int .i64 0, .int .i64 0, .int .i64 0, .int .i64 0, .slice none 0 0, .int .i64 0, .int .i64 0, .int .i64 0, .int .i64 0, .int .i64 0, .int .i64 0, .int .i64 0]) ?_ 1 _ rfl; (with_reducible repeat (first | refine blk_drewN ?_ _ | refine blk_drew ?_ | refine blk_alloc ?_ _)); refine blk_put (cs := #[.slice none 0 0, .int .i64 0, .int .i64 0, .int .i64 0, .int .i64 0, .int .i64 0, .slice none 0 0, .int .i64 0, .int .i64 0, .int .i64 0, .int .i64 0, .int .i64 0, .int .i64 0, .int .i64 0]) ?_ 0 _ rfl; (with_reducible repeat (first | refine blk_drewN ?_ _ | refine blk_drew ?_ | refine blk_alloc ?_ _)); exact BK846.out) hb); replace HB := hbs HB hb; (try clear hb); (try clear hb2); (try clear hk); (try clear hi)))
 have H := HF7.out
 clear HF7
 by_cases c25 : t847 = true
 ·
  subst c25
  have H1 : (some (t828, t831, t832, t833, t834, t835, t836, t839, t840, t841, t842, t843, t844, t845, true)) = some (r1, r2, r3, r4, r5, r6, r7, r8, r9, r10, r11, r12, r13, r14, r15) := by rw [if_pos rfl] at H; exact H
  clear H
  have H := H1
  clear H1
  simp only [Option.some.injEq, Prod.mk.injEq] at H
  obtain ⟨rfl, rfl, rfl, rfl, rfl, rfl, rfl, rfl, rfl, rfl, rfl, rfl, rfl, rfl, rfl⟩ := H
  have hnb26 := NB846_825.out
  have hnc26 := NB825_846.out
  have hnb27 := NB846_826.out
  have hnc27 := NB826_846.out
  have hnb28 := NB846_827.out
  have hnc28 := NB827_846.out
  obtain ⟨hcz29_0, hcz29_1, hcz29_2, hcz29_3, hcz29_4, hcz29_5, hcz29_6, hcz29_7, hcz29_8, hcz29_9, hcz29_10, hcz29_11, hcz29_12, hcz29_13, hfz29_0, hfz29_1, hfz29_2, hfz29_3, hfz29_4, hfz29_5, hfz29_6, hfz29_7, hfz29_8, hfz29_9, hfz29_10, hfz29_11, hfz29_12, hfz29_13⟩ := bq14 BK846.out
  have hnb30 := NB827_825.out
  have hnc30 := NB825_827.out
  have hnb31 := NB827_826.out
  have hnc31 := NB826_827.out
  obtain ⟨hcz32_0, hcz32_1, hcz32_2, hcz32_3, hcz32_4, hcz32_5, hcz32_6, hcz32_7, hcz32_8, hcz32_9, hcz32_10, hcz32_11, hcz32_12, hcz32_13, hfz32_0, hfz32_1, hfz32_2, hfz32_3, hfz32_4, hfz32_5, hfz32_6, hfz32_7, hfz32_8, hfz32_9, hfz32_10, hfz32_11, hfz32_12, hfz32_13⟩ := bq14 BK827.out
  go_wp2
  refine bodyPost_ret (results_ct rfl _ _ gb827 59 #[.slice Ao18 t828.length co18, .int .i64 t831, .int .i64 t832, .int .i64 t833, .int .i64 t834, .int .i64 t835, .slice Ao23 t836.length co23, .int .i64 t839, .int .i64 t840, .int .i64 t841, .int .i64 t842, .int .i64 t843, .int .i64 t844, .int .i64 t845] (0, 0) _ rfl (by (with_reducible repeat (first | refine blk_drewN ?_ _ | refine blk_drew ?_ | refine blk_alloc ?_ _)); refine blk_put (cs := #[.slice Ao18 t828.length co18, .int .i64 t831, .int .i64 t832, .int .i64 t833, .int .i64 t834, .int .i64 t835, .slice Ao23 t836.length co23, .int .i64 t839, .int .i64 t840, .int .i64 t841, .int .i64 t842, .int .i64 t843, .int .i64 t844, .int .i64 0]) ?_ 13 _ rfl; (with_reducible repeat (first | refine blk_drewN ?_ _ | refine blk_drew ?_ | refine blk_alloc ?_ _)); refine blk_put (cs := #[.slice Ao18 t828.length co18, .int .i64 t831, .int .i64 t832, .int .i64 t833, .int .i64 t834, .int .i64 t835, .slice Ao23 t836.length co23, .int .i64 t839, .int .i64 t840, .int .i64 t841, .int .i64 t842, .int .i64 t843, .int .i64 0, .int .i64 0]) ?_ 12 _ rfl; (with_reducible repeat (first | refine blk_drewN ?_ _ | refine blk_drew ?_ | refine blk_alloc ?_ _)); refine blk_put (cs := #[.slice Ao18 t828.length co18, .int .i64 t831, .int .i64 t832, .int .i64 t833, .int .i64 t834, .int .i64 t835, .slice Ao23 t836.length co23, .int .i64 t839, .int .i64 t840, .int .i64 t841, .int .i64 t842, .int .i64 0, .int .i64 0, .int .i64 0]) ?_ 11 _ rfl; (with_reducible repeat (first | refine blk_drewN ?_ _ | refine blk_drew ?_ | refine blk_alloc ?_ _)); refine blk_put (cs := #[.slice Ao18 t828.length co18, .int .i64 t831, .int .i64 t832, .int .i64 t833, .int .i64 t834, .int .i64 t835, .slice Ao23 t836.length co23, .int .i64 t839, .int .i64 t840, .int .i64 t841, .int .i64 0, .int .i64 0, .int .i64 0, .int .i64 0]) ?_ 10 _ rfl; (with_reducible repeat (first | refine blk_drewN ?_ _ | refine blk_drew ?_ | refine blk_alloc ?_ _)); refine blk_put (cs := #[.slice Ao18 t828.length co18, .int .i64 t831, .int .i64 t832, .int .i64 t833, .int .i64 t834, .int .i64 t835, .slice Ao23 t836.length co23, .int .i64 t839, .int .i64 t840, .int .i64 0, .int .i64 0, .int .i64 0, .int .i64 0, .int .i64 0]) ?_ 9 _ rfl; (with_reducible repeat (first | refine blk_drewN ?_ _ | refine blk_drew ?_ | refine blk_alloc ?_ _)); refine blk_put (cs := #[.slice Ao18 t828.length co18, .int .i64 t831, .int .i64 t832, .int .i64 t833, .int .i64 t834, .int .i64 t835, .slice Ao23 t836.length co23, .int .i64 t839, .int .i64 0, .int .i64 0, .int .i64 0, .int .i64 0, .int .i64 0, .int .i64 0]) ?_ 8 _ rfl; (with_reducible repeat (first | refine blk_drewN ?_ _ | refine blk_drew ?_ | refine blk_alloc ?_ _)); refine blk_put (cs := #[.slice Ao18 t828.length co18, .int .i64 t831, .int .i64 t832, .int .i64 t833, .int .i64 t834, .int .i64 t835, .slice Ao23 t836.length co23, .int .i64 0, .int .i64 0, .int .i64 0, .int .i64 0, .int .i64 0, .int .i64 0, .int .i64 0]) ?_ 7 _ rfl; (with_reducible repeat (first | refine blk_drewN ?_ _ | refine blk_drew ?_ | refine blk_alloc ?_ _)); refine blk_put (cs := #[.slice Ao18 t828.length co18, .int .i64 t831, .int .i64 t832, .int .i64 t833, .int .i64 t834, .int .i64 t835, .slice none 0 0, .int .i64 0, .int .i64 0, .int .i64 0, .int .i64 0, .int .i64 0, .int .i64 0, .int .i64 0]) ?_ 6 _ rfl; (with_reducible repeat (first | refine blk_drewN ?_ _ | refine blk_drew ?_ | refine blk_alloc ?_ _)); refine blk_put (cs := #[.slice Ao18 t828.length co18, .int .i64 t831, .int .i64 t832, .int .i64 t833, .int .i64 t834, .int .i64 0, .slice none 0 0, .int .i64 0, .int .i64 0, .int .i64 0, .int .i64 0, .int .i64 0, .int .i64 0, .int .i64 0]) ?_ 5 _ rfl; (with_reducible repeat (first | refine blk_drewN ?_ _ | refine blk_drew ?_ | refine blk_alloc ?_ _)); refine blk_put (cs := #[.slice Ao18 t828.length co18, .int .i64 t831, .int .i64 t832, .int .i64 t833, .int .i64 0, .int .i64 0, .slice none 0 0, .int .i64 0, .int .i64 0, .int .i64 0, .int .i64 0, .int .i64 0, .int .i64 0, .int .i64 0]) ?_ 4 _ rfl; (with_reducible repeat (first | refine blk_drewN ?_ _ | refine blk_drew ?_ | refine blk_alloc ?_ _)); refine blk_put (cs := #[.slice Ao18 t828.length co18, .int .i64 t831, .int .i64 t832, .int .i64 0, .int .i64 0, .int .i64 0, .slice none 0 0, .int .i64 0, .int .i64 0, .int .i64 0, .int .i64 0, .int .i64 0, .int .i64 0, .int .i64 0]) ?_ 3 _ rfl; (with_reducible repeat (first | refine blk_drewN ?_ _ | refine blk_drew ?_ | refine blk_alloc ?_ _)); refine blk_put (cs := #[.slice Ao18 t828.length co18, .int .i64 t831, .int .i64 0, .int .i64 0, .int .i64 0, .int .i64 0, .slice none 0 0, .int .i64 0, .int .i64 0, .int .i64 0, .int .i64 0, .int .i64 0, .int .i64 0, .int .i64 0]) ?_ 2 _ rfl; (with_reducible repeat (first | refine blk_drewN ?_ _ | refine blk_drew ?_ | refine blk_alloc ?_ _)); refine blk_put (cs := #[.slice Ao18 t828.length co18, .int .i64 0, .int .i64 0, .int .i64 0, .int .i64 0, .int .i64 0, .slice none 0 0, .int .i64 0, .int .i64 0, .int .i64 0, .int .i64 0, .int .i64 0, .int .i64 0, .int .i64 0]) ?_ 1 _ rfl; (with_reducible repeat (first | refine blk_drewN ?_ _ | refine blk_drew ?_ | refine blk_alloc ?_ _)); refine blk_put (cs := #[.slice none 0 0, .int .i64 0, .int .i64 0, .int .i64 0, .int .i64 0, .int .i64 0, .slice none 0 0, .int .i64 0, .int .i64 0, .int .i64 0, .int .i64 0, .int .i64 0, .int .i64 0, .int .i64 0]) ?_ 0 _ rfl; (with_reducible repeat (first | refine blk_drewN ?_ _ | refine blk_drew ?_ | refine blk_alloc ?_ _)); exact BK827.out) Try.underlying59 rfl (by kernel_rfl)) rfl ?_
  exact ⟨_, _, by first | rfl | (simp [errW_none, errW_some] <;> rfl) | (simp [*, errW_none, errW_some] <;> rfl), Kd.Rq (Kd.R_mono (Kd.R_far (p := ⟨gb827, 13, none⟩) (Kd.R_far (p := ⟨gb827, 12, none⟩) (Kd.R_far (p := ⟨gb827, 11, none⟩) (Kd.R_far (p := ⟨gb827, 10, none⟩) (Kd.R_far (p := ⟨gb827, 9, none⟩) (Kd.R_far (p := ⟨gb827, 8, none⟩) (Kd.R_far (p := ⟨gb827, 7, none⟩) (Kd.R_far (p := ⟨gb827, 6, none⟩) (Kd.R_far (p := ⟨gb827, 5, none⟩) (Kd.R_far (p := ⟨gb827, 4, none⟩) (Kd.R_far (p := ⟨gb827, 3, none⟩) (Kd.R_far (p := ⟨gb827, 2, none⟩) (Kd.R_far (p := ⟨gb827, 1, none⟩) (Kd.R_far (p := ⟨gb827, 0, none⟩) (Kd.R_types HO830.out BK827.out (by decide)) (fun _ hk => hk.2) (.slice Ao18 t828.length co18)) (fun _ hk => hk.2) (.int .i64 t831)) (fun _ hk => hk.2) (.int .i64 t832)) (fun _ hk => hk.2) (.int .i64 t833)) (fun _ hk => hk.2) (.int .i64 t834)) (fun _ hk => hk.2) (.int .i64 t835)) (fun _ hk => hk.2) (.slice Ao23 t836.length co23)) (fun _ hk => hk.2) (.int .i64 t839)) (fun _ hk => hk.2) (.int .i64 t840)) (fun _ hk => hk.2) (.int .i64 t841)) (fun _ hk => hk.2) (.int .i64 t842)) (fun _ hk => hk.2) (.int .i64 t843)) (fun _ hk => hk.2) (.int .i64 t844)) (fun _ hk => hk.2) (.int .i64 t845)) (fun _ hk => trivial)), Kd.Rq (Kd.R_mono (Kd.R_far (p := ⟨gb827, 13, none⟩) (Kd.R_far (p := ⟨gb827, 12, none⟩) (Kd.R_far (p := ⟨gb827, 11, none⟩) (Kd.R_far (p := ⟨gb827, 10, none⟩) (Kd.R_far (p := ⟨gb827, 9, none⟩) (Kd.R_far (p := ⟨gb827, 8, none⟩) (Kd.R_far (p := ⟨gb827, 7, none⟩) (Kd.R_far (p := ⟨gb827, 6, none⟩) (Kd.R_far (p := ⟨gb827, 5, none⟩) (Kd.R_far (p := ⟨gb827, 4, none⟩) (Kd.R_far (p := ⟨gb827, 3, none⟩) (Kd.R_far (p := ⟨gb827, 2, none⟩) (Kd.R_far (p := ⟨gb827, 1, none⟩) (Kd.R_far (p := ⟨gb827, 0, none⟩) (Kd.R_types HO838.out BK827.out (by decide)) (fun _ hk => hk.2) (.slice Ao18 t828.length co18)) (fun _ hk => hk.2) (.int .i64 t831)) (fun _ hk => hk.2) (.int .i64 t832)) (fun _ hk => hk.2) (.int .i64 t833)) (fun _ hk => hk.2) (.int .i64 t834)) (fun _ hk => hk.2) (.int .i64 t835)) (fun _ hk => hk.2) (.slice Ao23 t836.length co23)) (fun _ hk => hk.2) (.int .i64 t839)) (fun _ hk => hk.2) (.int .i64 t840)) (fun _ hk => hk.2) (.int .i64 t841)) (fun _ hk => hk.2) (.int .i64 t842)) (fun _ hk => hk.2) (.int .i64 t843)) (fun _ hk => hk.2) (.int .i64 t844)) (fun _ hk => hk.2) (.int .i64 t845)) (fun _ hk => trivial)), blq HB.out⟩
 ·
  replace c25 := Bool.eq_false_iff.mpr c25
  subst c25
  have H1 : (some (([] : List Int), 0, 0, 0, 0, 0, ([] : List (S41)), 0, 0, 0, 0, 0, 0, 0, false)) = some (r1, r2, r3, r4, r5, r6, r7, r8, r9, r10, r11, r12, r13, r14, r15) := by rw [if_neg (show ¬ (false = true) by decide)] at H; exact H
  clear H
  have H := H1
  clear H1
  simp only [Option.some.injEq, Prod.mk.injEq] at H
  obtain ⟨rfl, rfl, rfl, rfl, rfl, rfl, rfl, rfl, rfl, rfl, rfl, rfl, rfl, rfl, rfl⟩ := H
  have hnb33 := NB827_825.out
  have hnc33 := NB825_827.out
  have hnb34 := NB827_826.out
  have hnc34 := NB826_827.out
  have hnb35 := NB827_846.out
  have hnc35 := NB846_827.out
  obtain ⟨hcz36_0, hcz36_1, hcz36_2, hcz36_3, hcz36_4, hcz36_5, hcz36_6, hcz36_7, hcz36_8, hcz36_9, hcz36_10, hcz36_11, hcz36_12, hcz36_13, hfz36_0, hfz36_1, hfz36_2, hfz36_3, hfz36_4, hfz36_5, hfz36_6, hfz36_7, hfz36_8, hfz36_9, hfz36_10, hfz36_11, hfz36_12, hfz36_13⟩ := bq14 BK827.out
  go_wp2
  refine bodyPost_ret (results_ct rfl _ _ gb827 59 #[.slice none 0 0, .int .i64 0, .int .i64 0, .int .i64 0, .int .i64 0, .int .i64 0, .slice none 0 0, .int .i64 0, .int .i64 0, .int .i64 0, .int .i64 0, .int .i64 0, .int .i64 0, .int .i64 0] (0, 0) _ rfl (by (with_reducible repeat (first | refine blk_drewN ?_ _ | refine blk_drew ?_ | refine blk_alloc ?_ _)); refine blk_put (cs := #[.slice none 0 0, .int .i64 0, .int .i64 0, .int .i64 0, .int .i64 0, .int .i64 0, .slice none 0 0, .int .i64 0, .int .i64 0, .int .i64 0, .int .i64 0, .int .i64 0, .int .i64 0, .int .i64 0]) ?_ 13 _ rfl; (with_reducible repeat (first | refine blk_drewN ?_ _ | refine blk_drew ?_ | refine blk_alloc ?_ _)); refine blk_put (cs := #[.slice none 0 0, .int .i64 0, .int .i64 0, .int .i64 0, .int .i64 0, .int .i64 0, .slice none 0 0, .int .i64 0, .int .i64 0, .int .i64 0, .int .i64 0, .int .i64 0, .int .i64 0, .int .i64 0]) ?_ 12 _ rfl; (with_reducible repeat (first | refine blk_drewN ?_ _ | refine blk_drew ?_ | refine blk_alloc ?_ _)); refine blk_put (cs := #[.slice none 0 0, .int .i64 0, .int .i64 0, .int .i64 0, .int .i64 0, .int .i64 0, .slice none 0 0, .int .i64 0, .int .i64 0, .int .i64 0, .int .i64 0, .int .i64 0, .int .i64 0, .int .i64 0]) ?_ 11 _ rfl; (with_reducible repeat (first | refine blk_drewN ?_ _ | refine blk_drew ?_ | refine blk_alloc ?_ _)); refine blk_put (cs := #[.slice none 0 0, .int .i64 0, .int .i64 0, .int .i64 0, .int .i64 0, .int .i64 0, .slice none 0 0, .int .i64 0, .int .i64 0, .int .i64 0, .int .i64 0, .int .i64 0, .int .i64 0, .int .i64 0]) ?_ 10 _ rfl; (with_reducible repeat (first | refine blk_drewN ?_ _ | refine blk_drew ?_ | refine blk_alloc ?_ _)); refine blk_put (cs := #[.slice none 0 0, .int .i64 0, .int .i64 0, .int .i64 0, .int .i64 0, .int .i64 0, .slice none 0 0, .int .i64 0, .int .i64 0, .int .i64 0, .int .i64 0, .int .i64 0, .int .i64 0, .int .i64 0]) ?_ 9 _ rfl; (with_reducible repeat (first | refine blk_drewN ?_ _ | refine blk_drew ?_ | refine blk_alloc ?_ _)); refine blk_put (cs := #[.slice none 0 0, .int .i64 0, .int .i64 0, .int .i64 0, .int .i64 0, .int .i64 0, .slice none 0 0, .int .i64 0, .int .i64 0, .int .i64 0, .int .i64 0, .int .i64 0, .int .i64 0, .int .i64 0]) ?_ 8 _ rfl; (with_reducible repeat (first | refine blk_drewN ?_ _ | refine blk_drew ?_ | refine blk_alloc ?_ _)); refine blk_put (cs := #[.slice none 0 0, .int .i64 0, .int .i64 0, .int .i64 0, .int .i64 0, .int .i64 0, .slice none 0 0, .int .i64 0, .int .i64 0, .int .i64 0, .int .i64 0, .int .i64 0, .int .i64 0, .int .i64 0]) ?_ 7 _ rfl; (with_reducible repeat (first | refine blk_drewN ?_ _ | refine blk_drew ?_ | refine blk_alloc ?_ _)); refine blk_put (cs := #[.slice none 0 0, .int .i64 0, .int .i64 0, .int .i64 0, .int .i64 0, .int .i64 0, .slice none 0 0, .int .i64 0, .int .i64 0, .int .i64 0, .int .i64 0, .int .i64 0, .int .i64 0, .int .i64 0]) ?_ 6 _ rfl; (with_reducible repeat (first | refine blk_drewN ?_ _ | refine blk_drew ?_ | refine blk_alloc ?_ _)); refine blk_put (cs := #[.slice none 0 0, .int .i64 0, .int .i64 0, .int .i64 0, .int .i64 0, .int .i64 0, .slice none 0 0, .int .i64 0, .int .i64 0, .int .i64 0, .int .i64 0, .int .i64 0, .int .i64 0, .int .i64 0]) ?_ 5 _ rfl; (with_reducible repeat (first | refine blk_drewN ?_ _ | refine blk_drew ?_ | refine blk_alloc ?_ _)); refine blk_put (cs := #[.slice none 0 0, .int .i64 0, .int .i64 0, .int .i64 0, .int .i64 0, .int .i64 0, .slice none 0 0, .int .i64 0, .int .i64 0, .int .i64 0, .int .i64 0, .int .i64 0, .int .i64 0, .int .i64 0]) ?_ 4 _ rfl; (with_reducible repeat (first | refine blk_drewN ?_ _ | refine blk_drew ?_ | refine blk_alloc ?_ _)); refine blk_put (cs := #[.slice none 0 0, .int .i64 0, .int .i64 0, .int .i64 0, .int .i64 0, .int .i64 0, .slice none 0 0, .int .i64 0, .int .i64 0, .int .i64 0, .int .i64 0, .int .i64 0, .int .i64 0, .int .i64 0]) ?_ 3 _ rfl; (with_reducible repeat (first | refine blk_drewN ?_ _ | refine blk_drew ?_ | refine blk_alloc ?_ _)); refine blk_put (cs := #[.slice none 0 0, .int .i64 0, .int .i64 0, .int .i64 0, .int .i64 0, .int .i64 0, .slice none 0 0, .int .i64 0, .int .i64 0, .int .i64 0, .int .i64 0, .int .i64 0, .int .i64 0, .int .i64 0]) ?_ 2 _ rfl; (with_reducible repeat (first | refine blk_drewN ?_ _ | refine blk_drew ?_ | refine blk_alloc ?_ _)); refine blk_put (cs := #[.slice none 0 0, .int .i64 0, .int .i64 0, .int .i64 0, .int .i64 0, .int .i64 0, .slice none 0 0, .int .i64 0, .int .i64 0, .int .i64 0, .int .i64 0, .int .i64 0, .int .i64 0, .int .i64 0]) ?_ 1 _ rfl; (with_reducible repeat (first | refine blk_drewN ?_ _ | refine blk_drew ?_ | refine blk_alloc ?_ _)); refine blk_put (cs := #[.slice none 0 0, .int .i64 0, .int .i64 0, .int .i64 0, .int .i64 0, .int .i64 0, .slice none 0 0, .int .i64 0, .int .i64 0, .int .i64 0, .int .i64 0, .int .i64 0, .int .i64 0, .int .i64 0]) ?_ 0 _ rfl; (with_reducible repeat (first | refine blk_drewN ?_ _ | refine blk_drew ?_ | refine blk_alloc ?_ _)); exact BK827.out) Try.underlying59 rfl (by kernel_rfl)) rfl ?_
  exact ⟨_, _, by first | rfl | (simp [errW_none, errW_some] <;> rfl) | (simp [*, errW_none, errW_some] <;> rfl), by first | exact Kd.R_nil _ _ _ _ _ | exact Kd.N_nil _ _ _ _ _ | exact Kd.V_nil _ _ _ _ _ | exact Kd.Q_nil _ _ _ _ _ | exact Kd.S_nil _ _ _ _ _, by first | exact Kd.R_nil _ _ _ _ _ | exact Kd.N_nil _ _ _ _ _ | exact Kd.V_nil _ _ _ _ _ | exact Kd.Q_nil _ _ _ _ _ | exact Kd.S_nil _ _ _ _ _, blq HB.out⟩

end Go.Proofs.Ytonaabffckkdlaa.Q
