-- Written for this claim by wip/xprint.py of this repository (by way of the kit's print); Lean checks every line.
import Derived.Test.YtonaabffckkdlaaQ0
import Derived.Test.YtonaabffckkdlaaQ5
import Derived.Test.YtonaabffckkdlaaQ8
namespace Go.Proofs.Ytonaabffckkdlaa.Q
open Go.RowKit Go.Proofs.YtonaabffckkdlaaW.PrintWords Go.Proofs.YtonaabffckkdlaaW.PrintLast Go.Proofs.YtonaabffckkdlaaW.PrintMore
attribute [local go_sem] max2_int min2_int max_two min_two max_three min_three max_four min_four   -- for this text's walks alone
set_option linter.unusedVariables false
set_option linter.unusedSimpArgs false

/-! ### spec_Enter: function 20 -/
def spec_Enter.f (k : Nat) (l0_0 : List (S41)) (a0_1 : Int) (a0_2 : Int) (a0_3 : Int) (a0_4 : Int) (a0_5 : Int) (a0_6 : Int) (a1_0 : Int) (a1_1 : Int) : Option ((List (S41)) × Int × Int × Int × Int × Int × Int × Bool) := (some (([] : List (S41)) : List (S41))).bind fun y441 => (if y441.length + l0_0.length < 8796093022208 then ((some (y441 ++ l0_0 : List (S41))).bind fun y444 => ((some (([(⟨a1_0, a1_1⟩ : S41)] : List (S41)) : List (S41))).bind fun y447 => (if y444.length + y447.length < 8796093022208 then ((spec_l37Count.f k (y444 ++ y447)).bind fun bt453 => ((spec_BookOk.f k l0_0 a0_1 a0_2 a0_3 a0_4 a0_5 a0_6).bind fun t464 => (if t464 = true then (if bt453.2.2.2.2.2.2.2 = true then (some (bt453.1, bt453.2.1, bt453.2.2.1, bt453.2.2.2.1, bt453.2.2.2.2.1, bt453.2.2.2.2.2.1, bt453.2.2.2.2.2.2.1, true)) else ((spec_l37Copy.f l0_0 a0_1 a0_2 a0_3 a0_4 a0_5 a0_6).bind fun bt465 => (some (bt465.1, bt465.2.1, bt465.2.2.1, bt465.2.2.2.1, bt465.2.2.2.2.1, bt465.2.2.2.2.2.1, bt465.2.2.2.2.2.2, false)))) else ((spec_l37Copy.f l0_0 a0_1 a0_2 a0_3 a0_4 a0_5 a0_6).bind fun bt474 => (some (bt474.1, bt474.2.1, bt474.2.2.1, bt474.2.2.2.1, bt474.2.2.2.2.1, bt474.2.2.2.2.2.1, bt474.2.2.2.2.2.2, false)))))) else (none)))) else (none))
theorem spec_Enter.mono : ∀ a0 a1 a2 a3 a4 a5 a6 a7 a8 k, LeO (spec_Enter.f k a0 a1 a2 a3 a4 a5 a6 a7 a8) (spec_Enter.f (k + 1) a0 a1 a2 a3 a4 a5 a6 a7 a8) := by
 intro a0 a1 a2 a3 a4 a5 a6 a7 a8 k
 unfold spec_Enter.f
 repeat' first
   | (with_reducible exact spec_BookOk.mono _ _ _ _ _ _ _ _)
   | (with_reducible exact spec_l37Count.mono _ _)
   | (with_reducible exact LeO.refl _)
   | (with_reducible exact LeO.none _)
   | (with_reducible refine LeO.ite ?_ ?_)
   | (with_reducible refine LeO.bind ?_ (fun _ => ?_))
   | exact spec_BookOk.mono _ _ _ _ _ _ _ _
   | exact spec_l37Count.mono _ _
   | exact LeO.none _
   | refine LeO.ite ?_ ?_
   | refine LeO.bind ?_ (fun _ => ?_)
def spec_Enter.T1 : Bool × List (List Nat × List Nat) := (true, [([], []), ([], []), ([1], [1]), ([0, 2], [0, 2]), ([], []), ([4], [4]), ([3, 5, 3], [3, 5]), ([6, 6], [6]), ([7], [7]), ([8], [8]), ([8], [8]), ([], []), ([11, 9, 7, 0, 1, 2, 3, 4, 5, 6, 7, 8, 9, 11], [9, 11]), ([10, 12, 0, 1, 2, 3, 4, 5, 6, 7, 8, 9, 10, 11, 12], [10])])
def spec_Enter.B1 : List Nat := [0, 0, 2, 7, 0, 16, 63, 127, 255, 511, 511, 0, 3071, 8191]
theorem spec_Enter.tab1 : rtab .any (opsOf Try.f20 1) = spec_Enter.T1 := by kernel_rfl
theorem spec_Enter.bits1 : waitsOk spec_Enter.T1.2 spec_Enter.B1 = true := by kernel_rfl
set_option maxHeartbeats 8000000 in
set_option maxRecDepth 100000 in
theorem spec_Enter.calls (k : Nat) (A0_0 : Option Addr) (c0_0 : Nat) (l0_0 : List (S41)) (a0_1 : Int) (a0_2 : Int) (a0_3 : Int) (a0_4 : Int) (a0_5 : Int) (a0_6 : Int) (a1_0 : Int) (a1_1 : Int) (r1 : List (S41)) (r2 : Int) (r3 : Int) (r4 : Int) (r5 : Int) (r6 : Int) (r7 : Int) (r8 : Bool) (w : World) (hr0_0 : Kd.C k41 w A0_0 l0_0.length l0_0) (hc0_0 : l0_0.length ≤ c0_0) (h : spec_Enter.f k l0_0 a0_1 a0_2 a0_3 a0_4 a0_5 a0_6 a1_0 a1_1 = some (r1, r2, r3, r4, r5, r6, r7, r8)) :
  Calls Try.prog 20 #[.agg #[.slice A0_0 l0_0.length c0_0, .int .i64 a0_1, .int .i64 a0_2, .int .i64 a0_3, .int .i64 a0_4, .int .i64 a0_5, .int .i64 a0_6], .agg #[.int .i64 a1_0, .int .i64 a1_1]] w fun e w' => ∃ v0_ : Value, e = .returned (.tuple #[.agg #[v0_, .int .i64 r2, .int .i64 r3, .int .i64 r4, .int .i64 r5, .int .i64 r6, .int .i64 r7], .bool r8]) ∧ Kd.R k41 41 w' w.heap.size (fun _ => True) v0_ r1 ∧ Below w.heap.size w w' := by
 have hu31 := Try.underlying31
 have hu41 := Try.underlying41
 have HR0_0 := Aside0.mk hr0_0
 have HC0_0 := Aside0.mk hc0_0
 clear hr0_0 hc0_0
 have HB := Aside0.mk (Below.refl w.heap.size w)
 have H : ((some (([] : List (S41)) : List (S41))).bind fun y441 => (if y441.length + l0_0.length < 8796093022208 then ((some (y441 ++ l0_0 : List (S41))).bind fun y444 => ((some (([(⟨a1_0, a1_1⟩ : S41)] : List (S41)) : List (S41))).bind fun y447 => (if y444.length + y447.length < 8796093022208 then ((spec_l37Count.f k (y444 ++ y447)).bind fun bt453 => ((spec_BookOk.f k l0_0 a0_1 a0_2 a0_3 a0_4 a0_5 a0_6).bind fun t464 => (if t464 = true then (if bt453.2.2.2.2.2.2.2 = true then (some (bt453.1, bt453.2.1, bt453.2.2.1, bt453.2.2.2.1, bt453.2.2.2.2.1, bt453.2.2.2.2.2.1, bt453.2.2.2.2.2.2.1, true)) else ((spec_l37Copy.f l0_0 a0_1 a0_2 a0_3 a0_4 a0_5 a0_6).bind fun bt465 => (some (bt465.1, bt465.2.1, bt465.2.2.1, bt465.2.2.2.1, bt465.2.2.2.2.1, bt465.2.2.2.2.2.1, bt465.2.2.2.2.2.2, false)))) else ((spec_l37Copy.f l0_0 a0_1 a0_2 a0_3 a0_4 a0_5 a0_6).bind fun bt474 => (some (bt474.1, bt474.2.1, bt474.2.2.1, bt474.2.2.2.1, bt474.2.2.2.2.1, bt474.2.2.2.2.2.1, bt474.2.2.2.2.2.2, false)))))) else (none)))) else (none))) = some (r1, r2, r3, r4, r5, r6, r7, r8) := h
 clear h
 obtain ⟨y441, hy441⟩ : ∃ y_ : List (S41), y_ = (([] : List (S41))) := ⟨_, rfl⟩
 replace H : (if y441.length + l0_0.length < 8796093022208 then ((some (y441 ++ l0_0 : List (S41))).bind fun y444 => ((some (([(⟨a1_0, a1_1⟩ : S41)] : List (S41)) : List (S41))).bind fun y447 => (if y444.length + y447.length < 8796093022208 then ((spec_l37Count.f k (y444 ++ y447)).bind fun bt453 => ((spec_BookOk.f k l0_0 a0_1 a0_2 a0_3 a0_4 a0_5 a0_6).bind fun t464 => (if t464 = true then (if bt453.2.2.2.2.2.2.2 = true then (some (bt453.1, bt453.2.1, bt453.2.2.1, bt453.2.2.2.1, bt453.2.2.2.2.1, bt453.2.2.2.2.2.1, bt453.2.2.2.2.2.2.1, true)) else ((spec_l37Copy.f l0_0 a0_1 a0_2 a0_3 a0_4 a0_5 a0_6).bind fun bt465 => (some (bt465.1, bt465.2.1, bt465.2.2.1, bt465.2.2.2.1, bt465.2.2.2.2.1, bt465.2.2.2.2.2.1, bt465.2.2.2.2.2.2, false)))) else ((spec_l37Copy.f l0_0 a0_1 a0_2 a0_3 a0_4 a0_5 a0_6).bind fun bt474 => (some (bt474.1, bt474.2.1, bt474.2.2.1, bt474.2.2.2.1, bt474.2.2.2.2.1, bt474.2.2.2.2.2.1, bt474.2.2.2.2.2.2, false)))))) else (none)))) else (none)) = some (r1, r2, r3, r4, r5, r6, r7, r8) := by first | (rw [hy441]; with_reducible exact H) | (have H2_ := (Option.bind_some _ _).symm.trans H; rw [hy441]; with_reducible exact H2_) | (have H2_ := (Option.bind_some _ _).symm.trans H; with_reducible exact H2_) | with_reducible exact H | (rw [hy441]; exact H) | exact H
 have Ny441 := Aside0.mk hy441
 clear hy441
 by_cases c3 : y441.length + l0_0.length < 8796093022208
 ·
  rw [if_pos c3] at H
  have LMc3 := Aside0.mk c3
  clear c3
  obtain ⟨y444, hy444⟩ : ∃ y_ : List (S41), y_ = (y441 ++ l0_0) := ⟨_, rfl⟩
  replace H : ((some (([(⟨a1_0, a1_1⟩ : S41)] : List (S41)) : List (S41))).bind fun y447 => (if y444.length + y447.length < 8796093022208 then ((spec_l37Count.f k (y444 ++ y447)).bind fun bt453 => ((spec_BookOk.f k l0_0 a0_1 a0_2 a0_3 a0_4 a0_5 a0_6).bind fun t464 => (if t464 = true then (if bt453.2.2.2.2.2.2.2 = true then (some (bt453.1, bt453.2.1, bt453.2.2.1, bt453.2.2.2.1, bt453.2.2.2.2.1, bt453.2.2.2.2.2.1, bt453.2.2.2.2.2.2.1, true)) else ((spec_l37Copy.f l0_0 a0_1 a0_2 a0_3 a0_4 a0_5 a0_6).bind fun bt465 => (some (bt465.1, bt465.2.1, bt465.2.2.1, bt465.2.2.2.1, bt465.2.2.2.2.1, bt465.2.2.2.2.2.1, bt465.2.2.2.2.2.2, false)))) else ((spec_l37Copy.f l0_0 a0_1 a0_2 a0_3 a0_4 a0_5 a0_6).bind fun bt474 => (some (bt474.1, bt474.2.1, bt474.2.2.1, bt474.2.2.2.1, bt474.2.2.2.2.1, bt474.2.2.2.2.2.1, bt474.2.2.2.2.2.2, false)))))) else (none))) = some (r1, r2, r3, r4, r5, r6, r7, r8) := by first | (rw [hy444]; with_reducible exact H) | (have H2_ := (Option.bind_some _ _).symm.trans H; rw [hy444]; with_reducible exact H2_) | (have H2_ := (Option.bind_some _ _).symm.trans H; with_reducible exact H2_) | with_reducible exact H | (rw [hy444]; exact H) | exact H
  have Ny444 := Aside0.mk hy444
  clear hy444
  obtain ⟨y447, hy447⟩ : ∃ y_ : List (S41), y_ = (([(⟨a1_0, a1_1⟩ : S41)] : List (S41))) := ⟨_, rfl⟩
  replace H : (if y444.length + y447.length < 8796093022208 then ((spec_l37Count.f k (y444 ++ y447)).bind fun bt453 => ((spec_BookOk.f k l0_0 a0_1 a0_2 a0_3 a0_4 a0_5 a0_6).bind fun t464 => (if t464 = true then (if bt453.2.2.2.2.2.2.2 = true then (some (bt453.1, bt453.2.1, bt453.2.2.1, bt453.2.2.2.1, bt453.2.2.2.2.1, bt453.2.2.2.2.2.1, bt453.2.2.2.2.2.2.1, true)) else ((spec_l37Copy.f l0_0 a0_1 a0_2 a0_3 a0_4 a0_5 a0_6).bind fun bt465 => (some (bt465.1, bt465.2.1, bt465.2.2.1, bt465.2.2.2.1, bt465.2.2.2.2.1, bt465.2.2.2.2.2.1, bt465.2.2.2.2.2.2, false)))) else ((spec_l37Copy.f l0_0 a0_1 a0_2 a0_3 a0_4 a0_5 a0_6).bind fun bt474 => (some (bt474.1, bt474.2.1, bt474.2.2.1, bt474.2.2.2.1, bt474.2.2.2.2.1, bt474.2.2.2.2.2.1, bt474.2.2.2.2.2.2, false)))))) else (none)) = some (r1, r2, r3, r4, r5, r6, r7, r8) := by first | (rw [hy447]; with_reducible exact H) | (have H2_ := (Option.bind_some _ _).symm.trans H; rw [hy447]; with_reducible exact H2_) | (have H2_ := (Option.bind_some _ _).symm.trans H; with_reducible exact H2_) | with_reducible exact H | (rw [hy447]; exact H) | exact H
  have Ny447 := Aside0.mk hy447
  clear hy447
  by_cases c4 : y444.length + y447.length < 8796093022208
  ·
   rw [if_pos c4] at H
   have LMc4 := Aside0.mk c4
   clear c4
   obtain ⟨y450, hy450⟩ : ∃ y_ : List (S41), y_ = (y444 ++ y447) := ⟨_, rfl⟩
   replace H : ((spec_l37Count.f k y450).bind fun bt453 => ((spec_BookOk.f k l0_0 a0_1 a0_2 a0_3 a0_4 a0_5 a0_6).bind fun t464 => (if t464 = true then (if bt453.2.2.2.2.2.2.2 = true then (some (bt453.1, bt453.2.1, bt453.2.2.1, bt453.2.2.2.1, bt453.2.2.2.2.1, bt453.2.2.2.2.2.1, bt453.2.2.2.2.2.2.1, true)) else ((spec_l37Copy.f l0_0 a0_1 a0_2 a0_3 a0_4 a0_5 a0_6).bind fun bt465 => (some (bt465.1, bt465.2.1, bt465.2.2.1, bt465.2.2.2.1, bt465.2.2.2.2.1, bt465.2.2.2.2.2.1, bt465.2.2.2.2.2.2, false)))) else ((spec_l37Copy.f l0_0 a0_1 a0_2 a0_3 a0_4 a0_5 a0_6).bind fun bt474 => (some (bt474.1, bt474.2.1, bt474.2.2.1, bt474.2.2.2.1, bt474.2.2.2.2.1, bt474.2.2.2.2.2.1, bt474.2.2.2.2.2.2, false)))))) = some (r1, r2, r3, r4, r5, r6, r7, r8) := by first | (rw [hy450]; with_reducible exact H) | (have H2_ := (Option.bind_some _ _).symm.trans H; rw [hy450]; with_reducible exact H2_) | (have H2_ := (Option.bind_some _ _).symm.trans H; with_reducible exact H2_) | with_reducible exact H | (rw [hy450]; exact H) | exact H
   have Ny450 := Aside0.mk hy450
   clear hy450
   replace H := Option.bind_eq_some_iff.mp H
   obtain ⟨⟨t453, t456, t457, t458, t459, t460, t461, t462⟩, A50, H⟩ := H
   replace H : ((spec_BookOk.f k l0_0 a0_1 a0_2 a0_3 a0_4 a0_5 a0_6).bind fun t464 => (if t464 = true then (if t462 = true then (some (t453, t456, t457, t458, t459, t460, t461, true)) else ((spec_l37Copy.f l0_0 a0_1 a0_2 a0_3 a0_4 a0_5 a0_6).bind fun bt465 => (some (bt465.1, bt465.2.1, bt465.2.2.1, bt465.2.2.2.1, bt465.2.2.2.2.1, bt465.2.2.2.2.2.1, bt465.2.2.2.2.2.2, false)))) else ((spec_l37Copy.f l0_0 a0_1 a0_2 a0_3 a0_4 a0_5 a0_6).bind fun bt474 => (some (bt474.1, bt474.2.1, bt474.2.2.1, bt474.2.2.2.1, bt474.2.2.2.2.1, bt474.2.2.2.2.2.1, bt474.2.2.2.2.2.2, false))))) = some (r1, r2, r3, r4, r5, r6, r7, r8) := H
   have A5 := Aside0.mk A50
   clear A50
   have HF6 := Aside0.mk H
   clear H
   go_enter Try.func20, Try.ntmps20
   try go_wp2_with (first | ((with_reducible refine gate_dst (N := 2) rfl ?_); refine box_event ?hg (N := 2) ?hd (cs := #[.slice A0_0 l0_0.length c0_0, .int .i64 a0_1, .int .i64 a0_2, .int .i64 a0_3, .int .i64 a0_4, .int .i64 a0_5, .int .i64 a0_6]) (t := 31) ?hr ?_; (case hd => rfl); (case hg => rfl); (case hr => first | (go_simp; done) | (go_simp; rfl)); intro gb438 hg w7 hbox hb; have BK438 := Aside0.mk (hbox); have GW438 := sQ hg HB; have GE438 := sQ hg HB; replace HB := hbs HB hb; clear hb hbox hg) | ((with_reducible refine gate_dst (N := 3) rfl ?_); refine box_event ?hg (N := 3) ?hd (cs := #[.int .i64 a1_0, .int .i64 a1_1]) (t := 41) ?hr ?_; (case hd => rfl); (case hg => rfl); (case hr => first | (go_simp; done) | (go_simp; rfl)); intro gb439 hg w8 hbox hb; have BK439 := Aside0.mk (hbox); have GW439 := sQ hg HB; have GE439 := sQ hg HB; have NB438_439 := qL hg BK438; have NB439_438 := qG hg BK438; replace BK438 := bkb BK438 hb; replace HB := hbs HB hb; clear hb hbox hg) | ((with_reducible refine gate_dst (N := 4) rfl ?_); refine box_event ?hg (N := 4) ?hd (cs := #[.slice none 0 0, .int .i64 0, .int .i64 0, .int .i64 0, .int .i64 0, .int .i64 0, .int .i64 0]) (t := 31) ?hr ?_; (case hd => rfl); (case hg => rfl); (case hr => first | (go_simp; done) | (go_simp; rfl)); intro gb440 hg w9 hbox hb; have BK440 := Aside0.mk (hbox); have GW440 := sQ hg HB; have GE440 := sQ hg HB; have NB438_440 := qL hg BK438; have NB440_438 := qG hg BK438; have NB439_440 := qL hg BK439; have NB440_439 := qG hg BK439; replace BK438 := bkb BK438 hb; replace BK439 := bkb BK439 hb; replace HB := hbs HB hb; clear hb hbox hg))
   replace BK438 := Aside0.mk (blk_drew BK438.out)
   replace BK439 := Aside0.mk (blk_drew BK439.out)
   replace BK440 := Aside0.mk (blk_drew BK440.out)
   replace HB := Aside0.mk (below_drew1 HB.out)
   refine start_ (n := 14) (S := fun w' => w'.cell? ⟨gb438, 0, none⟩ = some (.slice A0_0 l0_0.length c0_0) ∧ w'.cell? ⟨gb438, 1, none⟩ = some (.int .i64 a0_1) ∧ w'.cell? ⟨gb438, 2, none⟩ = some (.int .i64 a0_2) ∧ w'.cell? ⟨gb438, 3, none⟩ = some (.int .i64 a0_3) ∧ w'.cell? ⟨gb438, 4, none⟩ = some (.int .i64 a0_4) ∧ w'.cell? ⟨gb438, 5, none⟩ = some (.int .i64 a0_5) ∧ w'.cell? ⟨gb438, 6, none⟩ = some (.int .i64 a0_6) ∧ w'.cell? ⟨gb439, 0, none⟩ = some (.int .i64 a1_0) ∧ w'.cell? ⟨gb439, 1, none⟩ = some (.int .i64 a1_1)) (ds := []) #[false, false, false, false, false, false, false, false, false, false, false, false, false, false] (by kernel_rfl) rfl rfl ⟨bc BK438 0, bc BK438 1, bc BK438 2, bc BK438 3, bc BK438 4, bc BK438 5, bc BK438 6, bc BK439 0, bc BK439 1⟩ (fun hHeld => ?_); refine with_tabW spec_Enter.tab1 spec_Enter.bits1 (fun HT_ HW_ => ?_)
   generalize w9.drew = w10 at BK438 BK439 BK440 HB hHeld ⊢
   refine pure_ (i := 1) (N := some 10) (v := ?_) (a' := ?_) #[false, true, false, false, false, false, false, false, false, false, false, false, false, false] rfl rfl (any_of HT_.out (by kernel_rfl)) (fun _ _ _ h => h) (Or.inl ⟨by rfl, ?_⟩) ?_ ?_
   rotate_left
   ·
    intro w'
    go_simp
    with_reducible rfl
   rotate_left
   ·
    simp only [Act.put, List.setIfInBounds_toArray, List.set_cons_zero, List.set_cons_succ, i64_w, i32_w]
    rfl
   refine take_ (i := 2) (N := some 11) (v := ?_) (a' := ?_) #[false, true, true, false, false, false, false, false, false, false, false, false, false, false] rfl rfl (take_ofW HT_.out HW_.out (by kernel_rfl)) (fun _ _ _ h => h) (Or.inl ⟨by rfl, ?_⟩) hHeld ?_ ?_
   rotate_left
   ·
    rintro w' ⟨s0, s1, s2, s3, s4, s5, s6, s7, s8⟩
    go_simp
    with_reducible rfl
   rotate_left
   ·
    simp only [Act.put, List.setIfInBounds_toArray, List.set_cons_zero, List.set_cons_succ, i64_w, i32_w]
    rfl
   refine take_ (i := 4) (N := some 13) (v := ?_) (a' := ?_) #[false, true, true, false, true, false, false, false, false, false, false, false, false, false] rfl rfl (take_ofW HT_.out HW_.out (by kernel_rfl)) (fun _ _ _ h => h) (Or.inl ⟨by rfl, ?_⟩) hHeld ?_ ?_
   rotate_left
   ·
    rintro w' ⟨s0, s1, s2, s3, s4, s5, s6, s7, s8⟩
    go_simp
    with_reducible rfl
   rotate_left
   ·
    simp only [Act.put, List.setIfInBounds_toArray, List.set_cons_zero, List.set_cons_succ, i64_w, i32_w]
    rfl
   refine join_ (σ := Value × Value × Value × Value × Value × Nat) 2 #[true, true, true, true, true, true, true, true, true, true, true, true, false, false] (fun s_ => [(9, s_.1), (12, s_.2.1), (14, s_.2.2.1), (15, s_.2.2.2.1), (16, .tuple #[.agg #[s_.2.2.2.2.1, .int .i64 t456, .int .i64 t457, .int .i64 t458, .int .i64 t459, .int .i64 t460, .int .i64 t461], .bool t462]), (6, .pointer (some ⟨s_.2.2.2.2.2, 0, none⟩)), (8, .tuple #[.agg #[s_.2.2.2.2.1, .int .i64 t456, .int .i64 t457, .int .i64 t458, .int .i64 t459, .int .i64 t460, .int .i64 t461], .bool t462]), (17, .agg #[s_.2.2.2.2.1, .int .i64 t456, .int .i64 t457, .int .i64 t458, .int .i64 t459, .int .i64 t460, .int .i64 t461]), (18, .bool t462)]) (fun s_ w' => (w'.cell? ⟨gb438, 0, none⟩ = some (.slice A0_0 l0_0.length c0_0) ∧ w'.cell? ⟨gb438, 1, none⟩ = some (.int .i64 a0_1) ∧ w'.cell? ⟨gb438, 2, none⟩ = some (.int .i64 a0_2) ∧ w'.cell? ⟨gb438, 3, none⟩ = some (.int .i64 a0_3) ∧ w'.cell? ⟨gb438, 4, none⟩ = some (.int .i64 a0_4) ∧ w'.cell? ⟨gb438, 5, none⟩ = some (.int .i64 a0_5) ∧ w'.cell? ⟨gb438, 6, none⟩ = some (.int .i64 a0_6) ∧ w'.cell? ⟨gb439, 0, none⟩ = some (.int .i64 a1_0) ∧ w'.cell? ⟨gb439, 1, none⟩ = some (.int .i64 a1_1)) ∧ (Kd.R k41 41 w' w.heap.size (fun k_ => some k_ ≠ (s_.2.2.2.1 : Value).ownBlock ∧ some k_ ≠ (s_.2.2.2.2.1 : Value).ownBlock ∧ k_ ≠ gb439) s_.2.2.1 y447) ∧ (Kd.R k41 41 w' w.heap.size (fun k_ => some k_ ≠ (s_.2.2.1 : Value).ownBlock ∧ some k_ ≠ (s_.2.2.2.2.1 : Value).ownBlock ∧ k_ ≠ gb439) s_.2.2.2.1 y450) ∧ (Kd.R k41 41 w' w.heap.size (fun k_ => some k_ ≠ (s_.2.2.1 : Value).ownBlock ∧ some k_ ≠ (s_.2.2.2.1 : Value).ownBlock ∧ k_ ≠ gb439) s_.2.2.2.2.1 t453) ∧ (w'.heap[gb438]? = some (.cells #[.slice A0_0 l0_0.length c0_0, .int .i64 a0_1, .int .i64 a0_2, .int .i64 a0_3, .int .i64 a0_4, .int .i64 a0_5, .int .i64 a0_6] 31 (0, 0))) ∧ (w'.heap[gb439]? = some (.cells #[.int .i64 a1_0, .int .i64 a1_1] 41 (0, 0))) ∧ (w'.heap[gb440]? = some (.cells #[.slice none 0 0, .int .i64 0, .int .i64 0, .int .i64 0, .int .i64 0, .int .i64 0, .int .i64 0] 31 (0, 0))) ∧ (w'.heap[s_.2.2.2.2.2]? = some (.cells #[.slice none 0 0, .int .i64 0, .int .i64 0, .int .i64 0, .int .i64 0, .int .i64 0, .int .i64 0] 31 (0, 0))) ∧ (w.heap.size ≤ s_.2.2.2.2.2) ∧ (w.heap.size ≤ s_.2.2.2.2.2) ∧ (gb438 ≠ s_.2.2.2.2.2) ∧ (s_.2.2.2.2.2 ≠ gb438) ∧ (gb439 ≠ s_.2.2.2.2.2) ∧ (s_.2.2.2.2.2 ≠ gb439) ∧ (gb440 ≠ s_.2.2.2.2.2) ∧ (s_.2.2.2.2.2 ≠ gb440) ∧ (Below w.heap.size w w')) ?_ ?_
   rotate_left
   ·
    intro hJ0_3_5_6_7_11
    refine join_ (σ := Value × Value × Value × Value × Value) 3 #[true, true, true, true, true, true, true, true, true, true, true, false, false, false] (fun s_ => [(9, s_.1), (12, s_.2.1), (14, s_.2.2.1), (15, s_.2.2.2.1), (16, .tuple #[.agg #[s_.2.2.2.2, .int .i64 t456, .int .i64 t457, .int .i64 t458, .int .i64 t459, .int .i64 t460, .int .i64 t461], .bool t462]), (8, .tuple #[.agg #[s_.2.2.2.2, .int .i64 t456, .int .i64 t457, .int .i64 t458, .int .i64 t459, .int .i64 t460, .int .i64 t461], .bool t462]), (17, .agg #[s_.2.2.2.2, .int .i64 t456, .int .i64 t457, .int .i64 t458, .int .i64 t459, .int .i64 t460, .int .i64 t461]), (18, .bool t462)]) (fun s_ w' => (w'.cell? ⟨gb438, 0, none⟩ = some (.slice A0_0 l0_0.length c0_0) ∧ w'.cell? ⟨gb438, 1, none⟩ = some (.int .i64 a0_1) ∧ w'.cell? ⟨gb438, 2, none⟩ = some (.int .i64 a0_2) ∧ w'.cell? ⟨gb438, 3, none⟩ = some (.int .i64 a0_3) ∧ w'.cell? ⟨gb438, 4, none⟩ = some (.int .i64 a0_4) ∧ w'.cell? ⟨gb438, 5, none⟩ = some (.int .i64 a0_5) ∧ w'.cell? ⟨gb438, 6, none⟩ = some (.int .i64 a0_6) ∧ w'.cell? ⟨gb439, 0, none⟩ = some (.int .i64 a1_0) ∧ w'.cell? ⟨gb439, 1, none⟩ = some (.int .i64 a1_1)) ∧ (Kd.R k41 41 w' w.heap.size (fun k_ => some k_ ≠ (s_.2.2.2.1 : Value).ownBlock ∧ some k_ ≠ (s_.2.2.2.2 : Value).ownBlock ∧ k_ ≠ gb439) s_.2.2.1 y447) ∧ (Kd.R k41 41 w' w.heap.size (fun k_ => some k_ ≠ (s_.2.2.1 : Value).ownBlock ∧ some k_ ≠ (s_.2.2.2.2 : Value).ownBlock ∧ k_ ≠ gb439) s_.2.2.2.1 y450) ∧ (Kd.R k41 41 w' w.heap.size (fun k_ => some k_ ≠ (s_.2.2.1 : Value).ownBlock ∧ some k_ ≠ (s_.2.2.2.1 : Value).ownBlock ∧ k_ ≠ gb439) s_.2.2.2.2 t453) ∧ (w'.heap[gb438]? = some (.cells #[.slice A0_0 l0_0.length c0_0, .int .i64 a0_1, .int .i64 a0_2, .int .i64 a0_3, .int .i64 a0_4, .int .i64 a0_5, .int .i64 a0_6] 31 (0, 0))) ∧ (w'.heap[gb439]? = some (.cells #[.int .i64 a1_0, .int .i64 a1_1] 41 (0, 0))) ∧ (w'.heap[gb440]? = some (.cells #[.slice none 0 0, .int .i64 0, .int .i64 0, .int .i64 0, .int .i64 0, .int .i64 0, .int .i64 0] 31 (0, 0))) ∧ (Below w.heap.size w w')) ?_ ?_
    rotate_left
    ·
     intro hJ0_3_5_6_7
     refine join_ (σ := Value × Value × Value × Value × Nat) 6 #[true, true, true, true, true, true, true, false, false, false, false, true, false, false] (fun s_ => [(9, s_.1), (12, s_.2.1), (14, s_.2.2.1), (15, s_.2.2.2.1), (6, .pointer (some ⟨s_.2.2.2.2, 0, none⟩))]) (fun s_ w' => (w'.cell? ⟨gb438, 0, none⟩ = some (.slice A0_0 l0_0.length c0_0) ∧ w'.cell? ⟨gb438, 1, none⟩ = some (.int .i64 a0_1) ∧ w'.cell? ⟨gb438, 2, none⟩ = some (.int .i64 a0_2) ∧ w'.cell? ⟨gb438, 3, none⟩ = some (.int .i64 a0_3) ∧ w'.cell? ⟨gb438, 4, none⟩ = some (.int .i64 a0_4) ∧ w'.cell? ⟨gb438, 5, none⟩ = some (.int .i64 a0_5) ∧ w'.cell? ⟨gb438, 6, none⟩ = some (.int .i64 a0_6) ∧ w'.cell? ⟨gb439, 0, none⟩ = some (.int .i64 a1_0) ∧ w'.cell? ⟨gb439, 1, none⟩ = some (.int .i64 a1_1)) ∧ (Kd.R k41 41 w' w.heap.size (fun k_ => some k_ ≠ (s_.2.2.2.1 : Value).ownBlock ∧ k_ ≠ gb439) s_.2.2.1 y447) ∧ (Kd.R k41 41 w' w.heap.size (fun k_ => some k_ ≠ (s_.2.2.1 : Value).ownBlock ∧ k_ ≠ gb439) s_.2.2.2.1 y450) ∧ (w'.heap[gb438]? = some (.cells #[.slice A0_0 l0_0.length c0_0, .int .i64 a0_1, .int .i64 a0_2, .int .i64 a0_3, .int .i64 a0_4, .int .i64 a0_5, .int .i64 a0_6] 31 (0, 0))) ∧ (w'.heap[gb439]? = some (.cells #[.int .i64 a1_0, .int .i64 a1_1] 41 (0, 0))) ∧ (w'.heap[gb440]? = some (.cells #[.slice none 0 0, .int .i64 0, .int .i64 0, .int .i64 0, .int .i64 0, .int .i64 0, .int .i64 0] 31 (0, 0))) ∧ (w'.heap[s_.2.2.2.2]? = some (.cells #[.slice none 0 0, .int .i64 0, .int .i64 0, .int .i64 0, .int .i64 0, .int .i64 0, .int .i64 0] 31 (0, 0))) ∧ (w.heap.size ≤ s_.2.2.2.2) ∧ (w.heap.size ≤ s_.2.2.2.2) ∧ (gb438 ≠ s_.2.2.2.2) ∧ (s_.2.2.2.2 ≠ gb438) ∧ (gb439 ≠ s_.2.2.2.2) ∧ (s_.2.2.2.2 ≠ gb439) ∧ (gb440 ≠ s_.2.2.2.2) ∧ (s_.2.2.2.2 ≠ gb440) ∧ (Below w.heap.size w w')) ?_ ?_
     rotate_left
     ·
      intro hJ0_3_5_6_11
      refine join_ (σ := Value × Value × Value × Value) 7 #[true, true, true, true, true, true, true, false, false, false, false, false, false, false] (fun s_ => [(9, s_.1), (12, s_.2.1), (14, s_.2.2.1), (15, s_.2.2.2)]) (fun s_ w' => (w'.cell? ⟨gb438, 0, none⟩ = some (.slice A0_0 l0_0.length c0_0) ∧ w'.cell? ⟨gb438, 1, none⟩ = some (.int .i64 a0_1) ∧ w'.cell? ⟨gb438, 2, none⟩ = some (.int .i64 a0_2) ∧ w'.cell? ⟨gb438, 3, none⟩ = some (.int .i64 a0_3) ∧ w'.cell? ⟨gb438, 4, none⟩ = some (.int .i64 a0_4) ∧ w'.cell? ⟨gb438, 5, none⟩ = some (.int .i64 a0_5) ∧ w'.cell? ⟨gb438, 6, none⟩ = some (.int .i64 a0_6) ∧ w'.cell? ⟨gb439, 0, none⟩ = some (.int .i64 a1_0) ∧ w'.cell? ⟨gb439, 1, none⟩ = some (.int .i64 a1_1)) ∧ (Kd.R k41 41 w' w.heap.size (fun k_ => some k_ ≠ (s_.2.2.2 : Value).ownBlock ∧ k_ ≠ gb439) s_.2.2.1 y447) ∧ (Kd.R k41 41 w' w.heap.size (fun k_ => some k_ ≠ (s_.2.2.1 : Value).ownBlock ∧ k_ ≠ gb439) s_.2.2.2 y450) ∧ (w'.heap[gb438]? = some (.cells #[.slice A0_0 l0_0.length c0_0, .int .i64 a0_1, .int .i64 a0_2, .int .i64 a0_3, .int .i64 a0_4, .int .i64 a0_5, .int .i64 a0_6] 31 (0, 0))) ∧ (w'.heap[gb439]? = some (.cells #[.int .i64 a1_0, .int .i64 a1_1] 41 (0, 0))) ∧ (w'.heap[gb440]? = some (.cells #[.slice none 0 0, .int .i64 0, .int .i64 0, .int .i64 0, .int .i64 0, .int .i64 0, .int .i64 0] 31 (0, 0))) ∧ (Below w.heap.size w w')) ?_ ?_
      rotate_left
      ·
       intro hJ0_3_5_6
       refine join_ (σ := Value × Value × Value × Nat) 7 #[true, true, true, true, true, true, false, false, false, false, false, true, false, false] (fun s_ => [(9, s_.1), (12, s_.2.1), (14, s_.2.2.1), (6, .pointer (some ⟨s_.2.2.2, 0, none⟩))]) (fun s_ w' => (w'.cell? ⟨gb438, 0, none⟩ = some (.slice A0_0 l0_0.length c0_0) ∧ w'.cell? ⟨gb438, 1, none⟩ = some (.int .i64 a0_1) ∧ w'.cell? ⟨gb438, 2, none⟩ = some (.int .i64 a0_2) ∧ w'.cell? ⟨gb438, 3, none⟩ = some (.int .i64 a0_3) ∧ w'.cell? ⟨gb438, 4, none⟩ = some (.int .i64 a0_4) ∧ w'.cell? ⟨gb438, 5, none⟩ = some (.int .i64 a0_5) ∧ w'.cell? ⟨gb438, 6, none⟩ = some (.int .i64 a0_6) ∧ w'.cell? ⟨gb439, 0, none⟩ = some (.int .i64 a1_0) ∧ w'.cell? ⟨gb439, 1, none⟩ = some (.int .i64 a1_1)) ∧ (Kd.R k41 41 w' w.heap.size (fun k_ => some k_ ≠ (s_.2.2.1 : Value).ownBlock ∧ k_ ≠ gb439) s_.2.1 y444) ∧ (Kd.R k41 41 w' w.heap.size (fun k_ => some k_ ≠ (s_.2.1 : Value).ownBlock ∧ k_ ≠ gb439) s_.2.2.1 y447) ∧ (w'.heap[gb438]? = some (.cells #[.slice A0_0 l0_0.length c0_0, .int .i64 a0_1, .int .i64 a0_2, .int .i64 a0_3, .int .i64 a0_4, .int .i64 a0_5, .int .i64 a0_6] 31 (0, 0))) ∧ (w'.heap[gb439]? = some (.cells #[.int .i64 a1_0, .int .i64 a1_1] 41 (0, 0))) ∧ (w'.heap[gb440]? = some (.cells #[.slice none 0 0, .int .i64 0, .int .i64 0, .int .i64 0, .int .i64 0, .int .i64 0, .int .i64 0] 31 (0, 0))) ∧ (w'.heap[s_.2.2.2]? = some (.cells #[.slice none 0 0, .int .i64 0, .int .i64 0, .int .i64 0, .int .i64 0, .int .i64 0, .int .i64 0] 31 (0, 0))) ∧ (w.heap.size ≤ s_.2.2.2) ∧ (w.heap.size ≤ s_.2.2.2) ∧ (gb438 ≠ s_.2.2.2) ∧ (s_.2.2.2 ≠ gb438) ∧ (gb439 ≠ s_.2.2.2) ∧ (s_.2.2.2 ≠ gb439) ∧ (gb440 ≠ s_.2.2.2) ∧ (s_.2.2.2 ≠ gb440) ∧ (Below w.heap.size w w')) ?_ ?_
       rotate_left
       ·
        intro hJ0_3_5_11
        refine join_ (σ := Value × Value × Value) 8 #[true, true, true, true, true, true, false, false, false, false, false, false, false, false] (fun s_ => [(9, s_.1), (12, s_.2.1), (14, s_.2.2)]) (fun s_ w' => (w'.cell? ⟨gb438, 0, none⟩ = some (.slice A0_0 l0_0.length c0_0) ∧ w'.cell? ⟨gb438, 1, none⟩ = some (.int .i64 a0_1) ∧ w'.cell? ⟨gb438, 2, none⟩ = some (.int .i64 a0_2) ∧ w'.cell? ⟨gb438, 3, none⟩ = some (.int .i64 a0_3) ∧ w'.cell? ⟨gb438, 4, none⟩ = some (.int .i64 a0_4) ∧ w'.cell? ⟨gb438, 5, none⟩ = some (.int .i64 a0_5) ∧ w'.cell? ⟨gb438, 6, none⟩ = some (.int .i64 a0_6) ∧ w'.cell? ⟨gb439, 0, none⟩ = some (.int .i64 a1_0) ∧ w'.cell? ⟨gb439, 1, none⟩ = some (.int .i64 a1_1)) ∧ (Kd.R k41 41 w' w.heap.size (fun k_ => some k_ ≠ (s_.2.2 : Value).ownBlock ∧ k_ ≠ gb439) s_.2.1 y444) ∧ (Kd.R k41 41 w' w.heap.size (fun k_ => some k_ ≠ (s_.2.1 : Value).ownBlock ∧ k_ ≠ gb439) s_.2.2 y447) ∧ (w'.heap[gb438]? = some (.cells #[.slice A0_0 l0_0.length c0_0, .int .i64 a0_1, .int .i64 a0_2, .int .i64 a0_3, .int .i64 a0_4, .int .i64 a0_5, .int .i64 a0_6] 31 (0, 0))) ∧ (w'.heap[gb439]? = some (.cells #[.int .i64 a1_0, .int .i64 a1_1] 41 (0, 0))) ∧ (w'.heap[gb440]? = some (.cells #[.slice none 0 0, .int .i64 0, .int .i64 0, .int .i64 0, .int .i64 0, .int .i64 0, .int .i64 0] 31 (0, 0))) ∧ (Below w.heap.size w w')) ?_ ?_
        rotate_left
        ·
         intro hJ0_3_5
         refine join_ (σ := Value × Value × Nat) 8 #[true, true, true, true, true, false, false, false, false, false, false, true, false, false] (fun s_ => [(9, s_.1), (12, s_.2.1), (6, .pointer (some ⟨s_.2.2, 0, none⟩))]) (fun s_ w' => (w'.cell? ⟨gb438, 0, none⟩ = some (.slice A0_0 l0_0.length c0_0) ∧ w'.cell? ⟨gb438, 1, none⟩ = some (.int .i64 a0_1) ∧ w'.cell? ⟨gb438, 2, none⟩ = some (.int .i64 a0_2) ∧ w'.cell? ⟨gb438, 3, none⟩ = some (.int .i64 a0_3) ∧ w'.cell? ⟨gb438, 4, none⟩ = some (.int .i64 a0_4) ∧ w'.cell? ⟨gb438, 5, none⟩ = some (.int .i64 a0_5) ∧ w'.cell? ⟨gb438, 6, none⟩ = some (.int .i64 a0_6) ∧ w'.cell? ⟨gb439, 0, none⟩ = some (.int .i64 a1_0) ∧ w'.cell? ⟨gb439, 1, none⟩ = some (.int .i64 a1_1)) ∧ (Kd.R k41 41 w' w.heap.size (fun k_ => k_ ≠ gb439) s_.2.1 y444) ∧ (w'.heap[gb438]? = some (.cells #[.slice A0_0 l0_0.length c0_0, .int .i64 a0_1, .int .i64 a0_2, .int .i64 a0_3, .int .i64 a0_4, .int .i64 a0_5, .int .i64 a0_6] 31 (0, 0))) ∧ (w'.heap[gb439]? = some (.cells #[.int .i64 a1_0, .int .i64 a1_1] 41 (0, 0))) ∧ (w'.heap[gb440]? = some (.cells #[.slice none 0 0, .int .i64 0, .int .i64 0, .int .i64 0, .int .i64 0, .int .i64 0, .int .i64 0] 31 (0, 0))) ∧ (w'.heap[s_.2.2]? = some (.cells #[.slice none 0 0, .int .i64 0, .int .i64 0, .int .i64 0, .int .i64 0, .int .i64 0, .int .i64 0] 31 (0, 0))) ∧ (w.heap.size ≤ s_.2.2) ∧ (w.heap.size ≤ s_.2.2) ∧ (gb438 ≠ s_.2.2) ∧ (s_.2.2 ≠ gb438) ∧ (gb439 ≠ s_.2.2) ∧ (s_.2.2 ≠ gb439) ∧ (gb440 ≠ s_.2.2) ∧ (s_.2.2 ≠ gb440) ∧ (Below w.heap.size w w')) ?_ ?_
         rotate_left
         ·
          intro hJ0_3_11
          refine join_ (σ := Value × Value × Nat) 8 #[true, true, true, false, true, true, false, false, false, false, false, true, false, false] (fun s_ => [(9, s_.1), (14, s_.2.1), (6, .pointer (some ⟨s_.2.2, 0, none⟩))]) (fun s_ w' => (w'.cell? ⟨gb438, 0, none⟩ = some (.slice A0_0 l0_0.length c0_0) ∧ w'.cell? ⟨gb438, 1, none⟩ = some (.int .i64 a0_1) ∧ w'.cell? ⟨gb438, 2, none⟩ = some (.int .i64 a0_2) ∧ w'.cell? ⟨gb438, 3, none⟩ = some (.int .i64 a0_3) ∧ w'.cell? ⟨gb438, 4, none⟩ = some (.int .i64 a0_4) ∧ w'.cell? ⟨gb438, 5, none⟩ = some (.int .i64 a0_5) ∧ w'.cell? ⟨gb438, 6, none⟩ = some (.int .i64 a0_6) ∧ w'.cell? ⟨gb439, 0, none⟩ = some (.int .i64 a1_0) ∧ w'.cell? ⟨gb439, 1, none⟩ = some (.int .i64 a1_1)) ∧ (Kd.R k41 41 w' w.heap.size (fun k_ => some k_ ≠ (s_.2.1 : Value).ownBlock ∧ k_ ≠ gb439) s_.1 y441) ∧ (Kd.R k41 41 w' w.heap.size (fun k_ => some k_ ≠ (s_.1 : Value).ownBlock ∧ k_ ≠ gb439) s_.2.1 y447) ∧ (w'.heap[gb438]? = some (.cells #[.slice A0_0 l0_0.length c0_0, .int .i64 a0_1, .int .i64 a0_2, .int .i64 a0_3, .int .i64 a0_4, .int .i64 a0_5, .int .i64 a0_6] 31 (0, 0))) ∧ (w'.heap[gb439]? = some (.cells #[.int .i64 a1_0, .int .i64 a1_1] 41 (0, 0))) ∧ (w'.heap[gb440]? = some (.cells #[.slice none 0 0, .int .i64 0, .int .i64 0, .int .i64 0, .int .i64 0, .int .i64 0, .int .i64 0] 31 (0, 0))) ∧ (w'.heap[s_.2.2]? = some (.cells #[.slice none 0 0, .int .i64 0, .int .i64 0, .int .i64 0, .int .i64 0, .int .i64 0, .int .i64 0] 31 (0, 0))) ∧ (w.heap.size ≤ s_.2.2) ∧ (w.heap.size ≤ s_.2.2) ∧ (gb438 ≠ s_.2.2) ∧ (s_.2.2 ≠ gb438) ∧ (gb439 ≠ s_.2.2) ∧ (s_.2.2 ≠ gb439) ∧ (gb440 ≠ s_.2.2) ∧ (s_.2.2 ≠ gb440) ∧ (Below w.heap.size w w')) ?_ ?_
          rotate_left
          ·
           intro hJ0_5_11
           refine join_ (σ := Value × Value) 9 #[true, true, true, true, true, false, false, false, false, false, false, false, false, false] (fun s_ => [(9, s_.1), (12, s_.2)]) (fun s_ w' => (w'.cell? ⟨gb438, 0, none⟩ = some (.slice A0_0 l0_0.length c0_0) ∧ w'.cell? ⟨gb438, 1, none⟩ = some (.int .i64 a0_1) ∧ w'.cell? ⟨gb438, 2, none⟩ = some (.int .i64 a0_2) ∧ w'.cell? ⟨gb438, 3, none⟩ = some (.int .i64 a0_3) ∧ w'.cell? ⟨gb438, 4, none⟩ = some (.int .i64 a0_4) ∧ w'.cell? ⟨gb438, 5, none⟩ = some (.int .i64 a0_5) ∧ w'.cell? ⟨gb438, 6, none⟩ = some (.int .i64 a0_6) ∧ w'.cell? ⟨gb439, 0, none⟩ = some (.int .i64 a1_0) ∧ w'.cell? ⟨gb439, 1, none⟩ = some (.int .i64 a1_1)) ∧ (Kd.R k41 41 w' w.heap.size (fun k_ => k_ ≠ gb439) s_.2 y444) ∧ (w'.heap[gb438]? = some (.cells #[.slice A0_0 l0_0.length c0_0, .int .i64 a0_1, .int .i64 a0_2, .int .i64 a0_3, .int .i64 a0_4, .int .i64 a0_5, .int .i64 a0_6] 31 (0, 0))) ∧ (w'.heap[gb439]? = some (.cells #[.int .i64 a1_0, .int .i64 a1_1] 41 (0, 0))) ∧ (w'.heap[gb440]? = some (.cells #[.slice none 0 0, .int .i64 0, .int .i64 0, .int .i64 0, .int .i64 0, .int .i64 0, .int .i64 0] 31 (0, 0))) ∧ (Below w.heap.size w w')) ?_ ?_
           rotate_left
           ·
            intro hJ0_3
            refine join_ (σ := Value × Value) 9 #[true, true, true, false, true, true, false, false, false, false, false, false, false, false] (fun s_ => [(9, s_.1), (14, s_.2)]) (fun s_ w' => (w'.cell? ⟨gb438, 0, none⟩ = some (.slice A0_0 l0_0.length c0_0) ∧ w'.cell? ⟨gb438, 1, none⟩ = some (.int .i64 a0_1) ∧ w'.cell? ⟨gb438, 2, none⟩ = some (.int .i64 a0_2) ∧ w'.cell? ⟨gb438, 3, none⟩ = some (.int .i64 a0_3) ∧ w'.cell? ⟨gb438, 4, none⟩ = some (.int .i64 a0_4) ∧ w'.cell? ⟨gb438, 5, none⟩ = some (.int .i64 a0_5) ∧ w'.cell? ⟨gb438, 6, none⟩ = some (.int .i64 a0_6) ∧ w'.cell? ⟨gb439, 0, none⟩ = some (.int .i64 a1_0) ∧ w'.cell? ⟨gb439, 1, none⟩ = some (.int .i64 a1_1)) ∧ (Kd.R k41 41 w' w.heap.size (fun k_ => some k_ ≠ (s_.2 : Value).ownBlock ∧ k_ ≠ gb439) s_.1 y441) ∧ (Kd.R k41 41 w' w.heap.size (fun k_ => some k_ ≠ (s_.1 : Value).ownBlock ∧ k_ ≠ gb439) s_.2 y447) ∧ (w'.heap[gb438]? = some (.cells #[.slice A0_0 l0_0.length c0_0, .int .i64 a0_1, .int .i64 a0_2, .int .i64 a0_3, .int .i64 a0_4, .int .i64 a0_5, .int .i64 a0_6] 31 (0, 0))) ∧ (w'.heap[gb439]? = some (.cells #[.int .i64 a1_0, .int .i64 a1_1] 41 (0, 0))) ∧ (w'.heap[gb440]? = some (.cells #[.slice none 0 0, .int .i64 0, .int .i64 0, .int .i64 0, .int .i64 0, .int .i64 0, .int .i64 0] 31 (0, 0))) ∧ (Below w.heap.size w w')) ?_ ?_
            rotate_left
            ·
             intro hJ0_5
             refine join_ (σ := Value × Nat) 9 #[true, true, true, false, true, false, false, false, false, false, false, true, false, false] (fun s_ => [(9, s_.1), (6, .pointer (some ⟨s_.2, 0, none⟩))]) (fun s_ w' => (w'.cell? ⟨gb438, 0, none⟩ = some (.slice A0_0 l0_0.length c0_0) ∧ w'.cell? ⟨gb438, 1, none⟩ = some (.int .i64 a0_1) ∧ w'.cell? ⟨gb438, 2, none⟩ = some (.int .i64 a0_2) ∧ w'.cell? ⟨gb438, 3, none⟩ = some (.int .i64 a0_3) ∧ w'.cell? ⟨gb438, 4, none⟩ = some (.int .i64 a0_4) ∧ w'.cell? ⟨gb438, 5, none⟩ = some (.int .i64 a0_5) ∧ w'.cell? ⟨gb438, 6, none⟩ = some (.int .i64 a0_6) ∧ w'.cell? ⟨gb439, 0, none⟩ = some (.int .i64 a1_0) ∧ w'.cell? ⟨gb439, 1, none⟩ = some (.int .i64 a1_1)) ∧ (Kd.R k41 41 w' w.heap.size (fun k_ => k_ ≠ gb439) s_.1 y441) ∧ (w'.heap[gb438]? = some (.cells #[.slice A0_0 l0_0.length c0_0, .int .i64 a0_1, .int .i64 a0_2, .int .i64 a0_3, .int .i64 a0_4, .int .i64 a0_5, .int .i64 a0_6] 31 (0, 0))) ∧ (w'.heap[gb439]? = some (.cells #[.int .i64 a1_0, .int .i64 a1_1] 41 (0, 0))) ∧ (w'.heap[gb440]? = some (.cells #[.slice none 0 0, .int .i64 0, .int .i64 0, .int .i64 0, .int .i64 0, .int .i64 0, .int .i64 0] 31 (0, 0))) ∧ (w'.heap[s_.2]? = some (.cells #[.slice none 0 0, .int .i64 0, .int .i64 0, .int .i64 0, .int .i64 0, .int .i64 0, .int .i64 0] 31 (0, 0))) ∧ (w.heap.size ≤ s_.2) ∧ (w.heap.size ≤ s_.2) ∧ (gb438 ≠ s_.2) ∧ (s_.2 ≠ gb438) ∧ (gb439 ≠ s_.2) ∧ (s_.2 ≠ gb439) ∧ (gb440 ≠ s_.2) ∧ (s_.2 ≠ gb440) ∧ (Below w.heap.size w w')) ?_ ?_
             rotate_left
             ·
              intro hJ0_11
              refine join_ (σ := Value × Nat) 9 #[false, true, true, false, true, true, false, false, false, false, false, true, false, false] (fun s_ => [(14, s_.1), (6, .pointer (some ⟨s_.2, 0, none⟩))]) (fun s_ w' => (w'.cell? ⟨gb438, 0, none⟩ = some (.slice A0_0 l0_0.length c0_0) ∧ w'.cell? ⟨gb438, 1, none⟩ = some (.int .i64 a0_1) ∧ w'.cell? ⟨gb438, 2, none⟩ = some (.int .i64 a0_2) ∧ w'.cell? ⟨gb438, 3, none⟩ = some (.int .i64 a0_3) ∧ w'.cell? ⟨gb438, 4, none⟩ = some (.int .i64 a0_4) ∧ w'.cell? ⟨gb438, 5, none⟩ = some (.int .i64 a0_5) ∧ w'.cell? ⟨gb438, 6, none⟩ = some (.int .i64 a0_6) ∧ w'.cell? ⟨gb439, 0, none⟩ = some (.int .i64 a1_0) ∧ w'.cell? ⟨gb439, 1, none⟩ = some (.int .i64 a1_1)) ∧ (Kd.R k41 41 w' w.heap.size (fun k_ => k_ ≠ gb439) s_.1 y447) ∧ (w'.heap[gb438]? = some (.cells #[.slice A0_0 l0_0.length c0_0, .int .i64 a0_1, .int .i64 a0_2, .int .i64 a0_3, .int .i64 a0_4, .int .i64 a0_5, .int .i64 a0_6] 31 (0, 0))) ∧ (w'.heap[gb439]? = some (.cells #[.int .i64 a1_0, .int .i64 a1_1] 41 (0, 0))) ∧ (w'.heap[gb440]? = some (.cells #[.slice none 0 0, .int .i64 0, .int .i64 0, .int .i64 0, .int .i64 0, .int .i64 0, .int .i64 0] 31 (0, 0))) ∧ (w'.heap[s_.2]? = some (.cells #[.slice none 0 0, .int .i64 0, .int .i64 0, .int .i64 0, .int .i64 0, .int .i64 0, .int .i64 0] 31 (0, 0))) ∧ (w.heap.size ≤ s_.2) ∧ (w.heap.size ≤ s_.2) ∧ (gb438 ≠ s_.2) ∧ (s_.2 ≠ gb438) ∧ (gb439 ≠ s_.2) ∧ (s_.2 ≠ gb439) ∧ (gb440 ≠ s_.2) ∧ (s_.2 ≠ gb440) ∧ (Below w.heap.size w w')) ?_ ?_
              rotate_left
              ·
               intro hJ5_11
               refine join_ (σ := Value) 10 #[true, true, true, false, true, false, false, false, false, false, false, false, false, false] (fun s_ => [(9, s_)]) (fun s_ w' => (w'.cell? ⟨gb438, 0, none⟩ = some (.slice A0_0 l0_0.length c0_0) ∧ w'.cell? ⟨gb438, 1, none⟩ = some (.int .i64 a0_1) ∧ w'.cell? ⟨gb438, 2, none⟩ = some (.int .i64 a0_2) ∧ w'.cell? ⟨gb438, 3, none⟩ = some (.int .i64 a0_3) ∧ w'.cell? ⟨gb438, 4, none⟩ = some (.int .i64 a0_4) ∧ w'.cell? ⟨gb438, 5, none⟩ = some (.int .i64 a0_5) ∧ w'.cell? ⟨gb438, 6, none⟩ = some (.int .i64 a0_6) ∧ w'.cell? ⟨gb439, 0, none⟩ = some (.int .i64 a1_0) ∧ w'.cell? ⟨gb439, 1, none⟩ = some (.int .i64 a1_1)) ∧ (Kd.R k41 41 w' w.heap.size (fun k_ => k_ ≠ gb439) s_ y441) ∧ (w'.heap[gb438]? = some (.cells #[.slice A0_0 l0_0.length c0_0, .int .i64 a0_1, .int .i64 a0_2, .int .i64 a0_3, .int .i64 a0_4, .int .i64 a0_5, .int .i64 a0_6] 31 (0, 0))) ∧ (w'.heap[gb439]? = some (.cells #[.int .i64 a1_0, .int .i64 a1_1] 41 (0, 0))) ∧ (w'.heap[gb440]? = some (.cells #[.slice none 0 0, .int .i64 0, .int .i64 0, .int .i64 0, .int .i64 0, .int .i64 0, .int .i64 0] 31 (0, 0))) ∧ (Below w.heap.size w w')) ?_ ?_
               rotate_left
               ·
                intro hJ0
                refine join_ (σ := Value) 10 #[false, true, true, false, true, true, false, false, false, false, false, false, false, false] (fun s_ => [(14, s_)]) (fun s_ w' => (w'.cell? ⟨gb438, 0, none⟩ = some (.slice A0_0 l0_0.length c0_0) ∧ w'.cell? ⟨gb438, 1, none⟩ = some (.int .i64 a0_1) ∧ w'.cell? ⟨gb438, 2, none⟩ = some (.int .i64 a0_2) ∧ w'.cell? ⟨gb438, 3, none⟩ = some (.int .i64 a0_3) ∧ w'.cell? ⟨gb438, 4, none⟩ = some (.int .i64 a0_4) ∧ w'.cell? ⟨gb438, 5, none⟩ = some (.int .i64 a0_5) ∧ w'.cell? ⟨gb438, 6, none⟩ = some (.int .i64 a0_6) ∧ w'.cell? ⟨gb439, 0, none⟩ = some (.int .i64 a1_0) ∧ w'.cell? ⟨gb439, 1, none⟩ = some (.int .i64 a1_1)) ∧ (Kd.R k41 41 w' w.heap.size (fun k_ => k_ ≠ gb439) s_ y447) ∧ (w'.heap[gb438]? = some (.cells #[.slice A0_0 l0_0.length c0_0, .int .i64 a0_1, .int .i64 a0_2, .int .i64 a0_3, .int .i64 a0_4, .int .i64 a0_5, .int .i64 a0_6] 31 (0, 0))) ∧ (w'.heap[gb439]? = some (.cells #[.int .i64 a1_0, .int .i64 a1_1] 41 (0, 0))) ∧ (w'.heap[gb440]? = some (.cells #[.slice none 0 0, .int .i64 0, .int .i64 0, .int .i64 0, .int .i64 0, .int .i64 0, .int .i64 0] 31 (0, 0))) ∧ (Below w.heap.size w w')) ?_ ?_
                rotate_left
                ·
                 intro hJ5
                 refine join_ (σ := Nat) 10 #[false, true, true, false, true, false, false, false, false, false, false, true, false, false] (fun s_ => [(6, .pointer (some ⟨s_, 0, none⟩))]) (fun s_ w' => (w'.cell? ⟨gb438, 0, none⟩ = some (.slice A0_0 l0_0.length c0_0) ∧ w'.cell? ⟨gb438, 1, none⟩ = some (.int .i64 a0_1) ∧ w'.cell? ⟨gb438, 2, none⟩ = some (.int .i64 a0_2) ∧ w'.cell? ⟨gb438, 3, none⟩ = some (.int .i64 a0_3) ∧ w'.cell? ⟨gb438, 4, none⟩ = some (.int .i64 a0_4) ∧ w'.cell? ⟨gb438, 5, none⟩ = some (.int .i64 a0_5) ∧ w'.cell? ⟨gb438, 6, none⟩ = some (.int .i64 a0_6) ∧ w'.cell? ⟨gb439, 0, none⟩ = some (.int .i64 a1_0) ∧ w'.cell? ⟨gb439, 1, none⟩ = some (.int .i64 a1_1)) ∧ (w'.heap[gb438]? = some (.cells #[.slice A0_0 l0_0.length c0_0, .int .i64 a0_1, .int .i64 a0_2, .int .i64 a0_3, .int .i64 a0_4, .int .i64 a0_5, .int .i64 a0_6] 31 (0, 0))) ∧ (w'.heap[gb439]? = some (.cells #[.int .i64 a1_0, .int .i64 a1_1] 41 (0, 0))) ∧ (w'.heap[gb440]? = some (.cells #[.slice none 0 0, .int .i64 0, .int .i64 0, .int .i64 0, .int .i64 0, .int .i64 0, .int .i64 0] 31 (0, 0))) ∧ (w'.heap[s_]? = some (.cells #[.slice none 0 0, .int .i64 0, .int .i64 0, .int .i64 0, .int .i64 0, .int .i64 0, .int .i64 0] 31 (0, 0))) ∧ (w.heap.size ≤ s_) ∧ (w.heap.size ≤ s_) ∧ (gb438 ≠ s_) ∧ (s_ ≠ gb438) ∧ (gb439 ≠ s_) ∧ (s_ ≠ gb439) ∧ (gb440 ≠ s_) ∧ (s_ ≠ gb440) ∧ (Below w.heap.size w w')) ?_ ?_
                 rotate_left
                 ·
                  intro hJ11
                  refine three_ (i := 0) (j := 5) (k := 11) (Ni := some 9) (Nj := some 14) (Nk := some 6) #[true, true, true, false, true, false, false, false, false, false, false, false, false, false] #[false, true, true, false, true, true, false, false, false, false, false, false, false, false] #[false, true, true, false, true, false, false, false, false, false, false, true, false, false] rfl rfl rfl rfl rfl rfl (three_of HT_.out (by kernel_rfl)) (by decide) (by decide) (by decide) (fun K hK => ?_) (fun K hK => ?_) (fun K hK => ?_)
                  ·
                   skip
                   refine Kd.R_lit_step k41 _ 41 ?hg (N := 9) ?hd (xs := ([] : List (S41))) (inner := []) (ok := fun _ => True) (okp := fun _ => True) ?hr ?hp (fun _ hk => hk) trivial (Below.refl _ _) (Nat.le_refl _) (by simp) ?_; (case hd => rfl); (case hg => rfl); (case hr => first | (go_simp; done) | (go_simp; rfl)); (case hp => exact (Reps.none _ _))
                   intro v442 w11 ho12 hb hg_ hnew_
                   clear hg_ hnew_
                   (first | rw [← Ny441.out] at ho12 | (simp only [Int.reduceToNat] at ho12; rw [← Ny441.out] at ho12))
                   have HO443 := Aside0.mk (Kd.R_lower (Kd.R_newB ho12 (g := gb439) (o := .cells #[.int .i64 a1_0, .int .i64 a1_1] 41 (0, 0)) (bkq BK439.out)) (below_size (blq HB.out)))
                   replace BK438 := bkb BK438 hb
                   replace BK439 := bkb BK439 hb
                   replace BK440 := bkb BK440 hb
                   replace HB := hbs HB hb
                   clear hb ho12
                   refine hK.out _ _ ⟨bc BK438 0, bc BK438 1, bc BK438 2, bc BK438 3, bc BK438 4, bc BK438 5, bc BK438 6, bc BK439 0, bc BK439 1⟩ (fun hHeld => ?_)
                   clear hK K
                   refine norm_ (a' := ?_) ?_ ?_
                   rotate_left
                   ·
                    show Act.put _ (some 9) _ = _
                    simp only [Act.put, List.setIfInBounds_toArray, List.set_cons_zero, List.set_cons_succ, i64_w, i32_w]
                    rfl
                   exact norm_ (by first | (simp only [putAll, Act.put, List.setIfInBounds_toArray, List.set_cons_zero, List.set_cons_succ]; done) | (simp only [putAll, Act.put, List.setIfInBounds_toArray, List.set_cons_zero, List.set_cons_succ]; rfl)) (hJ0 (v442) _ ⟨hHeld, (Kd.Rq (Kd.R_mono HO443.out (fun _ hk => hk.2))), (bkq BK438.out), (bkq BK439.out), (bkq BK440.out), (blq HB.out)⟩)
                  ·
                   skip
                   refine Kd.R_lit_step k41 _ 41 ?hg (N := 14) ?hd (xs := ([(⟨a1_0, a1_1⟩ : S41)] : List (S41))) (inner := [.int .i64 a1_0, .int .i64 a1_1]) (ok := fun _ => True) (okp := fun _ => True) ?hr ?hp (fun _ hk => hk) trivial (Below.refl _ _) (Nat.le_refl _) (by simp) ?_; (case hd => rfl); (case hg => rfl); (case hr => first | (go_simp; done) | (go_simp; rfl)); (case hp => exact (Reps.c2 (show Kd.M k41 _ _ _ (⟨a1_0, a1_1⟩ : S41) [.int .i64 a1_0, .int .i64 a1_1] from (k41_mkM _ _ _ (⟨a1_0, a1_1⟩ : S41) )) (Reps.none _ _)))
                   intro v448 w11 ho12 hb hg_ hnew_
                   clear hg_ hnew_
                   (first | rw [← Ny447.out] at ho12 | (simp only [Int.reduceToNat] at ho12; rw [← Ny447.out] at ho12))
                   have HO449 := Aside0.mk (Kd.R_lower (Kd.R_newB ho12 (g := gb439) (o := .cells #[.int .i64 a1_0, .int .i64 a1_1] 41 (0, 0)) (bkq BK439.out)) (below_size (blq HB.out)))
                   replace BK438 := bkb BK438 hb
                   replace BK439 := bkb BK439 hb
                   replace BK440 := bkb BK440 hb
                   replace HB := hbs HB hb
                   clear hb ho12
                   refine hK.out _ _ ⟨bc BK438 0, bc BK438 1, bc BK438 2, bc BK438 3, bc BK438 4, bc BK438 5, bc BK438 6, bc BK439 0, bc BK439 1⟩ (fun hHeld => ?_)
                   clear hK K
                   refine norm_ (a' := ?_) ?_ ?_
                   rotate_left
                   ·
                    show Act.put _ (some 14) _ = _
                    simp only [Act.put, List.setIfInBounds_toArray, List.set_cons_zero, List.set_cons_succ, i64_w, i32_w]
                    rfl
                   exact norm_ (by first | (simp only [putAll, Act.put, List.setIfInBounds_toArray, List.set_cons_zero, List.set_cons_succ]; done) | (simp only [putAll, Act.put, List.setIfInBounds_toArray, List.set_cons_zero, List.set_cons_succ]; rfl)) (hJ5 (v448) _ ⟨hHeld, (Kd.Rq (Kd.R_mono HO449.out (fun _ hk => hk.2))), (bkq BK438.out), (bkq BK439.out), (bkq BK440.out), (blq HB.out)⟩)
                  ·
                   skip
                   refine box_step ?hg (N := 6) ?hd (cs := #[.slice none 0 0, .int .i64 0, .int .i64 0, .int .i64 0, .int .i64 0, .int .i64 0, .int .i64 0]) (t := 31) ?hr ?_; (case hd => rfl); (case hg => rfl); (case hr => first | (go_simp; done) | (go_simp; rfl))
                   intro gb463 hg w11 hbox hb
                   have BK463 := Aside0.mk (hbox)
                   have GW463 := sQ hg HB
                   have GE463 := sQ hg HB
                   have NB438_463 := qL hg BK438
                   have NB463_438 := qG hg BK438
                   have NB439_463 := qL hg BK439
                   have NB463_439 := qG hg BK439
                   have NB440_463 := qL hg BK440
                   have NB463_440 := qG hg BK440
                   replace BK438 := bkb BK438 hb
                   replace BK439 := bkb BK439 hb
                   replace BK440 := bkb BK440 hb
                   replace HB := hbs HB hb
                   clear hb hbox hg
                   refine hK.out _ _ ⟨bc BK438 0, bc BK438 1, bc BK438 2, bc BK438 3, bc BK438 4, bc BK438 5, bc BK438 6, bc BK439 0, bc BK439 1⟩ (fun hHeld => ?_)
                   clear hK K
                   refine norm_ (a' := ?_) ?_ ?_
                   rotate_left
                   ·
                    show Act.put _ (some 6) _ = _
                    simp only [Act.put, List.setIfInBounds_toArray, List.set_cons_zero, List.set_cons_succ, i64_w, i32_w]
                    rfl
                   exact norm_ (by first | (simp only [putAll, Act.put, List.setIfInBounds_toArray, List.set_cons_zero, List.set_cons_succ]; done) | (simp only [putAll, Act.put, List.setIfInBounds_toArray, List.set_cons_zero, List.set_cons_succ]; rfl)) (hJ11 (gb463) _ ⟨hHeld, (bkq BK438.out), (bkq BK439.out), (bkq BK440.out), (bkq BK463.out), GW463.out, GE463.out, NB438_463.out, NB463_438.out, NB439_463.out, NB463_439.out, NB440_463.out, NB463_440.out, (blq HB.out)⟩)
                 ·
                  skip
                  rintro gb463 w12 ⟨hS_, h0_, h1_, h2_, h3_, h4_, h5_, h6_, h7_, h8_, h9_, h10_, h11_, h12_⟩
                  have n0_ : Aside0 (w12.heap[gb438]? = some (.cells #[.slice A0_0 l0_0.length c0_0, .int .i64 a0_1, .int .i64 a0_2, .int .i64 a0_3, .int .i64 a0_4, .int .i64 a0_5, .int .i64 a0_6] 31 (0, 0))) := ⟨h0_⟩
                  have n1_ : Aside0 (w12.heap[gb439]? = some (.cells #[.int .i64 a1_0, .int .i64 a1_1] 41 (0, 0))) := ⟨h1_⟩
                  have n2_ : Aside0 (w12.heap[gb440]? = some (.cells #[.slice none 0 0, .int .i64 0, .int .i64 0, .int .i64 0, .int .i64 0, .int .i64 0, .int .i64 0] 31 (0, 0))) := ⟨h2_⟩
                  have n3_ : Aside0 (w12.heap[gb463]? = some (.cells #[.slice none 0 0, .int .i64 0, .int .i64 0, .int .i64 0, .int .i64 0, .int .i64 0, .int .i64 0] 31 (0, 0))) := ⟨h3_⟩
                  have n4_ : Aside0 (w.heap.size ≤ gb463) := ⟨h4_⟩
                  have n5_ : Aside0 (w.heap.size ≤ gb463) := ⟨h5_⟩
                  have n6_ : Aside0 (gb438 ≠ gb463) := ⟨h6_⟩
                  have n7_ : Aside0 (gb463 ≠ gb438) := ⟨h7_⟩
                  have n8_ : Aside0 (gb439 ≠ gb463) := ⟨h8_⟩
                  have n9_ : Aside0 (gb463 ≠ gb439) := ⟨h9_⟩
                  have n10_ : Aside0 (gb440 ≠ gb463) := ⟨h10_⟩
                  have n11_ : Aside0 (gb463 ≠ gb440) := ⟨h11_⟩
                  have n12_ : Aside0 (Below w.heap.size w w12) := ⟨h12_⟩
                  clear BK438
                  clear BK439
                  clear BK440
                  clear HB
                  clear h0_ h1_ h2_ h3_ h4_ h5_ h6_ h7_ h8_ h9_ h10_ h11_ h12_
                  have BK438 := n0_
                  have BK439 := n1_
                  have BK440 := n2_
                  have BK463 := n3_
                  have GW463 := n4_
                  have GE463 := n5_
                  have NB438_463 := n6_
                  have NB463_438 := n7_
                  have NB439_463 := n8_
                  have NB463_439 := n9_
                  have NB440_463 := n10_
                  have NB463_440 := n11_
                  have HB := n12_
                  clear n0_ n1_ n2_ n3_ n4_ n5_ n6_ n7_ n8_ n9_ n10_ n11_ n12_
                  have hHeld : w12.cell? ⟨gb438, 0, none⟩ = some (.slice A0_0 l0_0.length c0_0) ∧ w12.cell? ⟨gb438, 1, none⟩ = some (.int .i64 a0_1) ∧ w12.cell? ⟨gb438, 2, none⟩ = some (.int .i64 a0_2) ∧ w12.cell? ⟨gb438, 3, none⟩ = some (.int .i64 a0_3) ∧ w12.cell? ⟨gb438, 4, none⟩ = some (.int .i64 a0_4) ∧ w12.cell? ⟨gb438, 5, none⟩ = some (.int .i64 a0_5) ∧ w12.cell? ⟨gb438, 6, none⟩ = some (.int .i64 a0_6) ∧ w12.cell? ⟨gb439, 0, none⟩ = some (.int .i64 a1_0) ∧ w12.cell? ⟨gb439, 1, none⟩ = some (.int .i64 a1_1) := hS_
                  refine norm_ (a' := ?_) ?_ ?_
                  rotate_left
                  ·
                   simp only [putAll, Act.put, List.setIfInBounds_toArray, List.set_cons_zero, List.set_cons_succ]
                   rfl
                  refine two_ (i := 0) (j := 5) (Ni := some 9) (Nj := some 14) #[true, true, true, false, true, false, false, false, false, false, false, true, false, false] #[false, true, true, false, true, true, false, false, false, false, false, true, false, false] rfl rfl rfl rfl (two_of HT_.out (by kernel_rfl)) (by decide) (by decide) (fun K hK => ?_) (fun K hK => ?_)
                  ·
                   skip
                   refine Kd.R_lit_step k41 _ 41 ?hg (N := 9) ?hd (xs := ([] : List (S41))) (inner := []) (ok := fun _ => True) (okp := fun _ => True) ?hr ?hp (fun _ hk => hk) trivial (Below.refl _ _) (Nat.le_refl _) (by simp) ?_; (case hd => rfl); (case hg => rfl); (case hr => first | (go_simp; done) | (go_simp; rfl)); (case hp => exact (Reps.none _ _))
                   intro v442 w13 ho14 hb hg_ hnew_
                   clear hg_ hnew_
                   (first | rw [← Ny441.out] at ho14 | (simp only [Int.reduceToNat] at ho14; rw [← Ny441.out] at ho14))
                   have HO443 := Aside0.mk (Kd.R_lower (Kd.R_newB ho14 (g := gb439) (o := .cells #[.int .i64 a1_0, .int .i64 a1_1] 41 (0, 0)) (bkq BK439.out)) (below_size (blq HB.out)))
                   replace BK438 := bkb BK438 hb
                   replace BK439 := bkb BK439 hb
                   replace BK440 := bkb BK440 hb
                   replace BK463 := bkb BK463 hb
                   replace HB := hbs HB hb
                   clear hb ho14
                   refine hK.out _ _ ⟨bc BK438 0, bc BK438 1, bc BK438 2, bc BK438 3, bc BK438 4, bc BK438 5, bc BK438 6, bc BK439 0, bc BK439 1⟩ (fun hHeld => ?_)
                   clear hK K
                   refine norm_ (a' := ?_) ?_ ?_
                   rotate_left
                   ·
                    show Act.put _ (some 9) _ = _
                    simp only [Act.put, List.setIfInBounds_toArray, List.set_cons_zero, List.set_cons_succ, i64_w, i32_w]
                    rfl
                   exact norm_ (by first | (simp only [putAll, Act.put, List.setIfInBounds_toArray, List.set_cons_zero, List.set_cons_succ]; done) | (simp only [putAll, Act.put, List.setIfInBounds_toArray, List.set_cons_zero, List.set_cons_succ]; rfl)) (hJ0_11 (v442, gb463) _ ⟨hHeld, (Kd.Rq (Kd.R_mono HO443.out (fun _ hk => hk.2))), (bkq BK438.out), (bkq BK439.out), (bkq BK440.out), (bkq BK463.out), GW463.out, GE463.out, NB438_463.out, NB463_438.out, NB439_463.out, NB463_439.out, NB440_463.out, NB463_440.out, (blq HB.out)⟩)
                  ·
                   skip
                   refine Kd.R_lit_step k41 _ 41 ?hg (N := 14) ?hd (xs := ([(⟨a1_0, a1_1⟩ : S41)] : List (S41))) (inner := [.int .i64 a1_0, .int .i64 a1_1]) (ok := fun _ => True) (okp := fun _ => True) ?hr ?hp (fun _ hk => hk) trivial (Below.refl _ _) (Nat.le_refl _) (by simp) ?_; (case hd => rfl); (case hg => rfl); (case hr => first | (go_simp; done) | (go_simp; rfl)); (case hp => exact (Reps.c2 (show Kd.M k41 _ _ _ (⟨a1_0, a1_1⟩ : S41) [.int .i64 a1_0, .int .i64 a1_1] from (k41_mkM _ _ _ (⟨a1_0, a1_1⟩ : S41) )) (Reps.none _ _)))
                   intro v448 w13 ho14 hb hg_ hnew_
                   clear hg_ hnew_
                   (first | rw [← Ny447.out] at ho14 | (simp only [Int.reduceToNat] at ho14; rw [← Ny447.out] at ho14))
                   have HO449 := Aside0.mk (Kd.R_lower (Kd.R_newB ho14 (g := gb439) (o := .cells #[.int .i64 a1_0, .int .i64 a1_1] 41 (0, 0)) (bkq BK439.out)) (below_size (blq HB.out)))
                   replace BK438 := bkb BK438 hb
                   replace BK439 := bkb BK439 hb
                   replace BK440 := bkb BK440 hb
                   replace BK463 := bkb BK463 hb
                   replace HB := hbs HB hb
                   clear hb ho14
                   refine hK.out _ _ ⟨bc BK438 0, bc BK438 1, bc BK438 2, bc BK438 3, bc BK438 4, bc BK438 5, bc BK438 6, bc BK439 0, bc BK439 1⟩ (fun hHeld => ?_)
                   clear hK K
                   refine norm_ (a' := ?_) ?_ ?_
                   rotate_left
                   ·
                    show Act.put _ (some 14) _ = _
                    simp only [Act.put, List.setIfInBounds_toArray, List.set_cons_zero, List.set_cons_succ, i64_w, i32_w]
                    rfl
                   exact norm_ (by first | (simp only [putAll, Act.put, List.setIfInBounds_toArray, List.set_cons_zero, List.set_cons_succ]; done) | (simp only [putAll, Act.put, List.setIfInBounds_toArray, List.set_cons_zero, List.set_cons_succ]; rfl)) (hJ5_11 (v448, gb463) _ ⟨hHeld, (Kd.Rq (Kd.R_mono HO449.out (fun _ hk => hk.2))), (bkq BK438.out), (bkq BK439.out), (bkq BK440.out), (bkq BK463.out), GW463.out, GE463.out, NB438_463.out, NB463_438.out, NB439_463.out, NB463_439.out, NB440_463.out, NB463_440.out, (blq HB.out)⟩)
                ·
                 skip
                 rintro v448 w13 ⟨hS_, h0_, h1_, h2_, h3_, h4_⟩
                 have n0_ : Aside0 (Kd.R k41 41 w13 w.heap.size (fun k_ => k_ ≠ gb439) v448 y447) := ⟨h0_⟩
                 have n1_ : Aside0 (w13.heap[gb438]? = some (.cells #[.slice A0_0 l0_0.length c0_0, .int .i64 a0_1, .int .i64 a0_2, .int .i64 a0_3, .int .i64 a0_4, .int .i64 a0_5, .int .i64 a0_6] 31 (0, 0))) := ⟨h1_⟩
                 have n2_ : Aside0 (w13.heap[gb439]? = some (.cells #[.int .i64 a1_0, .int .i64 a1_1] 41 (0, 0))) := ⟨h2_⟩
                 have n3_ : Aside0 (w13.heap[gb440]? = some (.cells #[.slice none 0 0, .int .i64 0, .int .i64 0, .int .i64 0, .int .i64 0, .int .i64 0, .int .i64 0] 31 (0, 0))) := ⟨h3_⟩
                 have n4_ : Aside0 (Below w.heap.size w w13) := ⟨h4_⟩
                 clear BK438
                 clear BK439
                 clear BK440
                 clear HB
                 clear h0_ h1_ h2_ h3_ h4_
                 have HO449 := n0_
                 have BK438 := n1_
                 have BK439 := n2_
                 have BK440 := n3_
                 have HB := n4_
                 clear n0_ n1_ n2_ n3_ n4_
                 have hHeld : w13.cell? ⟨gb438, 0, none⟩ = some (.slice A0_0 l0_0.length c0_0) ∧ w13.cell? ⟨gb438, 1, none⟩ = some (.int .i64 a0_1) ∧ w13.cell? ⟨gb438, 2, none⟩ = some (.int .i64 a0_2) ∧ w13.cell? ⟨gb438, 3, none⟩ = some (.int .i64 a0_3) ∧ w13.cell? ⟨gb438, 4, none⟩ = some (.int .i64 a0_4) ∧ w13.cell? ⟨gb438, 5, none⟩ = some (.int .i64 a0_5) ∧ w13.cell? ⟨gb438, 6, none⟩ = some (.int .i64 a0_6) ∧ w13.cell? ⟨gb439, 0, none⟩ = some (.int .i64 a1_0) ∧ w13.cell? ⟨gb439, 1, none⟩ = some (.int .i64 a1_1) := hS_
                 refine norm_ (a' := ?_) ?_ ?_
                 rotate_left
                 ·
                  simp only [putAll, Act.put, List.setIfInBounds_toArray, List.set_cons_zero, List.set_cons_succ]
                  rfl
                 refine two_ (i := 0) (j := 11) (Ni := some 9) (Nj := some 6) #[true, true, true, false, true, true, false, false, false, false, false, false, false, false] #[false, true, true, false, true, true, false, false, false, false, false, true, false, false] rfl rfl rfl rfl (two_of HT_.out (by kernel_rfl)) (by decide) (by decide) (fun K hK => ?_) (fun K hK => ?_)
                 ·
                  skip
                  refine Kd.R_lit_step k41 _ 41 ?hg (N := 9) ?hd (xs := ([] : List (S41))) (inner := []) (ok := fun _ => True) (okp := fun _ => True) ?hr ?hp (fun _ hk => hk) trivial (Below.refl _ _) (Nat.le_refl _) (by simp) ?_; (case hd => rfl); (case hg => rfl); (case hr => first | (go_simp; done) | (go_simp; rfl)); (case hp => exact (Reps.none _ _))
                  intro v442 w14 ho15 hb hg_ hnew_
                  clear hg_ hnew_
                  (first | rw [← Ny441.out] at ho15 | (simp only [Int.reduceToNat] at ho15; rw [← Ny441.out] at ho15))
                  have HO443 := Aside0.mk (Kd.R_lower (Kd.R_newB (Kd.R_new' ho15 (Kd.R_lt (Kd.Rq HO449.out))) (g := gb439) (o := .cells #[.int .i64 a1_0, .int .i64 a1_1] 41 (0, 0)) (bkq BK439.out)) (below_size (blq HB.out)))
                  replace HO449 := Aside0.mk (Kd.R_elder' (Kd.Rq HO449.out) (Kd.R_base ho15) hb)
                  replace BK438 := bkb BK438 hb
                  replace BK439 := bkb BK439 hb
                  replace BK440 := bkb BK440 hb
                  replace HB := hbs HB hb
                  clear hb ho15
                  refine hK.out _ _ ⟨bc BK438 0, bc BK438 1, bc BK438 2, bc BK438 3, bc BK438 4, bc BK438 5, bc BK438 6, bc BK439 0, bc BK439 1⟩ (fun hHeld => ?_)
                  clear hK K
                  refine norm_ (a' := ?_) ?_ ?_
                  rotate_left
                  ·
                   show Act.put _ (some 9) _ = _
                   simp only [Act.put, List.setIfInBounds_toArray, List.set_cons_zero, List.set_cons_succ, i64_w, i32_w]
                   rfl
                  exact norm_ (by first | (simp only [putAll, Act.put, List.setIfInBounds_toArray, List.set_cons_zero, List.set_cons_succ]; done) | (simp only [putAll, Act.put, List.setIfInBounds_toArray, List.set_cons_zero, List.set_cons_succ]; rfl)) (hJ0_5 (v442, v448) _ ⟨hHeld, (Kd.Rq (Kd.R_mono HO443.out (fun _ hk => ⟨hk.1.2, hk.2⟩))), (Kd.Rq (Kd.R_mono HO449.out (fun _ hk => ⟨hk.2, hk.1⟩))), (bkq BK438.out), (bkq BK439.out), (bkq BK440.out), (blq HB.out)⟩)
                 ·
                  skip
                  refine box_step ?hg (N := 6) ?hd (cs := #[.slice none 0 0, .int .i64 0, .int .i64 0, .int .i64 0, .int .i64 0, .int .i64 0, .int .i64 0]) (t := 31) ?hr ?_; (case hd => rfl); (case hg => rfl); (case hr => first | (go_simp; done) | (go_simp; rfl))
                  intro gb463 hg w14 hbox hb
                  have BK463 := Aside0.mk (hbox)
                  have GW463 := sQ hg HB
                  have GE463 := sQ hg HB
                  have NB438_463 := qL hg BK438
                  have NB463_438 := qG hg BK438
                  have NB439_463 := qL hg BK439
                  have NB463_439 := qG hg BK439
                  have NB440_463 := qL hg BK440
                  have NB463_440 := qG hg BK440
                  replace HO449 := rob HO449 hb
                  replace BK438 := bkb BK438 hb
                  replace BK439 := bkb BK439 hb
                  replace BK440 := bkb BK440 hb
                  replace HB := hbs HB hb
                  clear hb hbox hg
                  refine hK.out _ _ ⟨bc BK438 0, bc BK438 1, bc BK438 2, bc BK438 3, bc BK438 4, bc BK438 5, bc BK438 6, bc BK439 0, bc BK439 1⟩ (fun hHeld => ?_)
                  clear hK K
                  refine norm_ (a' := ?_) ?_ ?_
                  rotate_left
                  ·
                   show Act.put _ (some 6) _ = _
                   simp only [Act.put, List.setIfInBounds_toArray, List.set_cons_zero, List.set_cons_succ, i64_w, i32_w]
                   rfl
                  exact norm_ (by first | (simp only [putAll, Act.put, List.setIfInBounds_toArray, List.set_cons_zero, List.set_cons_succ]; done) | (simp only [putAll, Act.put, List.setIfInBounds_toArray, List.set_cons_zero, List.set_cons_succ]; rfl)) (hJ5_11 (v448, gb463) _ ⟨hHeld, (Kd.Rq HO449.out), (bkq BK438.out), (bkq BK439.out), (bkq BK440.out), (bkq BK463.out), GW463.out, GE463.out, NB438_463.out, NB463_438.out, NB439_463.out, NB463_439.out, NB440_463.out, NB463_440.out, (blq HB.out)⟩)
               ·
                skip
                rintro v442 w13 ⟨hS_, h0_, h1_, h2_, h3_, h4_⟩
                have n0_ : Aside0 (Kd.R k41 41 w13 w.heap.size (fun k_ => k_ ≠ gb439) v442 y441) := ⟨h0_⟩
                have n1_ : Aside0 (w13.heap[gb438]? = some (.cells #[.slice A0_0 l0_0.length c0_0, .int .i64 a0_1, .int .i64 a0_2, .int .i64 a0_3, .int .i64 a0_4, .int .i64 a0_5, .int .i64 a0_6] 31 (0, 0))) := ⟨h1_⟩
                have n2_ : Aside0 (w13.heap[gb439]? = some (.cells #[.int .i64 a1_0, .int .i64 a1_1] 41 (0, 0))) := ⟨h2_⟩
                have n3_ : Aside0 (w13.heap[gb440]? = some (.cells #[.slice none 0 0, .int .i64 0, .int .i64 0, .int .i64 0, .int .i64 0, .int .i64 0, .int .i64 0] 31 (0, 0))) := ⟨h3_⟩
                have n4_ : Aside0 (Below w.heap.size w w13) := ⟨h4_⟩
                clear BK438
                clear BK439
                clear BK440
                clear HB
                clear h0_ h1_ h2_ h3_ h4_
                have HO443 := n0_
                have BK438 := n1_
                have BK439 := n2_
                have BK440 := n3_
                have HB := n4_
                clear n0_ n1_ n2_ n3_ n4_
                have hHeld : w13.cell? ⟨gb438, 0, none⟩ = some (.slice A0_0 l0_0.length c0_0) ∧ w13.cell? ⟨gb438, 1, none⟩ = some (.int .i64 a0_1) ∧ w13.cell? ⟨gb438, 2, none⟩ = some (.int .i64 a0_2) ∧ w13.cell? ⟨gb438, 3, none⟩ = some (.int .i64 a0_3) ∧ w13.cell? ⟨gb438, 4, none⟩ = some (.int .i64 a0_4) ∧ w13.cell? ⟨gb438, 5, none⟩ = some (.int .i64 a0_5) ∧ w13.cell? ⟨gb438, 6, none⟩ = some (.int .i64 a0_6) ∧ w13.cell? ⟨gb439, 0, none⟩ = some (.int .i64 a1_0) ∧ w13.cell? ⟨gb439, 1, none⟩ = some (.int .i64 a1_1) := hS_
                refine norm_ (a' := ?_) ?_ ?_
                rotate_left
                ·
                 simp only [putAll, Act.put, List.setIfInBounds_toArray, List.set_cons_zero, List.set_cons_succ]
                 rfl
                refine three_ (i := 3) (j := 5) (k := 11) (Ni := some 12) (Nj := some 14) (Nk := some 6) #[true, true, true, true, true, false, false, false, false, false, false, false, false, false] #[true, true, true, false, true, true, false, false, false, false, false, false, false, false] #[true, true, true, false, true, false, false, false, false, false, false, true, false, false] rfl rfl rfl rfl rfl rfl (three_of HT_.out (by kernel_rfl)) (by decide) (by decide) (by decide) (fun K hK => ?_) (fun K hK => ?_) (fun K hK => ?_)
                ·
                 skip
                 refine Kd.R_append_rows_step k41 (w0 := w) w.heap.size (by rfl) (.tmp 9) (.tmp 11) 28 41 (.agg #[(.int .i64 0), (.int .i64 0)]) 16 rfl Try.underlying28 info41 rfl (by decide) (by omega) v442 y441 l0_0 _ _ _ (fun k_ => k_ ≠ gb439) (fun _ => False) rfl rfl ?aO ?aR (fun _ _ h => h) (fun _ h => h.elim) ?aF ?aB ?aS ?aL ?_
                 (case aR => repeat (first | exact (Kd.C_below HR0_0.out HB.out) | (with_reducible refine Kd.C_alloc ?_ _) | (with_reducible refine Kd.C_drewN ?_ _) | (with_reducible refine Kd.C_drew ?_)))
                 (case aB => exact (blq HB.out))
                 (case aF => exact (fun k_ hk => Kd.freshB (g := gb439) (o := .cells #[.int .i64 a1_0, .int .i64 a1_1] 41 (0, 0)) (bkq BK439.out) k_ hk))
                 (case aO => exact (Kd.Rq HO443.out))
                 (case aS => exact (below_size (blq HB.out)))
                 (case aL => have := LMc3.out; omega)
                 intro v445 w14 ho hb hg hat
                 rw [← Ny444.out] at ho
                 have HO446 := Aside0.mk (ho)
                 replace BK438 := Aside0.mk (blk_grown (bkq BK438.out) hg (Kd.R_ne HO443.out BK438.out (by decide)))
                 replace BK439 := Aside0.mk (blk_grown (bkq BK439.out) hg (Kd.R_away HO443.out (fun _ hk => hk)))
                 replace BK440 := Aside0.mk (blk_grown (bkq BK440.out) hg (Kd.R_ne HO443.out BK440.out (by decide)))
                 replace HB := Aside0.mk (hb)
                 clear HO443
                 clear ho hb hg hat
                 refine hK.out _ _ ⟨bc BK438 0, bc BK438 1, bc BK438 2, bc BK438 3, bc BK438 4, bc BK438 5, bc BK438 6, bc BK439 0, bc BK439 1⟩ (fun hHeld => ?_)
                 clear hK K
                 refine norm_ (a' := ?_) ?_ ?_
                 rotate_left
                 ·
                  show Act.put _ (some 12) _ = _
                  simp only [Act.put, List.setIfInBounds_toArray, List.set_cons_zero, List.set_cons_succ, i64_w, i32_w]
                  rfl
                 exact norm_ (by first | (simp only [putAll, Act.put, List.setIfInBounds_toArray, List.set_cons_zero, List.set_cons_succ]; done) | (simp only [putAll, Act.put, List.setIfInBounds_toArray, List.set_cons_zero, List.set_cons_succ]; rfl)) (hJ0_3 (v442, v445) _ ⟨hHeld, (Kd.Rq HO446.out), (bkq BK438.out), (bkq BK439.out), (bkq BK440.out), (blq HB.out)⟩)
                ·
                 skip
                 refine Kd.R_lit_step k41 _ 41 ?hg (N := 14) ?hd (xs := ([(⟨a1_0, a1_1⟩ : S41)] : List (S41))) (inner := [.int .i64 a1_0, .int .i64 a1_1]) (ok := fun _ => True) (okp := fun _ => True) ?hr ?hp (fun _ hk => hk) trivial (Below.refl _ _) (Nat.le_refl _) (by simp) ?_; (case hd => rfl); (case hg => rfl); (case hr => first | (go_simp; done) | (go_simp; rfl)); (case hp => exact (Reps.c2 (show Kd.M k41 _ _ _ (⟨a1_0, a1_1⟩ : S41) [.int .i64 a1_0, .int .i64 a1_1] from (k41_mkM _ _ _ (⟨a1_0, a1_1⟩ : S41) )) (Reps.none _ _)))
                 intro v448 w14 ho15 hb hg_ hnew_
                 clear hg_ hnew_
                 (first | rw [← Ny447.out] at ho15 | (simp only [Int.reduceToNat] at ho15; rw [← Ny447.out] at ho15))
                 have HO449 := Aside0.mk (Kd.R_lower (Kd.R_newB (Kd.R_new' ho15 (Kd.R_lt (Kd.Rq HO443.out))) (g := gb439) (o := .cells #[.int .i64 a1_0, .int .i64 a1_1] 41 (0, 0)) (bkq BK439.out)) (below_size (blq HB.out)))
                 replace HO443 := Aside0.mk (Kd.R_elder' (Kd.Rq HO443.out) (Kd.R_base ho15) hb)
                 replace BK438 := bkb BK438 hb
                 replace BK439 := bkb BK439 hb
                 replace BK440 := bkb BK440 hb
                 replace HB := hbs HB hb
                 clear hb ho15
                 refine hK.out _ _ ⟨bc BK438 0, bc BK438 1, bc BK438 2, bc BK438 3, bc BK438 4, bc BK438 5, bc BK438 6, bc BK439 0, bc BK439 1⟩ (fun hHeld => ?_)
                 clear hK K
                 refine norm_ (a' := ?_) ?_ ?_
                 rotate_left
                 ·
                  show Act.put _ (some 14) _ = _
                  simp only [Act.put, List.setIfInBounds_toArray, List.set_cons_zero, List.set_cons_succ, i64_w, i32_w]
                  rfl
                 exact norm_ (by first | (simp only [putAll, Act.put, List.setIfInBounds_toArray, List.set_cons_zero, List.set_cons_succ]; done) | (simp only [putAll, Act.put, List.setIfInBounds_toArray, List.set_cons_zero, List.set_cons_succ]; rfl)) (hJ0_5 (v442, v448) _ ⟨hHeld, (Kd.Rq (Kd.R_mono HO443.out (fun _ hk => ⟨hk.2, hk.1⟩))), (Kd.Rq (Kd.R_mono HO449.out (fun _ hk => ⟨hk.1.2, hk.2⟩))), (bkq BK438.out), (bkq BK439.out), (bkq BK440.out), (blq HB.out)⟩)
                ·
                 skip
                 refine box_step ?hg (N := 6) ?hd (cs := #[.slice none 0 0, .int .i64 0, .int .i64 0, .int .i64 0, .int .i64 0, .int .i64 0, .int .i64 0]) (t := 31) ?hr ?_; (case hd => rfl); (case hg => rfl); (case hr => first | (go_simp; done) | (go_simp; rfl))
                 intro gb463 hg w14 hbox hb
                 have BK463 := Aside0.mk (hbox)
                 have GW463 := sQ hg HB
                 have GE463 := sQ hg HB
                 have NB438_463 := qL hg BK438
                 have NB463_438 := qG hg BK438
                 have NB439_463 := qL hg BK439
                 have NB463_439 := qG hg BK439
                 have NB440_463 := qL hg BK440
                 have NB463_440 := qG hg BK440
                 replace HO443 := rob HO443 hb
                 replace BK438 := bkb BK438 hb
                 replace BK439 := bkb BK439 hb
                 replace BK440 := bkb BK440 hb
                 replace HB := hbs HB hb
                 clear hb hbox hg
                 refine hK.out _ _ ⟨bc BK438 0, bc BK438 1, bc BK438 2, bc BK438 3, bc BK438 4, bc BK438 5, bc BK438 6, bc BK439 0, bc BK439 1⟩ (fun hHeld => ?_)
                 clear hK K
                 refine norm_ (a' := ?_) ?_ ?_
                 rotate_left
                 ·
                  show Act.put _ (some 6) _ = _
                  simp only [Act.put, List.setIfInBounds_toArray, List.set_cons_zero, List.set_cons_succ, i64_w, i32_w]
                  rfl
                 exact norm_ (by first | (simp only [putAll, Act.put, List.setIfInBounds_toArray, List.set_cons_zero, List.set_cons_succ]; done) | (simp only [putAll, Act.put, List.setIfInBounds_toArray, List.set_cons_zero, List.set_cons_succ]; rfl)) (hJ0_11 (v442, gb463) _ ⟨hHeld, (Kd.Rq HO443.out), (bkq BK438.out), (bkq BK439.out), (bkq BK440.out), (bkq BK463.out), GW463.out, GE463.out, NB438_463.out, NB463_438.out, NB439_463.out, NB463_439.out, NB440_463.out, NB463_440.out, (blq HB.out)⟩)
              ·
               skip
               rintro ⟨v448, gb463⟩ w14 ⟨hS_, h0_, h1_, h2_, h3_, h4_, h5_, h6_, h7_, h8_, h9_, h10_, h11_, h12_, h13_⟩
               have n0_ : Aside0 (Kd.R k41 41 w14 w.heap.size (fun k_ => k_ ≠ gb439) v448 y447) := ⟨h0_⟩
               have n1_ : Aside0 (w14.heap[gb438]? = some (.cells #[.slice A0_0 l0_0.length c0_0, .int .i64 a0_1, .int .i64 a0_2, .int .i64 a0_3, .int .i64 a0_4, .int .i64 a0_5, .int .i64 a0_6] 31 (0, 0))) := ⟨h1_⟩
               have n2_ : Aside0 (w14.heap[gb439]? = some (.cells #[.int .i64 a1_0, .int .i64 a1_1] 41 (0, 0))) := ⟨h2_⟩
               have n3_ : Aside0 (w14.heap[gb440]? = some (.cells #[.slice none 0 0, .int .i64 0, .int .i64 0, .int .i64 0, .int .i64 0, .int .i64 0, .int .i64 0] 31 (0, 0))) := ⟨h3_⟩
               have n4_ : Aside0 (w14.heap[gb463]? = some (.cells #[.slice none 0 0, .int .i64 0, .int .i64 0, .int .i64 0, .int .i64 0, .int .i64 0, .int .i64 0] 31 (0, 0))) := ⟨h4_⟩
               have n5_ : Aside0 (w.heap.size ≤ gb463) := ⟨h5_⟩
               have n6_ : Aside0 (w.heap.size ≤ gb463) := ⟨h6_⟩
               have n7_ : Aside0 (gb438 ≠ gb463) := ⟨h7_⟩
               have n8_ : Aside0 (gb463 ≠ gb438) := ⟨h8_⟩
               have n9_ : Aside0 (gb439 ≠ gb463) := ⟨h9_⟩
               have n10_ : Aside0 (gb463 ≠ gb439) := ⟨h10_⟩
               have n11_ : Aside0 (gb440 ≠ gb463) := ⟨h11_⟩
               have n12_ : Aside0 (gb463 ≠ gb440) := ⟨h12_⟩
               have n13_ : Aside0 (Below w.heap.size w w14) := ⟨h13_⟩
               clear BK438
               clear BK439
               clear BK440
               clear HB
               clear h0_ h1_ h2_ h3_ h4_ h5_ h6_ h7_ h8_ h9_ h10_ h11_ h12_ h13_
               have HO449 := n0_
               have BK438 := n1_
               have BK439 := n2_
               have BK440 := n3_
               have BK463 := n4_
               have GW463 := n5_
               have GE463 := n6_
               have NB438_463 := n7_
               have NB463_438 := n8_
               have NB439_463 := n9_
               have NB463_439 := n10_
               have NB440_463 := n11_
               have NB463_440 := n12_
               have HB := n13_
               clear n0_ n1_ n2_ n3_ n4_ n5_ n6_ n7_ n8_ n9_ n10_ n11_ n12_ n13_
               have hHeld : w14.cell? ⟨gb438, 0, none⟩ = some (.slice A0_0 l0_0.length c0_0) ∧ w14.cell? ⟨gb438, 1, none⟩ = some (.int .i64 a0_1) ∧ w14.cell? ⟨gb438, 2, none⟩ = some (.int .i64 a0_2) ∧ w14.cell? ⟨gb438, 3, none⟩ = some (.int .i64 a0_3) ∧ w14.cell? ⟨gb438, 4, none⟩ = some (.int .i64 a0_4) ∧ w14.cell? ⟨gb438, 5, none⟩ = some (.int .i64 a0_5) ∧ w14.cell? ⟨gb438, 6, none⟩ = some (.int .i64 a0_6) ∧ w14.cell? ⟨gb439, 0, none⟩ = some (.int .i64 a1_0) ∧ w14.cell? ⟨gb439, 1, none⟩ = some (.int .i64 a1_1) := hS_
               refine norm_ (a' := ?_) ?_ ?_
               rotate_left
               ·
                simp only [putAll, Act.put, List.setIfInBounds_toArray, List.set_cons_zero, List.set_cons_succ]
                rfl
               refine one_ (i := 0) (N := some 9) #[true, true, true, false, true, true, false, false, false, false, false, true, false, false] rfl rfl (one_of HT_.out (by kernel_rfl)) (by decide) (fun K hK => ?_)
               refine Kd.R_lit_step k41 _ 41 ?hg (N := 9) ?hd (xs := ([] : List (S41))) (inner := []) (ok := fun _ => True) (okp := fun _ => True) ?hr ?hp (fun _ hk => hk) trivial (Below.refl _ _) (Nat.le_refl _) (by simp) ?_; (case hd => rfl); (case hg => rfl); (case hr => first | (go_simp; done) | (go_simp; rfl)); (case hp => exact (Reps.none _ _))
               intro v442 w15 ho16 hb hg_ hnew_
               clear hg_ hnew_
               (first | rw [← Ny441.out] at ho16 | (simp only [Int.reduceToNat] at ho16; rw [← Ny441.out] at ho16))
               have HO443 := Aside0.mk (Kd.R_lower (Kd.R_newB (Kd.R_new' ho16 (Kd.R_lt (Kd.Rq HO449.out))) (g := gb439) (o := .cells #[.int .i64 a1_0, .int .i64 a1_1] 41 (0, 0)) (bkq BK439.out)) (below_size (blq HB.out)))
               replace HO449 := Aside0.mk (Kd.R_elder' (Kd.Rq HO449.out) (Kd.R_base ho16) hb)
               replace BK438 := bkb BK438 hb
               replace BK439 := bkb BK439 hb
               replace BK440 := bkb BK440 hb
               replace BK463 := bkb BK463 hb
               replace HB := hbs HB hb
               clear hb ho16
               refine hK.out _ _ ⟨bc BK438 0, bc BK438 1, bc BK438 2, bc BK438 3, bc BK438 4, bc BK438 5, bc BK438 6, bc BK439 0, bc BK439 1⟩ (fun hHeld => ?_)
               clear hK K
               refine norm_ (a' := ?_) ?_ ?_
               rotate_left
               ·
                show Act.put _ (some 9) _ = _
                simp only [Act.put, List.setIfInBounds_toArray, List.set_cons_zero, List.set_cons_succ, i64_w, i32_w]
                rfl
               exact norm_ (by first | (simp only [putAll, Act.put, List.setIfInBounds_toArray, List.set_cons_zero, List.set_cons_succ]; done) | (simp only [putAll, Act.put, List.setIfInBounds_toArray, List.set_cons_zero, List.set_cons_succ]; rfl)) (hJ0_5_11 (v442, v448, gb463) _ ⟨hHeld, (Kd.Rq (Kd.R_mono HO443.out (fun _ hk => ⟨hk.1.2, hk.2⟩))), (Kd.Rq (Kd.R_mono HO449.out (fun _ hk => ⟨hk.2, hk.1⟩))), (bkq BK438.out), (bkq BK439.out), (bkq BK440.out), (bkq BK463.out), GW463.out, GE463.out, NB438_463.out, NB463_438.out, NB439_463.out, NB463_439.out, NB440_463.out, NB463_440.out, (blq HB.out)⟩)
             ·
              skip
              rintro ⟨v442, gb463⟩ w14 ⟨hS_, h0_, h1_, h2_, h3_, h4_, h5_, h6_, h7_, h8_, h9_, h10_, h11_, h12_, h13_⟩
              have n0_ : Aside0 (Kd.R k41 41 w14 w.heap.size (fun k_ => k_ ≠ gb439) v442 y441) := ⟨h0_⟩
              have n1_ : Aside0 (w14.heap[gb438]? = some (.cells #[.slice A0_0 l0_0.length c0_0, .int .i64 a0_1, .int .i64 a0_2, .int .i64 a0_3, .int .i64 a0_4, .int .i64 a0_5, .int .i64 a0_6] 31 (0, 0))) := ⟨h1_⟩
              have n2_ : Aside0 (w14.heap[gb439]? = some (.cells #[.int .i64 a1_0, .int .i64 a1_1] 41 (0, 0))) := ⟨h2_⟩
              have n3_ : Aside0 (w14.heap[gb440]? = some (.cells #[.slice none 0 0, .int .i64 0, .int .i64 0, .int .i64 0, .int .i64 0, .int .i64 0, .int .i64 0] 31 (0, 0))) := ⟨h3_⟩
              have n4_ : Aside0 (w14.heap[gb463]? = some (.cells #[.slice none 0 0, .int .i64 0, .int .i64 0, .int .i64 0, .int .i64 0, .int .i64 0, .int .i64 0] 31 (0, 0))) := ⟨h4_⟩
              have n5_ : Aside0 (w.heap.size ≤ gb463) := ⟨h5_⟩
              have n6_ : Aside0 (w.heap.size ≤ gb463) := ⟨h6_⟩
              have n7_ : Aside0 (gb438 ≠ gb463) := ⟨h7_⟩
              have n8_ : Aside0 (gb463 ≠ gb438) := ⟨h8_⟩
              have n9_ : Aside0 (gb439 ≠ gb463) := ⟨h9_⟩
              have n10_ : Aside0 (gb463 ≠ gb439) := ⟨h10_⟩
              have n11_ : Aside0 (gb440 ≠ gb463) := ⟨h11_⟩
              have n12_ : Aside0 (gb463 ≠ gb440) := ⟨h12_⟩
              have n13_ : Aside0 (Below w.heap.size w w14) := ⟨h13_⟩
              clear BK438
              clear BK439
              clear BK440
              clear HB
              clear h0_ h1_ h2_ h3_ h4_ h5_ h6_ h7_ h8_ h9_ h10_ h11_ h12_ h13_
              have HO443 := n0_
              have BK438 := n1_
              have BK439 := n2_
              have BK440 := n3_
              have BK463 := n4_
              have GW463 := n5_
              have GE463 := n6_
              have NB438_463 := n7_
              have NB463_438 := n8_
              have NB439_463 := n9_
              have NB463_439 := n10_
              have NB440_463 := n11_
              have NB463_440 := n12_
              have HB := n13_
              clear n0_ n1_ n2_ n3_ n4_ n5_ n6_ n7_ n8_ n9_ n10_ n11_ n12_ n13_
              have hHeld : w14.cell? ⟨gb438, 0, none⟩ = some (.slice A0_0 l0_0.length c0_0) ∧ w14.cell? ⟨gb438, 1, none⟩ = some (.int .i64 a0_1) ∧ w14.cell? ⟨gb438, 2, none⟩ = some (.int .i64 a0_2) ∧ w14.cell? ⟨gb438, 3, none⟩ = some (.int .i64 a0_3) ∧ w14.cell? ⟨gb438, 4, none⟩ = some (.int .i64 a0_4) ∧ w14.cell? ⟨gb438, 5, none⟩ = some (.int .i64 a0_5) ∧ w14.cell? ⟨gb438, 6, none⟩ = some (.int .i64 a0_6) ∧ w14.cell? ⟨gb439, 0, none⟩ = some (.int .i64 a1_0) ∧ w14.cell? ⟨gb439, 1, none⟩ = some (.int .i64 a1_1) := hS_
              refine norm_ (a' := ?_) ?_ ?_
              rotate_left
              ·
               simp only [putAll, Act.put, List.setIfInBounds_toArray, List.set_cons_zero, List.set_cons_succ]
               rfl
              refine two_ (i := 3) (j := 5) (Ni := some 12) (Nj := some 14) #[true, true, true, true, true, false, false, false, false, false, false, true, false, false] #[true, true, true, false, true, true, false, false, false, false, false, true, false, false] rfl rfl rfl rfl (two_of HT_.out (by kernel_rfl)) (by decide) (by decide) (fun K hK => ?_) (fun K hK => ?_)
              ·
               skip
               refine Kd.R_append_rows_step k41 (w0 := w) w.heap.size (by rfl) (.tmp 9) (.tmp 11) 28 41 (.agg #[(.int .i64 0), (.int .i64 0)]) 16 rfl Try.underlying28 info41 rfl (by decide) (by omega) v442 y441 l0_0 _ _ _ (fun k_ => k_ ≠ gb439) (fun _ => False) rfl rfl ?aO ?aR (fun _ _ h => h) (fun _ h => h.elim) ?aF ?aB ?aS ?aL ?_
               (case aR => repeat (first | exact (Kd.C_below HR0_0.out HB.out) | (with_reducible refine Kd.C_alloc ?_ _) | (with_reducible refine Kd.C_drewN ?_ _) | (with_reducible refine Kd.C_drew ?_)))
               (case aB => exact (blq HB.out))
               (case aF => exact (fun k_ hk => Kd.freshB (g := gb439) (o := .cells #[.int .i64 a1_0, .int .i64 a1_1] 41 (0, 0)) (bkq BK439.out) k_ hk))
               (case aO => exact (Kd.Rq HO443.out))
               (case aS => exact (below_size (blq HB.out)))
               (case aL => have := LMc3.out; omega)
               intro v445 w15 ho hb hg hat
               rw [← Ny444.out] at ho
               have HO446 := Aside0.mk (ho)
               replace BK438 := Aside0.mk (blk_grown (bkq BK438.out) hg (Kd.R_ne HO443.out BK438.out (by decide)))
               replace BK439 := Aside0.mk (blk_grown (bkq BK439.out) hg (Kd.R_away HO443.out (fun _ hk => hk)))
               replace BK440 := Aside0.mk (blk_grown (bkq BK440.out) hg (Kd.R_ne HO443.out BK440.out (by decide)))
               replace BK463 := Aside0.mk (blk_grown (bkq BK463.out) hg (Kd.R_ne HO443.out BK463.out (by decide)))
               replace HB := Aside0.mk (hb)
               clear HO443
               clear ho hb hg hat
               refine hK.out _ _ ⟨bc BK438 0, bc BK438 1, bc BK438 2, bc BK438 3, bc BK438 4, bc BK438 5, bc BK438 6, bc BK439 0, bc BK439 1⟩ (fun hHeld => ?_)
               clear hK K
               refine norm_ (a' := ?_) ?_ ?_
               rotate_left
               ·
                show Act.put _ (some 12) _ = _
                simp only [Act.put, List.setIfInBounds_toArray, List.set_cons_zero, List.set_cons_succ, i64_w, i32_w]
                rfl
               exact norm_ (by first | (simp only [putAll, Act.put, List.setIfInBounds_toArray, List.set_cons_zero, List.set_cons_succ]; done) | (simp only [putAll, Act.put, List.setIfInBounds_toArray, List.set_cons_zero, List.set_cons_succ]; rfl)) (hJ0_3_11 (v442, v445, gb463) _ ⟨hHeld, (Kd.Rq HO446.out), (bkq BK438.out), (bkq BK439.out), (bkq BK440.out), (bkq BK463.out), GW463.out, GE463.out, NB438_463.out, NB463_438.out, NB439_463.out, NB463_439.out, NB440_463.out, NB463_440.out, (blq HB.out)⟩)
              ·
               skip
               refine Kd.R_lit_step k41 _ 41 ?hg (N := 14) ?hd (xs := ([(⟨a1_0, a1_1⟩ : S41)] : List (S41))) (inner := [.int .i64 a1_0, .int .i64 a1_1]) (ok := fun _ => True) (okp := fun _ => True) ?hr ?hp (fun _ hk => hk) trivial (Below.refl _ _) (Nat.le_refl _) (by simp) ?_; (case hd => rfl); (case hg => rfl); (case hr => first | (go_simp; done) | (go_simp; rfl)); (case hp => exact (Reps.c2 (show Kd.M k41 _ _ _ (⟨a1_0, a1_1⟩ : S41) [.int .i64 a1_0, .int .i64 a1_1] from (k41_mkM _ _ _ (⟨a1_0, a1_1⟩ : S41) )) (Reps.none _ _)))
               intro v448 w15 ho16 hb hg_ hnew_
               clear hg_ hnew_
               (first | rw [← Ny447.out] at ho16 | (simp only [Int.reduceToNat] at ho16; rw [← Ny447.out] at ho16))
               have HO449 := Aside0.mk (Kd.R_lower (Kd.R_newB (Kd.R_new' ho16 (Kd.R_lt (Kd.Rq HO443.out))) (g := gb439) (o := .cells #[.int .i64 a1_0, .int .i64 a1_1] 41 (0, 0)) (bkq BK439.out)) (below_size (blq HB.out)))
               replace HO443 := Aside0.mk (Kd.R_elder' (Kd.Rq HO443.out) (Kd.R_base ho16) hb)
               replace BK438 := bkb BK438 hb
               replace BK439 := bkb BK439 hb
               replace BK440 := bkb BK440 hb
               replace BK463 := bkb BK463 hb
               replace HB := hbs HB hb
               clear hb ho16
               refine hK.out _ _ ⟨bc BK438 0, bc BK438 1, bc BK438 2, bc BK438 3, bc BK438 4, bc BK438 5, bc BK438 6, bc BK439 0, bc BK439 1⟩ (fun hHeld => ?_)
               clear hK K
               refine norm_ (a' := ?_) ?_ ?_
               rotate_left
               ·
                show Act.put _ (some 14) _ = _
                simp only [Act.put, List.setIfInBounds_toArray, List.set_cons_zero, List.set_cons_succ, i64_w, i32_w]
                rfl
               exact norm_ (by first | (simp only [putAll, Act.put, List.setIfInBounds_toArray, List.set_cons_zero, List.set_cons_succ]; done) | (simp only [putAll, Act.put, List.setIfInBounds_toArray, List.set_cons_zero, List.set_cons_succ]; rfl)) (hJ0_5_11 (v442, v448, gb463) _ ⟨hHeld, (Kd.Rq (Kd.R_mono HO443.out (fun _ hk => ⟨hk.2, hk.1⟩))), (Kd.Rq (Kd.R_mono HO449.out (fun _ hk => ⟨hk.1.2, hk.2⟩))), (bkq BK438.out), (bkq BK439.out), (bkq BK440.out), (bkq BK463.out), GW463.out, GE463.out, NB438_463.out, NB463_438.out, NB439_463.out, NB463_439.out, NB440_463.out, NB463_440.out, (blq HB.out)⟩)
            ·
             skip
             rintro ⟨v442, v448⟩ w15 ⟨hS_, h0_, h1_, h2_, h3_, h4_, h5_⟩
             have n0_ : Aside0 (Kd.R k41 41 w15 w.heap.size (fun k_ => some k_ ≠ (v448 : Value).ownBlock ∧ k_ ≠ gb439) v442 y441) := ⟨h0_⟩
             have n1_ : Aside0 (Kd.R k41 41 w15 w.heap.size (fun k_ => some k_ ≠ (v442 : Value).ownBlock ∧ k_ ≠ gb439) v448 y447) := ⟨h1_⟩
             have n2_ : Aside0 (w15.heap[gb438]? = some (.cells #[.slice A0_0 l0_0.length c0_0, .int .i64 a0_1, .int .i64 a0_2, .int .i64 a0_3, .int .i64 a0_4, .int .i64 a0_5, .int .i64 a0_6] 31 (0, 0))) := ⟨h2_⟩
             have n3_ : Aside0 (w15.heap[gb439]? = some (.cells #[.int .i64 a1_0, .int .i64 a1_1] 41 (0, 0))) := ⟨h3_⟩
             have n4_ : Aside0 (w15.heap[gb440]? = some (.cells #[.slice none 0 0, .int .i64 0, .int .i64 0, .int .i64 0, .int .i64 0, .int .i64 0, .int .i64 0] 31 (0, 0))) := ⟨h4_⟩
             have n5_ : Aside0 (Below w.heap.size w w15) := ⟨h5_⟩
             clear BK438
             clear BK439
             clear BK440
             clear HB
             clear h0_ h1_ h2_ h3_ h4_ h5_
             have HO443 := n0_
             have HO449 := n1_
             have BK438 := n2_
             have BK439 := n3_
             have BK440 := n4_
             have HB := n5_
             clear n0_ n1_ n2_ n3_ n4_ n5_
             have hHeld : w15.cell? ⟨gb438, 0, none⟩ = some (.slice A0_0 l0_0.length c0_0) ∧ w15.cell? ⟨gb438, 1, none⟩ = some (.int .i64 a0_1) ∧ w15.cell? ⟨gb438, 2, none⟩ = some (.int .i64 a0_2) ∧ w15.cell? ⟨gb438, 3, none⟩ = some (.int .i64 a0_3) ∧ w15.cell? ⟨gb438, 4, none⟩ = some (.int .i64 a0_4) ∧ w15.cell? ⟨gb438, 5, none⟩ = some (.int .i64 a0_5) ∧ w15.cell? ⟨gb438, 6, none⟩ = some (.int .i64 a0_6) ∧ w15.cell? ⟨gb439, 0, none⟩ = some (.int .i64 a1_0) ∧ w15.cell? ⟨gb439, 1, none⟩ = some (.int .i64 a1_1) := hS_
             refine norm_ (a' := ?_) ?_ ?_
             rotate_left
             ·
              simp only [putAll, Act.put, List.setIfInBounds_toArray, List.set_cons_zero, List.set_cons_succ]
              rfl
             refine two_ (i := 3) (j := 11) (Ni := some 12) (Nj := some 6) #[true, true, true, true, true, true, false, false, false, false, false, false, false, false] #[true, true, true, false, true, true, false, false, false, false, false, true, false, false] rfl rfl rfl rfl (two_of HT_.out (by kernel_rfl)) (by decide) (by decide) (fun K hK => ?_) (fun K hK => ?_)
             ·
              skip
              refine Kd.R_append_rows_step k41 (w0 := w) w.heap.size (by rfl) (.tmp 9) (.tmp 11) 28 41 (.agg #[(.int .i64 0), (.int .i64 0)]) 16 rfl Try.underlying28 info41 rfl (by decide) (by omega) v442 y441 l0_0 _ _ _ (fun k_ => some k_ ≠ (v448 : Value).ownBlock ∧ k_ ≠ gb439) (fun _ => False) rfl rfl ?aO ?aR (fun _ _ h => h) (fun _ h => h.elim) ?aF ?aB ?aS ?aL ?_
              (case aR => repeat (first | exact (Kd.C_below HR0_0.out HB.out) | (with_reducible refine Kd.C_alloc ?_ _) | (with_reducible refine Kd.C_drewN ?_ _) | (with_reducible refine Kd.C_drew ?_)))
              (case aB => exact (blq HB.out))
              (case aF => exact (fun k_ hk => ⟨Kd.fresh' (Kd.R_lt (Kd.Rq HO449.out)) k_ hk, Kd.freshB (g := gb439) (o := .cells #[.int .i64 a1_0, .int .i64 a1_1] 41 (0, 0)) (bkq BK439.out) k_ hk⟩))
              (case aO => exact (Kd.Rq HO443.out))
              (case aS => exact (below_size (blq HB.out)))
              (case aL => have := LMc3.out; omega)
              intro v445 w16 ho hb hg hat
              rw [← Ny444.out] at ho
              have HO446 := Aside0.mk (ho)
              replace BK438 := Aside0.mk (blk_grown (bkq BK438.out) hg (Kd.R_ne HO443.out BK438.out (by decide)))
              replace BK439 := Aside0.mk (blk_grown (bkq BK439.out) hg (Kd.R_away HO443.out (fun _ hk => hk.2)))
              replace BK440 := Aside0.mk (blk_grown (bkq BK440.out) hg (Kd.R_ne HO443.out BK440.out (by decide)))
              replace HO449 := Aside0.mk (Kd.R_after (ok := (fun k_ => k_ ≠ gb439)) (Kd.Rq (Kd.R_mono HO449.out (fun _ hk => ⟨hk.2, hk.1⟩))) hg hat)
              replace HB := Aside0.mk (hb)
              clear HO443
              clear ho hb hg hat
              refine hK.out _ _ ⟨bc BK438 0, bc BK438 1, bc BK438 2, bc BK438 3, bc BK438 4, bc BK438 5, bc BK438 6, bc BK439 0, bc BK439 1⟩ (fun hHeld => ?_)
              clear hK K
              refine norm_ (a' := ?_) ?_ ?_
              rotate_left
              ·
               show Act.put _ (some 12) _ = _
               simp only [Act.put, List.setIfInBounds_toArray, List.set_cons_zero, List.set_cons_succ, i64_w, i32_w]
               rfl
              exact norm_ (by first | (simp only [putAll, Act.put, List.setIfInBounds_toArray, List.set_cons_zero, List.set_cons_succ]; done) | (simp only [putAll, Act.put, List.setIfInBounds_toArray, List.set_cons_zero, List.set_cons_succ]; rfl)) (hJ0_3_5 (v442, v445, v448) _ ⟨hHeld, (Kd.Rq HO446.out), (Kd.Rq (Kd.R_mono HO449.out (fun _ hk => ⟨hk.2, hk.1⟩))), (bkq BK438.out), (bkq BK439.out), (bkq BK440.out), (blq HB.out)⟩)
             ·
              skip
              refine box_step ?hg (N := 6) ?hd (cs := #[.slice none 0 0, .int .i64 0, .int .i64 0, .int .i64 0, .int .i64 0, .int .i64 0, .int .i64 0]) (t := 31) ?hr ?_; (case hd => rfl); (case hg => rfl); (case hr => first | (go_simp; done) | (go_simp; rfl))
              intro gb463 hg w16 hbox hb
              have BK463 := Aside0.mk (hbox)
              have GW463 := sQ hg HB
              have GE463 := sQ hg HB
              have NB438_463 := qL hg BK438
              have NB463_438 := qG hg BK438
              have NB439_463 := qL hg BK439
              have NB463_439 := qG hg BK439
              have NB440_463 := qL hg BK440
              have NB463_440 := qG hg BK440
              replace HO443 := rob HO443 hb
              replace HO449 := rob HO449 hb
              replace BK438 := bkb BK438 hb
              replace BK439 := bkb BK439 hb
              replace BK440 := bkb BK440 hb
              replace HB := hbs HB hb
              clear hb hbox hg
              refine hK.out _ _ ⟨bc BK438 0, bc BK438 1, bc BK438 2, bc BK438 3, bc BK438 4, bc BK438 5, bc BK438 6, bc BK439 0, bc BK439 1⟩ (fun hHeld => ?_)
              clear hK K
              refine norm_ (a' := ?_) ?_ ?_
              rotate_left
              ·
               show Act.put _ (some 6) _ = _
               simp only [Act.put, List.setIfInBounds_toArray, List.set_cons_zero, List.set_cons_succ, i64_w, i32_w]
               rfl
              exact norm_ (by first | (simp only [putAll, Act.put, List.setIfInBounds_toArray, List.set_cons_zero, List.set_cons_succ]; done) | (simp only [putAll, Act.put, List.setIfInBounds_toArray, List.set_cons_zero, List.set_cons_succ]; rfl)) (hJ0_5_11 (v442, v448, gb463) _ ⟨hHeld, (Kd.Rq HO443.out), (Kd.Rq HO449.out), (bkq BK438.out), (bkq BK439.out), (bkq BK440.out), (bkq BK463.out), GW463.out, GE463.out, NB438_463.out, NB463_438.out, NB439_463.out, NB463_439.out, NB440_463.out, NB463_440.out, (blq HB.out)⟩)
           ·
            skip
            rintro ⟨v442, v445⟩ w14 ⟨hS_, h0_, h1_, h2_, h3_, h4_⟩
            have n0_ : Aside0 (Kd.R k41 41 w14 w.heap.size (fun k_ => k_ ≠ gb439) v445 y444) := ⟨h0_⟩
            have n1_ : Aside0 (w14.heap[gb438]? = some (.cells #[.slice A0_0 l0_0.length c0_0, .int .i64 a0_1, .int .i64 a0_2, .int .i64 a0_3, .int .i64 a0_4, .int .i64 a0_5, .int .i64 a0_6] 31 (0, 0))) := ⟨h1_⟩
            have n2_ : Aside0 (w14.heap[gb439]? = some (.cells #[.int .i64 a1_0, .int .i64 a1_1] 41 (0, 0))) := ⟨h2_⟩
            have n3_ : Aside0 (w14.heap[gb440]? = some (.cells #[.slice none 0 0, .int .i64 0, .int .i64 0, .int .i64 0, .int .i64 0, .int .i64 0, .int .i64 0] 31 (0, 0))) := ⟨h3_⟩
            have n4_ : Aside0 (Below w.heap.size w w14) := ⟨h4_⟩
            clear BK438
            clear BK439
            clear BK440
            clear HB
            clear h0_ h1_ h2_ h3_ h4_
            have HO446 := n0_
            have BK438 := n1_
            have BK439 := n2_
            have BK440 := n3_
            have HB := n4_
            clear n0_ n1_ n2_ n3_ n4_
            have hHeld : w14.cell? ⟨gb438, 0, none⟩ = some (.slice A0_0 l0_0.length c0_0) ∧ w14.cell? ⟨gb438, 1, none⟩ = some (.int .i64 a0_1) ∧ w14.cell? ⟨gb438, 2, none⟩ = some (.int .i64 a0_2) ∧ w14.cell? ⟨gb438, 3, none⟩ = some (.int .i64 a0_3) ∧ w14.cell? ⟨gb438, 4, none⟩ = some (.int .i64 a0_4) ∧ w14.cell? ⟨gb438, 5, none⟩ = some (.int .i64 a0_5) ∧ w14.cell? ⟨gb438, 6, none⟩ = some (.int .i64 a0_6) ∧ w14.cell? ⟨gb439, 0, none⟩ = some (.int .i64 a1_0) ∧ w14.cell? ⟨gb439, 1, none⟩ = some (.int .i64 a1_1) := hS_
            refine norm_ (a' := ?_) ?_ ?_
            rotate_left
            ·
             simp only [putAll, Act.put, List.setIfInBounds_toArray, List.set_cons_zero, List.set_cons_succ]
             rfl
            refine two_ (i := 5) (j := 11) (Ni := some 14) (Nj := some 6) #[true, true, true, true, true, true, false, false, false, false, false, false, false, false] #[true, true, true, true, true, false, false, false, false, false, false, true, false, false] rfl rfl rfl rfl (two_of HT_.out (by kernel_rfl)) (by decide) (by decide) (fun K hK => ?_) (fun K hK => ?_)
            ·
             skip
             refine Kd.R_lit_step k41 _ 41 ?hg (N := 14) ?hd (xs := ([(⟨a1_0, a1_1⟩ : S41)] : List (S41))) (inner := [.int .i64 a1_0, .int .i64 a1_1]) (ok := fun _ => True) (okp := fun _ => True) ?hr ?hp (fun _ hk => hk) trivial (Below.refl _ _) (Nat.le_refl _) (by simp) ?_; (case hd => rfl); (case hg => rfl); (case hr => first | (go_simp; done) | (go_simp; rfl)); (case hp => exact (Reps.c2 (show Kd.M k41 _ _ _ (⟨a1_0, a1_1⟩ : S41) [.int .i64 a1_0, .int .i64 a1_1] from (k41_mkM _ _ _ (⟨a1_0, a1_1⟩ : S41) )) (Reps.none _ _)))
             intro v448 w15 ho16 hb hg_ hnew_
             clear hg_ hnew_
             (first | rw [← Ny447.out] at ho16 | (simp only [Int.reduceToNat] at ho16; rw [← Ny447.out] at ho16))
             have HO449 := Aside0.mk (Kd.R_lower (Kd.R_newB (Kd.R_new' ho16 (Kd.R_lt (Kd.Rq HO446.out))) (g := gb439) (o := .cells #[.int .i64 a1_0, .int .i64 a1_1] 41 (0, 0)) (bkq BK439.out)) (below_size (blq HB.out)))
             replace HO446 := Aside0.mk (Kd.R_elder' (Kd.Rq HO446.out) (Kd.R_base ho16) hb)
             replace BK438 := bkb BK438 hb
             replace BK439 := bkb BK439 hb
             replace BK440 := bkb BK440 hb
             replace HB := hbs HB hb
             clear hb ho16
             refine hK.out _ _ ⟨bc BK438 0, bc BK438 1, bc BK438 2, bc BK438 3, bc BK438 4, bc BK438 5, bc BK438 6, bc BK439 0, bc BK439 1⟩ (fun hHeld => ?_)
             clear hK K
             refine norm_ (a' := ?_) ?_ ?_
             rotate_left
             ·
              show Act.put _ (some 14) _ = _
              simp only [Act.put, List.setIfInBounds_toArray, List.set_cons_zero, List.set_cons_succ, i64_w, i32_w]
              rfl
             exact norm_ (by first | (simp only [putAll, Act.put, List.setIfInBounds_toArray, List.set_cons_zero, List.set_cons_succ]; done) | (simp only [putAll, Act.put, List.setIfInBounds_toArray, List.set_cons_zero, List.set_cons_succ]; rfl)) (hJ0_3_5 (v442, v445, v448) _ ⟨hHeld, (Kd.Rq (Kd.R_mono HO446.out (fun _ hk => ⟨hk.2, hk.1⟩))), (Kd.Rq (Kd.R_mono HO449.out (fun _ hk => ⟨hk.1.2, hk.2⟩))), (bkq BK438.out), (bkq BK439.out), (bkq BK440.out), (blq HB.out)⟩)
            ·
             skip
             refine box_step ?hg (N := 6) ?hd (cs := #[.slice none 0 0, .int .i64 0, .int .i64 0, .int .i64 0, .int .i64 0, .int .i64 0, .int .i64 0]) (t := 31) ?hr ?_; (case hd => rfl); (case hg => rfl); (case hr => first | (go_simp; done) | (go_simp; rfl))
             intro gb463 hg w15 hbox hb
             have BK463 := Aside0.mk (hbox)
             have GW463 := sQ hg HB
             have GE463 := sQ hg HB
             have NB438_463 := qL hg BK438
             have NB463_438 := qG hg BK438
             have NB439_463 := qL hg BK439
             have NB463_439 := qG hg BK439
             have NB440_463 := qL hg BK440
             have NB463_440 := qG hg BK440
             replace HO446 := rob HO446 hb
             replace BK438 := bkb BK438 hb
             replace BK439 := bkb BK439 hb
             replace BK440 := bkb BK440 hb
             replace HB := hbs HB hb
             clear hb hbox hg
             refine hK.out _ _ ⟨bc BK438 0, bc BK438 1, bc BK438 2, bc BK438 3, bc BK438 4, bc BK438 5, bc BK438 6, bc BK439 0, bc BK439 1⟩ (fun hHeld => ?_)
             clear hK K
             refine norm_ (a' := ?_) ?_ ?_
             rotate_left
             ·
              show Act.put _ (some 6) _ = _
              simp only [Act.put, List.setIfInBounds_toArray, List.set_cons_zero, List.set_cons_succ, i64_w, i32_w]
              rfl
             exact norm_ (by first | (simp only [putAll, Act.put, List.setIfInBounds_toArray, List.set_cons_zero, List.set_cons_succ]; done) | (simp only [putAll, Act.put, List.setIfInBounds_toArray, List.set_cons_zero, List.set_cons_succ]; rfl)) (hJ0_3_11 (v442, v445, gb463) _ ⟨hHeld, (Kd.Rq HO446.out), (bkq BK438.out), (bkq BK439.out), (bkq BK440.out), (bkq BK463.out), GW463.out, GE463.out, NB438_463.out, NB463_438.out, NB439_463.out, NB463_439.out, NB440_463.out, NB463_440.out, (blq HB.out)⟩)
          ·
           skip
           rintro ⟨v442, v448, gb463⟩ w16 ⟨hS_, h0_, h1_, h2_, h3_, h4_, h5_, h6_, h7_, h8_, h9_, h10_, h11_, h12_, h13_, h14_⟩
           have n0_ : Aside0 (Kd.R k41 41 w16 w.heap.size (fun k_ => some k_ ≠ (v448 : Value).ownBlock ∧ k_ ≠ gb439) v442 y441) := ⟨h0_⟩
           have n1_ : Aside0 (Kd.R k41 41 w16 w.heap.size (fun k_ => some k_ ≠ (v442 : Value).ownBlock ∧ k_ ≠ gb439) v448 y447) := ⟨h1_⟩
           have n2_ : Aside0 (w16.heap[gb438]? = some (.cells #[.slice A0_0 l0_0.length c0_0, .int .i64 a0_1, .int .i64 a0_2, .int .i64 a0_3, .int .i64 a0_4, .int .i64 a0_5, .int .i64 a0_6] 31 (0, 0))) := ⟨h2_⟩
           have n3_ : Aside0 (w16.heap[gb439]? = some (.cells #[.int .i64 a1_0, .int .i64 a1_1] 41 (0, 0))) := ⟨h3_⟩
           have n4_ : Aside0 (w16.heap[gb440]? = some (.cells #[.slice none 0 0, .int .i64 0, .int .i64 0, .int .i64 0, .int .i64 0, .int .i64 0, .int .i64 0] 31 (0, 0))) := ⟨h4_⟩
           have n5_ : Aside0 (w16.heap[gb463]? = some (.cells #[.slice none 0 0, .int .i64 0, .int .i64 0, .int .i64 0, .int .i64 0, .int .i64 0, .int .i64 0] 31 (0, 0))) := ⟨h5_⟩
           have n6_ : Aside0 (w.heap.size ≤ gb463) := ⟨h6_⟩
           have n7_ : Aside0 (w.heap.size ≤ gb463) := ⟨h7_⟩
           have n8_ : Aside0 (gb438 ≠ gb463) := ⟨h8_⟩
           have n9_ : Aside0 (gb463 ≠ gb438) := ⟨h9_⟩
           have n10_ : Aside0 (gb439 ≠ gb463) := ⟨h10_⟩
           have n11_ : Aside0 (gb463 ≠ gb439) := ⟨h11_⟩
           have n12_ : Aside0 (gb440 ≠ gb463) := ⟨h12_⟩
           have n13_ : Aside0 (gb463 ≠ gb440) := ⟨h13_⟩
           have n14_ : Aside0 (Below w.heap.size w w16) := ⟨h14_⟩
           clear BK438
           clear BK439
           clear BK440
           clear HB
           clear h0_ h1_ h2_ h3_ h4_ h5_ h6_ h7_ h8_ h9_ h10_ h11_ h12_ h13_ h14_
           have HO443 := n0_
           have HO449 := n1_
           have BK438 := n2_
           have BK439 := n3_
           have BK440 := n4_
           have BK463 := n5_
           have GW463 := n6_
           have GE463 := n7_
           have NB438_463 := n8_
           have NB463_438 := n9_
           have NB439_463 := n10_
           have NB463_439 := n11_
           have NB440_463 := n12_
           have NB463_440 := n13_
           have HB := n14_
           clear n0_ n1_ n2_ n3_ n4_ n5_ n6_ n7_ n8_ n9_ n10_ n11_ n12_ n13_ n14_
           have hHeld : w16.cell? ⟨gb438, 0, none⟩ = some (.slice A0_0 l0_0.length c0_0) ∧ w16.cell? ⟨gb438, 1, none⟩ = some (.int .i64 a0_1) ∧ w16.cell? ⟨gb438, 2, none⟩ = some (.int .i64 a0_2) ∧ w16.cell? ⟨gb438, 3, none⟩ = some (.int .i64 a0_3) ∧ w16.cell? ⟨gb438, 4, none⟩ = some (.int .i64 a0_4) ∧ w16.cell? ⟨gb438, 5, none⟩ = some (.int .i64 a0_5) ∧ w16.cell? ⟨gb438, 6, none⟩ = some (.int .i64 a0_6) ∧ w16.cell? ⟨gb439, 0, none⟩ = some (.int .i64 a1_0) ∧ w16.cell? ⟨gb439, 1, none⟩ = some (.int .i64 a1_1) := hS_
           refine norm_ (a' := ?_) ?_ ?_
           rotate_left
           ·
            simp only [putAll, Act.put, List.setIfInBounds_toArray, List.set_cons_zero, List.set_cons_succ]
            rfl
           refine one_ (i := 3) (N := some 12) #[true, true, true, true, true, true, false, false, false, false, false, true, false, false] rfl rfl (one_of HT_.out (by kernel_rfl)) (by decide) (fun K hK => ?_)
           refine Kd.R_append_rows_step k41 (w0 := w) w.heap.size (by rfl) (.tmp 9) (.tmp 11) 28 41 (.agg #[(.int .i64 0), (.int .i64 0)]) 16 rfl Try.underlying28 info41 rfl (by decide) (by omega) v442 y441 l0_0 _ _ _ (fun k_ => some k_ ≠ (v448 : Value).ownBlock ∧ k_ ≠ gb439) (fun _ => False) rfl rfl ?aO ?aR (fun _ _ h => h) (fun _ h => h.elim) ?aF ?aB ?aS ?aL ?_
           (case aR => repeat (first | exact (Kd.C_below HR0_0.out HB.out) | (with_reducible refine Kd.C_alloc ?_ _) | (with_reducible refine Kd.C_drewN ?_ _) | (with_reducible refine Kd.C_drew ?_)))
           (case aB => exact (blq HB.out))
           (case aF => exact (fun k_ hk => ⟨Kd.fresh' (Kd.R_lt (Kd.Rq HO449.out)) k_ hk, Kd.freshB (g := gb439) (o := .cells #[.int .i64 a1_0, .int .i64 a1_1] 41 (0, 0)) (bkq BK439.out) k_ hk⟩))
           (case aO => exact (Kd.Rq HO443.out))
           (case aS => exact (below_size (blq HB.out)))
           (case aL => have := LMc3.out; omega)
           intro v445 w17 ho hb hg hat
           rw [← Ny444.out] at ho
           have HO446 := Aside0.mk (ho)
           replace BK438 := Aside0.mk (blk_grown (bkq BK438.out) hg (Kd.R_ne HO443.out BK438.out (by decide)))
           replace BK439 := Aside0.mk (blk_grown (bkq BK439.out) hg (Kd.R_away HO443.out (fun _ hk => hk.2)))
           replace BK440 := Aside0.mk (blk_grown (bkq BK440.out) hg (Kd.R_ne HO443.out BK440.out (by decide)))
           replace HO449 := Aside0.mk (Kd.R_after (ok := (fun k_ => k_ ≠ gb439)) (Kd.Rq (Kd.R_mono HO449.out (fun _ hk => ⟨hk.2, hk.1⟩))) hg hat)
           replace BK463 := Aside0.mk (blk_grown (bkq BK463.out) hg (Kd.R_ne HO443.out BK463.out (by decide)))
           replace HB := Aside0.mk (hb)
           clear HO443
           clear ho hb hg hat
           refine hK.out _ _ ⟨bc BK438 0, bc BK438 1, bc BK438 2, bc BK438 3, bc BK438 4, bc BK438 5, bc BK438 6, bc BK439 0, bc BK439 1⟩ (fun hHeld => ?_)
           clear hK K
           refine norm_ (a' := ?_) ?_ ?_
           rotate_left
           ·
            show Act.put _ (some 12) _ = _
            simp only [Act.put, List.setIfInBounds_toArray, List.set_cons_zero, List.set_cons_succ, i64_w, i32_w]
            rfl
           exact norm_ (by first | (simp only [putAll, Act.put, List.setIfInBounds_toArray, List.set_cons_zero, List.set_cons_succ]; done) | (simp only [putAll, Act.put, List.setIfInBounds_toArray, List.set_cons_zero, List.set_cons_succ]; rfl)) (hJ0_3_5_11 (v442, v445, v448, gb463) _ ⟨hHeld, (Kd.Rq HO446.out), (Kd.Rq (Kd.R_mono HO449.out (fun _ hk => ⟨hk.2, hk.1⟩))), (bkq BK438.out), (bkq BK439.out), (bkq BK440.out), (bkq BK463.out), GW463.out, GE463.out, NB438_463.out, NB463_438.out, NB439_463.out, NB463_439.out, NB440_463.out, NB463_440.out, (blq HB.out)⟩)
         ·
          skip
          rintro ⟨v442, v445, gb463⟩ w15 ⟨hS_, h0_, h1_, h2_, h3_, h4_, h5_, h6_, h7_, h8_, h9_, h10_, h11_, h12_, h13_⟩
          have n0_ : Aside0 (Kd.R k41 41 w15 w.heap.size (fun k_ => k_ ≠ gb439) v445 y444) := ⟨h0_⟩
          have n1_ : Aside0 (w15.heap[gb438]? = some (.cells #[.slice A0_0 l0_0.length c0_0, .int .i64 a0_1, .int .i64 a0_2, .int .i64 a0_3, .int .i64 a0_4, .int .i64 a0_5, .int .i64 a0_6] 31 (0, 0))) := ⟨h1_⟩
          have n2_ : Aside0 (w15.heap[gb439]? = some (.cells #[.int .i64 a1_0, .int .i64 a1_1] 41 (0, 0))) := ⟨h2_⟩
          have n3_ : Aside0 (w15.heap[gb440]? = some (.cells #[.slice none 0 0, .int .i64 0, .int .i64 0, .int .i64 0, .int .i64 0, .int .i64 0, .int .i64 0] 31 (0, 0))) := ⟨h3_⟩
          have n4_ : Aside0 (w15.heap[gb463]? = some (.cells #[.slice none 0 0, .int .i64 0, .int .i64 0, .int .i64 0, .int .i64 0, .int .i64 0, .int .i64 0] 31 (0, 0))) := ⟨h4_⟩
          have n5_ : Aside0 (w.heap.size ≤ gb463) := ⟨h5_⟩
          have n6_ : Aside0 (w.heap.size ≤ gb463) := ⟨h6_⟩
          have n7_ : Aside0 (gb438 ≠ gb463) := ⟨h7_⟩
          have n8_ : Aside0 (gb463 ≠ gb438) := ⟨h8_⟩
          have n9_ : Aside0 (gb439 ≠ gb463) := ⟨h9_⟩
          have n10_ : Aside0 (gb463 ≠ gb439) := ⟨h10_⟩
          have n11_ : Aside0 (gb440 ≠ gb463) := ⟨h11_⟩
          have n12_ : Aside0 (gb463 ≠ gb440) := ⟨h12_⟩
          have n13_ : Aside0 (Below w.heap.size w w15) := ⟨h13_⟩
          clear BK438
          clear BK439
          clear BK440
          clear HB
          clear h0_ h1_ h2_ h3_ h4_ h5_ h6_ h7_ h8_ h9_ h10_ h11_ h12_ h13_
          have HO446 := n0_
          have BK438 := n1_
          have BK439 := n2_
          have BK440 := n3_
          have BK463 := n4_
          have GW463 := n5_
          have GE463 := n6_
          have NB438_463 := n7_
          have NB463_438 := n8_
          have NB439_463 := n9_
          have NB463_439 := n10_
          have NB440_463 := n11_
          have NB463_440 := n12_
          have HB := n13_
          clear n0_ n1_ n2_ n3_ n4_ n5_ n6_ n7_ n8_ n9_ n10_ n11_ n12_ n13_
          have hHeld : w15.cell? ⟨gb438, 0, none⟩ = some (.slice A0_0 l0_0.length c0_0) ∧ w15.cell? ⟨gb438, 1, none⟩ = some (.int .i64 a0_1) ∧ w15.cell? ⟨gb438, 2, none⟩ = some (.int .i64 a0_2) ∧ w15.cell? ⟨gb438, 3, none⟩ = some (.int .i64 a0_3) ∧ w15.cell? ⟨gb438, 4, none⟩ = some (.int .i64 a0_4) ∧ w15.cell? ⟨gb438, 5, none⟩ = some (.int .i64 a0_5) ∧ w15.cell? ⟨gb438, 6, none⟩ = some (.int .i64 a0_6) ∧ w15.cell? ⟨gb439, 0, none⟩ = some (.int .i64 a1_0) ∧ w15.cell? ⟨gb439, 1, none⟩ = some (.int .i64 a1_1) := hS_
          refine norm_ (a' := ?_) ?_ ?_
          rotate_left
          ·
           simp only [putAll, Act.put, List.setIfInBounds_toArray, List.set_cons_zero, List.set_cons_succ]
           rfl
          refine one_ (i := 5) (N := some 14) #[true, true, true, true, true, true, false, false, false, false, false, true, false, false] rfl rfl (one_of HT_.out (by kernel_rfl)) (by decide) (fun K hK => ?_)
          refine Kd.R_lit_step k41 _ 41 ?hg (N := 14) ?hd (xs := ([(⟨a1_0, a1_1⟩ : S41)] : List (S41))) (inner := [.int .i64 a1_0, .int .i64 a1_1]) (ok := fun _ => True) (okp := fun _ => True) ?hr ?hp (fun _ hk => hk) trivial (Below.refl _ _) (Nat.le_refl _) (by simp) ?_; (case hd => rfl); (case hg => rfl); (case hr => first | (go_simp; done) | (go_simp; rfl)); (case hp => exact (Reps.c2 (show Kd.M k41 _ _ _ (⟨a1_0, a1_1⟩ : S41) [.int .i64 a1_0, .int .i64 a1_1] from (k41_mkM _ _ _ (⟨a1_0, a1_1⟩ : S41) )) (Reps.none _ _)))
          intro v448 w16 ho17 hb hg_ hnew_
          clear hg_ hnew_
          (first | rw [← Ny447.out] at ho17 | (simp only [Int.reduceToNat] at ho17; rw [← Ny447.out] at ho17))
          have HO449 := Aside0.mk (Kd.R_lower (Kd.R_newB (Kd.R_new' ho17 (Kd.R_lt (Kd.Rq HO446.out))) (g := gb439) (o := .cells #[.int .i64 a1_0, .int .i64 a1_1] 41 (0, 0)) (bkq BK439.out)) (below_size (blq HB.out)))
          replace HO446 := Aside0.mk (Kd.R_elder' (Kd.Rq HO446.out) (Kd.R_base ho17) hb)
          replace BK438 := bkb BK438 hb
          replace BK439 := bkb BK439 hb
          replace BK440 := bkb BK440 hb
          replace BK463 := bkb BK463 hb
          replace HB := hbs HB hb
          clear hb ho17
          refine hK.out _ _ ⟨bc BK438 0, bc BK438 1, bc BK438 2, bc BK438 3, bc BK438 4, bc BK438 5, bc BK438 6, bc BK439 0, bc BK439 1⟩ (fun hHeld => ?_)
          clear hK K
          refine norm_ (a' := ?_) ?_ ?_
          rotate_left
          ·
           show Act.put _ (some 14) _ = _
           simp only [Act.put, List.setIfInBounds_toArray, List.set_cons_zero, List.set_cons_succ, i64_w, i32_w]
           rfl
          exact norm_ (by first | (simp only [putAll, Act.put, List.setIfInBounds_toArray, List.set_cons_zero, List.set_cons_succ]; done) | (simp only [putAll, Act.put, List.setIfInBounds_toArray, List.set_cons_zero, List.set_cons_succ]; rfl)) (hJ0_3_5_11 (v442, v445, v448, gb463) _ ⟨hHeld, (Kd.Rq (Kd.R_mono HO446.out (fun _ hk => ⟨hk.2, hk.1⟩))), (Kd.Rq (Kd.R_mono HO449.out (fun _ hk => ⟨hk.1.2, hk.2⟩))), (bkq BK438.out), (bkq BK439.out), (bkq BK440.out), (bkq BK463.out), GW463.out, GE463.out, NB438_463.out, NB463_438.out, NB439_463.out, NB463_439.out, NB440_463.out, NB463_440.out, (blq HB.out)⟩)
        ·
         skip
         rintro ⟨v442, v445, v448⟩ w16 ⟨hS_, h0_, h1_, h2_, h3_, h4_, h5_⟩
         have n0_ : Aside0 (Kd.R k41 41 w16 w.heap.size (fun k_ => some k_ ≠ (v448 : Value).ownBlock ∧ k_ ≠ gb439) v445 y444) := ⟨h0_⟩
         have n1_ : Aside0 (Kd.R k41 41 w16 w.heap.size (fun k_ => some k_ ≠ (v445 : Value).ownBlock ∧ k_ ≠ gb439) v448 y447) := ⟨h1_⟩
         have n2_ : Aside0 (w16.heap[gb438]? = some (.cells #[.slice A0_0 l0_0.length c0_0, .int .i64 a0_1, .int .i64 a0_2, .int .i64 a0_3, .int .i64 a0_4, .int .i64 a0_5, .int .i64 a0_6] 31 (0, 0))) := ⟨h2_⟩
         have n3_ : Aside0 (w16.heap[gb439]? = some (.cells #[.int .i64 a1_0, .int .i64 a1_1] 41 (0, 0))) := ⟨h3_⟩
         have n4_ : Aside0 (w16.heap[gb440]? = some (.cells #[.slice none 0 0, .int .i64 0, .int .i64 0, .int .i64 0, .int .i64 0, .int .i64 0, .int .i64 0] 31 (0, 0))) := ⟨h4_⟩
         have n5_ : Aside0 (Below w.heap.size w w16) := ⟨h5_⟩
         clear BK438
         clear BK439
         clear BK440
         clear HB
         clear h0_ h1_ h2_ h3_ h4_ h5_
         have HO446 := n0_
         have HO449 := n1_
         have BK438 := n2_
         have BK439 := n3_
         have BK440 := n4_
         have HB := n5_
         clear n0_ n1_ n2_ n3_ n4_ n5_
         have hHeld : w16.cell? ⟨gb438, 0, none⟩ = some (.slice A0_0 l0_0.length c0_0) ∧ w16.cell? ⟨gb438, 1, none⟩ = some (.int .i64 a0_1) ∧ w16.cell? ⟨gb438, 2, none⟩ = some (.int .i64 a0_2) ∧ w16.cell? ⟨gb438, 3, none⟩ = some (.int .i64 a0_3) ∧ w16.cell? ⟨gb438, 4, none⟩ = some (.int .i64 a0_4) ∧ w16.cell? ⟨gb438, 5, none⟩ = some (.int .i64 a0_5) ∧ w16.cell? ⟨gb438, 6, none⟩ = some (.int .i64 a0_6) ∧ w16.cell? ⟨gb439, 0, none⟩ = some (.int .i64 a1_0) ∧ w16.cell? ⟨gb439, 1, none⟩ = some (.int .i64 a1_1) := hS_
         obtain ⟨Ao18, co18, eo18⟩ := Kd.R_slice HO449.out
         (first | subst eo18 | (injection eo18 with f1_ f2_ f3_; have f4_ := f1_.symm; have f5_ := f3_.symm; clear f1_ f2_ f3_; subst f4_; subst f5_))
         refine norm_ (a' := ?_) ?_ ?_
         rotate_left
         ·
          simp only [putAll, Act.put, List.setIfInBounds_toArray, List.set_cons_zero, List.set_cons_succ]
          rfl
         refine two_ (i := 6) (j := 11) (Ni := some 15) (Nj := some 6) #[true, true, true, true, true, true, true, false, false, false, false, false, false, false] #[true, true, true, true, true, true, false, false, false, false, false, true, false, false] rfl rfl rfl rfl (two_of HT_.out (by kernel_rfl)) (by decide) (by decide) (fun K hK => ?_) (fun K hK => ?_)
         ·
          skip
          refine Kd.R_append_rows_step k41 (w0 := w) w.heap.size (by rfl) (.tmp 12) (.tmp 14) 28 41 (.agg #[(.int .i64 0), (.int .i64 0)]) 16 rfl Try.underlying28 info41 rfl (by decide) (by omega) v445 y444 y447 _ _ _ (fun k_ => some k_ ≠ (.slice Ao18 y447.length co18 : Value).ownBlock ∧ k_ ≠ gb439) (fun _ => False) rfl rfl ?aO ?aR (fun _ _ h => h) (fun _ h => h.elim) ?aF ?aB ?aS ?aL ?_
          (case aR => repeat (first | exact (Kd.R_reads' HO449.out).2.2 | (with_reducible refine Kd.C_alloc ?_ _) | (with_reducible refine Kd.C_drewN ?_ _) | (with_reducible refine Kd.C_drew ?_)))
          (case aB => exact (blq HB.out))
          (case aF => exact (fun k_ hk => ⟨Kd.fresh' (Kd.R_lt (Kd.Rq HO449.out)) k_ hk, Kd.freshB (g := gb439) (o := .cells #[.int .i64 a1_0, .int .i64 a1_1] 41 (0, 0)) (bkq BK439.out) k_ hk⟩))
          (case aO => exact (Kd.Rq HO446.out))
          (case aS => exact (below_size (blq HB.out)))
          (case aL => have := LMc4.out; omega)
          intro v451 w17 ho hb hg hat
          rw [← Ny450.out] at ho
          have HO452 := Aside0.mk (ho)
          replace BK438 := Aside0.mk (blk_grown (bkq BK438.out) hg (Kd.R_ne HO446.out BK438.out (by decide)))
          replace BK439 := Aside0.mk (blk_grown (bkq BK439.out) hg (Kd.R_away HO446.out (fun _ hk => hk.2)))
          replace BK440 := Aside0.mk (blk_grown (bkq BK440.out) hg (Kd.R_ne HO446.out BK440.out (by decide)))
          replace HO449 := Aside0.mk (Kd.R_after (ok := (fun k_ => k_ ≠ gb439)) (Kd.Rq (Kd.R_mono HO449.out (fun _ hk => ⟨hk.2, hk.1⟩))) hg hat)
          replace HB := Aside0.mk (hb)
          clear HO446
          clear ho hb hg hat
          refine hK.out _ _ ⟨bc BK438 0, bc BK438 1, bc BK438 2, bc BK438 3, bc BK438 4, bc BK438 5, bc BK438 6, bc BK439 0, bc BK439 1⟩ (fun hHeld => ?_)
          clear hK K
          refine norm_ (a' := ?_) ?_ ?_
          rotate_left
          ·
           show Act.put _ (some 15) _ = _
           simp only [Act.put, List.setIfInBounds_toArray, List.set_cons_zero, List.set_cons_succ, i64_w, i32_w]
           rfl
          exact norm_ (by first | (simp only [putAll, Act.put, List.setIfInBounds_toArray, List.set_cons_zero, List.set_cons_succ]; done) | (simp only [putAll, Act.put, List.setIfInBounds_toArray, List.set_cons_zero, List.set_cons_succ]; rfl)) (hJ0_3_5_6 (v442, v445, .slice Ao18 y447.length co18, v451) _ ⟨hHeld, (Kd.Rq (Kd.R_mono HO449.out (fun _ hk => ⟨hk.2, hk.1⟩))), (Kd.Rq HO452.out), (bkq BK438.out), (bkq BK439.out), (bkq BK440.out), (blq HB.out)⟩)
         ·
          skip
          refine box_step ?hg (N := 6) ?hd (cs := #[.slice none 0 0, .int .i64 0, .int .i64 0, .int .i64 0, .int .i64 0, .int .i64 0, .int .i64 0]) (t := 31) ?hr ?_; (case hd => rfl); (case hg => rfl); (case hr => first | (go_simp; done) | (go_simp; rfl))
          intro gb463 hg w17 hbox hb
          have BK463 := Aside0.mk (hbox)
          have GW463 := sQ hg HB
          have GE463 := sQ hg HB
          have NB438_463 := qL hg BK438
          have NB463_438 := qG hg BK438
          have NB439_463 := qL hg BK439
          have NB463_439 := qG hg BK439
          have NB440_463 := qL hg BK440
          have NB463_440 := qG hg BK440
          replace HO446 := rob HO446 hb
          replace HO449 := rob HO449 hb
          replace BK438 := bkb BK438 hb
          replace BK439 := bkb BK439 hb
          replace BK440 := bkb BK440 hb
          replace HB := hbs HB hb
          clear hb hbox hg
          refine hK.out _ _ ⟨bc BK438 0, bc BK438 1, bc BK438 2, bc BK438 3, bc BK438 4, bc BK438 5, bc BK438 6, bc BK439 0, bc BK439 1⟩ (fun hHeld => ?_)
          clear hK K
          refine norm_ (a' := ?_) ?_ ?_
          rotate_left
          ·
           show Act.put _ (some 6) _ = _
           simp only [Act.put, List.setIfInBounds_toArray, List.set_cons_zero, List.set_cons_succ, i64_w, i32_w]
           rfl
          exact norm_ (by first | (simp only [putAll, Act.put, List.setIfInBounds_toArray, List.set_cons_zero, List.set_cons_succ]; done) | (simp only [putAll, Act.put, List.setIfInBounds_toArray, List.set_cons_zero, List.set_cons_succ]; rfl)) (hJ0_3_5_11 (v442, v445, (.slice Ao18 y447.length co18), gb463) _ ⟨hHeld, (Kd.Rq HO446.out), (Kd.Rq HO449.out), (bkq BK438.out), (bkq BK439.out), (bkq BK440.out), (bkq BK463.out), GW463.out, GE463.out, NB438_463.out, NB463_438.out, NB439_463.out, NB463_439.out, NB440_463.out, NB463_440.out, (blq HB.out)⟩)
       ·
        skip
        rintro ⟨v442, v445, v448, gb463⟩ w17 ⟨hS_, h0_, h1_, h2_, h3_, h4_, h5_, h6_, h7_, h8_, h9_, h10_, h11_, h12_, h13_, h14_⟩
        have n0_ : Aside0 (Kd.R k41 41 w17 w.heap.size (fun k_ => some k_ ≠ (v448 : Value).ownBlock ∧ k_ ≠ gb439) v445 y444) := ⟨h0_⟩
        have n1_ : Aside0 (Kd.R k41 41 w17 w.heap.size (fun k_ => some k_ ≠ (v445 : Value).ownBlock ∧ k_ ≠ gb439) v448 y447) := ⟨h1_⟩
        have n2_ : Aside0 (w17.heap[gb438]? = some (.cells #[.slice A0_0 l0_0.length c0_0, .int .i64 a0_1, .int .i64 a0_2, .int .i64 a0_3, .int .i64 a0_4, .int .i64 a0_5, .int .i64 a0_6] 31 (0, 0))) := ⟨h2_⟩
        have n3_ : Aside0 (w17.heap[gb439]? = some (.cells #[.int .i64 a1_0, .int .i64 a1_1] 41 (0, 0))) := ⟨h3_⟩
        have n4_ : Aside0 (w17.heap[gb440]? = some (.cells #[.slice none 0 0, .int .i64 0, .int .i64 0, .int .i64 0, .int .i64 0, .int .i64 0, .int .i64 0] 31 (0, 0))) := ⟨h4_⟩
        have n5_ : Aside0 (w17.heap[gb463]? = some (.cells #[.slice none 0 0, .int .i64 0, .int .i64 0, .int .i64 0, .int .i64 0, .int .i64 0, .int .i64 0] 31 (0, 0))) := ⟨h5_⟩
        have n6_ : Aside0 (w.heap.size ≤ gb463) := ⟨h6_⟩
        have n7_ : Aside0 (w.heap.size ≤ gb463) := ⟨h7_⟩
        have n8_ : Aside0 (gb438 ≠ gb463) := ⟨h8_⟩
        have n9_ : Aside0 (gb463 ≠ gb438) := ⟨h9_⟩
        have n10_ : Aside0 (gb439 ≠ gb463) := ⟨h10_⟩
        have n11_ : Aside0 (gb463 ≠ gb439) := ⟨h11_⟩
        have n12_ : Aside0 (gb440 ≠ gb463) := ⟨h12_⟩
        have n13_ : Aside0 (gb463 ≠ gb440) := ⟨h13_⟩
        have n14_ : Aside0 (Below w.heap.size w w17) := ⟨h14_⟩
        clear BK438
        clear BK439
        clear BK440
        clear HB
        clear h0_ h1_ h2_ h3_ h4_ h5_ h6_ h7_ h8_ h9_ h10_ h11_ h12_ h13_ h14_
        have HO446 := n0_
        have HO449 := n1_
        have BK438 := n2_
        have BK439 := n3_
        have BK440 := n4_
        have BK463 := n5_
        have GW463 := n6_
        have GE463 := n7_
        have NB438_463 := n8_
        have NB463_438 := n9_
        have NB439_463 := n10_
        have NB463_439 := n11_
        have NB440_463 := n12_
        have NB463_440 := n13_
        have HB := n14_
        clear n0_ n1_ n2_ n3_ n4_ n5_ n6_ n7_ n8_ n9_ n10_ n11_ n12_ n13_ n14_
        have hHeld : w17.cell? ⟨gb438, 0, none⟩ = some (.slice A0_0 l0_0.length c0_0) ∧ w17.cell? ⟨gb438, 1, none⟩ = some (.int .i64 a0_1) ∧ w17.cell? ⟨gb438, 2, none⟩ = some (.int .i64 a0_2) ∧ w17.cell? ⟨gb438, 3, none⟩ = some (.int .i64 a0_3) ∧ w17.cell? ⟨gb438, 4, none⟩ = some (.int .i64 a0_4) ∧ w17.cell? ⟨gb438, 5, none⟩ = some (.int .i64 a0_5) ∧ w17.cell? ⟨gb438, 6, none⟩ = some (.int .i64 a0_6) ∧ w17.cell? ⟨gb439, 0, none⟩ = some (.int .i64 a1_0) ∧ w17.cell? ⟨gb439, 1, none⟩ = some (.int .i64 a1_1) := hS_
        obtain ⟨Ao19, co19, eo19⟩ := Kd.R_slice HO449.out
        (first | subst eo19 | (injection eo19 with f1_ f2_ f3_; have f4_ := f1_.symm; have f5_ := f3_.symm; clear f1_ f2_ f3_; subst f4_; subst f5_))
        refine norm_ (a' := ?_) ?_ ?_
        rotate_left
        ·
         simp only [putAll, Act.put, List.setIfInBounds_toArray, List.set_cons_zero, List.set_cons_succ]
         rfl
        refine one_ (i := 6) (N := some 15) #[true, true, true, true, true, true, true, false, false, false, false, true, false, false] rfl rfl (one_of HT_.out (by kernel_rfl)) (by decide) (fun K hK => ?_)
        refine Kd.R_append_rows_step k41 (w0 := w) w.heap.size (by rfl) (.tmp 12) (.tmp 14) 28 41 (.agg #[(.int .i64 0), (.int .i64 0)]) 16 rfl Try.underlying28 info41 rfl (by decide) (by omega) v445 y444 y447 _ _ _ (fun k_ => some k_ ≠ (.slice Ao19 y447.length co19 : Value).ownBlock ∧ k_ ≠ gb439) (fun _ => False) rfl rfl ?aO ?aR (fun _ _ h => h) (fun _ h => h.elim) ?aF ?aB ?aS ?aL ?_
        (case aR => repeat (first | exact (Kd.R_reads' HO449.out).2.2 | (with_reducible refine Kd.C_alloc ?_ _) | (with_reducible refine Kd.C_drewN ?_ _) | (with_reducible refine Kd.C_drew ?_)))
        (case aB => exact (blq HB.out))
        (case aF => exact (fun k_ hk => ⟨Kd.fresh' (Kd.R_lt (Kd.Rq HO449.out)) k_ hk, Kd.freshB (g := gb439) (o := .cells #[.int .i64 a1_0, .int .i64 a1_1] 41 (0, 0)) (bkq BK439.out) k_ hk⟩))
        (case aO => exact (Kd.Rq HO446.out))
        (case aS => exact (below_size (blq HB.out)))
        (case aL => have := LMc4.out; omega)
        intro v451 w18 ho hb hg hat
        rw [← Ny450.out] at ho
        have HO452 := Aside0.mk (ho)
        replace BK438 := Aside0.mk (blk_grown (bkq BK438.out) hg (Kd.R_ne HO446.out BK438.out (by decide)))
        replace BK439 := Aside0.mk (blk_grown (bkq BK439.out) hg (Kd.R_away HO446.out (fun _ hk => hk.2)))
        replace BK440 := Aside0.mk (blk_grown (bkq BK440.out) hg (Kd.R_ne HO446.out BK440.out (by decide)))
        replace HO449 := Aside0.mk (Kd.R_after (ok := (fun k_ => k_ ≠ gb439)) (Kd.Rq (Kd.R_mono HO449.out (fun _ hk => ⟨hk.2, hk.1⟩))) hg hat)
        replace BK463 := Aside0.mk (blk_grown (bkq BK463.out) hg (Kd.R_ne HO446.out BK463.out (by decide)))
        replace HB := Aside0.mk (hb)
        clear HO446
        clear ho hb hg hat
        refine hK.out _ _ ⟨bc BK438 0, bc BK438 1, bc BK438 2, bc BK438 3, bc BK438 4, bc BK438 5, bc BK438 6, bc BK439 0, bc BK439 1⟩ (fun hHeld => ?_)
        clear hK K
        refine norm_ (a' := ?_) ?_ ?_
        rotate_left
        ·
         show Act.put _ (some 15) _ = _
         simp only [Act.put, List.setIfInBounds_toArray, List.set_cons_zero, List.set_cons_succ, i64_w, i32_w]
         rfl
        exact norm_ (by first | (simp only [putAll, Act.put, List.setIfInBounds_toArray, List.set_cons_zero, List.set_cons_succ]; done) | (simp only [putAll, Act.put, List.setIfInBounds_toArray, List.set_cons_zero, List.set_cons_succ]; rfl)) (hJ0_3_5_6_11 (v442, v445, .slice Ao19 y447.length co19, v451, gb463) _ ⟨hHeld, (Kd.Rq (Kd.R_mono HO449.out (fun _ hk => ⟨hk.2, hk.1⟩))), (Kd.Rq HO452.out), (bkq BK438.out), (bkq BK439.out), (bkq BK440.out), (bkq BK463.out), GW463.out, GE463.out, NB438_463.out, NB463_438.out, NB439_463.out, NB463_439.out, NB440_463.out, NB463_440.out, (blq HB.out)⟩)
      ·
       skip
       rintro ⟨v442, v445, v448, v451⟩ w18 ⟨hS_, h0_, h1_, h2_, h3_, h4_, h5_⟩
       have n0_ : Aside0 (Kd.R k41 41 w18 w.heap.size (fun k_ => some k_ ≠ (v451 : Value).ownBlock ∧ k_ ≠ gb439) v448 y447) := ⟨h0_⟩
       have n1_ : Aside0 (Kd.R k41 41 w18 w.heap.size (fun k_ => some k_ ≠ (v448 : Value).ownBlock ∧ k_ ≠ gb439) v451 y450) := ⟨h1_⟩
       have n2_ : Aside0 (w18.heap[gb438]? = some (.cells #[.slice A0_0 l0_0.length c0_0, .int .i64 a0_1, .int .i64 a0_2, .int .i64 a0_3, .int .i64 a0_4, .int .i64 a0_5, .int .i64 a0_6] 31 (0, 0))) := ⟨h2_⟩
       have n3_ : Aside0 (w18.heap[gb439]? = some (.cells #[.int .i64 a1_0, .int .i64 a1_1] 41 (0, 0))) := ⟨h3_⟩
       have n4_ : Aside0 (w18.heap[gb440]? = some (.cells #[.slice none 0 0, .int .i64 0, .int .i64 0, .int .i64 0, .int .i64 0, .int .i64 0, .int .i64 0] 31 (0, 0))) := ⟨h4_⟩
       have n5_ : Aside0 (Below w.heap.size w w18) := ⟨h5_⟩
       clear BK438
       clear BK439
       clear BK440
       clear HB
       clear h0_ h1_ h2_ h3_ h4_ h5_
       have HO449 := n0_
       have HO452 := n1_
       have BK438 := n2_
       have BK439 := n3_
       have BK440 := n4_
       have HB := n5_
       clear n0_ n1_ n2_ n3_ n4_ n5_
       have hHeld : w18.cell? ⟨gb438, 0, none⟩ = some (.slice A0_0 l0_0.length c0_0) ∧ w18.cell? ⟨gb438, 1, none⟩ = some (.int .i64 a0_1) ∧ w18.cell? ⟨gb438, 2, none⟩ = some (.int .i64 a0_2) ∧ w18.cell? ⟨gb438, 3, none⟩ = some (.int .i64 a0_3) ∧ w18.cell? ⟨gb438, 4, none⟩ = some (.int .i64 a0_4) ∧ w18.cell? ⟨gb438, 5, none⟩ = some (.int .i64 a0_5) ∧ w18.cell? ⟨gb438, 6, none⟩ = some (.int .i64 a0_6) ∧ w18.cell? ⟨gb439, 0, none⟩ = some (.int .i64 a1_0) ∧ w18.cell? ⟨gb439, 1, none⟩ = some (.int .i64 a1_1) := hS_
       obtain ⟨Ao19, co19, eo19⟩ := Kd.R_slice HO452.out
       (first | subst eo19 | (injection eo19 with f1_ f2_ f3_; have f4_ := f1_.symm; have f5_ := f3_.symm; clear f1_ f2_ f3_; subst f4_; subst f5_))
       refine norm_ (a' := ?_) ?_ ?_
       rotate_left
       ·
        simp only [putAll, Act.put, List.setIfInBounds_toArray, List.set_cons_zero, List.set_cons_succ]
        rfl
       refine two_ (i := 7) (j := 11) (Ni := some 16) (Nj := some 6) #[true, true, true, true, true, true, true, true, false, false, false, false, false, false] #[true, true, true, true, true, true, true, false, false, false, false, true, false, false] rfl rfl rfl rfl (two_of HT_.out (by kernel_rfl)) (by decide) (by decide) (fun K hK => ?_) (fun K hK => ?_)
       ·
        skip
        refine goes_ Try.func52 (by kernel_rfl) rfl #[.slice Ao19 y450.length co19] (by rfl) rfl rfl (by (try simp only [List.map_toArray, List.map_cons, List.map_nil]); first | done | rfl | (simp only [List.length_drop, List.length_take]; rfl)) ?_
        with_reducible refine (spec_l37Count.calls k _ _ y450 t453 t456 t457 t458 t459 t460 t461 t462 _ ?side1 ?side2 A5.out).mono ?_
        (case side1 => repeat (first | exact (Kd.R_reads' HO452.out).2.2 | (with_reducible refine Kd.C_alloc ?_ _) | (with_reducible refine Kd.C_drewN ?_ _) | (with_reducible refine Kd.C_drew ?_)))
        (case side2 => exact (Kd.R_reads' HO452.out).2.1)
        rintro e w20 ⟨v454, rfl, ho0, hb⟩
        refine ⟨_, rfl, ?_⟩
        have HO455 := Aside0.mk (Kd.R_lower (Kd.R_newB (Kd.R_new' (Kd.R_new' ho0 (Kd.R_lt (Kd.Rq HO449.out))) (Kd.R_lt (Kd.Rq HO452.out))) (g := gb439) (o := .cells #[.int .i64 a1_0, .int .i64 a1_1] 41 (0, 0)) (bkq BK439.out)) (below_size (blq HB.out)))
        replace HO449 := Aside0.mk (Kd.R_elder' (Kd.Rq HO449.out) (Kd.R_base ho0) hb)
        replace HO452 := Aside0.mk (Kd.R_elder' (Kd.Rq HO452.out) (Kd.R_base ho0) hb)
        replace BK438 := bkb BK438 hb
        replace BK439 := bkb BK439 hb
        replace BK440 := bkb BK440 hb
        replace HB := hbs HB hb
        (try clear hb)
        (try clear hb2)
        (try clear hk)
        (try clear hi)
        (try clear ho0)
        refine hK.out _ _ ⟨bc BK438 0, bc BK438 1, bc BK438 2, bc BK438 3, bc BK438 4, bc BK438 5, bc BK438 6, bc BK439 0, bc BK439 1⟩ (fun hHeld => ?_)
        clear hK K
        refine norm_ (a' := ?_) ?_ ?_
        rotate_left
        ·
         show Act.put _ (some 16) _ = _
         simp only [Act.put, List.setIfInBounds_toArray, List.set_cons_zero, List.set_cons_succ, i64_w, i32_w]
         rfl
        refine pure_ (i := 8) (N := some 8) (v := ?_) (a' := ?_) #[true, true, true, true, true, true, true, true, true, false, false, false, false, false] rfl rfl (any_of HT_.out (by kernel_rfl)) (fun _ _ _ h => h) (Or.inl ⟨by rfl, ?_⟩) ?_ ?_
        rotate_left
        ·
         intro w'
         go_simp
         with_reducible rfl
        rotate_left
        ·
         simp only [Act.put, List.setIfInBounds_toArray, List.set_cons_zero, List.set_cons_succ, i64_w, i32_w]
         rfl
        refine pure_ (i := 9) (N := some 17) (v := ?_) (a' := ?_) #[true, true, true, true, true, true, true, true, true, true, false, false, false, false] rfl rfl (any_of HT_.out (by kernel_rfl)) (fun _ _ _ h => h) (Or.inl ⟨by rfl, ?_⟩) ?_ ?_
        rotate_left
        ·
         intro w'
         go_simp
         with_reducible rfl
        rotate_left
        ·
         simp only [Act.put, List.setIfInBounds_toArray, List.set_cons_zero, List.set_cons_succ, i64_w, i32_w]
         rfl
        refine pure_ (i := 10) (N := some 18) (v := ?_) (a' := ?_) #[true, true, true, true, true, true, true, true, true, true, true, false, false, false] rfl rfl (any_of HT_.out (by kernel_rfl)) (fun _ _ _ h => h) (Or.inl ⟨by rfl, ?_⟩) ?_ ?_
        rotate_left
        ·
         intro w'
         go_simp
         with_reducible rfl
        rotate_left
        ·
         simp only [Act.put, List.setIfInBounds_toArray, List.set_cons_zero, List.set_cons_succ, i64_w, i32_w]
         rfl
        exact norm_ (by first | (simp only [putAll, Act.put, List.setIfInBounds_toArray, List.set_cons_zero, List.set_cons_succ]; done) | (simp only [putAll, Act.put, List.setIfInBounds_toArray, List.set_cons_zero, List.set_cons_succ]; rfl)) (hJ0_3_5_6_7 (v442, v445, v448, .slice Ao19 y450.length co19, v454) _ ⟨hHeld, (Kd.Rq (Kd.R_mono HO449.out (fun _ hk => ⟨hk.1.1, ⟨hk.2, hk.1.2⟩⟩))), (Kd.Rq (Kd.R_mono HO452.out (fun _ hk => ⟨hk.1.1, ⟨hk.2, hk.1.2⟩⟩))), (Kd.Rq (Kd.R_mono HO455.out (fun _ hk => ⟨hk.1.1.2, ⟨hk.1.2, hk.2⟩⟩))), (bkq BK438.out), (bkq BK439.out), (bkq BK440.out), (blq HB.out)⟩)
       ·
        skip
        refine box_step ?hg (N := 6) ?hd (cs := #[.slice none 0 0, .int .i64 0, .int .i64 0, .int .i64 0, .int .i64 0, .int .i64 0, .int .i64 0]) (t := 31) ?hr ?_; (case hd => rfl); (case hg => rfl); (case hr => first | (go_simp; done) | (go_simp; rfl))
        intro gb463 hg w19 hbox hb
        have BK463 := Aside0.mk (hbox)
        have GW463 := sQ hg HB
        have GE463 := sQ hg HB
        have NB438_463 := qL hg BK438
        have NB463_438 := qG hg BK438
        have NB439_463 := qL hg BK439
        have NB463_439 := qG hg BK439
        have NB440_463 := qL hg BK440
        have NB463_440 := qG hg BK440
        replace HO449 := rob HO449 hb
        replace HO452 := rob HO452 hb
        replace BK438 := bkb BK438 hb
        replace BK439 := bkb BK439 hb
        replace BK440 := bkb BK440 hb
        replace HB := hbs HB hb
        clear hb hbox hg
        refine hK.out _ _ ⟨bc BK438 0, bc BK438 1, bc BK438 2, bc BK438 3, bc BK438 4, bc BK438 5, bc BK438 6, bc BK439 0, bc BK439 1⟩ (fun hHeld => ?_)
        clear hK K
        refine norm_ (a' := ?_) ?_ ?_
        rotate_left
        ·
         show Act.put _ (some 6) _ = _
         simp only [Act.put, List.setIfInBounds_toArray, List.set_cons_zero, List.set_cons_succ, i64_w, i32_w]
         rfl
        exact norm_ (by first | (simp only [putAll, Act.put, List.setIfInBounds_toArray, List.set_cons_zero, List.set_cons_succ]; done) | (simp only [putAll, Act.put, List.setIfInBounds_toArray, List.set_cons_zero, List.set_cons_succ]; rfl)) (hJ0_3_5_6_11 (v442, v445, v448, (.slice Ao19 y450.length co19), gb463) _ ⟨hHeld, (Kd.Rq HO449.out), (Kd.Rq HO452.out), (bkq BK438.out), (bkq BK439.out), (bkq BK440.out), (bkq BK463.out), GW463.out, GE463.out, NB438_463.out, NB463_438.out, NB439_463.out, NB463_439.out, NB440_463.out, NB463_440.out, (blq HB.out)⟩)
     ·
      skip
      rintro ⟨v442, v445, v448, v451, gb463⟩ w19 ⟨hS_, h0_, h1_, h2_, h3_, h4_, h5_, h6_, h7_, h8_, h9_, h10_, h11_, h12_, h13_, h14_⟩
      have n0_ : Aside0 (Kd.R k41 41 w19 w.heap.size (fun k_ => some k_ ≠ (v451 : Value).ownBlock ∧ k_ ≠ gb439) v448 y447) := ⟨h0_⟩
      have n1_ : Aside0 (Kd.R k41 41 w19 w.heap.size (fun k_ => some k_ ≠ (v448 : Value).ownBlock ∧ k_ ≠ gb439) v451 y450) := ⟨h1_⟩
      have n2_ : Aside0 (w19.heap[gb438]? = some (.cells #[.slice A0_0 l0_0.length c0_0, .int .i64 a0_1, .int .i64 a0_2, .int .i64 a0_3, .int .i64 a0_4, .int .i64 a0_5, .int .i64 a0_6] 31 (0, 0))) := ⟨h2_⟩
      have n3_ : Aside0 (w19.heap[gb439]? = some (.cells #[.int .i64 a1_0, .int .i64 a1_1] 41 (0, 0))) := ⟨h3_⟩
      have n4_ : Aside0 (w19.heap[gb440]? = some (.cells #[.slice none 0 0, .int .i64 0, .int .i64 0, .int .i64 0, .int .i64 0, .int .i64 0, .int .i64 0] 31 (0, 0))) := ⟨h4_⟩
      have n5_ : Aside0 (w19.heap[gb463]? = some (.cells #[.slice none 0 0, .int .i64 0, .int .i64 0, .int .i64 0, .int .i64 0, .int .i64 0, .int .i64 0] 31 (0, 0))) := ⟨h5_⟩
      have n6_ : Aside0 (w.heap.size ≤ gb463) := ⟨h6_⟩
      have n7_ : Aside0 (w.heap.size ≤ gb463) := ⟨h7_⟩
      have n8_ : Aside0 (gb438 ≠ gb463) := ⟨h8_⟩
      have n9_ : Aside0 (gb463 ≠ gb438) := ⟨h9_⟩
      have n10_ : Aside0 (gb439 ≠ gb463) := ⟨h10_⟩
      have n11_ : Aside0 (gb463 ≠ gb439) := ⟨h11_⟩
      have n12_ : Aside0 (gb440 ≠ gb463) := ⟨h12_⟩
      have n13_ : Aside0 (gb463 ≠ gb440) := ⟨h13_⟩
      have n14_ : Aside0 (Below w.heap.size w w19) := ⟨h14_⟩
      clear BK438
      clear BK439
      clear BK440
      clear HB
      clear h0_ h1_ h2_ h3_ h4_ h5_ h6_ h7_ h8_ h9_ h10_ h11_ h12_ h13_ h14_
      have HO449 := n0_
      have HO452 := n1_
      have BK438 := n2_
      have BK439 := n3_
      have BK440 := n4_
      have BK463 := n5_
      have GW463 := n6_
      have GE463 := n7_
      have NB438_463 := n8_
      have NB463_438 := n9_
      have NB439_463 := n10_
      have NB463_439 := n11_
      have NB440_463 := n12_
      have NB463_440 := n13_
      have HB := n14_
      clear n0_ n1_ n2_ n3_ n4_ n5_ n6_ n7_ n8_ n9_ n10_ n11_ n12_ n13_ n14_
      have hHeld : w19.cell? ⟨gb438, 0, none⟩ = some (.slice A0_0 l0_0.length c0_0) ∧ w19.cell? ⟨gb438, 1, none⟩ = some (.int .i64 a0_1) ∧ w19.cell? ⟨gb438, 2, none⟩ = some (.int .i64 a0_2) ∧ w19.cell? ⟨gb438, 3, none⟩ = some (.int .i64 a0_3) ∧ w19.cell? ⟨gb438, 4, none⟩ = some (.int .i64 a0_4) ∧ w19.cell? ⟨gb438, 5, none⟩ = some (.int .i64 a0_5) ∧ w19.cell? ⟨gb438, 6, none⟩ = some (.int .i64 a0_6) ∧ w19.cell? ⟨gb439, 0, none⟩ = some (.int .i64 a1_0) ∧ w19.cell? ⟨gb439, 1, none⟩ = some (.int .i64 a1_1) := hS_
      obtain ⟨Ao20, co20, eo20⟩ := Kd.R_slice HO452.out
      (first | subst eo20 | (injection eo20 with f1_ f2_ f3_; have f4_ := f1_.symm; have f5_ := f3_.symm; clear f1_ f2_ f3_; subst f4_; subst f5_))
      refine norm_ (a' := ?_) ?_ ?_
      rotate_left
      ·
       simp only [putAll, Act.put, List.setIfInBounds_toArray, List.set_cons_zero, List.set_cons_succ]
       rfl
      refine one_ (i := 7) (N := some 16) #[true, true, true, true, true, true, true, true, false, false, false, true, false, false] rfl rfl (one_of HT_.out (by kernel_rfl)) (by decide) (fun K hK => ?_)
      refine goes_ Try.func52 (by kernel_rfl) rfl #[.slice Ao20 y450.length co20] (by rfl) rfl rfl (by (try simp only [List.map_toArray, List.map_cons, List.map_nil]); first | done | rfl | (simp only [List.length_drop, List.length_take]; rfl)) ?_
      with_reducible refine (spec_l37Count.calls k _ _ y450 t453 t456 t457 t458 t459 t460 t461 t462 _ ?side1 ?side2 A5.out).mono ?_
      (case side1 => repeat (first | exact (Kd.R_reads' HO452.out).2.2 | (with_reducible refine Kd.C_alloc ?_ _) | (with_reducible refine Kd.C_drewN ?_ _) | (with_reducible refine Kd.C_drew ?_)))
      (case side2 => exact (Kd.R_reads' HO452.out).2.1)
      rintro e w21 ⟨v454, rfl, ho0, hb⟩
      refine ⟨_, rfl, ?_⟩
      have HO455 := Aside0.mk (Kd.R_lower (Kd.R_newB (Kd.R_new' (Kd.R_new' ho0 (Kd.R_lt (Kd.Rq HO449.out))) (Kd.R_lt (Kd.Rq HO452.out))) (g := gb439) (o := .cells #[.int .i64 a1_0, .int .i64 a1_1] 41 (0, 0)) (bkq BK439.out)) (below_size (blq HB.out)))
      replace HO449 := Aside0.mk (Kd.R_elder' (Kd.Rq HO449.out) (Kd.R_base ho0) hb)
      replace HO452 := Aside0.mk (Kd.R_elder' (Kd.Rq HO452.out) (Kd.R_base ho0) hb)
      replace BK438 := bkb BK438 hb
      replace BK439 := bkb BK439 hb
      replace BK440 := bkb BK440 hb
      replace BK463 := bkb BK463 hb
      replace HB := hbs HB hb
      (try clear hb)
      (try clear hb2)
      (try clear hk)
      (try clear hi)
      (try clear ho0)
      refine hK.out _ _ ⟨bc BK438 0, bc BK438 1, bc BK438 2, bc BK438 3, bc BK438 4, bc BK438 5, bc BK438 6, bc BK439 0, bc BK439 1⟩ (fun hHeld => ?_)
      clear hK K
      refine norm_ (a' := ?_) ?_ ?_
      rotate_left
      ·
       show Act.put _ (some 16) _ = _
       simp only [Act.put, List.setIfInBounds_toArray, List.set_cons_zero, List.set_cons_succ, i64_w, i32_w]
       rfl
      refine pure_ (i := 8) (N := some 8) (v := ?_) (a' := ?_) #[true, true, true, true, true, true, true, true, true, false, false, true, false, false] rfl rfl (any_of HT_.out (by kernel_rfl)) (fun _ _ _ h => h) (Or.inl ⟨by rfl, ?_⟩) ?_ ?_
      rotate_left
      ·
       intro w'
       go_simp
       with_reducible rfl
      rotate_left
      ·
       simp only [Act.put, List.setIfInBounds_toArray, List.set_cons_zero, List.set_cons_succ, i64_w, i32_w]
       rfl
      refine pure_ (i := 9) (N := some 17) (v := ?_) (a' := ?_) #[true, true, true, true, true, true, true, true, true, true, false, true, false, false] rfl rfl (any_of HT_.out (by kernel_rfl)) (fun _ _ _ h => h) (Or.inl ⟨by rfl, ?_⟩) ?_ ?_
      rotate_left
      ·
       intro w'
       go_simp
       with_reducible rfl
      rotate_left
      ·
       simp only [Act.put, List.setIfInBounds_toArray, List.set_cons_zero, List.set_cons_succ, i64_w, i32_w]
       rfl
      refine pure_ (i := 10) (N := some 18) (v := ?_) (a' := ?_) #[true, true, true, true, true, true, true, true, true, true, true, true, false, false] rfl rfl (any_of HT_.out (by kernel_rfl)) (fun _ _ _ h => h) (Or.inl ⟨by rfl, ?_⟩) ?_ ?_
      rotate_left
      ·
       intro w'
       go_simp
       with_reducible rfl
      rotate_left
      ·
       simp only [Act.put, List.setIfInBounds_toArray, List.set_cons_zero, List.set_cons_succ, i64_w, i32_w]
       rfl
      exact norm_ (by first | (simp only [putAll, Act.put, List.setIfInBounds_toArray, List.set_cons_zero, List.set_cons_succ]; done) | (simp only [putAll, Act.put, List.setIfInBounds_toArray, List.set_cons_zero, List.set_cons_succ]; rfl)) (hJ0_3_5_6_7_11 (v442, v445, v448, .slice Ao20 y450.length co20, v454, gb463) _ ⟨hHeld, (Kd.Rq (Kd.R_mono HO449.out (fun _ hk => ⟨hk.1.1, ⟨hk.2, hk.1.2⟩⟩))), (Kd.Rq (Kd.R_mono HO452.out (fun _ hk => ⟨hk.1.1, ⟨hk.2, hk.1.2⟩⟩))), (Kd.Rq (Kd.R_mono HO455.out (fun _ hk => ⟨hk.1.1.2, ⟨hk.1.2, hk.2⟩⟩))), (bkq BK438.out), (bkq BK439.out), (bkq BK440.out), (bkq BK463.out), GW463.out, GE463.out, NB438_463.out, NB463_438.out, NB439_463.out, NB463_439.out, NB440_463.out, NB463_440.out, (blq HB.out)⟩)
    ·
     skip
     rintro ⟨v442, v445, v448, v451, v454⟩ w20 ⟨hS_, h0_, h1_, h2_, h3_, h4_, h5_, h6_⟩
     have n0_ : Aside0 (Kd.R k41 41 w20 w.heap.size (fun k_ => some k_ ≠ (v451 : Value).ownBlock ∧ some k_ ≠ (v454 : Value).ownBlock ∧ k_ ≠ gb439) v448 y447) := ⟨h0_⟩
     have n1_ : Aside0 (Kd.R k41 41 w20 w.heap.size (fun k_ => some k_ ≠ (v448 : Value).ownBlock ∧ some k_ ≠ (v454 : Value).ownBlock ∧ k_ ≠ gb439) v451 y450) := ⟨h1_⟩
     have n2_ : Aside0 (Kd.R k41 41 w20 w.heap.size (fun k_ => some k_ ≠ (v448 : Value).ownBlock ∧ some k_ ≠ (v451 : Value).ownBlock ∧ k_ ≠ gb439) v454 t453) := ⟨h2_⟩
     have n3_ : Aside0 (w20.heap[gb438]? = some (.cells #[.slice A0_0 l0_0.length c0_0, .int .i64 a0_1, .int .i64 a0_2, .int .i64 a0_3, .int .i64 a0_4, .int .i64 a0_5, .int .i64 a0_6] 31 (0, 0))) := ⟨h3_⟩
     have n4_ : Aside0 (w20.heap[gb439]? = some (.cells #[.int .i64 a1_0, .int .i64 a1_1] 41 (0, 0))) := ⟨h4_⟩
     have n5_ : Aside0 (w20.heap[gb440]? = some (.cells #[.slice none 0 0, .int .i64 0, .int .i64 0, .int .i64 0, .int .i64 0, .int .i64 0, .int .i64 0] 31 (0, 0))) := ⟨h5_⟩
     have n6_ : Aside0 (Below w.heap.size w w20) := ⟨h6_⟩
     clear BK438
     clear BK439
     clear BK440
     clear HB
     clear h0_ h1_ h2_ h3_ h4_ h5_ h6_
     have HO449 := n0_
     have HO452 := n1_
     have HO455 := n2_
     have BK438 := n3_
     have BK439 := n4_
     have BK440 := n5_
     have HB := n6_
     clear n0_ n1_ n2_ n3_ n4_ n5_ n6_
     have hHeld : w20.cell? ⟨gb438, 0, none⟩ = some (.slice A0_0 l0_0.length c0_0) ∧ w20.cell? ⟨gb438, 1, none⟩ = some (.int .i64 a0_1) ∧ w20.cell? ⟨gb438, 2, none⟩ = some (.int .i64 a0_2) ∧ w20.cell? ⟨gb438, 3, none⟩ = some (.int .i64 a0_3) ∧ w20.cell? ⟨gb438, 4, none⟩ = some (.int .i64 a0_4) ∧ w20.cell? ⟨gb438, 5, none⟩ = some (.int .i64 a0_5) ∧ w20.cell? ⟨gb438, 6, none⟩ = some (.int .i64 a0_6) ∧ w20.cell? ⟨gb439, 0, none⟩ = some (.int .i64 a1_0) ∧ w20.cell? ⟨gb439, 1, none⟩ = some (.int .i64 a1_1) := hS_
     refine norm_ (a' := ?_) ?_ ?_
     rotate_left
     ·
      simp only [putAll, Act.put, List.setIfInBounds_toArray, List.set_cons_zero, List.set_cons_succ]
      rfl
     refine one_ (i := 11) (N := some 6) #[true, true, true, true, true, true, true, true, true, true, true, true, false, false] rfl rfl (one_of HT_.out (by kernel_rfl)) (by decide) (fun K hK => ?_)
     refine box_step ?hg (N := 6) ?hd (cs := #[.slice none 0 0, .int .i64 0, .int .i64 0, .int .i64 0, .int .i64 0, .int .i64 0, .int .i64 0]) (t := 31) ?hr ?_; (case hd => rfl); (case hg => rfl); (case hr => first | (go_simp; done) | (go_simp; rfl))
     intro gb463 hg w21 hbox hb
     have BK463 := Aside0.mk (hbox)
     have GW463 := sQ hg HB
     have GE463 := sQ hg HB
     have NB438_463 := qL hg BK438
     have NB463_438 := qG hg BK438
     have NB439_463 := qL hg BK439
     have NB463_439 := qG hg BK439
     have NB440_463 := qL hg BK440
     have NB463_440 := qG hg BK440
     replace HO449 := rob HO449 hb
     replace HO452 := rob HO452 hb
     replace HO455 := rob HO455 hb
     replace BK438 := bkb BK438 hb
     replace BK439 := bkb BK439 hb
     replace BK440 := bkb BK440 hb
     replace HB := hbs HB hb
     clear hb hbox hg
     refine hK.out _ _ ⟨bc BK438 0, bc BK438 1, bc BK438 2, bc BK438 3, bc BK438 4, bc BK438 5, bc BK438 6, bc BK439 0, bc BK439 1⟩ (fun hHeld => ?_)
     clear hK K
     refine norm_ (a' := ?_) ?_ ?_
     rotate_left
     ·
      show Act.put _ (some 6) _ = _
      simp only [Act.put, List.setIfInBounds_toArray, List.set_cons_zero, List.set_cons_succ, i64_w, i32_w]
      rfl
     exact norm_ (by first | (simp only [putAll, Act.put, List.setIfInBounds_toArray, List.set_cons_zero, List.set_cons_succ]; done) | (simp only [putAll, Act.put, List.setIfInBounds_toArray, List.set_cons_zero, List.set_cons_succ]; rfl)) (hJ0_3_5_6_7_11 (v442, v445, v448, v451, v454, gb463) _ ⟨hHeld, (Kd.Rq HO449.out), (Kd.Rq HO452.out), (Kd.Rq HO455.out), (bkq BK438.out), (bkq BK439.out), (bkq BK440.out), (bkq BK463.out), GW463.out, GE463.out, NB438_463.out, NB463_438.out, NB439_463.out, NB463_439.out, NB440_463.out, NB463_440.out, (blq HB.out)⟩)
   rintro ⟨v442, v445, v448, v451, v454, gb463⟩ w21 ⟨hS_, h0_, h1_, h2_, h3_, h4_, h5_, h6_, h7_, h8_, h9_, h10_, h11_, h12_, h13_, h14_, h15_⟩
   have n0_ : Aside0 (Kd.R k41 41 w21 w.heap.size (fun k_ => some k_ ≠ (v451 : Value).ownBlock ∧ some k_ ≠ (v454 : Value).ownBlock ∧ k_ ≠ gb439) v448 y447) := ⟨h0_⟩
   have n1_ : Aside0 (Kd.R k41 41 w21 w.heap.size (fun k_ => some k_ ≠ (v448 : Value).ownBlock ∧ some k_ ≠ (v454 : Value).ownBlock ∧ k_ ≠ gb439) v451 y450) := ⟨h1_⟩
   have n2_ : Aside0 (Kd.R k41 41 w21 w.heap.size (fun k_ => some k_ ≠ (v448 : Value).ownBlock ∧ some k_ ≠ (v451 : Value).ownBlock ∧ k_ ≠ gb439) v454 t453) := ⟨h2_⟩
   have n3_ : Aside0 (w21.heap[gb438]? = some (.cells #[.slice A0_0 l0_0.length c0_0, .int .i64 a0_1, .int .i64 a0_2, .int .i64 a0_3, .int .i64 a0_4, .int .i64 a0_5, .int .i64 a0_6] 31 (0, 0))) := ⟨h3_⟩
   have n4_ : Aside0 (w21.heap[gb439]? = some (.cells #[.int .i64 a1_0, .int .i64 a1_1] 41 (0, 0))) := ⟨h4_⟩
   have n5_ : Aside0 (w21.heap[gb440]? = some (.cells #[.slice none 0 0, .int .i64 0, .int .i64 0, .int .i64 0, .int .i64 0, .int .i64 0, .int .i64 0] 31 (0, 0))) := ⟨h5_⟩
   have n6_ : Aside0 (w21.heap[gb463]? = some (.cells #[.slice none 0 0, .int .i64 0, .int .i64 0, .int .i64 0, .int .i64 0, .int .i64 0, .int .i64 0] 31 (0, 0))) := ⟨h6_⟩
   have n7_ : Aside0 (w.heap.size ≤ gb463) := ⟨h7_⟩
   have n8_ : Aside0 (w.heap.size ≤ gb463) := ⟨h8_⟩
   have n9_ : Aside0 (gb438 ≠ gb463) := ⟨h9_⟩
   have n10_ : Aside0 (gb463 ≠ gb438) := ⟨h10_⟩
   have n11_ : Aside0 (gb439 ≠ gb463) := ⟨h11_⟩
   have n12_ : Aside0 (gb463 ≠ gb439) := ⟨h12_⟩
   have n13_ : Aside0 (gb440 ≠ gb463) := ⟨h13_⟩
   have n14_ : Aside0 (gb463 ≠ gb440) := ⟨h14_⟩
   have n15_ : Aside0 (Below w.heap.size w w21) := ⟨h15_⟩
   clear BK438
   clear BK439
   clear BK440
   clear HB
   clear h0_ h1_ h2_ h3_ h4_ h5_ h6_ h7_ h8_ h9_ h10_ h11_ h12_ h13_ h14_ h15_
   have HO449 := n0_
   have HO452 := n1_
   have HO455 := n2_
   have BK438 := n3_
   have BK439 := n4_
   have BK440 := n5_
   have BK463 := n6_
   have GW463 := n7_
   have GE463 := n8_
   have NB438_463 := n9_
   have NB463_438 := n10_
   have NB439_463 := n11_
   have NB463_439 := n12_
   have NB440_463 := n13_
   have NB463_440 := n14_
   have HB := n15_
   clear n0_ n1_ n2_ n3_ n4_ n5_ n6_ n7_ n8_ n9_ n10_ n11_ n12_ n13_ n14_ n15_
   have hHeld : w21.cell? ⟨gb438, 0, none⟩ = some (.slice A0_0 l0_0.length c0_0) ∧ w21.cell? ⟨gb438, 1, none⟩ = some (.int .i64 a0_1) ∧ w21.cell? ⟨gb438, 2, none⟩ = some (.int .i64 a0_2) ∧ w21.cell? ⟨gb438, 3, none⟩ = some (.int .i64 a0_3) ∧ w21.cell? ⟨gb438, 4, none⟩ = some (.int .i64 a0_4) ∧ w21.cell? ⟨gb438, 5, none⟩ = some (.int .i64 a0_5) ∧ w21.cell? ⟨gb438, 6, none⟩ = some (.int .i64 a0_6) ∧ w21.cell? ⟨gb439, 0, none⟩ = some (.int .i64 a1_0) ∧ w21.cell? ⟨gb439, 1, none⟩ = some (.int .i64 a1_1) := hS_
   obtain ⟨Ao22, co22, eo22⟩ := Kd.R_slice HO455.out
   (first | subst eo22 | (injection eo22 with f1_ f2_ f3_; have f4_ := f1_.symm; have f5_ := f3_.symm; clear f1_ f2_ f3_; subst f4_; subst f5_))
   refine norm_ (a' := ?_) ?_ ?_
   rotate_left
   ·
    simp only [putAll, Act.put, List.setIfInBounds_toArray, List.set_cons_zero, List.set_cons_succ]
    rfl
   refine one_ (i := 12) (N := none) #[true, true, true, true, true, true, true, true, true, true, true, true, true, false] rfl rfl (one_of HT_.out (by kernel_rfl)) (by decide) (fun K hK => ?_)
   have hs23 : w21.cell? ⟨gb463, 0, none⟩ = some (.slice none 0 0) := bc BK463 0
   have hfs23 := blk_frozen BK463.out 0
   have hns23_0 := NB438_463.out
   have hns23_1 := NB439_463.out
   have hns23_2 := NB440_463.out
   have hms23_0 := NB463_438.out
   have hms23_1 := NB463_439.out
   have hms23_2 := NB463_440.out
   have hs24 : w21.cell? ⟨gb463, 1, none⟩ = some (.int .i64 0) := bc BK463 1
   have hfs24 := blk_frozen BK463.out 1
   have hns24_0 := NB438_463.out
   have hns24_1 := NB439_463.out
   have hns24_2 := NB440_463.out
   have hms24_0 := NB463_438.out
   have hms24_1 := NB463_439.out
   have hms24_2 := NB463_440.out
   have hs25 : w21.cell? ⟨gb463, 2, none⟩ = some (.int .i64 0) := bc BK463 2
   have hfs25 := blk_frozen BK463.out 2
   have hns25_0 := NB438_463.out
   have hns25_1 := NB439_463.out
   have hns25_2 := NB440_463.out
   have hms25_0 := NB463_438.out
   have hms25_1 := NB463_439.out
   have hms25_2 := NB463_440.out
   have hs26 : w21.cell? ⟨gb463, 3, none⟩ = some (.int .i64 0) := bc BK463 3
   have hfs26 := blk_frozen BK463.out 3
   have hns26_0 := NB438_463.out
   have hns26_1 := NB439_463.out
   have hns26_2 := NB440_463.out
   have hms26_0 := NB463_438.out
   have hms26_1 := NB463_439.out
   have hms26_2 := NB463_440.out
   have hs27 : w21.cell? ⟨gb463, 4, none⟩ = some (.int .i64 0) := bc BK463 4
   have hfs27 := blk_frozen BK463.out 4
   have hns27_0 := NB438_463.out
   have hns27_1 := NB439_463.out
   have hns27_2 := NB440_463.out
   have hms27_0 := NB463_438.out
   have hms27_1 := NB463_439.out
   have hms27_2 := NB463_440.out
   have hs28 : w21.cell? ⟨gb463, 5, none⟩ = some (.int .i64 0) := bc BK463 5
   have hfs28 := blk_frozen BK463.out 5
   have hns28_0 := NB438_463.out
   have hns28_1 := NB439_463.out
   have hns28_2 := NB440_463.out
   have hms28_0 := NB463_438.out
   have hms28_1 := NB463_439.out
   have hms28_2 := NB463_440.out
   have hs29 : w21.cell? ⟨gb463, 6, none⟩ = some (.int .i64 0) := bc BK463 6
   have hfs29 := blk_frozen BK463.out 6
   have hns29_0 := NB438_463.out
   have hns29_1 := NB439_463.out
   have hns29_2 := NB440_463.out
   have hms29_0 := NB463_438.out
   have hms29_1 := NB463_439.out
   have hms29_2 := NB463_440.out
   refine skip_ (w1 := ?_) (by rfl) rfl ?_ ?_
   rotate_left
   ·
    go_simp
    rfl
   refine hK.out _ _ ⟨((cf NB438_463).trans (((cf NB438_463).trans (((cf NB438_463).trans (((cf NB438_463).trans (((cf NB438_463).trans (((cf NB438_463).trans (((cf NB438_463).trans (hHeld.1)))))))))))))), ((cf NB438_463).trans (((cf NB438_463).trans (((cf NB438_463).trans (((cf NB438_463).trans (((cf NB438_463).trans (((cf NB438_463).trans (((cf NB438_463).trans (hHeld.2.1)))))))))))))), ((cf NB438_463).trans (((cf NB438_463).trans (((cf NB438_463).trans (((cf NB438_463).trans (((cf NB438_463).trans (((cf NB438_463).trans (((cf NB438_463).trans (hHeld.2.2.1)))))))))))))), ((cf NB438_463).trans (((cf NB438_463).trans (((cf NB438_463).trans (((cf NB438_463).trans (((cf NB438_463).trans (((cf NB438_463).trans (((cf NB438_463).trans (hHeld.2.2.2.1)))))))))))))), ((cf NB438_463).trans (((cf NB438_463).trans (((cf NB438_463).trans (((cf NB438_463).trans (((cf NB438_463).trans (((cf NB438_463).trans (((cf NB438_463).trans (hHeld.2.2.2.2.1)))))))))))))), ((cf NB438_463).trans (((cf NB438_463).trans (((cf NB438_463).trans (((cf NB438_463).trans (((cf NB438_463).trans (((cf NB438_463).trans (((cf NB438_463).trans (hHeld.2.2.2.2.2.1)))))))))))))), ((cf NB438_463).trans (((cf NB438_463).trans (((cf NB438_463).trans (((cf NB438_463).trans (((cf NB438_463).trans (((cf NB438_463).trans (((cf NB438_463).trans (hHeld.2.2.2.2.2.2.1)))))))))))))), ((cf NB439_463).trans (((cf NB439_463).trans (((cf NB439_463).trans (((cf NB439_463).trans (((cf NB439_463).trans (((cf NB439_463).trans (((cf NB439_463).trans (hHeld.2.2.2.2.2.2.2.1)))))))))))))), ((cf NB439_463).trans (((cf NB439_463).trans (((cf NB439_463).trans (((cf NB439_463).trans (((cf NB439_463).trans (((cf NB439_463).trans (((cf NB439_463).trans (hHeld.2.2.2.2.2.2.2.2))))))))))))))⟩ (fun hHeld => ?_)
   clear hK K
   refine pure_ (i := 13) (N := some 7) (v := ?_) (a' := ?_) #[true, true, true, true, true, true, true, true, true, true, true, true, true, true] rfl rfl (any_of HT_.out (by kernel_rfl)) (fun _ _ _ h => h) (Or.inl ⟨by rfl, ?_⟩) ?_ ?_
   rotate_left
   ·
    intro w'
    go_simp
    with_reducible rfl
   rotate_left
   ·
    simp only [Act.put, List.setIfInBounds_toArray, List.set_cons_zero, List.set_cons_succ, i64_w, i32_w]
    rfl
   refine done_ (done_of HT_.out (by kernel_rfl)) ?_
   go_upto_region 2 with (fail)
   have H := HF6.out
   clear HF6
   replace H := Option.bind_eq_some_iff.mp H
   obtain ⟨t464, A300, H⟩ := H
   replace H : (if t464 = true then (if t462 = true then (some (t453, t456, t457, t458, t459, t460, t461, true)) else ((spec_l37Copy.f l0_0 a0_1 a0_2 a0_3 a0_4 a0_5 a0_6).bind fun bt465 => (some (bt465.1, bt465.2.1, bt465.2.2.1, bt465.2.2.2.1, bt465.2.2.2.2.1, bt465.2.2.2.2.2.1, bt465.2.2.2.2.2.2, false)))) else ((spec_l37Copy.f l0_0 a0_1 a0_2 a0_3 a0_4 a0_5 a0_6).bind fun bt474 => (some (bt474.1, bt474.2.1, bt474.2.2.1, bt474.2.2.2.1, bt474.2.2.2.2.1, bt474.2.2.2.2.2.1, bt474.2.2.2.2.2.2, false)))) = some (r1, r2, r3, r4, r5, r6, r7, r8) := H
   have A30 := Aside0.mk A300
   clear A300
   by_cases c31 : t464 = true
   ·
    subst c31
    have H1 : (if t462 = true then (some (t453, t456, t457, t458, t459, t460, t461, true)) else ((spec_l37Copy.f l0_0 a0_1 a0_2 a0_3 a0_4 a0_5 a0_6).bind fun bt465 => (some (bt465.1, bt465.2.1, bt465.2.2.1, bt465.2.2.2.1, bt465.2.2.2.2.1, bt465.2.2.2.2.2.1, bt465.2.2.2.2.2.2, false)))) = some (r1, r2, r3, r4, r5, r6, r7, r8) := by rw [if_pos rfl] at H; exact H
    clear H
    have H := H1
    clear H1
    have HF32 := Aside0.mk H
    clear H
    obtain ⟨_, _, _, _, _, _⟩ := ne6 NB438_439 NB439_438 NB438_440 NB440_438 NB438_463 NB463_438
    obtain ⟨hcz36_0, hcz36_1, hcz36_2, hcz36_3, hcz36_4, hcz36_5, hcz36_6, hfz36_0, hfz36_1, hfz36_2, hfz36_3, hfz36_4, hfz36_5, hfz36_6⟩ := bq7 BK438.out
    go_upto_if 25 with (first | ((with_reducible refine gate_callee (f := 50) rfl ?_); refine gLq (some 20) Try.func50 #[.agg #[.slice A0_0 l0_0.length c0_0, .int .i64 a0_1, .int .i64 a0_2, .int .i64 a0_3, .int .i64 a0_4, .int .i64 a0_5, .int .i64 a0_6]] ?_; (with_reducible refine (spec_BookOk.calls k _ _ l0_0 a0_1 a0_2 a0_3 a0_4 a0_5 a0_6 true _ ?side1 ?side2 A30.out).mono ?_); (case side1 => exact Kd.C_below HR0_0.out (blq HB.out)); (case side2 => exact HC0_0.out); rintro e w37 ⟨rfl, hb⟩; refine ⟨_, rfl, ?_⟩; replace HO449 := Aside0.mk (Kd.R_below (Kd.Rq (Kd.R_mono (Kd.R_far (p := ⟨gb463, 6, none⟩) (Kd.R_far (p := ⟨gb463, 5, none⟩) (Kd.R_far (p := ⟨gb463, 4, none⟩) (Kd.R_far (p := ⟨gb463, 3, none⟩) (Kd.R_far (p := ⟨gb463, 2, none⟩) (Kd.R_far (p := ⟨gb463, 1, none⟩) (Kd.R_far (p := ⟨gb463, 0, none⟩) (Kd.R_types HO449.out BK463.out (by decide)) (fun _ hk => hk.2) (.slice Ao22 t453.length co22)) (fun _ hk => hk.2) (.int .i64 t456)) (fun _ hk => hk.2) (.int .i64 t457)) (fun _ hk => hk.2) (.int .i64 t458)) (fun _ hk => hk.2) (.int .i64 t459)) (fun _ hk => hk.2) (.int .i64 t460)) (fun _ hk => hk.2) (.int .i64 t461)) (fun _ h_ => h_.1))) hb); replace HO452 := Aside0.mk (Kd.R_below (Kd.Rq (Kd.R_mono (Kd.R_far (p := ⟨gb463, 6, none⟩) (Kd.R_far (p := ⟨gb463, 5, none⟩) (Kd.R_far (p := ⟨gb463, 4, none⟩) (Kd.R_far (p := ⟨gb463, 3, none⟩) (Kd.R_far (p := ⟨gb463, 2, none⟩) (Kd.R_far (p := ⟨gb463, 1, none⟩) (Kd.R_far (p := ⟨gb463, 0, none⟩) (Kd.R_types HO452.out BK463.out (by decide)) (fun _ hk => hk.2) (.slice Ao22 t453.length co22)) (fun _ hk => hk.2) (.int .i64 t456)) (fun _ hk => hk.2) (.int .i64 t457)) (fun _ hk => hk.2) (.int .i64 t458)) (fun _ hk => hk.2) (.int .i64 t459)) (fun _ hk => hk.2) (.int .i64 t460)) (fun _ hk => hk.2) (.int .i64 t461)) (fun _ h_ => h_.1))) hb); replace HO455 := Aside0.mk (Kd.R_below (Kd.Rq (Kd.R_mono (Kd.R_far (p := ⟨gb463, 6, none⟩) (Kd.R_far (p := ⟨gb463, 5, none⟩) (Kd.R_far (p := ⟨gb463, 4, none⟩) (Kd.R_far (p := ⟨gb463, 3, none⟩) (Kd.R_far (p := ⟨gb463, 2, none⟩) (Kd.R_far (p := ⟨gb463, 1, none⟩) (Kd.R_far (p := ⟨gb463, 0, none⟩) (Kd.R_types HO455.out BK463.out (by decide)) (fun _ hk => hk.2) (.slice Ao22 t453.length co22)) (fun _ hk => hk.2) (.int .i64 t456)) (fun _ hk => hk.2) (.int .i64 t457)) (fun _ hk => hk.2) (.int .i64 t458)) (fun _ hk => hk.2) (.int .i64 t459)) (fun _ hk => hk.2) (.int .i64 t460)) (fun _ hk => hk.2) (.int .i64 t461)) (fun _ h_ => h_.1))) hb); replace BK438 := Aside0.mk (blk_below (g := gb438) (o := .cells #[.slice A0_0 l0_0.length c0_0, .int .i64 a0_1, .int .i64 a0_2, .int .i64 a0_3, .int .i64 a0_4, .int .i64 a0_5, .int .i64 a0_6] 31 (0, 0)) (qk BK438.out) hb); replace BK439 := Aside0.mk (blk_below (g := gb439) (o := .cells #[.int .i64 a1_0, .int .i64 a1_1] 41 (0, 0)) (qk BK439.out) hb); replace BK440 := Aside0.mk (blk_below (g := gb440) (o := .cells #[.slice none 0 0, .int .i64 0, .int .i64 0, .int .i64 0, .int .i64 0, .int .i64 0, .int .i64 0] 31 (0, 0)) (qk BK440.out) hb); replace BK463 := Aside0.mk (blk_below (g := gb463) (o := .cells #[.slice Ao22 t453.length co22, .int .i64 t456, .int .i64 t457, .int .i64 t458, .int .i64 t459, .int .i64 t460, .int .i64 t461] 31 (0, 0)) (by (with_reducible repeat (first | refine blk_drewN ?_ _ | refine blk_drew ?_ | refine blk_alloc ?_ _)); refine blk_put (cs := #[.slice Ao22 t453.length co22, .int .i64 t456, .int .i64 t457, .int .i64 t458, .int .i64 t459, .int .i64 t460, .int .i64 0]) ?_ 6 _ rfl; (with_reducible repeat (first | refine blk_drewN ?_ _ | refine blk_drew ?_ | refine blk_alloc ?_ _)); refine blk_put (cs := #[.slice Ao22 t453.length co22, .int .i64 t456, .int .i64 t457, .int .i64 t458, .int .i64 t459, .int .i64 0, .int .i64 0]) ?_ 5 _ rfl; (with_reducible repeat (first | refine blk_drewN ?_ _ | refine blk_drew ?_ | refine blk_alloc ?_ _)); refine blk_put (cs := #[.slice Ao22 t453.length co22, .int .i64 t456, .int .i64 t457, .int .i64 t458, .int .i64 0, .int .i64 0, .int .i64 0]) ?_ 4 _ rfl; (with_reducible repeat (first | refine blk_drewN ?_ _ | refine blk_drew ?_ | refine blk_alloc ?_ _)); refine blk_put (cs := #[.slice Ao22 t453.length co22, .int .i64 t456, .int .i64 t457, .int .i64 0, .int .i64 0, .int .i64 0, .int .i64 0]) ?_ 3 _ rfl; (with_reducible repeat (first | refine blk_drewN ?_ _ | refine blk_drew ?_ | refine blk_alloc ?_ _)); refine blk_put (cs := #[.slice Ao22 t453.length co22, .int .i64 t456, .int .i64 0, .int .i64 0, .int .i64 0, .int .i64 0, .int .i64 0]) ?_ 2 _ rfl; (with_reducible repeat (first | refine blk_drewN ?_ _ | refine blk_drew ?_ | refine blk_alloc ?_ _)); refine blk_put (cs := #[.slice Ao22 t453.length co22, .int .i64 0, .int .i64 0, .int .i64 0, .int .i64 0, .int .i64 0, .int .i64 0]) ?_ 1 _ rfl; (with_reducible repeat (first | refine blk_drewN ?_ _ | refine blk_drew ?_ | refine blk_alloc ?_ _)); refine blk_put (cs := #[.slice none 0 0, .int .i64 0, .int .i64 0, .int .i64 0, .int .i64 0, .int .i64 0, .int .i64 0]) ?_ 0 _ rfl; (with_reducible repeat (first | refine blk_drewN ?_ _ | refine blk_drew ?_ | refine blk_alloc ?_ _)); exact BK463.out) hb); replace HB := hbs HB hb; (try clear hb); (try clear hb2); (try clear hk); (try clear hi)))
    have H := HF32.out
    clear HF32
    by_cases c38 : t462 = true
    ·
     subst c38
     have H1 : (some (t453, t456, t457, t458, t459, t460, t461, true)) = some (r1, r2, r3, r4, r5, r6, r7, r8) := by rw [if_pos rfl] at H; exact H
     clear H
     have H := H1
     clear H1
     simp only [Option.some.injEq, Prod.mk.injEq] at H
     obtain ⟨rfl, rfl, rfl, rfl, rfl, rfl, rfl, rfl⟩ := H
     obtain ⟨_, _, _, _, _, _⟩ := ne6 NB463_438 NB438_463 NB463_439 NB439_463 NB463_440 NB440_463
     have hcz42_0 : w37.cell? ⟨gb463, 0, none⟩ = some (.slice Ao22 t453.length co22) := bc BK463 0
     have hcz42_1 : w37.cell? ⟨gb463, 1, none⟩ = some (.int .i64 t456) := bc BK463 1
     have hcz42_2 : w37.cell? ⟨gb463, 2, none⟩ = some (.int .i64 t457) := bc BK463 2
     have hcz42_3 : w37.cell? ⟨gb463, 3, none⟩ = some (.int .i64 t458) := bc BK463 3
     have hcz42_4 : w37.cell? ⟨gb463, 4, none⟩ = some (.int .i64 t459) := bc BK463 4
     have hcz42_5 : w37.cell? ⟨gb463, 5, none⟩ = some (.int .i64 t460) := bc BK463 5
     have hcz42_6 : w37.cell? ⟨gb463, 6, none⟩ = some (.int .i64 t461) := bc BK463 6
     have hfz42_0 := blk_frozen BK463.out 0
     have hfz42_1 := blk_frozen BK463.out 1
     have hfz42_2 := blk_frozen BK463.out 2
     have hfz42_3 := blk_frozen BK463.out 3
     have hfz42_4 := blk_frozen BK463.out 4
     have hfz42_5 := blk_frozen BK463.out 5
     have hfz42_6 := blk_frozen BK463.out 6
     obtain ⟨_, _, _, _⟩ := ne4 NB440_438 NB438_440 NB440_439 NB439_440
     obtain ⟨hcz45_0, hcz45_1, hcz45_2, hcz45_3, hcz45_4, hcz45_5, hcz45_6, hfz45_0, hfz45_1, hfz45_2, hfz45_3, hfz45_4, hfz45_5, hfz45_6⟩ := bq7 BK440.out
     go_wp2
     refine bodyPost_ret (results_ct rfl _ _ gb440 31 #[.slice Ao22 t453.length co22, .int .i64 t456, .int .i64 t457, .int .i64 t458, .int .i64 t459, .int .i64 t460, .int .i64 t461] (0, 0) _ rfl (by (with_reducible repeat (first | refine blk_drewN ?_ _ | refine blk_drew ?_ | refine blk_alloc ?_ _)); refine blk_put (cs := #[.slice Ao22 t453.length co22, .int .i64 t456, .int .i64 t457, .int .i64 t458, .int .i64 t459, .int .i64 t460, .int .i64 0]) ?_ 6 _ rfl; (with_reducible repeat (first | refine blk_drewN ?_ _ | refine blk_drew ?_ | refine blk_alloc ?_ _)); refine blk_put (cs := #[.slice Ao22 t453.length co22, .int .i64 t456, .int .i64 t457, .int .i64 t458, .int .i64 t459, .int .i64 0, .int .i64 0]) ?_ 5 _ rfl; (with_reducible repeat (first | refine blk_drewN ?_ _ | refine blk_drew ?_ | refine blk_alloc ?_ _)); refine blk_put (cs := #[.slice Ao22 t453.length co22, .int .i64 t456, .int .i64 t457, .int .i64 t458, .int .i64 0, .int .i64 0, .int .i64 0]) ?_ 4 _ rfl; (with_reducible repeat (first | refine blk_drewN ?_ _ | refine blk_drew ?_ | refine blk_alloc ?_ _)); refine blk_put (cs := #[.slice Ao22 t453.length co22, .int .i64 t456, .int .i64 t457, .int .i64 0, .int .i64 0, .int .i64 0, .int .i64 0]) ?_ 3 _ rfl; (with_reducible repeat (first | refine blk_drewN ?_ _ | refine blk_drew ?_ | refine blk_alloc ?_ _)); refine blk_put (cs := #[.slice Ao22 t453.length co22, .int .i64 t456, .int .i64 0, .int .i64 0, .int .i64 0, .int .i64 0, .int .i64 0]) ?_ 2 _ rfl; (with_reducible repeat (first | refine blk_drewN ?_ _ | refine blk_drew ?_ | refine blk_alloc ?_ _)); refine blk_put (cs := #[.slice Ao22 t453.length co22, .int .i64 0, .int .i64 0, .int .i64 0, .int .i64 0, .int .i64 0, .int .i64 0]) ?_ 1 _ rfl; (with_reducible repeat (first | refine blk_drewN ?_ _ | refine blk_drew ?_ | refine blk_alloc ?_ _)); refine blk_put (cs := #[.slice none 0 0, .int .i64 0, .int .i64 0, .int .i64 0, .int .i64 0, .int .i64 0, .int .i64 0]) ?_ 0 _ rfl; (with_reducible repeat (first | refine blk_drewN ?_ _ | refine blk_drew ?_ | refine blk_alloc ?_ _)); exact BK440.out) Try.underlying31 rfl (by kernel_rfl)) rfl ?_
     exact ⟨_, by first | rfl | (simp [errW_none, errW_some] <;> rfl) | (simp [*, errW_none, errW_some] <;> rfl), Kd.Rq (Kd.R_mono (Kd.R_far (p := ⟨gb440, 6, none⟩) (Kd.R_far (p := ⟨gb440, 5, none⟩) (Kd.R_far (p := ⟨gb440, 4, none⟩) (Kd.R_far (p := ⟨gb440, 3, none⟩) (Kd.R_far (p := ⟨gb440, 2, none⟩) (Kd.R_far (p := ⟨gb440, 1, none⟩) (Kd.R_far (p := ⟨gb440, 0, none⟩) (Kd.R_types HO455.out BK440.out (by decide)) (fun _ hk => hk.2) (.slice Ao22 t453.length co22)) (fun _ hk => hk.2) (.int .i64 t456)) (fun _ hk => hk.2) (.int .i64 t457)) (fun _ hk => hk.2) (.int .i64 t458)) (fun _ hk => hk.2) (.int .i64 t459)) (fun _ hk => hk.2) (.int .i64 t460)) (fun _ hk => hk.2) (.int .i64 t461)) (fun _ hk => trivial)), blq HB.out⟩
    ·
     replace c38 := Bool.eq_false_iff.mpr c38
     subst c38
     have H1 : ((spec_l37Copy.f l0_0 a0_1 a0_2 a0_3 a0_4 a0_5 a0_6).bind fun bt465 => (some (bt465.1, bt465.2.1, bt465.2.2.1, bt465.2.2.2.1, bt465.2.2.2.2.1, bt465.2.2.2.2.2.1, bt465.2.2.2.2.2.2, false))) = some (r1, r2, r3, r4, r5, r6, r7, r8) := by rw [if_neg (show ¬ (false = true) by decide)] at H; exact H
     clear H
     have H := H1
     clear H1
     replace H := Option.bind_eq_some_iff.mp H
     obtain ⟨⟨t465, t468, t469, t470, t471, t472, t473⟩, A460, H⟩ := H
     replace H : (some (t465, t468, t469, t470, t471, t472, t473, false)) = some (r1, r2, r3, r4, r5, r6, r7, r8) := H
     have A46 := Aside0.mk A460
     clear A460
     simp only [Option.some.injEq, Prod.mk.injEq] at H
     obtain ⟨rfl, rfl, rfl, rfl, rfl, rfl, rfl, rfl⟩ := H
     obtain ⟨_, _, _, _, _, _⟩ := ne6 NB438_439 NB439_438 NB438_440 NB440_438 NB438_463 NB463_438
     obtain ⟨hcz50_0, hcz50_1, hcz50_2, hcz50_3, hcz50_4, hcz50_5, hcz50_6, hfz50_0, hfz50_1, hfz50_2, hfz50_3, hfz50_4, hfz50_5, hfz50_6⟩ := bq7 BK438.out
     go_wp2_with (first | ((with_reducible refine gate_callee (f := 51) rfl ?_); refine gLq (some 27) Try.func51 #[.agg #[.slice A0_0 l0_0.length c0_0, .int .i64 a0_1, .int .i64 a0_2, .int .i64 a0_3, .int .i64 a0_4, .int .i64 a0_5, .int .i64 a0_6]] ?_; (with_reducible refine (spec_l37Copy.calls _ _ l0_0 a0_1 a0_2 a0_3 a0_4 a0_5 a0_6 t465 t468 t469 t470 t471 t472 t473 _ ?side1 ?side2 A46.out).mono ?_); (case side1 => exact Kd.Cq (Kd.C_below HR0_0.out HB.out)); (case side2 => exact HC0_0.out); rintro e w51 ⟨v466, rfl, ho0, hb⟩; refine ⟨_, rfl, ?_⟩; have HO467 := Aside0.mk (Kd.R_lower (Kd.R_newB (Kd.R_new' (Kd.R_new' (Kd.R_new' ho0 (Kd.R_lt (Kd.Rq HO449.out))) (Kd.R_lt (Kd.Rq HO452.out))) (Kd.R_lt (Kd.Rq HO455.out))) (g := gb439) (o := .cells #[.int .i64 a1_0, .int .i64 a1_1] 41 (0, 0)) (bkq BK439.out)) (below_size (blq HB.out))); replace HO449 := Aside0.mk (Kd.R_elder' (Kd.Rq HO449.out) (Kd.R_base ho0) hb); replace HO452 := Aside0.mk (Kd.R_elder' (Kd.Rq HO452.out) (Kd.R_base ho0) hb); replace HO455 := Aside0.mk (Kd.R_elder' (Kd.Rq HO455.out) (Kd.R_base ho0) hb); replace BK438 := bkb BK438 hb; replace BK439 := bkb BK439 hb; replace BK440 := bkb BK440 hb; replace BK463 := bkb BK463 hb; replace HB := hbs HB hb; (try clear hb); (try clear hb2); (try clear hk); (try clear hi); (try clear ho0); obtain ⟨Ao52, co52, eo52⟩ := Kd.R_slice HO467.out; subst eo52; obtain ⟨_, _, _, _⟩ := ne4 NB440_439 NB439_440 NB440_463 NB463_440; obtain ⟨hcz55_0, hcz55_1, hcz55_2, hcz55_3, hcz55_4, hcz55_5, hcz55_6, hfz55_0, hfz55_1, hfz55_2, hfz55_3, hfz55_4, hfz55_5, hfz55_6⟩ := bq7 BK440.out))
     refine bodyPost_ret (results_ct rfl _ _ gb440 31 #[.slice Ao52 t465.length co52, .int .i64 t468, .int .i64 t469, .int .i64 t470, .int .i64 t471, .int .i64 t472, .int .i64 t473] (0, 0) _ rfl (by (with_reducible repeat (first | refine blk_drewN ?_ _ | refine blk_drew ?_ | refine blk_alloc ?_ _)); refine blk_put (cs := #[.slice Ao52 t465.length co52, .int .i64 t468, .int .i64 t469, .int .i64 t470, .int .i64 t471, .int .i64 t472, .int .i64 0]) ?_ 6 _ rfl; (with_reducible repeat (first | refine blk_drewN ?_ _ | refine blk_drew ?_ | refine blk_alloc ?_ _)); refine blk_put (cs := #[.slice Ao52 t465.length co52, .int .i64 t468, .int .i64 t469, .int .i64 t470, .int .i64 t471, .int .i64 0, .int .i64 0]) ?_ 5 _ rfl; (with_reducible repeat (first | refine blk_drewN ?_ _ | refine blk_drew ?_ | refine blk_alloc ?_ _)); refine blk_put (cs := #[.slice Ao52 t465.length co52, .int .i64 t468, .int .i64 t469, .int .i64 t470, .int .i64 0, .int .i64 0, .int .i64 0]) ?_ 4 _ rfl; (with_reducible repeat (first | refine blk_drewN ?_ _ | refine blk_drew ?_ | refine blk_alloc ?_ _)); refine blk_put (cs := #[.slice Ao52 t465.length co52, .int .i64 t468, .int .i64 t469, .int .i64 0, .int .i64 0, .int .i64 0, .int .i64 0]) ?_ 3 _ rfl; (with_reducible repeat (first | refine blk_drewN ?_ _ | refine blk_drew ?_ | refine blk_alloc ?_ _)); refine blk_put (cs := #[.slice Ao52 t465.length co52, .int .i64 t468, .int .i64 0, .int .i64 0, .int .i64 0, .int .i64 0, .int .i64 0]) ?_ 2 _ rfl; (with_reducible repeat (first | refine blk_drewN ?_ _ | refine blk_drew ?_ | refine blk_alloc ?_ _)); refine blk_put (cs := #[.slice Ao52 t465.length co52, .int .i64 0, .int .i64 0, .int .i64 0, .int .i64 0, .int .i64 0, .int .i64 0]) ?_ 1 _ rfl; (with_reducible repeat (first | refine blk_drewN ?_ _ | refine blk_drew ?_ | refine blk_alloc ?_ _)); refine blk_put (cs := #[.slice none 0 0, .int .i64 0, .int .i64 0, .int .i64 0, .int .i64 0, .int .i64 0, .int .i64 0]) ?_ 0 _ rfl; (with_reducible repeat (first | refine blk_drewN ?_ _ | refine blk_drew ?_ | refine blk_alloc ?_ _)); exact BK440.out) Try.underlying31 rfl (by kernel_rfl)) rfl ?_
     exact ⟨_, by first | rfl | (simp [errW_none, errW_some] <;> rfl) | (simp [*, errW_none, errW_some] <;> rfl), Kd.Rq (Kd.R_mono (Kd.R_far (p := ⟨gb440, 6, none⟩) (Kd.R_far (p := ⟨gb440, 5, none⟩) (Kd.R_far (p := ⟨gb440, 4, none⟩) (Kd.R_far (p := ⟨gb440, 3, none⟩) (Kd.R_far (p := ⟨gb440, 2, none⟩) (Kd.R_far (p := ⟨gb440, 1, none⟩) (Kd.R_far (p := ⟨gb440, 0, none⟩) (Kd.R_types HO467.out BK440.out (by decide)) (fun _ hk => hk.2) (.slice Ao52 t465.length co52)) (fun _ hk => hk.2) (.int .i64 t468)) (fun _ hk => hk.2) (.int .i64 t469)) (fun _ hk => hk.2) (.int .i64 t470)) (fun _ hk => hk.2) (.int .i64 t471)) (fun _ hk => hk.2) (.int .i64 t472)) (fun _ hk => hk.2) (.int .i64 t473)) (fun _ hk => trivial)), blq HB.out⟩
   ·
    replace c31 := Bool.eq_false_iff.mpr c31
    subst c31
    have H1 : ((spec_l37Copy.f l0_0 a0_1 a0_2 a0_3 a0_4 a0_5 a0_6).bind fun bt474 => (some (bt474.1, bt474.2.1, bt474.2.2.1, bt474.2.2.2.1, bt474.2.2.2.2.1, bt474.2.2.2.2.2.1, bt474.2.2.2.2.2.2, false))) = some (r1, r2, r3, r4, r5, r6, r7, r8) := by rw [if_neg (show ¬ (false = true) by decide)] at H; exact H
    clear H
    have H := H1
    clear H1
    replace H := Option.bind_eq_some_iff.mp H
    obtain ⟨⟨t474, t477, t478, t479, t480, t481, t482⟩, A560, H⟩ := H
    replace H : (some (t474, t477, t478, t479, t480, t481, t482, false)) = some (r1, r2, r3, r4, r5, r6, r7, r8) := H
    have A56 := Aside0.mk A560
    clear A560
    simp only [Option.some.injEq, Prod.mk.injEq] at H
    obtain ⟨rfl, rfl, rfl, rfl, rfl, rfl, rfl, rfl⟩ := H
    obtain ⟨_, _, _, _, _, _⟩ := ne6 NB438_439 NB439_438 NB438_440 NB440_438 NB438_463 NB463_438
    obtain ⟨hcz60_0, hcz60_1, hcz60_2, hcz60_3, hcz60_4, hcz60_5, hcz60_6, hfz60_0, hfz60_1, hfz60_2, hfz60_3, hfz60_4, hfz60_5, hfz60_6⟩ := bq7 BK438.out
    go_wp2_with (first | ((with_reducible refine gate_callee (f := 50) rfl ?_); refine gLq (some 20) Try.func50 #[.agg #[.slice A0_0 l0_0.length c0_0, .int .i64 a0_1, .int .i64 a0_2, .int .i64 a0_3, .int .i64 a0_4, .int .i64 a0_5, .int .i64 a0_6]] ?_; (with_reducible refine (spec_BookOk.calls k _ _ l0_0 a0_1 a0_2 a0_3 a0_4 a0_5 a0_6 false _ ?side1 ?side2 A30.out).mono ?_); (case side1 => exact Kd.C_below HR0_0.out (blq HB.out)); (case side2 => exact HC0_0.out); rintro e w61 ⟨rfl, hb⟩; refine ⟨_, rfl, ?_⟩; replace HO449 := Aside0.mk (Kd.R_below (Kd.Rq (Kd.R_mono (Kd.R_far (p := ⟨gb463, 6, none⟩) (Kd.R_far (p := ⟨gb463, 5, none⟩) (Kd.R_far (p := ⟨gb463, 4, none⟩) (Kd.R_far (p := ⟨gb463, 3, none⟩) (Kd.R_far (p := ⟨gb463, 2, none⟩) (Kd.R_far (p := ⟨gb463, 1, none⟩) (Kd.R_far (p := ⟨gb463, 0, none⟩) (Kd.R_types HO449.out BK463.out (by decide)) (fun _ hk => hk.2) (.slice Ao22 t453.length co22)) (fun _ hk => hk.2) (.int .i64 t456)) (fun _ hk => hk.2) (.int .i64 t457)) (fun _ hk => hk.2) (.int .i64 t458)) (fun _ hk => hk.2) (.int .i64 t459)) (fun _ hk => hk.2) (.int .i64 t460)) (fun _ hk => hk.2) (.int .i64 t461)) (fun _ h_ => h_.1))) hb); replace HO452 := Aside0.mk (Kd.R_below (Kd.Rq (Kd.R_mono (Kd.R_far (p := ⟨gb463, 6, none⟩) (Kd.R_far (p := ⟨gb463, 5, none⟩) (Kd.R_far (p := ⟨gb463, 4, none⟩) (Kd.R_far (p := ⟨gb463, 3, none⟩) (Kd.R_far (p := ⟨gb463, 2, none⟩) (Kd.R_far (p := ⟨gb463, 1, none⟩) (Kd.R_far (p := ⟨gb463, 0, none⟩) (Kd.R_types HO452.out BK463.out (by decide)) (fun _ hk => hk.2) (.slice Ao22 t453.length co22)) (fun _ hk => hk.2) (.int .i64 t456)) (fun _ hk => hk.2) (.int .i64 t457)) (fun _ hk => hk.2) (.int .i64 t458)) (fun _ hk => hk.2) (.int .i64 t459)) (fun _ hk => hk.2) (.int .i64 t460)) (fun _ hk => hk.2) (.int .i64 t461)) (fun _ h_ => h_.1))) hb); replace HO455 := Aside0.mk (Kd.R_below (Kd.Rq (Kd.R_mono (Kd.R_far (p := ⟨gb463, 6, none⟩) (Kd.R_far (p := ⟨gb463, 5, none⟩) (Kd.R_far (p := ⟨gb463, 4, none⟩) (Kd.R_far (p := ⟨gb463, 3, none⟩) (Kd.R_far (p := ⟨gb463, 2, none⟩) (Kd.R_far (p := ⟨gb463, 1, none⟩) (Kd.R_far (p := ⟨gb463, 0, none⟩) (Kd.R_types HO455.out BK463.out (by decide)) (fun _ hk => hk.2) (.slice Ao22 t453.length co22)) (fun _ hk => hk.2) (.int .i64 t456)) (fun _ hk => hk.2) (.int .i64 t457)) (fun _ hk => hk.2) (.int .i64 t458)) (fun _ hk => hk.2) (.int .i64 t459)) (fun _ hk => hk.2) (.int .i64 t460)) (fun _ hk => hk.2) (.int .i64 t461)) (fun _ h_ => h_.1))) hb); replace BK438 := Aside0.mk (blk_below (g := gb438) (o := .cells #[.slice A0_0 l0_0.length c0_0, .int .i64 a0_1, .int .i64 a0_2, .int .i64 a0_3, .int .i64 a0_4, .int .i64 a0_5, .int .i64 a0_6] 31 (0, 0)) (qk BK438.out) hb); replace BK439 := Aside0.mk (blk_below (g := gb439) (o := .cells #[.int .i64 a1_0, .int .i64 a1_1] 41 (0, 0)) (qk BK439.out) hb); replace BK440 := Aside0.mk (blk_below (g := gb440) (o := .cells #[.slice none 0 0, .int .i64 0, .int .i64 0, .int .i64 0, .int .i64 0, .int .i64 0, .int .i64 0] 31 (0, 0)) (qk BK440.out) hb); replace BK463 := Aside0.mk (blk_below (g := gb463) (o := .cells #[.slice Ao22 t453.length co22, .int .i64 t456, .int .i64 t457, .int .i64 t458, .int .i64 t459, .int .i64 t460, .int .i64 t461] 31 (0, 0)) (by (with_reducible repeat (first | refine blk_drewN ?_ _ | refine blk_drew ?_ | refine blk_alloc ?_ _)); refine blk_put (cs := #[.slice Ao22 t453.length co22, .int .i64 t456, .int .i64 t457, .int .i64 t458, .int .i64 t459, .int .i64 t460, .int .i64 0]) ?_ 6 _ rfl; (with_reducible repeat (first | refine blk_drewN ?_ _ | refine blk_drew ?_ | refine blk_alloc ?_ _)); refine blk_put (cs := #[.slice Ao22 t453.length co22, .int .i64 t456, .int .i64 t457, .int .i64 t458, .int .i64 t459, .int .i64 0, .int .i64 0]) ?_ 5 _ rfl; (with_reducible repeat (first | refine blk_drewN ?_ _ | refine blk_drew ?_ | refine blk_alloc ?_ _)); refine blk_put (cs := #[.slice Ao22 t453.length co22, .int .i64 t456, .int .i64 t457, .int .i64 t458, .int .i64 0, .int .i64 0, .int .i64 0]) ?_ 4 _ rfl; (with_reducible repeat (first | refine blk_drewN ?_ _ | refine blk_drew ?_ | refine blk_alloc ?_ _)); refine blk_put (cs := #[.slice Ao22 t453.length co22, .int .i64 t456, .int .i64 t457, .int .i64 0, .int .i64 0, .int .i64 0, .int .i64 0]) ?_ 3 _ rfl; (with_reducible repeat (first | refine blk_drewN ?_ _ | refine blk_drew ?_ | refine blk_alloc ?_ _)); refine blk_put (cs := #[.slice Ao22 t453.length co22, .int .i64 t456, .int .i64 0, .int .i64 0, .int .i64 0, .int .i64 0, .int .i64 0]) ?_ 2 _ rfl; (with_reducible repeat (first | refine blk_drewN ?_ _ | refine blk_drew ?_ | refine blk_alloc ?_ _)); refine blk_put (cs := #[.slice Ao22 t453.length co22, .int .i64 0, .int .i64 0, .int .i64 0, .int .i64 0, .int .i64 0, .int .i64 0]) ?_ 1 _ rfl; (with_reducible repeat (first | refine blk_drewN ?_ _ | refine blk_drew ?_ | refine blk_alloc ?_ _)); refine blk_put (cs := #[.slice none 0 0, .int .i64 0, .int .i64 0, .int .i64 0, .int .i64 0, .int .i64 0, .int .i64 0]) ?_ 0 _ rfl; (with_reducible repeat (first | refine blk_drewN ?_ _ | refine blk_drew ?_ | refine blk_alloc ?_ _)); exact BK463.out) hb); replace HB := hbs HB hb; (try clear hb); (try clear hb2); (try clear hk); (try clear hi); obtain ⟨hcz62_0, hcz62_1, hcz62_2, hcz62_3, hcz62_4, hcz62_5, hcz62_6, hfz62_0, hfz62_1, hfz62_2, hfz62_3, hfz62_4, hfz62_5, hfz62_6⟩ := bq7 BK438.out) | ((with_reducible refine gate_callee (f := 51) rfl ?_); refine gLq (some 27) Try.func51 #[.agg #[.slice A0_0 l0_0.length c0_0, .int .i64 a0_1, .int .i64 a0_2, .int .i64 a0_3, .int .i64 a0_4, .int .i64 a0_5, .int .i64 a0_6]] ?_; (with_reducible refine (spec_l37Copy.calls _ _ l0_0 a0_1 a0_2 a0_3 a0_4 a0_5 a0_6 t474 t477 t478 t479 t480 t481 t482 _ ?side1 ?side2 A56.out).mono ?_); (case side1 => exact Kd.Cq (Kd.C_below HR0_0.out HB.out)); (case side2 => exact HC0_0.out); rintro e w63 ⟨v475, rfl, ho0, hb⟩; refine ⟨_, rfl, ?_⟩; have HO476 := Aside0.mk (Kd.R_lower (Kd.R_newB (Kd.R_new' (Kd.R_new' (Kd.R_new' ho0 (Kd.R_lt (Kd.Rq HO449.out))) (Kd.R_lt (Kd.Rq HO452.out))) (Kd.R_lt (Kd.Rq HO455.out))) (g := gb439) (o := .cells #[.int .i64 a1_0, .int .i64 a1_1] 41 (0, 0)) (bkq BK439.out)) (below_size (blq HB.out))); replace HO449 := Aside0.mk (Kd.R_elder' (Kd.Rq HO449.out) (Kd.R_base ho0) hb); replace HO452 := Aside0.mk (Kd.R_elder' (Kd.Rq HO452.out) (Kd.R_base ho0) hb); replace HO455 := Aside0.mk (Kd.R_elder' (Kd.Rq HO455.out) (Kd.R_base ho0) hb); replace BK438 := bkb BK438 hb; replace BK439 := bkb BK439 hb; replace BK440 := bkb BK440 hb; replace BK463 := bkb BK463 hb; replace HB := hbs HB hb; (try clear hb); (try clear hb2); (try clear hk); (try clear hi); (try clear ho0); obtain ⟨Ao64, co64, eo64⟩ := Kd.R_slice HO476.out; subst eo64; obtain ⟨_, _, _, _⟩ := ne4 NB440_439 NB439_440 NB440_463 NB463_440; obtain ⟨hcz67_0, hcz67_1, hcz67_2, hcz67_3, hcz67_4, hcz67_5, hcz67_6, hfz67_0, hfz67_1, hfz67_2, hfz67_3, hfz67_4, hfz67_5, hfz67_6⟩ := bq7 BK440.out))
    refine bodyPost_ret (results_ct rfl _ _ gb440 31 #[.slice Ao64 t474.length co64, .int .i64 t477, .int .i64 t478, .int .i64 t479, .int .i64 t480, .int .i64 t481, .int .i64 t482] (0, 0) _ rfl (by (with_reducible repeat (first | refine blk_drewN ?_ _ | refine blk_drew ?_ | refine blk_alloc ?_ _)); refine blk_put (cs := #[.slice Ao64 t474.length co64, .int .i64 t477, .int .i64 t478, .int .i64 t479, .int .i64 t480, .int .i64 t481, .int .i64 0]) ?_ 6 _ rfl; (with_reducible repeat (first | refine blk_drewN ?_ _ | refine blk_drew ?_ | refine blk_alloc ?_ _)); refine blk_put (cs := #[.slice Ao64 t474.length co64, .int .i64 t477, .int .i64 t478, .int .i64 t479, .int .i64 t480, .int .i64 0, .int .i64 0]) ?_ 5 _ rfl; (with_reducible repeat (first | refine blk_drewN ?_ _ | refine blk_drew ?_ | refine blk_alloc ?_ _)); refine blk_put (cs := #[.slice Ao64 t474.length co64, .int .i64 t477, .int .i64 t478, .int .i64 t479, .int .i64 0, .int .i64 0, .int .i64 0]) ?_ 4 _ rfl; (with_reducible repeat (first | refine blk_drewN ?_ _ | refine blk_drew ?_ | refine blk_alloc ?_ _)); refine blk_put (cs := #[.slice Ao64 t474.length co64, .int .i64 t477, .int .i64 t478, .int .i64 0, .int .i64 0, .int .i64 0, .int .i64 0]) ?_ 3 _ rfl; (with_reducible repeat (first | refine blk_drewN ?_ _ | refine blk_drew ?_ | refine blk_alloc ?_ _)); refine blk_put (cs := #[.slice Ao64 t474.length co64, .int .i64 t477, .int .i64 0, .int .i64 0, .int .i64 0, .int .i64 0, .int .i64 0]) ?_ 2 _ rfl; (with_reducible repeat (first | refine blk_drewN ?_ _ | refine blk_drew ?_ | refine blk_alloc ?_ _)); refine blk_put (cs := #[.slice Ao64 t474.length co64, .int .i64 0, .int .i64 0, .int .i64 0, .int .i64 0, .int .i64 0, .int .i64 0]) ?_ 1 _ rfl; (with_reducible repeat (first | refine blk_drewN ?_ _ | refine blk_drew ?_ | refine blk_alloc ?_ _)); refine blk_put (cs := #[.slice none 0 0, .int .i64 0, .int .i64 0, .int .i64 0, .int .i64 0, .int .i64 0, .int .i64 0]) ?_ 0 _ rfl; (with_reducible repeat (first | refine blk_drewN ?_ _ | refine blk_drew ?_ | refine blk_alloc ?_ _)); exact BK440.out) Try.underlying31 rfl (by kernel_rfl)) rfl ?_
    exact ⟨_, by first | rfl | (simp [errW_none, errW_some] <;> rfl) | (simp [*, errW_none, errW_some] <;> rfl), Kd.Rq (Kd.R_mono (Kd.R_far (p := ⟨gb440, 6, none⟩) (Kd.R_far (p := ⟨gb440, 5, none⟩) (Kd.R_far (p := ⟨gb440, 4, none⟩) (Kd.R_far (p := ⟨gb440, 3, none⟩) (Kd.R_far (p := ⟨gb440, 2, none⟩) (Kd.R_far (p := ⟨gb440, 1, none⟩) (Kd.R_far (p := ⟨gb440, 0, none⟩) (Kd.R_types HO476.out BK440.out (by decide)) (fun _ hk => hk.2) (.slice Ao64 t474.length co64)) (fun _ hk => hk.2) (.int .i64 t477)) (fun _ hk => hk.2) (.int .i64 t478)) (fun _ hk => hk.2) (.int .i64 t479)) (fun _ hk => hk.2) (.int .i64 t480)) (fun _ hk => hk.2) (.int .i64 t481)) (fun _ hk => hk.2) (.int .i64 t482)) (fun _ hk => trivial)), blq HB.out⟩
  ·
   rw [if_neg c4] at H
   exact absurd H (by simp)
 ·
  rw [if_neg c3] at H
  exact absurd H (by simp)

end Go.Proofs.Ytonaabffckkdlaa.Q
