-- Written for this claim by wip/xprint.py of this repository (by way of the kit's print); Lean checks every line.
import Derived.Test.YtonaabffckkdlaaQ0
import Derived.Test.YtonaabffckkdlaaQ7
import Derived.Test.YtonaabffckkdlaaQ12
namespace Go.Proofs.Ytonaabffckkdlaa.Q
open Go.RowKit Go.Proofs.YtonaabffckkdlaaW.PrintWords Go.Proofs.YtonaabffckkdlaaW.PrintLast Go.Proofs.YtonaabffckkdlaaW.PrintMore
attribute [local go_sem] max2_int min2_int max_two min_two max_three min_three max_four min_four   -- for this text's walks alone
set_option linter.unusedVariables false
set_option linter.unusedSimpArgs false

/-! ### impl_Enter: function 22 -/
def impl_Enter.f (k : Nat) (l0_0 : List (S41)) (a0_1 : Int) (a0_2 : Int) (a0_3 : Int) (a0_4 : Int) (a0_5 : Int) (a0_6 : Int) (a1_0 : Int) (a1_1 : Int) : Option ((List (S41)) × Int × Int × Int × Int × Int × Int × Bool) := (impl_BookOk.f k l0_0 a0_1 a0_2 a0_3 a0_4 a0_5 a0_6).bind fun t486 => (if t486 = true then ((impl_bookCopy.f l0_0 a0_1 a0_2 a0_3 a0_4 a0_5 a0_6).bind fun bt496 => ((some (([(⟨a1_0, a1_1⟩ : S41)] : List (S41)) : List (S41))).bind fun y505 => (if bt496.1.length + y505.length < 8796093022208 then ((impl_counted.f k (bt496.1 ++ y505)).bind fun bt511 => (if bt511.2.2.2.2.2.2.2 = true then (some (bt511.1, bt511.2.1, bt511.2.2.1, bt511.2.2.2.1, bt511.2.2.2.2.1, bt511.2.2.2.2.2.1, bt511.2.2.2.2.2.2.1, true)) else ((impl_bookCopy.f l0_0 a0_1 a0_2 a0_3 a0_4 a0_5 a0_6).bind fun bt522 => (some (bt522.1, bt522.2.1, bt522.2.2.1, bt522.2.2.2.1, bt522.2.2.2.2.1, bt522.2.2.2.2.2.1, bt522.2.2.2.2.2.2, false))))) else (none)))) else ((impl_bookCopy.f l0_0 a0_1 a0_2 a0_3 a0_4 a0_5 a0_6).bind fun bt487 => (some (bt487.1, bt487.2.1, bt487.2.2.1, bt487.2.2.2.1, bt487.2.2.2.2.1, bt487.2.2.2.2.2.1, bt487.2.2.2.2.2.2, false))))
theorem impl_Enter.mono : ∀ a0 a1 a2 a3 a4 a5 a6 a7 a8 k, LeO (impl_Enter.f k a0 a1 a2 a3 a4 a5 a6 a7 a8) (impl_Enter.f (k + 1) a0 a1 a2 a3 a4 a5 a6 a7 a8) := by
 intro a0 a1 a2 a3 a4 a5 a6 a7 a8 k
 unfold impl_Enter.f
 repeat' first
   | (with_reducible exact impl_BookOk.mono _ _ _ _ _ _ _ _)
   | (with_reducible exact impl_counted.mono _ _)
   | (with_reducible exact LeO.refl _)
   | (with_reducible exact LeO.none _)
   | (with_reducible refine LeO.ite ?_ ?_)
   | (with_reducible refine LeO.bind ?_ (fun _ => ?_))
   | exact impl_BookOk.mono _ _ _ _ _ _ _ _
   | exact impl_counted.mono _ _
   | exact LeO.none _
   | refine LeO.ite ?_ ?_
   | refine LeO.bind ?_ (fun _ => ?_)
def impl_Enter.T3 : Bool × List (List Nat × List Nat) := (true, [([], []), ([0], [0]), ([1], [1]), ([], []), ([3], [3]), ([2, 4, 1], [2, 4]), ([5, 5], [5]), ([6], [6]), ([7], [7]), ([7], [7]), ([], []), ([10, 8, 6, 0, 1, 2, 3, 4, 5, 6, 7, 8, 10], [8, 10]), ([9, 11, 0, 1, 2, 3, 4, 5, 6, 7, 8, 9, 10, 11], [9])])
def impl_Enter.B3 : List Nat := [0, 1, 3, 0, 8, 31, 63, 127, 255, 255, 0, 1535, 4095]
theorem impl_Enter.tab3 : rtab .any (opsOf Try.f22 3) = impl_Enter.T3 := by kernel_rfl
theorem impl_Enter.bits3 : waitsOk impl_Enter.T3.2 impl_Enter.B3 = true := by kernel_rfl
set_option maxHeartbeats 8000000 in
set_option maxRecDepth 100000 in
theorem impl_Enter.calls (k : Nat) (A0_0 : Option Addr) (c0_0 : Nat) (l0_0 : List (S41)) (a0_1 : Int) (a0_2 : Int) (a0_3 : Int) (a0_4 : Int) (a0_5 : Int) (a0_6 : Int) (a1_0 : Int) (a1_1 : Int) (r1 : List (S41)) (r2 : Int) (r3 : Int) (r4 : Int) (r5 : Int) (r6 : Int) (r7 : Int) (r8 : Bool) (w : World) (hr0_0 : Kd.C k41 w A0_0 l0_0.length l0_0) (hc0_0 : l0_0.length ≤ c0_0) (h : impl_Enter.f k l0_0 a0_1 a0_2 a0_3 a0_4 a0_5 a0_6 a1_0 a1_1 = some (r1, r2, r3, r4, r5, r6, r7, r8)) :
  Calls Try.prog 22 #[.agg #[.slice A0_0 l0_0.length c0_0, .int .i64 a0_1, .int .i64 a0_2, .int .i64 a0_3, .int .i64 a0_4, .int .i64 a0_5, .int .i64 a0_6], .agg #[.int .i64 a1_0, .int .i64 a1_1]] w fun e w' => ∃ v0_ : Value, e = .returned (.tuple #[.agg #[v0_, .int .i64 r2, .int .i64 r3, .int .i64 r4, .int .i64 r5, .int .i64 r6, .int .i64 r7], .bool r8]) ∧ Kd.R k41 41 w' w.heap.size (fun _ => True) v0_ r1 ∧ Below w.heap.size w w' := by
 have hu31 := Try.underlying31
 have hfd : ∀ (v : Value) (a b c d e f : Int) (w' : World), (Instr.field 31 (.agg #[v, .int .i64 a, .int .i64 b, .int .i64 c, .int .i64 d, .int .i64 e, .int .i64 f]) 0).run Try.prog w' = .ok v w' := fun _ _ _ _ _ _ _ _ => by kernel_rfl
 have hu41 := Try.underlying41
 have HR0_0 := Aside0.mk hr0_0
 have HC0_0 := Aside0.mk hc0_0
 clear hr0_0 hc0_0
 have HB := Aside0.mk (Below.refl w.heap.size w)
 have H : ((impl_BookOk.f k l0_0 a0_1 a0_2 a0_3 a0_4 a0_5 a0_6).bind fun t486 => (if t486 = true then ((impl_bookCopy.f l0_0 a0_1 a0_2 a0_3 a0_4 a0_5 a0_6).bind fun bt496 => ((some (([(⟨a1_0, a1_1⟩ : S41)] : List (S41)) : List (S41))).bind fun y505 => (if bt496.1.length + y505.length < 8796093022208 then ((impl_counted.f k (bt496.1 ++ y505)).bind fun bt511 => (if bt511.2.2.2.2.2.2.2 = true then (some (bt511.1, bt511.2.1, bt511.2.2.1, bt511.2.2.2.1, bt511.2.2.2.2.1, bt511.2.2.2.2.2.1, bt511.2.2.2.2.2.2.1, true)) else ((impl_bookCopy.f l0_0 a0_1 a0_2 a0_3 a0_4 a0_5 a0_6).bind fun bt522 => (some (bt522.1, bt522.2.1, bt522.2.2.1, bt522.2.2.2.1, bt522.2.2.2.2.1, bt522.2.2.2.2.2.1, bt522.2.2.2.2.2.2, false))))) else (none)))) else ((impl_bookCopy.f l0_0 a0_1 a0_2 a0_3 a0_4 a0_5 a0_6).bind fun bt487 => (some (bt487.1, bt487.2.1, bt487.2.2.1, bt487.2.2.2.1, bt487.2.2.2.2.1, bt487.2.2.2.2.2.1, bt487.2.2.2.2.2.2, false))))) = some (r1, r2, r3, r4, r5, r6, r7, r8) := h
 clear h
 replace H := Option.bind_eq_some_iff.mp H
 obtain ⟨t486, A30, H⟩ := H
 replace H : (if t486 = true then ((impl_bookCopy.f l0_0 a0_1 a0_2 a0_3 a0_4 a0_5 a0_6).bind fun bt496 => ((some (([(⟨a1_0, a1_1⟩ : S41)] : List (S41)) : List (S41))).bind fun y505 => (if bt496.1.length + y505.length < 8796093022208 then ((impl_counted.f k (bt496.1 ++ y505)).bind fun bt511 => (if bt511.2.2.2.2.2.2.2 = true then (some (bt511.1, bt511.2.1, bt511.2.2.1, bt511.2.2.2.1, bt511.2.2.2.2.1, bt511.2.2.2.2.2.1, bt511.2.2.2.2.2.2.1, true)) else ((impl_bookCopy.f l0_0 a0_1 a0_2 a0_3 a0_4 a0_5 a0_6).bind fun bt522 => (some (bt522.1, bt522.2.1, bt522.2.2.1, bt522.2.2.2.1, bt522.2.2.2.2.1, bt522.2.2.2.2.2.1, bt522.2.2.2.2.2.2, false))))) else (none)))) else ((impl_bookCopy.f l0_0 a0_1 a0_2 a0_3 a0_4 a0_5 a0_6).bind fun bt487 => (some (bt487.1, bt487.2.1, bt487.2.2.1, bt487.2.2.2.1, bt487.2.2.2.2.1, bt487.2.2.2.2.2.1, bt487.2.2.2.2.2.2, false)))) = some (r1, r2, r3, r4, r5, r6, r7, r8) := H
 have A3 := Aside0.mk A30
 clear A30
 have HF4 := Aside0.mk H
 clear H
 go_enter Try.func22, Try.ntmps22
 go_upto_if 10 with (first | ((with_reducible refine gate_dst (N := 2) rfl ?_); refine box_event ?hg (N := 2) ?hd (cs := #[.slice A0_0 l0_0.length c0_0, .int .i64 a0_1, .int .i64 a0_2, .int .i64 a0_3, .int .i64 a0_4, .int .i64 a0_5, .int .i64 a0_6]) (t := 31) ?hr ?_; (case hd => rfl); (case hg => rfl); (case hr => first | (go_simp; done) | (go_simp; rfl)); intro gb483 hg w5 hbox hb; have BK483 := Aside0.mk (hbox); have GW483 := sQ hg HB; have GE483 := sQ hg HB; replace HB := hbs HB hb; clear hb hbox hg) | ((with_reducible refine gate_dst (N := 3) rfl ?_); refine box_event ?hg (N := 3) ?hd (cs := #[.int .i64 a1_0, .int .i64 a1_1]) (t := 41) ?hr ?_; (case hd => rfl); (case hg => rfl); (case hr => first | (go_simp; done) | (go_simp; rfl)); intro gb484 hg w6 hbox hb; have BK484 := Aside0.mk (hbox); have GW484 := sQ hg HB; have GE484 := sQ hg HB; have NB483_484 := qL hg BK483; have NB484_483 := qG hg BK483; replace BK483 := bkb BK483 hb; replace HB := hbs HB hb; clear hb hbox hg) | ((with_reducible refine gate_dst (N := 4) rfl ?_); refine box_event ?hg (N := 4) ?hd (cs := #[.slice none 0 0, .int .i64 0, .int .i64 0, .int .i64 0, .int .i64 0, .int .i64 0, .int .i64 0]) (t := 31) ?hr ?_; (case hd => rfl); (case hg => rfl); (case hr => first | (go_simp; done) | (go_simp; rfl)); intro gb485 hg w7 hbox hb; have BK485 := Aside0.mk (hbox); have GW485 := sQ hg HB; have GE485 := sQ hg HB; have NB483_485 := qL hg BK483; have NB485_483 := qG hg BK483; have NB484_485 := qL hg BK484; have NB485_484 := qG hg BK484; replace BK483 := bkb BK483 hb; replace BK484 := bkb BK484 hb; replace HB := hbs HB hb; clear hb hbox hg; obtain ⟨_, _, _, _⟩ := ne4 NB483_484 NB484_483 NB483_485 NB485_483; obtain ⟨hcz10_0, hcz10_1, hcz10_2, hcz10_3, hcz10_4, hcz10_5, hcz10_6, hfz10_0, hfz10_1, hfz10_2, hfz10_3, hfz10_4, hfz10_5, hfz10_6⟩ := bq7 BK483.out) | ((with_reducible refine gate_callee (f := 55) rfl ?_); refine gLq (some 9) Try.func55 #[.agg #[.slice A0_0 l0_0.length c0_0, .int .i64 a0_1, .int .i64 a0_2, .int .i64 a0_3, .int .i64 a0_4, .int .i64 a0_5, .int .i64 a0_6]] ?_; (with_reducible refine (impl_BookOk.calls k _ _ l0_0 a0_1 a0_2 a0_3 a0_4 a0_5 a0_6 t486 _ ?side1 ?side2 A3.out).mono ?_); (case side1 => exact Kd.Cq (Kd.C_below HR0_0.out HB.out)); (case side2 => exact HC0_0.out); rintro e w11 ⟨rfl, hb⟩; refine ⟨_, rfl, ?_⟩; replace BK483 := bkb BK483 hb; replace BK484 := bkb BK484 hb; replace BK485 := bkb BK485 hb; replace HB := hbs HB hb; (try clear hb); (try clear hb2); (try clear hk); (try clear hi)))
 have H := HF4.out
 clear HF4
 by_cases c12 : t486 = true
 ·
  subst c12
  have H1 : ((impl_bookCopy.f l0_0 a0_1 a0_2 a0_3 a0_4 a0_5 a0_6).bind fun bt496 => ((some (([(⟨a1_0, a1_1⟩ : S41)] : List (S41)) : List (S41))).bind fun y505 => (if bt496.1.length + y505.length < 8796093022208 then ((impl_counted.f k (bt496.1 ++ y505)).bind fun bt511 => (if bt511.2.2.2.2.2.2.2 = true then (some (bt511.1, bt511.2.1, bt511.2.2.1, bt511.2.2.2.1, bt511.2.2.2.2.1, bt511.2.2.2.2.2.1, bt511.2.2.2.2.2.2.1, true)) else ((impl_bookCopy.f l0_0 a0_1 a0_2 a0_3 a0_4 a0_5 a0_6).bind fun bt522 => (some (bt522.1, bt522.2.1, bt522.2.2.1, bt522.2.2.2.1, bt522.2.2.2.2.1, bt522.2.2.2.2.2.1, bt522.2.2.2.2.2.2, false))))) else (none)))) = some (r1, r2, r3, r4, r5, r6, r7, r8) := by rw [if_pos rfl] at H; exact H
  clear H
  have H := H1
  clear H1
  replace H := Option.bind_eq_some_iff.mp H
  obtain ⟨⟨t496, t499, t500, t501, t502, t503, t504⟩, A130, H⟩ := H
  replace H : ((some (([(⟨a1_0, a1_1⟩ : S41)] : List (S41)) : List (S41))).bind fun y505 => (if t496.length + y505.length < 8796093022208 then ((impl_counted.f k (t496 ++ y505)).bind fun bt511 => (if bt511.2.2.2.2.2.2.2 = true then (some (bt511.1, bt511.2.1, bt511.2.2.1, bt511.2.2.2.1, bt511.2.2.2.2.1, bt511.2.2.2.2.2.1, bt511.2.2.2.2.2.2.1, true)) else ((impl_bookCopy.f l0_0 a0_1 a0_2 a0_3 a0_4 a0_5 a0_6).bind fun bt522 => (some (bt522.1, bt522.2.1, bt522.2.2.1, bt522.2.2.2.1, bt522.2.2.2.2.1, bt522.2.2.2.2.2.1, bt522.2.2.2.2.2.2, false))))) else (none))) = some (r1, r2, r3, r4, r5, r6, r7, r8) := H
  have A13 := Aside0.mk A130
  clear A130
  obtain ⟨y505, hy505⟩ : ∃ y_ : List (S41), y_ = (([(⟨a1_0, a1_1⟩ : S41)] : List (S41))) := ⟨_, rfl⟩
  replace H : (if t496.length + y505.length < 8796093022208 then ((impl_counted.f k (t496 ++ y505)).bind fun bt511 => (if bt511.2.2.2.2.2.2.2 = true then (some (bt511.1, bt511.2.1, bt511.2.2.1, bt511.2.2.2.1, bt511.2.2.2.2.1, bt511.2.2.2.2.2.1, bt511.2.2.2.2.2.2.1, true)) else ((impl_bookCopy.f l0_0 a0_1 a0_2 a0_3 a0_4 a0_5 a0_6).bind fun bt522 => (some (bt522.1, bt522.2.1, bt522.2.2.1, bt522.2.2.2.1, bt522.2.2.2.2.1, bt522.2.2.2.2.2.1, bt522.2.2.2.2.2.2, false))))) else (none)) = some (r1, r2, r3, r4, r5, r6, r7, r8) := by first | (rw [hy505]; with_reducible exact H) | (have H2_ := (Option.bind_some _ _).symm.trans H; rw [hy505]; with_reducible exact H2_) | (have H2_ := (Option.bind_some _ _).symm.trans H; with_reducible exact H2_) | with_reducible exact H | (rw [hy505]; exact H) | exact H
  have Ny505 := Aside0.mk hy505
  clear hy505
  by_cases c14 : t496.length + y505.length < 8796093022208
  ·
   rw [if_pos c14] at H
   have LMc14 := Aside0.mk c14
   clear c14
   obtain ⟨y508, hy508⟩ : ∃ y_ : List (S41), y_ = (t496 ++ y505) := ⟨_, rfl⟩
   replace H : ((impl_counted.f k y508).bind fun bt511 => (if bt511.2.2.2.2.2.2.2 = true then (some (bt511.1, bt511.2.1, bt511.2.2.1, bt511.2.2.2.1, bt511.2.2.2.2.1, bt511.2.2.2.2.2.1, bt511.2.2.2.2.2.2.1, true)) else ((impl_bookCopy.f l0_0 a0_1 a0_2 a0_3 a0_4 a0_5 a0_6).bind fun bt522 => (some (bt522.1, bt522.2.1, bt522.2.2.1, bt522.2.2.2.1, bt522.2.2.2.2.1, bt522.2.2.2.2.2.1, bt522.2.2.2.2.2.2, false))))) = some (r1, r2, r3, r4, r5, r6, r7, r8) := by first | (rw [hy508]; with_reducible exact H) | (have H2_ := (Option.bind_some _ _).symm.trans H; rw [hy508]; with_reducible exact H2_) | (have H2_ := (Option.bind_some _ _).symm.trans H; with_reducible exact H2_) | with_reducible exact H | (rw [hy508]; exact H) | exact H
   have Ny508 := Aside0.mk hy508
   clear hy508
   replace H := Option.bind_eq_some_iff.mp H
   obtain ⟨⟨t511, t514, t515, t516, t517, t518, t519, t520⟩, A150, H⟩ := H
   replace H : (if t520 = true then (some (t511, t514, t515, t516, t517, t518, t519, true)) else ((impl_bookCopy.f l0_0 a0_1 a0_2 a0_3 a0_4 a0_5 a0_6).bind fun bt522 => (some (bt522.1, bt522.2.1, bt522.2.2.1, bt522.2.2.2.1, bt522.2.2.2.2.1, bt522.2.2.2.2.2.1, bt522.2.2.2.2.2.2, false)))) = some (r1, r2, r3, r4, r5, r6, r7, r8) := H
   have A15 := Aside0.mk A150
   clear A150
   have HF16 := Aside0.mk H
   clear H
   try go_wp2
   replace BK483 := Aside0.mk (blk_drew BK483.out)
   replace BK484 := Aside0.mk (blk_drew BK484.out)
   replace BK485 := Aside0.mk (blk_drew BK485.out)
   replace HB := Aside0.mk (below_drew1 HB.out)
   refine start_ (n := 13) (S := fun w' => w'.cell? ⟨gb483, 0, none⟩ = some (.slice A0_0 l0_0.length c0_0) ∧ w'.cell? ⟨gb483, 1, none⟩ = some (.int .i64 a0_1) ∧ w'.cell? ⟨gb483, 2, none⟩ = some (.int .i64 a0_2) ∧ w'.cell? ⟨gb483, 3, none⟩ = some (.int .i64 a0_3) ∧ w'.cell? ⟨gb483, 4, none⟩ = some (.int .i64 a0_4) ∧ w'.cell? ⟨gb483, 5, none⟩ = some (.int .i64 a0_5) ∧ w'.cell? ⟨gb483, 6, none⟩ = some (.int .i64 a0_6) ∧ w'.cell? ⟨gb484, 0, none⟩ = some (.int .i64 a1_0) ∧ w'.cell? ⟨gb484, 1, none⟩ = some (.int .i64 a1_1)) (ds := []) #[false, false, false, false, false, false, false, false, false, false, false, false, false] (by kernel_rfl) rfl rfl ⟨bc BK483 0, bc BK483 1, bc BK483 2, bc BK483 3, bc BK483 4, bc BK483 5, bc BK483 6, bc BK484 0, bc BK484 1⟩ (fun hHeld => ?_); refine with_tabW impl_Enter.tab3 impl_Enter.bits3 (fun HT_ HW_ => ?_)
   generalize w11.drew = w17 at BK483 BK484 BK485 HB hHeld ⊢
   refine take_ (i := 0) (N := some 14) (v := ?_) (a' := ?_) #[true, false, false, false, false, false, false, false, false, false, false, false, false] rfl rfl (take_ofW HT_.out HW_.out (by kernel_rfl)) (fun _ _ _ h => h) (Or.inl ⟨by rfl, ?_⟩) hHeld ?_ ?_
   rotate_left
   ·
    rintro w' ⟨s0, s1, s2, s3, s4, s5, s6, s7, s8⟩
    go_simp
    with_reducible rfl
   rotate_left
   ·
    simp only [Act.put, List.setIfInBounds_toArray, List.set_cons_zero, List.set_cons_succ, i64_w, i32_w]
    rfl
   refine take_ (i := 3) (N := some 17) (v := ?_) (a' := ?_) #[true, false, false, true, false, false, false, false, false, false, false, false, false] rfl rfl (take_ofW HT_.out HW_.out (by kernel_rfl)) (fun _ _ _ h => h) (Or.inl ⟨by rfl, ?_⟩) hHeld ?_ ?_
   rotate_left
   ·
    rintro w' ⟨s0, s1, s2, s3, s4, s5, s6, s7, s8⟩
    go_simp
    with_reducible rfl
   rotate_left
   ·
    simp only [Act.put, List.setIfInBounds_toArray, List.set_cons_zero, List.set_cons_succ, i64_w, i32_w]
    rfl
   refine join_ (σ := Value × Value × Value × Value × Nat) 2 #[true, true, true, true, true, true, true, true, true, true, true, false, false] (fun s_ => [(15, .agg #[s_.1, .int .i64 t499, .int .i64 t500, .int .i64 t501, .int .i64 t502, .int .i64 t503, .int .i64 t504]), (18, s_.2.1), (19, s_.2.2.1), (20, .tuple #[.agg #[s_.2.2.2.1, .int .i64 t514, .int .i64 t515, .int .i64 t516, .int .i64 t517, .int .i64 t518, .int .i64 t519], .bool t520]), (6, .pointer (some ⟨s_.2.2.2.2, 0, none⟩)), (16, s_.1), (13, .tuple #[.agg #[s_.2.2.2.1, .int .i64 t514, .int .i64 t515, .int .i64 t516, .int .i64 t517, .int .i64 t518, .int .i64 t519], .bool t520]), (21, .agg #[s_.2.2.2.1, .int .i64 t514, .int .i64 t515, .int .i64 t516, .int .i64 t517, .int .i64 t518, .int .i64 t519]), (22, .bool t520)]) (fun s_ w' => (w'.cell? ⟨gb483, 0, none⟩ = some (.slice A0_0 l0_0.length c0_0) ∧ w'.cell? ⟨gb483, 1, none⟩ = some (.int .i64 a0_1) ∧ w'.cell? ⟨gb483, 2, none⟩ = some (.int .i64 a0_2) ∧ w'.cell? ⟨gb483, 3, none⟩ = some (.int .i64 a0_3) ∧ w'.cell? ⟨gb483, 4, none⟩ = some (.int .i64 a0_4) ∧ w'.cell? ⟨gb483, 5, none⟩ = some (.int .i64 a0_5) ∧ w'.cell? ⟨gb483, 6, none⟩ = some (.int .i64 a0_6) ∧ w'.cell? ⟨gb484, 0, none⟩ = some (.int .i64 a1_0) ∧ w'.cell? ⟨gb484, 1, none⟩ = some (.int .i64 a1_1)) ∧ (Kd.R k41 41 w' w.heap.size (fun k_ => some k_ ≠ (s_.2.2.1 : Value).ownBlock ∧ some k_ ≠ (s_.2.2.2.1 : Value).ownBlock ∧ k_ ≠ gb484) s_.2.1 y505) ∧ (Kd.R k41 41 w' w.heap.size (fun k_ => some k_ ≠ (s_.2.1 : Value).ownBlock ∧ some k_ ≠ (s_.2.2.2.1 : Value).ownBlock ∧ k_ ≠ gb484) s_.2.2.1 y508) ∧ (Kd.R k41 41 w' w.heap.size (fun k_ => some k_ ≠ (s_.2.1 : Value).ownBlock ∧ some k_ ≠ (s_.2.2.1 : Value).ownBlock ∧ k_ ≠ gb484) s_.2.2.2.1 t511) ∧ (w'.heap[gb483]? = some (.cells #[.slice A0_0 l0_0.length c0_0, .int .i64 a0_1, .int .i64 a0_2, .int .i64 a0_3, .int .i64 a0_4, .int .i64 a0_5, .int .i64 a0_6] 31 (0, 0))) ∧ (w'.heap[gb484]? = some (.cells #[.int .i64 a1_0, .int .i64 a1_1] 41 (0, 0))) ∧ (w'.heap[gb485]? = some (.cells #[.slice none 0 0, .int .i64 0, .int .i64 0, .int .i64 0, .int .i64 0, .int .i64 0, .int .i64 0] 31 (0, 0))) ∧ (w'.heap[s_.2.2.2.2]? = some (.cells #[.slice none 0 0, .int .i64 0, .int .i64 0, .int .i64 0, .int .i64 0, .int .i64 0, .int .i64 0] 31 (0, 0))) ∧ (w.heap.size ≤ s_.2.2.2.2) ∧ (w.heap.size ≤ s_.2.2.2.2) ∧ (gb483 ≠ s_.2.2.2.2) ∧ (s_.2.2.2.2 ≠ gb483) ∧ (gb484 ≠ s_.2.2.2.2) ∧ (s_.2.2.2.2 ≠ gb484) ∧ (gb485 ≠ s_.2.2.2.2) ∧ (s_.2.2.2.2 ≠ gb485) ∧ (Below w.heap.size w w')) ?_ ?_
   rotate_left
   ·
    intro hJ1_4_5_6_10
    refine join_ (σ := Value × Value × Value × Value) 3 #[true, true, true, true, true, true, true, true, true, true, false, false, false] (fun s_ => [(15, .agg #[s_.1, .int .i64 t499, .int .i64 t500, .int .i64 t501, .int .i64 t502, .int .i64 t503, .int .i64 t504]), (18, s_.2.1), (19, s_.2.2.1), (20, .tuple #[.agg #[s_.2.2.2, .int .i64 t514, .int .i64 t515, .int .i64 t516, .int .i64 t517, .int .i64 t518, .int .i64 t519], .bool t520]), (16, s_.1), (13, .tuple #[.agg #[s_.2.2.2, .int .i64 t514, .int .i64 t515, .int .i64 t516, .int .i64 t517, .int .i64 t518, .int .i64 t519], .bool t520]), (21, .agg #[s_.2.2.2, .int .i64 t514, .int .i64 t515, .int .i64 t516, .int .i64 t517, .int .i64 t518, .int .i64 t519]), (22, .bool t520)]) (fun s_ w' => (w'.cell? ⟨gb483, 0, none⟩ = some (.slice A0_0 l0_0.length c0_0) ∧ w'.cell? ⟨gb483, 1, none⟩ = some (.int .i64 a0_1) ∧ w'.cell? ⟨gb483, 2, none⟩ = some (.int .i64 a0_2) ∧ w'.cell? ⟨gb483, 3, none⟩ = some (.int .i64 a0_3) ∧ w'.cell? ⟨gb483, 4, none⟩ = some (.int .i64 a0_4) ∧ w'.cell? ⟨gb483, 5, none⟩ = some (.int .i64 a0_5) ∧ w'.cell? ⟨gb483, 6, none⟩ = some (.int .i64 a0_6) ∧ w'.cell? ⟨gb484, 0, none⟩ = some (.int .i64 a1_0) ∧ w'.cell? ⟨gb484, 1, none⟩ = some (.int .i64 a1_1)) ∧ (Kd.R k41 41 w' w.heap.size (fun k_ => some k_ ≠ (s_.2.2.1 : Value).ownBlock ∧ some k_ ≠ (s_.2.2.2 : Value).ownBlock ∧ k_ ≠ gb484) s_.2.1 y505) ∧ (Kd.R k41 41 w' w.heap.size (fun k_ => some k_ ≠ (s_.2.1 : Value).ownBlock ∧ some k_ ≠ (s_.2.2.2 : Value).ownBlock ∧ k_ ≠ gb484) s_.2.2.1 y508) ∧ (Kd.R k41 41 w' w.heap.size (fun k_ => some k_ ≠ (s_.2.1 : Value).ownBlock ∧ some k_ ≠ (s_.2.2.1 : Value).ownBlock ∧ k_ ≠ gb484) s_.2.2.2 t511) ∧ (w'.heap[gb483]? = some (.cells #[.slice A0_0 l0_0.length c0_0, .int .i64 a0_1, .int .i64 a0_2, .int .i64 a0_3, .int .i64 a0_4, .int .i64 a0_5, .int .i64 a0_6] 31 (0, 0))) ∧ (w'.heap[gb484]? = some (.cells #[.int .i64 a1_0, .int .i64 a1_1] 41 (0, 0))) ∧ (w'.heap[gb485]? = some (.cells #[.slice none 0 0, .int .i64 0, .int .i64 0, .int .i64 0, .int .i64 0, .int .i64 0, .int .i64 0] 31 (0, 0))) ∧ (Below w.heap.size w w')) ?_ ?_
    rotate_left
    ·
     intro hJ1_4_5_6
     refine join_ (σ := Value × Value × Value × Nat) 6 #[true, true, true, true, true, true, false, false, false, false, true, false, false] (fun s_ => [(15, .agg #[s_.1, .int .i64 t499, .int .i64 t500, .int .i64 t501, .int .i64 t502, .int .i64 t503, .int .i64 t504]), (18, s_.2.1), (19, s_.2.2.1), (6, .pointer (some ⟨s_.2.2.2, 0, none⟩)), (16, s_.1)]) (fun s_ w' => (w'.cell? ⟨gb483, 0, none⟩ = some (.slice A0_0 l0_0.length c0_0) ∧ w'.cell? ⟨gb483, 1, none⟩ = some (.int .i64 a0_1) ∧ w'.cell? ⟨gb483, 2, none⟩ = some (.int .i64 a0_2) ∧ w'.cell? ⟨gb483, 3, none⟩ = some (.int .i64 a0_3) ∧ w'.cell? ⟨gb483, 4, none⟩ = some (.int .i64 a0_4) ∧ w'.cell? ⟨gb483, 5, none⟩ = some (.int .i64 a0_5) ∧ w'.cell? ⟨gb483, 6, none⟩ = some (.int .i64 a0_6) ∧ w'.cell? ⟨gb484, 0, none⟩ = some (.int .i64 a1_0) ∧ w'.cell? ⟨gb484, 1, none⟩ = some (.int .i64 a1_1)) ∧ (Kd.R k41 41 w' w.heap.size (fun k_ => some k_ ≠ (s_.2.2.1 : Value).ownBlock ∧ k_ ≠ gb484) s_.2.1 y505) ∧ (Kd.R k41 41 w' w.heap.size (fun k_ => some k_ ≠ (s_.2.1 : Value).ownBlock ∧ k_ ≠ gb484) s_.2.2.1 y508) ∧ (w'.heap[gb483]? = some (.cells #[.slice A0_0 l0_0.length c0_0, .int .i64 a0_1, .int .i64 a0_2, .int .i64 a0_3, .int .i64 a0_4, .int .i64 a0_5, .int .i64 a0_6] 31 (0, 0))) ∧ (w'.heap[gb484]? = some (.cells #[.int .i64 a1_0, .int .i64 a1_1] 41 (0, 0))) ∧ (w'.heap[gb485]? = some (.cells #[.slice none 0 0, .int .i64 0, .int .i64 0, .int .i64 0, .int .i64 0, .int .i64 0, .int .i64 0] 31 (0, 0))) ∧ (w'.heap[s_.2.2.2]? = some (.cells #[.slice none 0 0, .int .i64 0, .int .i64 0, .int .i64 0, .int .i64 0, .int .i64 0, .int .i64 0] 31 (0, 0))) ∧ (w.heap.size ≤ s_.2.2.2) ∧ (w.heap.size ≤ s_.2.2.2) ∧ (gb483 ≠ s_.2.2.2) ∧ (s_.2.2.2 ≠ gb483) ∧ (gb484 ≠ s_.2.2.2) ∧ (s_.2.2.2 ≠ gb484) ∧ (gb485 ≠ s_.2.2.2) ∧ (s_.2.2.2 ≠ gb485) ∧ (Below w.heap.size w w')) ?_ ?_
     rotate_left
     ·
      intro hJ1_4_5_10
      refine join_ (σ := Value × Value × Value) 7 #[true, true, true, true, true, true, false, false, false, false, false, false, false] (fun s_ => [(15, .agg #[s_.1, .int .i64 t499, .int .i64 t500, .int .i64 t501, .int .i64 t502, .int .i64 t503, .int .i64 t504]), (18, s_.2.1), (19, s_.2.2), (16, s_.1)]) (fun s_ w' => (w'.cell? ⟨gb483, 0, none⟩ = some (.slice A0_0 l0_0.length c0_0) ∧ w'.cell? ⟨gb483, 1, none⟩ = some (.int .i64 a0_1) ∧ w'.cell? ⟨gb483, 2, none⟩ = some (.int .i64 a0_2) ∧ w'.cell? ⟨gb483, 3, none⟩ = some (.int .i64 a0_3) ∧ w'.cell? ⟨gb483, 4, none⟩ = some (.int .i64 a0_4) ∧ w'.cell? ⟨gb483, 5, none⟩ = some (.int .i64 a0_5) ∧ w'.cell? ⟨gb483, 6, none⟩ = some (.int .i64 a0_6) ∧ w'.cell? ⟨gb484, 0, none⟩ = some (.int .i64 a1_0) ∧ w'.cell? ⟨gb484, 1, none⟩ = some (.int .i64 a1_1)) ∧ (Kd.R k41 41 w' w.heap.size (fun k_ => some k_ ≠ (s_.2.2 : Value).ownBlock ∧ k_ ≠ gb484) s_.2.1 y505) ∧ (Kd.R k41 41 w' w.heap.size (fun k_ => some k_ ≠ (s_.2.1 : Value).ownBlock ∧ k_ ≠ gb484) s_.2.2 y508) ∧ (w'.heap[gb483]? = some (.cells #[.slice A0_0 l0_0.length c0_0, .int .i64 a0_1, .int .i64 a0_2, .int .i64 a0_3, .int .i64 a0_4, .int .i64 a0_5, .int .i64 a0_6] 31 (0, 0))) ∧ (w'.heap[gb484]? = some (.cells #[.int .i64 a1_0, .int .i64 a1_1] 41 (0, 0))) ∧ (w'.heap[gb485]? = some (.cells #[.slice none 0 0, .int .i64 0, .int .i64 0, .int .i64 0, .int .i64 0, .int .i64 0, .int .i64 0] 31 (0, 0))) ∧ (Below w.heap.size w w')) ?_ ?_
      rotate_left
      ·
       intro hJ1_4_5
       refine join_ (σ := Value × Value × Nat) 7 #[true, true, true, true, true, false, false, false, false, false, true, false, false] (fun s_ => [(15, .agg #[s_.1, .int .i64 t499, .int .i64 t500, .int .i64 t501, .int .i64 t502, .int .i64 t503, .int .i64 t504]), (18, s_.2.1), (6, .pointer (some ⟨s_.2.2, 0, none⟩)), (16, s_.1)]) (fun s_ w' => (w'.cell? ⟨gb483, 0, none⟩ = some (.slice A0_0 l0_0.length c0_0) ∧ w'.cell? ⟨gb483, 1, none⟩ = some (.int .i64 a0_1) ∧ w'.cell? ⟨gb483, 2, none⟩ = some (.int .i64 a0_2) ∧ w'.cell? ⟨gb483, 3, none⟩ = some (.int .i64 a0_3) ∧ w'.cell? ⟨gb483, 4, none⟩ = some (.int .i64 a0_4) ∧ w'.cell? ⟨gb483, 5, none⟩ = some (.int .i64 a0_5) ∧ w'.cell? ⟨gb483, 6, none⟩ = some (.int .i64 a0_6) ∧ w'.cell? ⟨gb484, 0, none⟩ = some (.int .i64 a1_0) ∧ w'.cell? ⟨gb484, 1, none⟩ = some (.int .i64 a1_1)) ∧ (Kd.R k41 41 w' w.heap.size (fun k_ => some k_ ≠ (s_.2.1 : Value).ownBlock ∧ k_ ≠ gb484) s_.1 t496) ∧ (Kd.R k41 41 w' w.heap.size (fun k_ => some k_ ≠ (s_.1 : Value).ownBlock ∧ k_ ≠ gb484) s_.2.1 y505) ∧ (w'.heap[gb483]? = some (.cells #[.slice A0_0 l0_0.length c0_0, .int .i64 a0_1, .int .i64 a0_2, .int .i64 a0_3, .int .i64 a0_4, .int .i64 a0_5, .int .i64 a0_6] 31 (0, 0))) ∧ (w'.heap[gb484]? = some (.cells #[.int .i64 a1_0, .int .i64 a1_1] 41 (0, 0))) ∧ (w'.heap[gb485]? = some (.cells #[.slice none 0 0, .int .i64 0, .int .i64 0, .int .i64 0, .int .i64 0, .int .i64 0, .int .i64 0] 31 (0, 0))) ∧ (w'.heap[s_.2.2]? = some (.cells #[.slice none 0 0, .int .i64 0, .int .i64 0, .int .i64 0, .int .i64 0, .int .i64 0, .int .i64 0] 31 (0, 0))) ∧ (w.heap.size ≤ s_.2.2) ∧ (w.heap.size ≤ s_.2.2) ∧ (gb483 ≠ s_.2.2) ∧ (s_.2.2 ≠ gb483) ∧ (gb484 ≠ s_.2.2) ∧ (s_.2.2 ≠ gb484) ∧ (gb485 ≠ s_.2.2) ∧ (s_.2.2 ≠ gb485) ∧ (Below w.heap.size w w')) ?_ ?_
       rotate_left
       ·
        intro hJ1_4_10
        refine join_ (σ := Value × Value) 8 #[true, true, true, true, true, false, false, false, false, false, false, false, false] (fun s_ => [(15, .agg #[s_.1, .int .i64 t499, .int .i64 t500, .int .i64 t501, .int .i64 t502, .int .i64 t503, .int .i64 t504]), (18, s_.2), (16, s_.1)]) (fun s_ w' => (w'.cell? ⟨gb483, 0, none⟩ = some (.slice A0_0 l0_0.length c0_0) ∧ w'.cell? ⟨gb483, 1, none⟩ = some (.int .i64 a0_1) ∧ w'.cell? ⟨gb483, 2, none⟩ = some (.int .i64 a0_2) ∧ w'.cell? ⟨gb483, 3, none⟩ = some (.int .i64 a0_3) ∧ w'.cell? ⟨gb483, 4, none⟩ = some (.int .i64 a0_4) ∧ w'.cell? ⟨gb483, 5, none⟩ = some (.int .i64 a0_5) ∧ w'.cell? ⟨gb483, 6, none⟩ = some (.int .i64 a0_6) ∧ w'.cell? ⟨gb484, 0, none⟩ = some (.int .i64 a1_0) ∧ w'.cell? ⟨gb484, 1, none⟩ = some (.int .i64 a1_1)) ∧ (Kd.R k41 41 w' w.heap.size (fun k_ => some k_ ≠ (s_.2 : Value).ownBlock ∧ k_ ≠ gb484) s_.1 t496) ∧ (Kd.R k41 41 w' w.heap.size (fun k_ => some k_ ≠ (s_.1 : Value).ownBlock ∧ k_ ≠ gb484) s_.2 y505) ∧ (w'.heap[gb483]? = some (.cells #[.slice A0_0 l0_0.length c0_0, .int .i64 a0_1, .int .i64 a0_2, .int .i64 a0_3, .int .i64 a0_4, .int .i64 a0_5, .int .i64 a0_6] 31 (0, 0))) ∧ (w'.heap[gb484]? = some (.cells #[.int .i64 a1_0, .int .i64 a1_1] 41 (0, 0))) ∧ (w'.heap[gb485]? = some (.cells #[.slice none 0 0, .int .i64 0, .int .i64 0, .int .i64 0, .int .i64 0, .int .i64 0, .int .i64 0] 31 (0, 0))) ∧ (Below w.heap.size w w')) ?_ ?_
        rotate_left
        ·
         intro hJ1_4
         refine join_ (σ := Value × Nat) 8 #[true, true, true, true, false, false, false, false, false, false, true, false, false] (fun s_ => [(15, .agg #[s_.1, .int .i64 t499, .int .i64 t500, .int .i64 t501, .int .i64 t502, .int .i64 t503, .int .i64 t504]), (6, .pointer (some ⟨s_.2, 0, none⟩)), (16, s_.1)]) (fun s_ w' => (w'.cell? ⟨gb483, 0, none⟩ = some (.slice A0_0 l0_0.length c0_0) ∧ w'.cell? ⟨gb483, 1, none⟩ = some (.int .i64 a0_1) ∧ w'.cell? ⟨gb483, 2, none⟩ = some (.int .i64 a0_2) ∧ w'.cell? ⟨gb483, 3, none⟩ = some (.int .i64 a0_3) ∧ w'.cell? ⟨gb483, 4, none⟩ = some (.int .i64 a0_4) ∧ w'.cell? ⟨gb483, 5, none⟩ = some (.int .i64 a0_5) ∧ w'.cell? ⟨gb483, 6, none⟩ = some (.int .i64 a0_6) ∧ w'.cell? ⟨gb484, 0, none⟩ = some (.int .i64 a1_0) ∧ w'.cell? ⟨gb484, 1, none⟩ = some (.int .i64 a1_1)) ∧ (Kd.R k41 41 w' w.heap.size (fun k_ => k_ ≠ gb484) s_.1 t496) ∧ (w'.heap[gb483]? = some (.cells #[.slice A0_0 l0_0.length c0_0, .int .i64 a0_1, .int .i64 a0_2, .int .i64 a0_3, .int .i64 a0_4, .int .i64 a0_5, .int .i64 a0_6] 31 (0, 0))) ∧ (w'.heap[gb484]? = some (.cells #[.int .i64 a1_0, .int .i64 a1_1] 41 (0, 0))) ∧ (w'.heap[gb485]? = some (.cells #[.slice none 0 0, .int .i64 0, .int .i64 0, .int .i64 0, .int .i64 0, .int .i64 0, .int .i64 0] 31 (0, 0))) ∧ (w'.heap[s_.2]? = some (.cells #[.slice none 0 0, .int .i64 0, .int .i64 0, .int .i64 0, .int .i64 0, .int .i64 0, .int .i64 0] 31 (0, 0))) ∧ (w.heap.size ≤ s_.2) ∧ (w.heap.size ≤ s_.2) ∧ (gb483 ≠ s_.2) ∧ (s_.2 ≠ gb483) ∧ (gb484 ≠ s_.2) ∧ (s_.2 ≠ gb484) ∧ (gb485 ≠ s_.2) ∧ (s_.2 ≠ gb485) ∧ (Below w.heap.size w w')) ?_ ?_
         rotate_left
         ·
          intro hJ1_10
          refine join_ (σ := Value × Nat) 9 #[true, false, false, true, true, false, false, false, false, false, true, false, false] (fun s_ => [(18, s_.1), (6, .pointer (some ⟨s_.2, 0, none⟩))]) (fun s_ w' => (w'.cell? ⟨gb483, 0, none⟩ = some (.slice A0_0 l0_0.length c0_0) ∧ w'.cell? ⟨gb483, 1, none⟩ = some (.int .i64 a0_1) ∧ w'.cell? ⟨gb483, 2, none⟩ = some (.int .i64 a0_2) ∧ w'.cell? ⟨gb483, 3, none⟩ = some (.int .i64 a0_3) ∧ w'.cell? ⟨gb483, 4, none⟩ = some (.int .i64 a0_4) ∧ w'.cell? ⟨gb483, 5, none⟩ = some (.int .i64 a0_5) ∧ w'.cell? ⟨gb483, 6, none⟩ = some (.int .i64 a0_6) ∧ w'.cell? ⟨gb484, 0, none⟩ = some (.int .i64 a1_0) ∧ w'.cell? ⟨gb484, 1, none⟩ = some (.int .i64 a1_1)) ∧ (Kd.R k41 41 w' w.heap.size (fun k_ => k_ ≠ gb484) s_.1 y505) ∧ (w'.heap[gb483]? = some (.cells #[.slice A0_0 l0_0.length c0_0, .int .i64 a0_1, .int .i64 a0_2, .int .i64 a0_3, .int .i64 a0_4, .int .i64 a0_5, .int .i64 a0_6] 31 (0, 0))) ∧ (w'.heap[gb484]? = some (.cells #[.int .i64 a1_0, .int .i64 a1_1] 41 (0, 0))) ∧ (w'.heap[gb485]? = some (.cells #[.slice none 0 0, .int .i64 0, .int .i64 0, .int .i64 0, .int .i64 0, .int .i64 0, .int .i64 0] 31 (0, 0))) ∧ (w'.heap[s_.2]? = some (.cells #[.slice none 0 0, .int .i64 0, .int .i64 0, .int .i64 0, .int .i64 0, .int .i64 0, .int .i64 0] 31 (0, 0))) ∧ (w.heap.size ≤ s_.2) ∧ (w.heap.size ≤ s_.2) ∧ (gb483 ≠ s_.2) ∧ (s_.2 ≠ gb483) ∧ (gb484 ≠ s_.2) ∧ (s_.2 ≠ gb484) ∧ (gb485 ≠ s_.2) ∧ (s_.2 ≠ gb485) ∧ (Below w.heap.size w w')) ?_ ?_
          rotate_left
          ·
           intro hJ4_10
           refine join_ (σ := Value) 9 #[true, true, true, true, false, false, false, false, false, false, false, false, false] (fun s_ => [(15, .agg #[s_, .int .i64 t499, .int .i64 t500, .int .i64 t501, .int .i64 t502, .int .i64 t503, .int .i64 t504]), (16, s_)]) (fun s_ w' => (w'.cell? ⟨gb483, 0, none⟩ = some (.slice A0_0 l0_0.length c0_0) ∧ w'.cell? ⟨gb483, 1, none⟩ = some (.int .i64 a0_1) ∧ w'.cell? ⟨gb483, 2, none⟩ = some (.int .i64 a0_2) ∧ w'.cell? ⟨gb483, 3, none⟩ = some (.int .i64 a0_3) ∧ w'.cell? ⟨gb483, 4, none⟩ = some (.int .i64 a0_4) ∧ w'.cell? ⟨gb483, 5, none⟩ = some (.int .i64 a0_5) ∧ w'.cell? ⟨gb483, 6, none⟩ = some (.int .i64 a0_6) ∧ w'.cell? ⟨gb484, 0, none⟩ = some (.int .i64 a1_0) ∧ w'.cell? ⟨gb484, 1, none⟩ = some (.int .i64 a1_1)) ∧ (Kd.R k41 41 w' w.heap.size (fun k_ => k_ ≠ gb484) s_ t496) ∧ (w'.heap[gb483]? = some (.cells #[.slice A0_0 l0_0.length c0_0, .int .i64 a0_1, .int .i64 a0_2, .int .i64 a0_3, .int .i64 a0_4, .int .i64 a0_5, .int .i64 a0_6] 31 (0, 0))) ∧ (w'.heap[gb484]? = some (.cells #[.int .i64 a1_0, .int .i64 a1_1] 41 (0, 0))) ∧ (w'.heap[gb485]? = some (.cells #[.slice none 0 0, .int .i64 0, .int .i64 0, .int .i64 0, .int .i64 0, .int .i64 0, .int .i64 0] 31 (0, 0))) ∧ (Below w.heap.size w w')) ?_ ?_
           rotate_left
           ·
            intro hJ1
            refine join_ (σ := Value) 10 #[true, false, false, true, true, false, false, false, false, false, false, false, false] (fun s_ => [(18, s_)]) (fun s_ w' => (w'.cell? ⟨gb483, 0, none⟩ = some (.slice A0_0 l0_0.length c0_0) ∧ w'.cell? ⟨gb483, 1, none⟩ = some (.int .i64 a0_1) ∧ w'.cell? ⟨gb483, 2, none⟩ = some (.int .i64 a0_2) ∧ w'.cell? ⟨gb483, 3, none⟩ = some (.int .i64 a0_3) ∧ w'.cell? ⟨gb483, 4, none⟩ = some (.int .i64 a0_4) ∧ w'.cell? ⟨gb483, 5, none⟩ = some (.int .i64 a0_5) ∧ w'.cell? ⟨gb483, 6, none⟩ = some (.int .i64 a0_6) ∧ w'.cell? ⟨gb484, 0, none⟩ = some (.int .i64 a1_0) ∧ w'.cell? ⟨gb484, 1, none⟩ = some (.int .i64 a1_1)) ∧ (Kd.R k41 41 w' w.heap.size (fun k_ => k_ ≠ gb484) s_ y505) ∧ (w'.heap[gb483]? = some (.cells #[.slice A0_0 l0_0.length c0_0, .int .i64 a0_1, .int .i64 a0_2, .int .i64 a0_3, .int .i64 a0_4, .int .i64 a0_5, .int .i64 a0_6] 31 (0, 0))) ∧ (w'.heap[gb484]? = some (.cells #[.int .i64 a1_0, .int .i64 a1_1] 41 (0, 0))) ∧ (w'.heap[gb485]? = some (.cells #[.slice none 0 0, .int .i64 0, .int .i64 0, .int .i64 0, .int .i64 0, .int .i64 0, .int .i64 0] 31 (0, 0))) ∧ (Below w.heap.size w w')) ?_ ?_
            rotate_left
            ·
             intro hJ4
             refine join_ (σ := Nat) 10 #[true, false, false, true, false, false, false, false, false, false, true, false, false] (fun s_ => [(6, .pointer (some ⟨s_, 0, none⟩))]) (fun s_ w' => (w'.cell? ⟨gb483, 0, none⟩ = some (.slice A0_0 l0_0.length c0_0) ∧ w'.cell? ⟨gb483, 1, none⟩ = some (.int .i64 a0_1) ∧ w'.cell? ⟨gb483, 2, none⟩ = some (.int .i64 a0_2) ∧ w'.cell? ⟨gb483, 3, none⟩ = some (.int .i64 a0_3) ∧ w'.cell? ⟨gb483, 4, none⟩ = some (.int .i64 a0_4) ∧ w'.cell? ⟨gb483, 5, none⟩ = some (.int .i64 a0_5) ∧ w'.cell? ⟨gb483, 6, none⟩ = some (.int .i64 a0_6) ∧ w'.cell? ⟨gb484, 0, none⟩ = some (.int .i64 a1_0) ∧ w'.cell? ⟨gb484, 1, none⟩ = some (.int .i64 a1_1)) ∧ (w'.heap[gb483]? = some (.cells #[.slice A0_0 l0_0.length c0_0, .int .i64 a0_1, .int .i64 a0_2, .int .i64 a0_3, .int .i64 a0_4, .int .i64 a0_5, .int .i64 a0_6] 31 (0, 0))) ∧ (w'.heap[gb484]? = some (.cells #[.int .i64 a1_0, .int .i64 a1_1] 41 (0, 0))) ∧ (w'.heap[gb485]? = some (.cells #[.slice none 0 0, .int .i64 0, .int .i64 0, .int .i64 0, .int .i64 0, .int .i64 0, .int .i64 0] 31 (0, 0))) ∧ (w'.heap[s_]? = some (.cells #[.slice none 0 0, .int .i64 0, .int .i64 0, .int .i64 0, .int .i64 0, .int .i64 0, .int .i64 0] 31 (0, 0))) ∧ (w.heap.size ≤ s_) ∧ (w.heap.size ≤ s_) ∧ (gb483 ≠ s_) ∧ (s_ ≠ gb483) ∧ (gb484 ≠ s_) ∧ (s_ ≠ gb484) ∧ (gb485 ≠ s_) ∧ (s_ ≠ gb485) ∧ (Below w.heap.size w w')) ?_ ?_
             rotate_left
             ·
              intro hJ10
              refine three_ (i := 1) (j := 4) (k := 10) (Ni := some 15) (Nj := some 18) (Nk := some 6) #[true, true, false, true, false, false, false, false, false, false, false, false, false] #[true, false, false, true, true, false, false, false, false, false, false, false, false] #[true, false, false, true, false, false, false, false, false, false, true, false, false] rfl rfl rfl rfl rfl rfl (three_of HT_.out (by kernel_rfl)) (by decide) (by decide) (by decide) (fun K hK => ?_) (fun K hK => ?_) (fun K hK => ?_)
              ·
               skip
               refine goes_ Try.func56 (by kernel_rfl) rfl #[.agg #[.slice A0_0 l0_0.length c0_0, .int .i64 a0_1, .int .i64 a0_2, .int .i64 a0_3, .int .i64 a0_4, .int .i64 a0_5, .int .i64 a0_6]] (by rfl) rfl rfl (by (try simp only [List.map_toArray, List.map_cons, List.map_nil]); first | done | rfl | (simp only [List.length_drop, List.length_take]; rfl)) ?_
               with_reducible refine (impl_bookCopy.calls _ _ l0_0 a0_1 a0_2 a0_3 a0_4 a0_5 a0_6 t496 t499 t500 t501 t502 t503 t504 _ ?side1 ?side2 A13.out).mono ?_
               (case side1 => exact Kd.Cq (Kd.C_below HR0_0.out HB.out))
               (case side2 => exact HC0_0.out)
               rintro e w18 ⟨v497, rfl, ho0, hb⟩
               refine ⟨_, rfl, ?_⟩
               have HO498 := Aside0.mk (Kd.R_lower (Kd.R_newB ho0 (g := gb484) (o := .cells #[.int .i64 a1_0, .int .i64 a1_1] 41 (0, 0)) (bkq BK484.out)) (below_size (blq HB.out)))
               replace BK483 := bkb BK483 hb
               replace BK484 := bkb BK484 hb
               replace BK485 := bkb BK485 hb
               replace HB := hbs HB hb
               (try clear hb)
               (try clear hb2)
               (try clear hk)
               (try clear hi)
               (try clear ho0)
               refine hK.out _ _ ⟨bc BK483 0, bc BK483 1, bc BK483 2, bc BK483 3, bc BK483 4, bc BK483 5, bc BK483 6, bc BK484 0, bc BK484 1⟩ (fun hHeld => ?_)
               clear hK K
               refine norm_ (a' := ?_) ?_ ?_
               rotate_left
               ·
                show Act.put _ (some 15) _ = _
                simp only [Act.put, List.setIfInBounds_toArray, List.set_cons_zero, List.set_cons_succ, i64_w, i32_w]
                rfl
               refine pure_ (i := 2) (N := some 16) (v := ?_) (a' := ?_) #[true, true, true, true, false, false, false, false, false, false, false, false, false] rfl rfl (any_of HT_.out (by kernel_rfl)) (fun _ _ _ h => h) (Or.inl ⟨by rfl, ?_⟩) ?_ ?_
               rotate_left
               ·
                intro w'
                go_simp
                with_reducible rfl
               rotate_left
               ·
                simp only [Act.put, List.setIfInBounds_toArray, List.set_cons_zero, List.set_cons_succ, i64_w, i32_w]
                rfl
               exact norm_ (by first | (simp only [putAll, Act.put, List.setIfInBounds_toArray, List.set_cons_zero, List.set_cons_succ]; done) | (simp only [putAll, Act.put, List.setIfInBounds_toArray, List.set_cons_zero, List.set_cons_succ]; rfl)) (hJ1 (v497) _ ⟨hHeld, (Kd.Rq (Kd.R_mono HO498.out (fun _ hk => hk.2))), (bkq BK483.out), (bkq BK484.out), (bkq BK485.out), (blq HB.out)⟩)
              ·
               skip
               refine Kd.R_lit_step k41 _ 41 ?hg (N := 18) ?hd (xs := ([(⟨a1_0, a1_1⟩ : S41)] : List (S41))) (inner := [.int .i64 a1_0, .int .i64 a1_1]) (ok := fun _ => True) (okp := fun _ => True) ?hr ?hp (fun _ hk => hk) trivial (Below.refl _ _) (Nat.le_refl _) (by simp) ?_; (case hd => rfl); (case hg => rfl); (case hr => first | (go_simp; done) | (go_simp; rfl)); (case hp => exact (Reps.c2 (show Kd.M k41 _ _ _ (⟨a1_0, a1_1⟩ : S41) [.int .i64 a1_0, .int .i64 a1_1] from (k41_mkM _ _ _ (⟨a1_0, a1_1⟩ : S41) )) (Reps.none _ _)))
               intro v506 w18 ho19 hb hg_ hnew_
               clear hg_ hnew_
               (first | rw [← Ny505.out] at ho19 | (simp only [Int.reduceToNat] at ho19; rw [← Ny505.out] at ho19))
               have HO507 := Aside0.mk (Kd.R_lower (Kd.R_newB ho19 (g := gb484) (o := .cells #[.int .i64 a1_0, .int .i64 a1_1] 41 (0, 0)) (bkq BK484.out)) (below_size (blq HB.out)))
               replace BK483 := bkb BK483 hb
               replace BK484 := bkb BK484 hb
               replace BK485 := bkb BK485 hb
               replace HB := hbs HB hb
               clear hb ho19
               refine hK.out _ _ ⟨bc BK483 0, bc BK483 1, bc BK483 2, bc BK483 3, bc BK483 4, bc BK483 5, bc BK483 6, bc BK484 0, bc BK484 1⟩ (fun hHeld => ?_)
               clear hK K
               refine norm_ (a' := ?_) ?_ ?_
               rotate_left
               ·
                show Act.put _ (some 18) _ = _
                simp only [Act.put, List.setIfInBounds_toArray, List.set_cons_zero, List.set_cons_succ, i64_w, i32_w]
                rfl
               exact norm_ (by first | (simp only [putAll, Act.put, List.setIfInBounds_toArray, List.set_cons_zero, List.set_cons_succ]; done) | (simp only [putAll, Act.put, List.setIfInBounds_toArray, List.set_cons_zero, List.set_cons_succ]; rfl)) (hJ4 (v506) _ ⟨hHeld, (Kd.Rq (Kd.R_mono HO507.out (fun _ hk => hk.2))), (bkq BK483.out), (bkq BK484.out), (bkq BK485.out), (blq HB.out)⟩)
              ·
               skip
               refine box_step ?hg (N := 6) ?hd (cs := #[.slice none 0 0, .int .i64 0, .int .i64 0, .int .i64 0, .int .i64 0, .int .i64 0, .int .i64 0]) (t := 31) ?hr ?_; (case hd => rfl); (case hg => rfl); (case hr => first | (go_simp; done) | (go_simp; rfl))
               intro gb521 hg w18 hbox hb
               have BK521 := Aside0.mk (hbox)
               have GW521 := sQ hg HB
               have GE521 := sQ hg HB
               have NB483_521 := qL hg BK483
               have NB521_483 := qG hg BK483
               have NB484_521 := qL hg BK484
               have NB521_484 := qG hg BK484
               have NB485_521 := qL hg BK485
               have NB521_485 := qG hg BK485
               replace BK483 := bkb BK483 hb
               replace BK484 := bkb BK484 hb
               replace BK485 := bkb BK485 hb
               replace HB := hbs HB hb
               clear hb hbox hg
               refine hK.out _ _ ⟨bc BK483 0, bc BK483 1, bc BK483 2, bc BK483 3, bc BK483 4, bc BK483 5, bc BK483 6, bc BK484 0, bc BK484 1⟩ (fun hHeld => ?_)
               clear hK K
               refine norm_ (a' := ?_) ?_ ?_
               rotate_left
               ·
                show Act.put _ (some 6) _ = _
                simp only [Act.put, List.setIfInBounds_toArray, List.set_cons_zero, List.set_cons_succ, i64_w, i32_w]
                rfl
               exact norm_ (by first | (simp only [putAll, Act.put, List.setIfInBounds_toArray, List.set_cons_zero, List.set_cons_succ]; done) | (simp only [putAll, Act.put, List.setIfInBounds_toArray, List.set_cons_zero, List.set_cons_succ]; rfl)) (hJ10 (gb521) _ ⟨hHeld, (bkq BK483.out), (bkq BK484.out), (bkq BK485.out), (bkq BK521.out), GW521.out, GE521.out, NB483_521.out, NB521_483.out, NB484_521.out, NB521_484.out, NB485_521.out, NB521_485.out, (blq HB.out)⟩)
             ·
              skip
              rintro gb521 w19 ⟨hS_, h0_, h1_, h2_, h3_, h4_, h5_, h6_, h7_, h8_, h9_, h10_, h11_, h12_⟩
              have n0_ : Aside0 (w19.heap[gb483]? = some (.cells #[.slice A0_0 l0_0.length c0_0, .int .i64 a0_1, .int .i64 a0_2, .int .i64 a0_3, .int .i64 a0_4, .int .i64 a0_5, .int .i64 a0_6] 31 (0, 0))) := ⟨h0_⟩
              have n1_ : Aside0 (w19.heap[gb484]? = some (.cells #[.int .i64 a1_0, .int .i64 a1_1] 41 (0, 0))) := ⟨h1_⟩
              have n2_ : Aside0 (w19.heap[gb485]? = some (.cells #[.slice none 0 0, .int .i64 0, .int .i64 0, .int .i64 0, .int .i64 0, .int .i64 0, .int .i64 0] 31 (0, 0))) := ⟨h2_⟩
              have n3_ : Aside0 (w19.heap[gb521]? = some (.cells #[.slice none 0 0, .int .i64 0, .int .i64 0, .int .i64 0, .int .i64 0, .int .i64 0, .int .i64 0] 31 (0, 0))) := ⟨h3_⟩
              have n4_ : Aside0 (w.heap.size ≤ gb521) := ⟨h4_⟩
              have n5_ : Aside0 (w.heap.size ≤ gb521) := ⟨h5_⟩
              have n6_ : Aside0 (gb483 ≠ gb521) := ⟨h6_⟩
              have n7_ : Aside0 (gb521 ≠ gb483) := ⟨h7_⟩
              have n8_ : Aside0 (gb484 ≠ gb521) := ⟨h8_⟩
              have n9_ : Aside0 (gb521 ≠ gb484) := ⟨h9_⟩
              have n10_ : Aside0 (gb485 ≠ gb521) := ⟨h10_⟩
              have n11_ : Aside0 (gb521 ≠ gb485) := ⟨h11_⟩
              have n12_ : Aside0 (Below w.heap.size w w19) := ⟨h12_⟩
              clear BK483
              clear BK484
              clear BK485
              clear HB
              clear h0_ h1_ h2_ h3_ h4_ h5_ h6_ h7_ h8_ h9_ h10_ h11_ h12_
              have BK483 := n0_
              have BK484 := n1_
              have BK485 := n2_
              have BK521 := n3_
              have GW521 := n4_
              have GE521 := n5_
              have NB483_521 := n6_
              have NB521_483 := n7_
              have NB484_521 := n8_
              have NB521_484 := n9_
              have NB485_521 := n10_
              have NB521_485 := n11_
              have HB := n12_
              clear n0_ n1_ n2_ n3_ n4_ n5_ n6_ n7_ n8_ n9_ n10_ n11_ n12_
              have hHeld : w19.cell? ⟨gb483, 0, none⟩ = some (.slice A0_0 l0_0.length c0_0) ∧ w19.cell? ⟨gb483, 1, none⟩ = some (.int .i64 a0_1) ∧ w19.cell? ⟨gb483, 2, none⟩ = some (.int .i64 a0_2) ∧ w19.cell? ⟨gb483, 3, none⟩ = some (.int .i64 a0_3) ∧ w19.cell? ⟨gb483, 4, none⟩ = some (.int .i64 a0_4) ∧ w19.cell? ⟨gb483, 5, none⟩ = some (.int .i64 a0_5) ∧ w19.cell? ⟨gb483, 6, none⟩ = some (.int .i64 a0_6) ∧ w19.cell? ⟨gb484, 0, none⟩ = some (.int .i64 a1_0) ∧ w19.cell? ⟨gb484, 1, none⟩ = some (.int .i64 a1_1) := hS_
              refine norm_ (a' := ?_) ?_ ?_
              rotate_left
              ·
               simp only [putAll, Act.put, List.setIfInBounds_toArray, List.set_cons_zero, List.set_cons_succ]
               rfl
              refine two_ (i := 1) (j := 4) (Ni := some 15) (Nj := some 18) #[true, true, false, true, false, false, false, false, false, false, true, false, false] #[true, false, false, true, true, false, false, false, false, false, true, false, false] rfl rfl rfl rfl (two_of HT_.out (by kernel_rfl)) (by decide) (by decide) (fun K hK => ?_) (fun K hK => ?_)
              ·
               skip
               refine goes_ Try.func56 (by kernel_rfl) rfl #[.agg #[.slice A0_0 l0_0.length c0_0, .int .i64 a0_1, .int .i64 a0_2, .int .i64 a0_3, .int .i64 a0_4, .int .i64 a0_5, .int .i64 a0_6]] (by rfl) rfl rfl (by (try simp only [List.map_toArray, List.map_cons, List.map_nil]); first | done | rfl | (simp only [List.length_drop, List.length_take]; rfl)) ?_
               with_reducible refine (impl_bookCopy.calls _ _ l0_0 a0_1 a0_2 a0_3 a0_4 a0_5 a0_6 t496 t499 t500 t501 t502 t503 t504 _ ?side1 ?side2 A13.out).mono ?_
               (case side1 => exact Kd.Cq (Kd.C_below HR0_0.out HB.out))
               (case side2 => exact HC0_0.out)
               rintro e w20 ⟨v497, rfl, ho0, hb⟩
               refine ⟨_, rfl, ?_⟩
               have HO498 := Aside0.mk (Kd.R_lower (Kd.R_newB ho0 (g := gb484) (o := .cells #[.int .i64 a1_0, .int .i64 a1_1] 41 (0, 0)) (bkq BK484.out)) (below_size (blq HB.out)))
               replace BK483 := bkb BK483 hb
               replace BK484 := bkb BK484 hb
               replace BK485 := bkb BK485 hb
               replace BK521 := bkb BK521 hb
               replace HB := hbs HB hb
               (try clear hb)
               (try clear hb2)
               (try clear hk)
               (try clear hi)
               (try clear ho0)
               refine hK.out _ _ ⟨bc BK483 0, bc BK483 1, bc BK483 2, bc BK483 3, bc BK483 4, bc BK483 5, bc BK483 6, bc BK484 0, bc BK484 1⟩ (fun hHeld => ?_)
               clear hK K
               refine norm_ (a' := ?_) ?_ ?_
               rotate_left
               ·
                show Act.put _ (some 15) _ = _
                simp only [Act.put, List.setIfInBounds_toArray, List.set_cons_zero, List.set_cons_succ, i64_w, i32_w]
                rfl
               refine pure_ (i := 2) (N := some 16) (v := ?_) (a' := ?_) #[true, true, true, true, false, false, false, false, false, false, true, false, false] rfl rfl (any_of HT_.out (by kernel_rfl)) (fun _ _ _ h => h) (Or.inl ⟨by rfl, ?_⟩) ?_ ?_
               rotate_left
               ·
                intro w'
                go_simp
                with_reducible rfl
               rotate_left
               ·
                simp only [Act.put, List.setIfInBounds_toArray, List.set_cons_zero, List.set_cons_succ, i64_w, i32_w]
                rfl
               exact norm_ (by first | (simp only [putAll, Act.put, List.setIfInBounds_toArray, List.set_cons_zero, List.set_cons_succ]; done) | (simp only [putAll, Act.put, List.setIfInBounds_toArray, List.set_cons_zero, List.set_cons_succ]; rfl)) (hJ1_10 (v497, gb521) _ ⟨hHeld, (Kd.Rq (Kd.R_mono HO498.out (fun _ hk => hk.2))), (bkq BK483.out), (bkq BK484.out), (bkq BK485.out), (bkq BK521.out), GW521.out, GE521.out, NB483_521.out, NB521_483.out, NB484_521.out, NB521_484.out, NB485_521.out, NB521_485.out, (blq HB.out)⟩)
              ·
               skip
               refine Kd.R_lit_step k41 _ 41 ?hg (N := 18) ?hd (xs := ([(⟨a1_0, a1_1⟩ : S41)] : List (S41))) (inner := [.int .i64 a1_0, .int .i64 a1_1]) (ok := fun _ => True) (okp := fun _ => True) ?hr ?hp (fun _ hk => hk) trivial (Below.refl _ _) (Nat.le_refl _) (by simp) ?_; (case hd => rfl); (case hg => rfl); (case hr => first | (go_simp; done) | (go_simp; rfl)); (case hp => exact (Reps.c2 (show Kd.M k41 _ _ _ (⟨a1_0, a1_1⟩ : S41) [.int .i64 a1_0, .int .i64 a1_1] from (k41_mkM _ _ _ (⟨a1_0, a1_1⟩ : S41) )) (Reps.none _ _)))
               intro v506 w20 ho21 hb hg_ hnew_
               clear hg_ hnew_
               (first | rw [← Ny505.out] at ho21 | (simp only [Int.reduceToNat] at ho21; rw [← Ny505.out] at ho21))
               have HO507 := Aside0.mk (Kd.R_lower (Kd.R_newB ho21 (g := gb484) (o := .cells #[.int .i64 a1_0, .int .i64 a1_1] 41 (0, 0)) (bkq BK484.out)) (below_size (blq HB.out)))
               replace BK483 := bkb BK483 hb
               replace BK484 := bkb BK484 hb
               replace BK485 := bkb BK485 hb
               replace BK521 := bkb BK521 hb
               replace HB := hbs HB hb
               clear hb ho21
               refine hK.out _ _ ⟨bc BK483 0, bc BK483 1, bc BK483 2, bc BK483 3, bc BK483 4, bc BK483 5, bc BK483 6, bc BK484 0, bc BK484 1⟩ (fun hHeld => ?_)
               clear hK K
               refine norm_ (a' := ?_) ?_ ?_
               rotate_left
               ·
                show Act.put _ (some 18) _ = _
                simp only [Act.put, List.setIfInBounds_toArray, List.set_cons_zero, List.set_cons_succ, i64_w, i32_w]
                rfl
               exact norm_ (by first | (simp only [putAll, Act.put, List.setIfInBounds_toArray, List.set_cons_zero, List.set_cons_succ]; done) | (simp only [putAll, Act.put, List.setIfInBounds_toArray, List.set_cons_zero, List.set_cons_succ]; rfl)) (hJ4_10 (v506, gb521) _ ⟨hHeld, (Kd.Rq (Kd.R_mono HO507.out (fun _ hk => hk.2))), (bkq BK483.out), (bkq BK484.out), (bkq BK485.out), (bkq BK521.out), GW521.out, GE521.out, NB483_521.out, NB521_483.out, NB484_521.out, NB521_484.out, NB485_521.out, NB521_485.out, (blq HB.out)⟩)
            ·
             skip
             rintro v506 w20 ⟨hS_, h0_, h1_, h2_, h3_, h4_⟩
             have n0_ : Aside0 (Kd.R k41 41 w20 w.heap.size (fun k_ => k_ ≠ gb484) v506 y505) := ⟨h0_⟩
             have n1_ : Aside0 (w20.heap[gb483]? = some (.cells #[.slice A0_0 l0_0.length c0_0, .int .i64 a0_1, .int .i64 a0_2, .int .i64 a0_3, .int .i64 a0_4, .int .i64 a0_5, .int .i64 a0_6] 31 (0, 0))) := ⟨h1_⟩
             have n2_ : Aside0 (w20.heap[gb484]? = some (.cells #[.int .i64 a1_0, .int .i64 a1_1] 41 (0, 0))) := ⟨h2_⟩
             have n3_ : Aside0 (w20.heap[gb485]? = some (.cells #[.slice none 0 0, .int .i64 0, .int .i64 0, .int .i64 0, .int .i64 0, .int .i64 0, .int .i64 0] 31 (0, 0))) := ⟨h3_⟩
             have n4_ : Aside0 (Below w.heap.size w w20) := ⟨h4_⟩
             clear BK483
             clear BK484
             clear BK485
             clear HB
             clear h0_ h1_ h2_ h3_ h4_
             have HO507 := n0_
             have BK483 := n1_
             have BK484 := n2_
             have BK485 := n3_
             have HB := n4_
             clear n0_ n1_ n2_ n3_ n4_
             have hHeld : w20.cell? ⟨gb483, 0, none⟩ = some (.slice A0_0 l0_0.length c0_0) ∧ w20.cell? ⟨gb483, 1, none⟩ = some (.int .i64 a0_1) ∧ w20.cell? ⟨gb483, 2, none⟩ = some (.int .i64 a0_2) ∧ w20.cell? ⟨gb483, 3, none⟩ = some (.int .i64 a0_3) ∧ w20.cell? ⟨gb483, 4, none⟩ = some (.int .i64 a0_4) ∧ w20.cell? ⟨gb483, 5, none⟩ = some (.int .i64 a0_5) ∧ w20.cell? ⟨gb483, 6, none⟩ = some (.int .i64 a0_6) ∧ w20.cell? ⟨gb484, 0, none⟩ = some (.int .i64 a1_0) ∧ w20.cell? ⟨gb484, 1, none⟩ = some (.int .i64 a1_1) := hS_
             refine norm_ (a' := ?_) ?_ ?_
             rotate_left
             ·
              simp only [putAll, Act.put, List.setIfInBounds_toArray, List.set_cons_zero, List.set_cons_succ]
              rfl
             refine two_ (i := 1) (j := 10) (Ni := some 15) (Nj := some 6) #[true, true, false, true, true, false, false, false, false, false, false, false, false] #[true, false, false, true, true, false, false, false, false, false, true, false, false] rfl rfl rfl rfl (two_of HT_.out (by kernel_rfl)) (by decide) (by decide) (fun K hK => ?_) (fun K hK => ?_)
             ·
              skip
              refine goes_ Try.func56 (by kernel_rfl) rfl #[.agg #[.slice A0_0 l0_0.length c0_0, .int .i64 a0_1, .int .i64 a0_2, .int .i64 a0_3, .int .i64 a0_4, .int .i64 a0_5, .int .i64 a0_6]] (by rfl) rfl rfl (by (try simp only [List.map_toArray, List.map_cons, List.map_nil]); first | done | rfl | (simp only [List.length_drop, List.length_take]; rfl)) ?_
              with_reducible refine (impl_bookCopy.calls _ _ l0_0 a0_1 a0_2 a0_3 a0_4 a0_5 a0_6 t496 t499 t500 t501 t502 t503 t504 _ ?side1 ?side2 A13.out).mono ?_
              (case side1 => exact Kd.Cq (Kd.C_below HR0_0.out HB.out))
              (case side2 => exact HC0_0.out)
              rintro e w21 ⟨v497, rfl, ho0, hb⟩
              refine ⟨_, rfl, ?_⟩
              have HO498 := Aside0.mk (Kd.R_lower (Kd.R_newB (Kd.R_new' ho0 (Kd.R_lt (Kd.Rq HO507.out))) (g := gb484) (o := .cells #[.int .i64 a1_0, .int .i64 a1_1] 41 (0, 0)) (bkq BK484.out)) (below_size (blq HB.out)))
              replace HO507 := Aside0.mk (Kd.R_elder' (Kd.Rq HO507.out) (Kd.R_base ho0) hb)
              replace BK483 := bkb BK483 hb
              replace BK484 := bkb BK484 hb
              replace BK485 := bkb BK485 hb
              replace HB := hbs HB hb
              (try clear hb)
              (try clear hb2)
              (try clear hk)
              (try clear hi)
              (try clear ho0)
              refine hK.out _ _ ⟨bc BK483 0, bc BK483 1, bc BK483 2, bc BK483 3, bc BK483 4, bc BK483 5, bc BK483 6, bc BK484 0, bc BK484 1⟩ (fun hHeld => ?_)
              clear hK K
              refine norm_ (a' := ?_) ?_ ?_
              rotate_left
              ·
               show Act.put _ (some 15) _ = _
               simp only [Act.put, List.setIfInBounds_toArray, List.set_cons_zero, List.set_cons_succ, i64_w, i32_w]
               rfl
              refine pure_ (i := 2) (N := some 16) (v := ?_) (a' := ?_) #[true, true, true, true, true, false, false, false, false, false, false, false, false] rfl rfl (any_of HT_.out (by kernel_rfl)) (fun _ _ _ h => h) (Or.inl ⟨by rfl, ?_⟩) ?_ ?_
              rotate_left
              ·
               intro w'
               go_simp
               with_reducible rfl
              rotate_left
              ·
               simp only [Act.put, List.setIfInBounds_toArray, List.set_cons_zero, List.set_cons_succ, i64_w, i32_w]
               rfl
              exact norm_ (by first | (simp only [putAll, Act.put, List.setIfInBounds_toArray, List.set_cons_zero, List.set_cons_succ]; done) | (simp only [putAll, Act.put, List.setIfInBounds_toArray, List.set_cons_zero, List.set_cons_succ]; rfl)) (hJ1_4 (v497, v506) _ ⟨hHeld, (Kd.Rq (Kd.R_mono HO498.out (fun _ hk => ⟨hk.1.2, hk.2⟩))), (Kd.Rq (Kd.R_mono HO507.out (fun _ hk => ⟨hk.2, hk.1⟩))), (bkq BK483.out), (bkq BK484.out), (bkq BK485.out), (blq HB.out)⟩)
             ·
              skip
              refine box_step ?hg (N := 6) ?hd (cs := #[.slice none 0 0, .int .i64 0, .int .i64 0, .int .i64 0, .int .i64 0, .int .i64 0, .int .i64 0]) (t := 31) ?hr ?_; (case hd => rfl); (case hg => rfl); (case hr => first | (go_simp; done) | (go_simp; rfl))
              intro gb521 hg w21 hbox hb
              have BK521 := Aside0.mk (hbox)
              have GW521 := sQ hg HB
              have GE521 := sQ hg HB
              have NB483_521 := qL hg BK483
              have NB521_483 := qG hg BK483
              have NB484_521 := qL hg BK484
              have NB521_484 := qG hg BK484
              have NB485_521 := qL hg BK485
              have NB521_485 := qG hg BK485
              replace HO507 := rob HO507 hb
              replace BK483 := bkb BK483 hb
              replace BK484 := bkb BK484 hb
              replace BK485 := bkb BK485 hb
              replace HB := hbs HB hb
              clear hb hbox hg
              refine hK.out _ _ ⟨bc BK483 0, bc BK483 1, bc BK483 2, bc BK483 3, bc BK483 4, bc BK483 5, bc BK483 6, bc BK484 0, bc BK484 1⟩ (fun hHeld => ?_)
              clear hK K
              refine norm_ (a' := ?_) ?_ ?_
              rotate_left
              ·
               show Act.put _ (some 6) _ = _
               simp only [Act.put, List.setIfInBounds_toArray, List.set_cons_zero, List.set_cons_succ, i64_w, i32_w]
               rfl
              exact norm_ (by first | (simp only [putAll, Act.put, List.setIfInBounds_toArray, List.set_cons_zero, List.set_cons_succ]; done) | (simp only [putAll, Act.put, List.setIfInBounds_toArray, List.set_cons_zero, List.set_cons_succ]; rfl)) (hJ4_10 (v506, gb521) _ ⟨hHeld, (Kd.Rq HO507.out), (bkq BK483.out), (bkq BK484.out), (bkq BK485.out), (bkq BK521.out), GW521.out, GE521.out, NB483_521.out, NB521_483.out, NB484_521.out, NB521_484.out, NB485_521.out, NB521_485.out, (blq HB.out)⟩)
           ·
            skip
            rintro v497 w19 ⟨hS_, h0_, h1_, h2_, h3_, h4_⟩
            have n0_ : Aside0 (Kd.R k41 41 w19 w.heap.size (fun k_ => k_ ≠ gb484) v497 t496) := ⟨h0_⟩
            have n1_ : Aside0 (w19.heap[gb483]? = some (.cells #[.slice A0_0 l0_0.length c0_0, .int .i64 a0_1, .int .i64 a0_2, .int .i64 a0_3, .int .i64 a0_4, .int .i64 a0_5, .int .i64 a0_6] 31 (0, 0))) := ⟨h1_⟩
            have n2_ : Aside0 (w19.heap[gb484]? = some (.cells #[.int .i64 a1_0, .int .i64 a1_1] 41 (0, 0))) := ⟨h2_⟩
            have n3_ : Aside0 (w19.heap[gb485]? = some (.cells #[.slice none 0 0, .int .i64 0, .int .i64 0, .int .i64 0, .int .i64 0, .int .i64 0, .int .i64 0] 31 (0, 0))) := ⟨h3_⟩
            have n4_ : Aside0 (Below w.heap.size w w19) := ⟨h4_⟩
            clear BK483
            clear BK484
            clear BK485
            clear HB
            clear h0_ h1_ h2_ h3_ h4_
            have HO498 := n0_
            have BK483 := n1_
            have BK484 := n2_
            have BK485 := n3_
            have HB := n4_
            clear n0_ n1_ n2_ n3_ n4_
            have hHeld : w19.cell? ⟨gb483, 0, none⟩ = some (.slice A0_0 l0_0.length c0_0) ∧ w19.cell? ⟨gb483, 1, none⟩ = some (.int .i64 a0_1) ∧ w19.cell? ⟨gb483, 2, none⟩ = some (.int .i64 a0_2) ∧ w19.cell? ⟨gb483, 3, none⟩ = some (.int .i64 a0_3) ∧ w19.cell? ⟨gb483, 4, none⟩ = some (.int .i64 a0_4) ∧ w19.cell? ⟨gb483, 5, none⟩ = some (.int .i64 a0_5) ∧ w19.cell? ⟨gb483, 6, none⟩ = some (.int .i64 a0_6) ∧ w19.cell? ⟨gb484, 0, none⟩ = some (.int .i64 a1_0) ∧ w19.cell? ⟨gb484, 1, none⟩ = some (.int .i64 a1_1) := hS_
            refine norm_ (a' := ?_) ?_ ?_
            rotate_left
            ·
             simp only [putAll, Act.put, List.setIfInBounds_toArray, List.set_cons_zero, List.set_cons_succ]
             rfl
            refine two_ (i := 4) (j := 10) (Ni := some 18) (Nj := some 6) #[true, true, true, true, true, false, false, false, false, false, false, false, false] #[true, true, true, true, false, false, false, false, false, false, true, false, false] rfl rfl rfl rfl (two_of HT_.out (by kernel_rfl)) (by decide) (by decide) (fun K hK => ?_) (fun K hK => ?_)
            ·
             skip
             refine Kd.R_lit_step k41 _ 41 ?hg (N := 18) ?hd (xs := ([(⟨a1_0, a1_1⟩ : S41)] : List (S41))) (inner := [.int .i64 a1_0, .int .i64 a1_1]) (ok := fun _ => True) (okp := fun _ => True) ?hr ?hp (fun _ hk => hk) trivial (Below.refl _ _) (Nat.le_refl _) (by simp) ?_; (case hd => rfl); (case hg => rfl); (case hr => first | (go_simp; done) | (go_simp; rfl)); (case hp => exact (Reps.c2 (show Kd.M k41 _ _ _ (⟨a1_0, a1_1⟩ : S41) [.int .i64 a1_0, .int .i64 a1_1] from (k41_mkM _ _ _ (⟨a1_0, a1_1⟩ : S41) )) (Reps.none _ _)))
             intro v506 w20 ho21 hb hg_ hnew_
             clear hg_ hnew_
             (first | rw [← Ny505.out] at ho21 | (simp only [Int.reduceToNat] at ho21; rw [← Ny505.out] at ho21))
             have HO507 := Aside0.mk (Kd.R_lower (Kd.R_newB (Kd.R_new' ho21 (Kd.R_lt (Kd.Rq HO498.out))) (g := gb484) (o := .cells #[.int .i64 a1_0, .int .i64 a1_1] 41 (0, 0)) (bkq BK484.out)) (below_size (blq HB.out)))
             replace HO498 := Aside0.mk (Kd.R_elder' (Kd.Rq HO498.out) (Kd.R_base ho21) hb)
             replace BK483 := bkb BK483 hb
             replace BK484 := bkb BK484 hb
             replace BK485 := bkb BK485 hb
             replace HB := hbs HB hb
             clear hb ho21
             refine hK.out _ _ ⟨bc BK483 0, bc BK483 1, bc BK483 2, bc BK483 3, bc BK483 4, bc BK483 5, bc BK483 6, bc BK484 0, bc BK484 1⟩ (fun hHeld => ?_)
             clear hK K
             refine norm_ (a' := ?_) ?_ ?_
             rotate_left
             ·
              show Act.put _ (some 18) _ = _
              simp only [Act.put, List.setIfInBounds_toArray, List.set_cons_zero, List.set_cons_succ, i64_w, i32_w]
              rfl
             exact norm_ (by first | (simp only [putAll, Act.put, List.setIfInBounds_toArray, List.set_cons_zero, List.set_cons_succ]; done) | (simp only [putAll, Act.put, List.setIfInBounds_toArray, List.set_cons_zero, List.set_cons_succ]; rfl)) (hJ1_4 (v497, v506) _ ⟨hHeld, (Kd.Rq (Kd.R_mono HO498.out (fun _ hk => ⟨hk.2, hk.1⟩))), (Kd.Rq (Kd.R_mono HO507.out (fun _ hk => ⟨hk.1.2, hk.2⟩))), (bkq BK483.out), (bkq BK484.out), (bkq BK485.out), (blq HB.out)⟩)
            ·
             skip
             refine box_step ?hg (N := 6) ?hd (cs := #[.slice none 0 0, .int .i64 0, .int .i64 0, .int .i64 0, .int .i64 0, .int .i64 0, .int .i64 0]) (t := 31) ?hr ?_; (case hd => rfl); (case hg => rfl); (case hr => first | (go_simp; done) | (go_simp; rfl))
             intro gb521 hg w20 hbox hb
             have BK521 := Aside0.mk (hbox)
             have GW521 := sQ hg HB
             have GE521 := sQ hg HB
             have NB483_521 := qL hg BK483
             have NB521_483 := qG hg BK483
             have NB484_521 := qL hg BK484
             have NB521_484 := qG hg BK484
             have NB485_521 := qL hg BK485
             have NB521_485 := qG hg BK485
             replace HO498 := rob HO498 hb
             replace BK483 := bkb BK483 hb
             replace BK484 := bkb BK484 hb
             replace BK485 := bkb BK485 hb
             replace HB := hbs HB hb
             clear hb hbox hg
             refine hK.out _ _ ⟨bc BK483 0, bc BK483 1, bc BK483 2, bc BK483 3, bc BK483 4, bc BK483 5, bc BK483 6, bc BK484 0, bc BK484 1⟩ (fun hHeld => ?_)
             clear hK K
             refine norm_ (a' := ?_) ?_ ?_
             rotate_left
             ·
              show Act.put _ (some 6) _ = _
              simp only [Act.put, List.setIfInBounds_toArray, List.set_cons_zero, List.set_cons_succ, i64_w, i32_w]
              rfl
             exact norm_ (by first | (simp only [putAll, Act.put, List.setIfInBounds_toArray, List.set_cons_zero, List.set_cons_succ]; done) | (simp only [putAll, Act.put, List.setIfInBounds_toArray, List.set_cons_zero, List.set_cons_succ]; rfl)) (hJ1_10 (v497, gb521) _ ⟨hHeld, (Kd.Rq HO498.out), (bkq BK483.out), (bkq BK484.out), (bkq BK485.out), (bkq BK521.out), GW521.out, GE521.out, NB483_521.out, NB521_483.out, NB484_521.out, NB521_484.out, NB485_521.out, NB521_485.out, (blq HB.out)⟩)
          ·
           skip
           rintro ⟨v506, gb521⟩ w21 ⟨hS_, h0_, h1_, h2_, h3_, h4_, h5_, h6_, h7_, h8_, h9_, h10_, h11_, h12_, h13_⟩
           have n0_ : Aside0 (Kd.R k41 41 w21 w.heap.size (fun k_ => k_ ≠ gb484) v506 y505) := ⟨h0_⟩
           have n1_ : Aside0 (w21.heap[gb483]? = some (.cells #[.slice A0_0 l0_0.length c0_0, .int .i64 a0_1, .int .i64 a0_2, .int .i64 a0_3, .int .i64 a0_4, .int .i64 a0_5, .int .i64 a0_6] 31 (0, 0))) := ⟨h1_⟩
           have n2_ : Aside0 (w21.heap[gb484]? = some (.cells #[.int .i64 a1_0, .int .i64 a1_1] 41 (0, 0))) := ⟨h2_⟩
           have n3_ : Aside0 (w21.heap[gb485]? = some (.cells #[.slice none 0 0, .int .i64 0, .int .i64 0, .int .i64 0, .int .i64 0, .int .i64 0, .int .i64 0] 31 (0, 0))) := ⟨h3_⟩
           have n4_ : Aside0 (w21.heap[gb521]? = some (.cells #[.slice none 0 0, .int .i64 0, .int .i64 0, .int .i64 0, .int .i64 0, .int .i64 0, .int .i64 0] 31 (0, 0))) := ⟨h4_⟩
           have n5_ : Aside0 (w.heap.size ≤ gb521) := ⟨h5_⟩
           have n6_ : Aside0 (w.heap.size ≤ gb521) := ⟨h6_⟩
           have n7_ : Aside0 (gb483 ≠ gb521) := ⟨h7_⟩
           have n8_ : Aside0 (gb521 ≠ gb483) := ⟨h8_⟩
           have n9_ : Aside0 (gb484 ≠ gb521) := ⟨h9_⟩
           have n10_ : Aside0 (gb521 ≠ gb484) := ⟨h10_⟩
           have n11_ : Aside0 (gb485 ≠ gb521) := ⟨h11_⟩
           have n12_ : Aside0 (gb521 ≠ gb485) := ⟨h12_⟩
           have n13_ : Aside0 (Below w.heap.size w w21) := ⟨h13_⟩
           clear BK483
           clear BK484
           clear BK485
           clear HB
           clear h0_ h1_ h2_ h3_ h4_ h5_ h6_ h7_ h8_ h9_ h10_ h11_ h12_ h13_
           have HO507 := n0_
           have BK483 := n1_
           have BK484 := n2_
           have BK485 := n3_
           have BK521 := n4_
           have GW521 := n5_
           have GE521 := n6_
           have NB483_521 := n7_
           have NB521_483 := n8_
           have NB484_521 := n9_
           have NB521_484 := n10_
           have NB485_521 := n11_
           have NB521_485 := n12_
           have HB := n13_
           clear n0_ n1_ n2_ n3_ n4_ n5_ n6_ n7_ n8_ n9_ n10_ n11_ n12_ n13_
           have hHeld : w21.cell? ⟨gb483, 0, none⟩ = some (.slice A0_0 l0_0.length c0_0) ∧ w21.cell? ⟨gb483, 1, none⟩ = some (.int .i64 a0_1) ∧ w21.cell? ⟨gb483, 2, none⟩ = some (.int .i64 a0_2) ∧ w21.cell? ⟨gb483, 3, none⟩ = some (.int .i64 a0_3) ∧ w21.cell? ⟨gb483, 4, none⟩ = some (.int .i64 a0_4) ∧ w21.cell? ⟨gb483, 5, none⟩ = some (.int .i64 a0_5) ∧ w21.cell? ⟨gb483, 6, none⟩ = some (.int .i64 a0_6) ∧ w21.cell? ⟨gb484, 0, none⟩ = some (.int .i64 a1_0) ∧ w21.cell? ⟨gb484, 1, none⟩ = some (.int .i64 a1_1) := hS_
           refine norm_ (a' := ?_) ?_ ?_
           rotate_left
           ·
            simp only [putAll, Act.put, List.setIfInBounds_toArray, List.set_cons_zero, List.set_cons_succ]
            rfl
           refine one_ (i := 1) (N := some 15) #[true, true, false, true, true, false, false, false, false, false, true, false, false] rfl rfl (one_of HT_.out (by kernel_rfl)) (by decide) (fun K hK => ?_)
           refine goes_ Try.func56 (by kernel_rfl) rfl #[.agg #[.slice A0_0 l0_0.length c0_0, .int .i64 a0_1, .int .i64 a0_2, .int .i64 a0_3, .int .i64 a0_4, .int .i64 a0_5, .int .i64 a0_6]] (by rfl) rfl rfl (by (try simp only [List.map_toArray, List.map_cons, List.map_nil]); first | done | rfl | (simp only [List.length_drop, List.length_take]; rfl)) ?_
           with_reducible refine (impl_bookCopy.calls _ _ l0_0 a0_1 a0_2 a0_3 a0_4 a0_5 a0_6 t496 t499 t500 t501 t502 t503 t504 _ ?side1 ?side2 A13.out).mono ?_
           (case side1 => exact Kd.Cq (Kd.C_below HR0_0.out HB.out))
           (case side2 => exact HC0_0.out)
           rintro e w22 ⟨v497, rfl, ho0, hb⟩
           refine ⟨_, rfl, ?_⟩
           have HO498 := Aside0.mk (Kd.R_lower (Kd.R_newB (Kd.R_new' ho0 (Kd.R_lt (Kd.Rq HO507.out))) (g := gb484) (o := .cells #[.int .i64 a1_0, .int .i64 a1_1] 41 (0, 0)) (bkq BK484.out)) (below_size (blq HB.out)))
           replace HO507 := Aside0.mk (Kd.R_elder' (Kd.Rq HO507.out) (Kd.R_base ho0) hb)
           replace BK483 := bkb BK483 hb
           replace BK484 := bkb BK484 hb
           replace BK485 := bkb BK485 hb
           replace BK521 := bkb BK521 hb
           replace HB := hbs HB hb
           (try clear hb)
           (try clear hb2)
           (try clear hk)
           (try clear hi)
           (try clear ho0)
           refine hK.out _ _ ⟨bc BK483 0, bc BK483 1, bc BK483 2, bc BK483 3, bc BK483 4, bc BK483 5, bc BK483 6, bc BK484 0, bc BK484 1⟩ (fun hHeld => ?_)
           clear hK K
           refine norm_ (a' := ?_) ?_ ?_
           rotate_left
           ·
            show Act.put _ (some 15) _ = _
            simp only [Act.put, List.setIfInBounds_toArray, List.set_cons_zero, List.set_cons_succ, i64_w, i32_w]
            rfl
           refine pure_ (i := 2) (N := some 16) (v := ?_) (a' := ?_) #[true, true, true, true, true, false, false, false, false, false, true, false, false] rfl rfl (any_of HT_.out (by kernel_rfl)) (fun _ _ _ h => h) (Or.inl ⟨by rfl, ?_⟩) ?_ ?_
           rotate_left
           ·
            intro w'
            go_simp
            with_reducible rfl
           rotate_left
           ·
            simp only [Act.put, List.setIfInBounds_toArray, List.set_cons_zero, List.set_cons_succ, i64_w, i32_w]
            rfl
           exact norm_ (by first | (simp only [putAll, Act.put, List.setIfInBounds_toArray, List.set_cons_zero, List.set_cons_succ]; done) | (simp only [putAll, Act.put, List.setIfInBounds_toArray, List.set_cons_zero, List.set_cons_succ]; rfl)) (hJ1_4_10 (v497, v506, gb521) _ ⟨hHeld, (Kd.Rq (Kd.R_mono HO498.out (fun _ hk => ⟨hk.1.2, hk.2⟩))), (Kd.Rq (Kd.R_mono HO507.out (fun _ hk => ⟨hk.2, hk.1⟩))), (bkq BK483.out), (bkq BK484.out), (bkq BK485.out), (bkq BK521.out), GW521.out, GE521.out, NB483_521.out, NB521_483.out, NB484_521.out, NB521_484.out, NB485_521.out, NB521_485.out, (blq HB.out)⟩)
         ·
          skip
          rintro ⟨v497, gb521⟩ w20 ⟨hS_, h0_, h1_, h2_, h3_, h4_, h5_, h6_, h7_, h8_, h9_, h10_, h11_, h12_, h13_⟩
          have n0_ : Aside0 (Kd.R k41 41 w20 w.heap.size (fun k_ => k_ ≠ gb484) v497 t496) := ⟨h0_⟩
          have n1_ : Aside0 (w20.heap[gb483]? = some (.cells #[.slice A0_0 l0_0.length c0_0, .int .i64 a0_1, .int .i64 a0_2, .int .i64 a0_3, .int .i64 a0_4, .int .i64 a0_5, .int .i64 a0_6] 31 (0, 0))) := ⟨h1_⟩
          have n2_ : Aside0 (w20.heap[gb484]? = some (.cells #[.int .i64 a1_0, .int .i64 a1_1] 41 (0, 0))) := ⟨h2_⟩
          have n3_ : Aside0 (w20.heap[gb485]? = some (.cells #[.slice none 0 0, .int .i64 0, .int .i64 0, .int .i64 0, .int .i64 0, .int .i64 0, .int .i64 0] 31 (0, 0))) := ⟨h3_⟩
          have n4_ : Aside0 (w20.heap[gb521]? = some (.cells #[.slice none 0 0, .int .i64 0, .int .i64 0, .int .i64 0, .int .i64 0, .int .i64 0, .int .i64 0] 31 (0, 0))) := ⟨h4_⟩
          have n5_ : Aside0 (w.heap.size ≤ gb521) := ⟨h5_⟩
          have n6_ : Aside0 (w.heap.size ≤ gb521) := ⟨h6_⟩
          have n7_ : Aside0 (gb483 ≠ gb521) := ⟨h7_⟩
          have n8_ : Aside0 (gb521 ≠ gb483) := ⟨h8_⟩
          have n9_ : Aside0 (gb484 ≠ gb521) := ⟨h9_⟩
          have n10_ : Aside0 (gb521 ≠ gb484) := ⟨h10_⟩
          have n11_ : Aside0 (gb485 ≠ gb521) := ⟨h11_⟩
          have n12_ : Aside0 (gb521 ≠ gb485) := ⟨h12_⟩
          have n13_ : Aside0 (Below w.heap.size w w20) := ⟨h13_⟩
          clear BK483
          clear BK484
          clear BK485
          clear HB
          clear h0_ h1_ h2_ h3_ h4_ h5_ h6_ h7_ h8_ h9_ h10_ h11_ h12_ h13_
          have HO498 := n0_
          have BK483 := n1_
          have BK484 := n2_
          have BK485 := n3_
          have BK521 := n4_
          have GW521 := n5_
          have GE521 := n6_
          have NB483_521 := n7_
          have NB521_483 := n8_
          have NB484_521 := n9_
          have NB521_484 := n10_
          have NB485_521 := n11_
          have NB521_485 := n12_
          have HB := n13_
          clear n0_ n1_ n2_ n3_ n4_ n5_ n6_ n7_ n8_ n9_ n10_ n11_ n12_ n13_
          have hHeld : w20.cell? ⟨gb483, 0, none⟩ = some (.slice A0_0 l0_0.length c0_0) ∧ w20.cell? ⟨gb483, 1, none⟩ = some (.int .i64 a0_1) ∧ w20.cell? ⟨gb483, 2, none⟩ = some (.int .i64 a0_2) ∧ w20.cell? ⟨gb483, 3, none⟩ = some (.int .i64 a0_3) ∧ w20.cell? ⟨gb483, 4, none⟩ = some (.int .i64 a0_4) ∧ w20.cell? ⟨gb483, 5, none⟩ = some (.int .i64 a0_5) ∧ w20.cell? ⟨gb483, 6, none⟩ = some (.int .i64 a0_6) ∧ w20.cell? ⟨gb484, 0, none⟩ = some (.int .i64 a1_0) ∧ w20.cell? ⟨gb484, 1, none⟩ = some (.int .i64 a1_1) := hS_
          refine norm_ (a' := ?_) ?_ ?_
          rotate_left
          ·
           simp only [putAll, Act.put, List.setIfInBounds_toArray, List.set_cons_zero, List.set_cons_succ]
           rfl
          refine one_ (i := 4) (N := some 18) #[true, true, true, true, true, false, false, false, false, false, true, false, false] rfl rfl (one_of HT_.out (by kernel_rfl)) (by decide) (fun K hK => ?_)
          refine Kd.R_lit_step k41 _ 41 ?hg (N := 18) ?hd (xs := ([(⟨a1_0, a1_1⟩ : S41)] : List (S41))) (inner := [.int .i64 a1_0, .int .i64 a1_1]) (ok := fun _ => True) (okp := fun _ => True) ?hr ?hp (fun _ hk => hk) trivial (Below.refl _ _) (Nat.le_refl _) (by simp) ?_; (case hd => rfl); (case hg => rfl); (case hr => first | (go_simp; done) | (go_simp; rfl)); (case hp => exact (Reps.c2 (show Kd.M k41 _ _ _ (⟨a1_0, a1_1⟩ : S41) [.int .i64 a1_0, .int .i64 a1_1] from (k41_mkM _ _ _ (⟨a1_0, a1_1⟩ : S41) )) (Reps.none _ _)))
          intro v506 w21 ho22 hb hg_ hnew_
          clear hg_ hnew_
          (first | rw [← Ny505.out] at ho22 | (simp only [Int.reduceToNat] at ho22; rw [← Ny505.out] at ho22))
          have HO507 := Aside0.mk (Kd.R_lower (Kd.R_newB (Kd.R_new' ho22 (Kd.R_lt (Kd.Rq HO498.out))) (g := gb484) (o := .cells #[.int .i64 a1_0, .int .i64 a1_1] 41 (0, 0)) (bkq BK484.out)) (below_size (blq HB.out)))
          replace HO498 := Aside0.mk (Kd.R_elder' (Kd.Rq HO498.out) (Kd.R_base ho22) hb)
          replace BK483 := bkb BK483 hb
          replace BK484 := bkb BK484 hb
          replace BK485 := bkb BK485 hb
          replace BK521 := bkb BK521 hb
          replace HB := hbs HB hb
          clear hb ho22
          refine hK.out _ _ ⟨bc BK483 0, bc BK483 1, bc BK483 2, bc BK483 3, bc BK483 4, bc BK483 5, bc BK483 6, bc BK484 0, bc BK484 1⟩ (fun hHeld => ?_)
          clear hK K
          refine norm_ (a' := ?_) ?_ ?_
          rotate_left
          ·
           show Act.put _ (some 18) _ = _
           simp only [Act.put, List.setIfInBounds_toArray, List.set_cons_zero, List.set_cons_succ, i64_w, i32_w]
           rfl
          exact norm_ (by first | (simp only [putAll, Act.put, List.setIfInBounds_toArray, List.set_cons_zero, List.set_cons_succ]; done) | (simp only [putAll, Act.put, List.setIfInBounds_toArray, List.set_cons_zero, List.set_cons_succ]; rfl)) (hJ1_4_10 (v497, v506, gb521) _ ⟨hHeld, (Kd.Rq (Kd.R_mono HO498.out (fun _ hk => ⟨hk.2, hk.1⟩))), (Kd.Rq (Kd.R_mono HO507.out (fun _ hk => ⟨hk.1.2, hk.2⟩))), (bkq BK483.out), (bkq BK484.out), (bkq BK485.out), (bkq BK521.out), GW521.out, GE521.out, NB483_521.out, NB521_483.out, NB484_521.out, NB521_484.out, NB485_521.out, NB521_485.out, (blq HB.out)⟩)
        ·
         skip
         rintro ⟨v497, v506⟩ w21 ⟨hS_, h0_, h1_, h2_, h3_, h4_, h5_⟩
         have n0_ : Aside0 (Kd.R k41 41 w21 w.heap.size (fun k_ => some k_ ≠ (v506 : Value).ownBlock ∧ k_ ≠ gb484) v497 t496) := ⟨h0_⟩
         have n1_ : Aside0 (Kd.R k41 41 w21 w.heap.size (fun k_ => some k_ ≠ (v497 : Value).ownBlock ∧ k_ ≠ gb484) v506 y505) := ⟨h1_⟩
         have n2_ : Aside0 (w21.heap[gb483]? = some (.cells #[.slice A0_0 l0_0.length c0_0, .int .i64 a0_1, .int .i64 a0_2, .int .i64 a0_3, .int .i64 a0_4, .int .i64 a0_5, .int .i64 a0_6] 31 (0, 0))) := ⟨h2_⟩
         have n3_ : Aside0 (w21.heap[gb484]? = some (.cells #[.int .i64 a1_0, .int .i64 a1_1] 41 (0, 0))) := ⟨h3_⟩
         have n4_ : Aside0 (w21.heap[gb485]? = some (.cells #[.slice none 0 0, .int .i64 0, .int .i64 0, .int .i64 0, .int .i64 0, .int .i64 0, .int .i64 0] 31 (0, 0))) := ⟨h4_⟩
         have n5_ : Aside0 (Below w.heap.size w w21) := ⟨h5_⟩
         clear BK483
         clear BK484
         clear BK485
         clear HB
         clear h0_ h1_ h2_ h3_ h4_ h5_
         have HO498 := n0_
         have HO507 := n1_
         have BK483 := n2_
         have BK484 := n3_
         have BK485 := n4_
         have HB := n5_
         clear n0_ n1_ n2_ n3_ n4_ n5_
         have hHeld : w21.cell? ⟨gb483, 0, none⟩ = some (.slice A0_0 l0_0.length c0_0) ∧ w21.cell? ⟨gb483, 1, none⟩ = some (.int .i64 a0_1) ∧ w21.cell? ⟨gb483, 2, none⟩ = some (.int .i64 a0_2) ∧ w21.cell? ⟨gb483, 3, none⟩ = some (.int .i64 a0_3) ∧ w21.cell? ⟨gb483, 4, none⟩ = some (.int .i64 a0_4) ∧ w21.cell? ⟨gb483, 5, none⟩ = some (.int .i64 a0_5) ∧ w21.cell? ⟨gb483, 6, none⟩ = some (.int .i64 a0_6) ∧ w21.cell? ⟨gb484, 0, none⟩ = some (.int .i64 a1_0) ∧ w21.cell? ⟨gb484, 1, none⟩ = some (.int .i64 a1_1) := hS_
         obtain ⟨Ao23, co23, eo23⟩ := Kd.R_slice HO507.out
         (first | subst eo23 | (injection eo23 with f1_ f2_ f3_; have f4_ := f1_.symm; have f5_ := f3_.symm; clear f1_ f2_ f3_; subst f4_; subst f5_))
         refine norm_ (a' := ?_) ?_ ?_
         rotate_left
         ·
          simp only [putAll, Act.put, List.setIfInBounds_toArray, List.set_cons_zero, List.set_cons_succ]
          rfl
         refine two_ (i := 5) (j := 10) (Ni := some 19) (Nj := some 6) #[true, true, true, true, true, true, false, false, false, false, false, false, false] #[true, true, true, true, true, false, false, false, false, false, true, false, false] rfl rfl rfl rfl (two_of HT_.out (by kernel_rfl)) (by decide) (by decide) (fun K hK => ?_) (fun K hK => ?_)
         ·
          skip
          refine Kd.R_append_rows_step k41 (w0 := w) w.heap.size (by rfl) (.tmp 16) (.tmp 18) 28 41 (.agg #[(.int .i64 0), (.int .i64 0)]) 16 rfl Try.underlying28 info41 rfl (by decide) (by omega) v497 t496 y505 _ _ _ (fun k_ => some k_ ≠ (.slice Ao23 y505.length co23 : Value).ownBlock ∧ k_ ≠ gb484) (fun _ => False) rfl rfl ?aO ?aR (fun _ _ h => h) (fun _ h => h.elim) ?aF ?aB ?aS ?aL ?_
          (case aR => repeat (first | exact (Kd.R_reads' HO507.out).2.2 | (with_reducible refine Kd.C_alloc ?_ _) | (with_reducible refine Kd.C_drewN ?_ _) | (with_reducible refine Kd.C_drew ?_)))
          (case aB => exact (blq HB.out))
          (case aF => exact (fun k_ hk => ⟨Kd.fresh' (Kd.R_lt (Kd.Rq HO507.out)) k_ hk, Kd.freshB (g := gb484) (o := .cells #[.int .i64 a1_0, .int .i64 a1_1] 41 (0, 0)) (bkq BK484.out) k_ hk⟩))
          (case aO => exact (Kd.Rq HO498.out))
          (case aS => exact (below_size (blq HB.out)))
          (case aL => have := LMc14.out; omega)
          intro v509 w22 ho hb hg hat
          rw [← Ny508.out] at ho
          have HO510 := Aside0.mk (ho)
          replace BK483 := Aside0.mk (blk_grown (bkq BK483.out) hg (Kd.R_ne HO498.out BK483.out (by decide)))
          replace BK484 := Aside0.mk (blk_grown (bkq BK484.out) hg (Kd.R_away HO498.out (fun _ hk => hk.2)))
          replace BK485 := Aside0.mk (blk_grown (bkq BK485.out) hg (Kd.R_ne HO498.out BK485.out (by decide)))
          replace HO507 := Aside0.mk (Kd.R_after (ok := (fun k_ => k_ ≠ gb484)) (Kd.Rq (Kd.R_mono HO507.out (fun _ hk => ⟨hk.2, hk.1⟩))) hg hat)
          replace HB := Aside0.mk (hb)
          clear HO498
          clear ho hb hg hat
          refine hK.out _ _ ⟨bc BK483 0, bc BK483 1, bc BK483 2, bc BK483 3, bc BK483 4, bc BK483 5, bc BK483 6, bc BK484 0, bc BK484 1⟩ (fun hHeld => ?_)
          clear hK K
          refine norm_ (a' := ?_) ?_ ?_
          rotate_left
          ·
           show Act.put _ (some 19) _ = _
           simp only [Act.put, List.setIfInBounds_toArray, List.set_cons_zero, List.set_cons_succ, i64_w, i32_w]
           rfl
          exact norm_ (by first | (simp only [putAll, Act.put, List.setIfInBounds_toArray, List.set_cons_zero, List.set_cons_succ]; done) | (simp only [putAll, Act.put, List.setIfInBounds_toArray, List.set_cons_zero, List.set_cons_succ]; rfl)) (hJ1_4_5 (v497, .slice Ao23 y505.length co23, v509) _ ⟨hHeld, (Kd.Rq (Kd.R_mono HO507.out (fun _ hk => ⟨hk.2, hk.1⟩))), (Kd.Rq HO510.out), (bkq BK483.out), (bkq BK484.out), (bkq BK485.out), (blq HB.out)⟩)
         ·
          skip
          refine box_step ?hg (N := 6) ?hd (cs := #[.slice none 0 0, .int .i64 0, .int .i64 0, .int .i64 0, .int .i64 0, .int .i64 0, .int .i64 0]) (t := 31) ?hr ?_; (case hd => rfl); (case hg => rfl); (case hr => first | (go_simp; done) | (go_simp; rfl))
          intro gb521 hg w22 hbox hb
          have BK521 := Aside0.mk (hbox)
          have GW521 := sQ hg HB
          have GE521 := sQ hg HB
          have NB483_521 := qL hg BK483
          have NB521_483 := qG hg BK483
          have NB484_521 := qL hg BK484
          have NB521_484 := qG hg BK484
          have NB485_521 := qL hg BK485
          have NB521_485 := qG hg BK485
          replace HO498 := rob HO498 hb
          replace HO507 := rob HO507 hb
          replace BK483 := bkb BK483 hb
          replace BK484 := bkb BK484 hb
          replace BK485 := bkb BK485 hb
          replace HB := hbs HB hb
          clear hb hbox hg
          refine hK.out _ _ ⟨bc BK483 0, bc BK483 1, bc BK483 2, bc BK483 3, bc BK483 4, bc BK483 5, bc BK483 6, bc BK484 0, bc BK484 1⟩ (fun hHeld => ?_)
          clear hK K
          refine norm_ (a' := ?_) ?_ ?_
          rotate_left
          ·
           show Act.put _ (some 6) _ = _
           simp only [Act.put, List.setIfInBounds_toArray, List.set_cons_zero, List.set_cons_succ, i64_w, i32_w]
           rfl
          exact norm_ (by first | (simp only [putAll, Act.put, List.setIfInBounds_toArray, List.set_cons_zero, List.set_cons_succ]; done) | (simp only [putAll, Act.put, List.setIfInBounds_toArray, List.set_cons_zero, List.set_cons_succ]; rfl)) (hJ1_4_10 (v497, (.slice Ao23 y505.length co23), gb521) _ ⟨hHeld, (Kd.Rq HO498.out), (Kd.Rq HO507.out), (bkq BK483.out), (bkq BK484.out), (bkq BK485.out), (bkq BK521.out), GW521.out, GE521.out, NB483_521.out, NB521_483.out, NB484_521.out, NB521_484.out, NB485_521.out, NB521_485.out, (blq HB.out)⟩)
       ·
        skip
        rintro ⟨v497, v506, gb521⟩ w22 ⟨hS_, h0_, h1_, h2_, h3_, h4_, h5_, h6_, h7_, h8_, h9_, h10_, h11_, h12_, h13_, h14_⟩
        have n0_ : Aside0 (Kd.R k41 41 w22 w.heap.size (fun k_ => some k_ ≠ (v506 : Value).ownBlock ∧ k_ ≠ gb484) v497 t496) := ⟨h0_⟩
        have n1_ : Aside0 (Kd.R k41 41 w22 w.heap.size (fun k_ => some k_ ≠ (v497 : Value).ownBlock ∧ k_ ≠ gb484) v506 y505) := ⟨h1_⟩
        have n2_ : Aside0 (w22.heap[gb483]? = some (.cells #[.slice A0_0 l0_0.length c0_0, .int .i64 a0_1, .int .i64 a0_2, .int .i64 a0_3, .int .i64 a0_4, .int .i64 a0_5, .int .i64 a0_6] 31 (0, 0))) := ⟨h2_⟩
        have n3_ : Aside0 (w22.heap[gb484]? = some (.cells #[.int .i64 a1_0, .int .i64 a1_1] 41 (0, 0))) := ⟨h3_⟩
        have n4_ : Aside0 (w22.heap[gb485]? = some (.cells #[.slice none 0 0, .int .i64 0, .int .i64 0, .int .i64 0, .int .i64 0, .int .i64 0, .int .i64 0] 31 (0, 0))) := ⟨h4_⟩
        have n5_ : Aside0 (w22.heap[gb521]? = some (.cells #[.slice none 0 0, .int .i64 0, .int .i64 0, .int .i64 0, .int .i64 0, .int .i64 0, .int .i64 0] 31 (0, 0))) := ⟨h5_⟩
        have n6_ : Aside0 (w.heap.size ≤ gb521) := ⟨h6_⟩
        have n7_ : Aside0 (w.heap.size ≤ gb521) := ⟨h7_⟩
        have n8_ : Aside0 (gb483 ≠ gb521) := ⟨h8_⟩
        have n9_ : Aside0 (gb521 ≠ gb483) := ⟨h9_⟩
        have n10_ : Aside0 (gb484 ≠ gb521) := ⟨h10_⟩
        have n11_ : Aside0 (gb521 ≠ gb484) := ⟨h11_⟩
        have n12_ : Aside0 (gb485 ≠ gb521) := ⟨h12_⟩
        have n13_ : Aside0 (gb521 ≠ gb485) := ⟨h13_⟩
        have n14_ : Aside0 (Below w.heap.size w w22) := ⟨h14_⟩
        clear BK483
        clear BK484
        clear BK485
        clear HB
        clear h0_ h1_ h2_ h3_ h4_ h5_ h6_ h7_ h8_ h9_ h10_ h11_ h12_ h13_ h14_
        have HO498 := n0_
        have HO507 := n1_
        have BK483 := n2_
        have BK484 := n3_
        have BK485 := n4_
        have BK521 := n5_
        have GW521 := n6_
        have GE521 := n7_
        have NB483_521 := n8_
        have NB521_483 := n9_
        have NB484_521 := n10_
        have NB521_484 := n11_
        have NB485_521 := n12_
        have NB521_485 := n13_
        have HB := n14_
        clear n0_ n1_ n2_ n3_ n4_ n5_ n6_ n7_ n8_ n9_ n10_ n11_ n12_ n13_ n14_
        have hHeld : w22.cell? ⟨gb483, 0, none⟩ = some (.slice A0_0 l0_0.length c0_0) ∧ w22.cell? ⟨gb483, 1, none⟩ = some (.int .i64 a0_1) ∧ w22.cell? ⟨gb483, 2, none⟩ = some (.int .i64 a0_2) ∧ w22.cell? ⟨gb483, 3, none⟩ = some (.int .i64 a0_3) ∧ w22.cell? ⟨gb483, 4, none⟩ = some (.int .i64 a0_4) ∧ w22.cell? ⟨gb483, 5, none⟩ = some (.int .i64 a0_5) ∧ w22.cell? ⟨gb483, 6, none⟩ = some (.int .i64 a0_6) ∧ w22.cell? ⟨gb484, 0, none⟩ = some (.int .i64 a1_0) ∧ w22.cell? ⟨gb484, 1, none⟩ = some (.int .i64 a1_1) := hS_
        obtain ⟨Ao24, co24, eo24⟩ := Kd.R_slice HO507.out
        (first | subst eo24 | (injection eo24 with f1_ f2_ f3_; have f4_ := f1_.symm; have f5_ := f3_.symm; clear f1_ f2_ f3_; subst f4_; subst f5_))
        refine norm_ (a' := ?_) ?_ ?_
        rotate_left
        ·
         simp only [putAll, Act.put, List.setIfInBounds_toArray, List.set_cons_zero, List.set_cons_succ]
         rfl
        refine one_ (i := 5) (N := some 19) #[true, true, true, true, true, true, false, false, false, false, true, false, false] rfl rfl (one_of HT_.out (by kernel_rfl)) (by decide) (fun K hK => ?_)
        refine Kd.R_append_rows_step k41 (w0 := w) w.heap.size (by rfl) (.tmp 16) (.tmp 18) 28 41 (.agg #[(.int .i64 0), (.int .i64 0)]) 16 rfl Try.underlying28 info41 rfl (by decide) (by omega) v497 t496 y505 _ _ _ (fun k_ => some k_ ≠ (.slice Ao24 y505.length co24 : Value).ownBlock ∧ k_ ≠ gb484) (fun _ => False) rfl rfl ?aO ?aR (fun _ _ h => h) (fun _ h => h.elim) ?aF ?aB ?aS ?aL ?_
        (case aR => repeat (first | exact (Kd.R_reads' HO507.out).2.2 | (with_reducible refine Kd.C_alloc ?_ _) | (with_reducible refine Kd.C_drewN ?_ _) | (with_reducible refine Kd.C_drew ?_)))
        (case aB => exact (blq HB.out))
        (case aF => exact (fun k_ hk => ⟨Kd.fresh' (Kd.R_lt (Kd.Rq HO507.out)) k_ hk, Kd.freshB (g := gb484) (o := .cells #[.int .i64 a1_0, .int .i64 a1_1] 41 (0, 0)) (bkq BK484.out) k_ hk⟩))
        (case aO => exact (Kd.Rq HO498.out))
        (case aS => exact (below_size (blq HB.out)))
        (case aL => have := LMc14.out; omega)
        intro v509 w23 ho hb hg hat
        rw [← Ny508.out] at ho
        have HO510 := Aside0.mk (ho)
        replace BK483 := Aside0.mk (blk_grown (bkq BK483.out) hg (Kd.R_ne HO498.out BK483.out (by decide)))
        replace BK484 := Aside0.mk (blk_grown (bkq BK484.out) hg (Kd.R_away HO498.out (fun _ hk => hk.2)))
        replace BK485 := Aside0.mk (blk_grown (bkq BK485.out) hg (Kd.R_ne HO498.out BK485.out (by decide)))
        replace HO507 := Aside0.mk (Kd.R_after (ok := (fun k_ => k_ ≠ gb484)) (Kd.Rq (Kd.R_mono HO507.out (fun _ hk => ⟨hk.2, hk.1⟩))) hg hat)
        replace BK521 := Aside0.mk (blk_grown (bkq BK521.out) hg (Kd.R_ne HO498.out BK521.out (by decide)))
        replace HB := Aside0.mk (hb)
        clear HO498
        clear ho hb hg hat
        refine hK.out _ _ ⟨bc BK483 0, bc BK483 1, bc BK483 2, bc BK483 3, bc BK483 4, bc BK483 5, bc BK483 6, bc BK484 0, bc BK484 1⟩ (fun hHeld => ?_)
        clear hK K
        refine norm_ (a' := ?_) ?_ ?_
        rotate_left
        ·
         show Act.put _ (some 19) _ = _
         simp only [Act.put, List.setIfInBounds_toArray, List.set_cons_zero, List.set_cons_succ, i64_w, i32_w]
         rfl
        exact norm_ (by first | (simp only [putAll, Act.put, List.setIfInBounds_toArray, List.set_cons_zero, List.set_cons_succ]; done) | (simp only [putAll, Act.put, List.setIfInBounds_toArray, List.set_cons_zero, List.set_cons_succ]; rfl)) (hJ1_4_5_10 (v497, .slice Ao24 y505.length co24, v509, gb521) _ ⟨hHeld, (Kd.Rq (Kd.R_mono HO507.out (fun _ hk => ⟨hk.2, hk.1⟩))), (Kd.Rq HO510.out), (bkq BK483.out), (bkq BK484.out), (bkq BK485.out), (bkq BK521.out), GW521.out, GE521.out, NB483_521.out, NB521_483.out, NB484_521.out, NB521_484.out, NB485_521.out, NB521_485.out, (blq HB.out)⟩)
      ·
       skip
       rintro ⟨v497, v506, v509⟩ w23 ⟨hS_, h0_, h1_, h2_, h3_, h4_, h5_⟩
       have n0_ : Aside0 (Kd.R k41 41 w23 w.heap.size (fun k_ => some k_ ≠ (v509 : Value).ownBlock ∧ k_ ≠ gb484) v506 y505) := ⟨h0_⟩
       have n1_ : Aside0 (Kd.R k41 41 w23 w.heap.size (fun k_ => some k_ ≠ (v506 : Value).ownBlock ∧ k_ ≠ gb484) v509 y508) := ⟨h1_⟩
       have n2_ : Aside0 (w23.heap[gb483]? = some (.cells #[.slice A0_0 l0_0.length c0_0, .int .i64 a0_1, .int .i64 a0_2, .int .i64 a0_3, .int .i64 a0_4, .int .i64 a0_5, .int .i64 a0_6] 31 (0, 0))) := ⟨h2_⟩
       have n3_ : Aside0 (w23.heap[gb484]? = some (.cells #[.int .i64 a1_0, .int .i64 a1_1] 41 (0, 0))) := ⟨h3_⟩
       have n4_ : Aside0 (w23.heap[gb485]? = some (.cells #[.slice none 0 0, .int .i64 0, .int .i64 0, .int .i64 0, .int .i64 0, .int .i64 0, .int .i64 0] 31 (0, 0))) := ⟨h4_⟩
       have n5_ : Aside0 (Below w.heap.size w w23) := ⟨h5_⟩
       clear BK483
       clear BK484
       clear BK485
       clear HB
       clear h0_ h1_ h2_ h3_ h4_ h5_
       have HO507 := n0_
       have HO510 := n1_
       have BK483 := n2_
       have BK484 := n3_
       have BK485 := n4_
       have HB := n5_
       clear n0_ n1_ n2_ n3_ n4_ n5_
       have hHeld : w23.cell? ⟨gb483, 0, none⟩ = some (.slice A0_0 l0_0.length c0_0) ∧ w23.cell? ⟨gb483, 1, none⟩ = some (.int .i64 a0_1) ∧ w23.cell? ⟨gb483, 2, none⟩ = some (.int .i64 a0_2) ∧ w23.cell? ⟨gb483, 3, none⟩ = some (.int .i64 a0_3) ∧ w23.cell? ⟨gb483, 4, none⟩ = some (.int .i64 a0_4) ∧ w23.cell? ⟨gb483, 5, none⟩ = some (.int .i64 a0_5) ∧ w23.cell? ⟨gb483, 6, none⟩ = some (.int .i64 a0_6) ∧ w23.cell? ⟨gb484, 0, none⟩ = some (.int .i64 a1_0) ∧ w23.cell? ⟨gb484, 1, none⟩ = some (.int .i64 a1_1) := hS_
       obtain ⟨Ao24, co24, eo24⟩ := Kd.R_slice HO510.out
       (first | subst eo24 | (injection eo24 with f1_ f2_ f3_; have f4_ := f1_.symm; have f5_ := f3_.symm; clear f1_ f2_ f3_; subst f4_; subst f5_))
       refine norm_ (a' := ?_) ?_ ?_
       rotate_left
       ·
        simp only [putAll, Act.put, List.setIfInBounds_toArray, List.set_cons_zero, List.set_cons_succ]
        rfl
       refine two_ (i := 6) (j := 10) (Ni := some 20) (Nj := some 6) #[true, true, true, true, true, true, true, false, false, false, false, false, false] #[true, true, true, true, true, true, false, false, false, false, true, false, false] rfl rfl rfl rfl (two_of HT_.out (by kernel_rfl)) (by decide) (by decide) (fun K hK => ?_) (fun K hK => ?_)
       ·
        skip
        refine goes_ Try.func57 (by kernel_rfl) rfl #[.slice Ao24 y508.length co24] (by rfl) rfl rfl (by (try simp only [List.map_toArray, List.map_cons, List.map_nil]); first | done | rfl | (simp only [List.length_drop, List.length_take]; rfl)) ?_
        with_reducible refine (impl_counted.calls k _ _ y508 t511 t514 t515 t516 t517 t518 t519 t520 _ ?side1 ?side2 A15.out).mono ?_
        (case side1 => repeat (first | exact (Kd.R_reads' HO510.out).2.2 | (with_reducible refine Kd.C_alloc ?_ _) | (with_reducible refine Kd.C_drewN ?_ _) | (with_reducible refine Kd.C_drew ?_)))
        (case side2 => exact (Kd.R_reads' HO510.out).2.1)
        rintro e w25 ⟨v512, rfl, ho0, hb⟩
        refine ⟨_, rfl, ?_⟩
        have HO513 := Aside0.mk (Kd.R_lower (Kd.R_newB (Kd.R_new' (Kd.R_new' ho0 (Kd.R_lt (Kd.Rq HO507.out))) (Kd.R_lt (Kd.Rq HO510.out))) (g := gb484) (o := .cells #[.int .i64 a1_0, .int .i64 a1_1] 41 (0, 0)) (bkq BK484.out)) (below_size (blq HB.out)))
        replace HO507 := Aside0.mk (Kd.R_elder' (Kd.Rq HO507.out) (Kd.R_base ho0) hb)
        replace HO510 := Aside0.mk (Kd.R_elder' (Kd.Rq HO510.out) (Kd.R_base ho0) hb)
        replace BK483 := bkb BK483 hb
        replace BK484 := bkb BK484 hb
        replace BK485 := bkb BK485 hb
        replace HB := hbs HB hb
        (try clear hb)
        (try clear hb2)
        (try clear hk)
        (try clear hi)
        (try clear ho0)
        refine hK.out _ _ ⟨bc BK483 0, bc BK483 1, bc BK483 2, bc BK483 3, bc BK483 4, bc BK483 5, bc BK483 6, bc BK484 0, bc BK484 1⟩ (fun hHeld => ?_)
        clear hK K
        refine norm_ (a' := ?_) ?_ ?_
        rotate_left
        ·
         show Act.put _ (some 20) _ = _
         simp only [Act.put, List.setIfInBounds_toArray, List.set_cons_zero, List.set_cons_succ, i64_w, i32_w]
         rfl
        refine pure_ (i := 7) (N := some 13) (v := ?_) (a' := ?_) #[true, true, true, true, true, true, true, true, false, false, false, false, false] rfl rfl (any_of HT_.out (by kernel_rfl)) (fun _ _ _ h => h) (Or.inl ⟨by rfl, ?_⟩) ?_ ?_
        rotate_left
        ·
         intro w'
         go_simp
         with_reducible rfl
        rotate_left
        ·
         simp only [Act.put, List.setIfInBounds_toArray, List.set_cons_zero, List.set_cons_succ, i64_w, i32_w]
         rfl
        refine pure_ (i := 8) (N := some 21) (v := ?_) (a' := ?_) #[true, true, true, true, true, true, true, true, true, false, false, false, false] rfl rfl (any_of HT_.out (by kernel_rfl)) (fun _ _ _ h => h) (Or.inl ⟨by rfl, ?_⟩) ?_ ?_
        rotate_left
        ·
         intro w'
         go_simp
         with_reducible rfl
        rotate_left
        ·
         simp only [Act.put, List.setIfInBounds_toArray, List.set_cons_zero, List.set_cons_succ, i64_w, i32_w]
         rfl
        refine pure_ (i := 9) (N := some 22) (v := ?_) (a' := ?_) #[true, true, true, true, true, true, true, true, true, true, false, false, false] rfl rfl (any_of HT_.out (by kernel_rfl)) (fun _ _ _ h => h) (Or.inl ⟨by rfl, ?_⟩) ?_ ?_
        rotate_left
        ·
         intro w'
         go_simp
         with_reducible rfl
        rotate_left
        ·
         simp only [Act.put, List.setIfInBounds_toArray, List.set_cons_zero, List.set_cons_succ, i64_w, i32_w]
         rfl
        exact norm_ (by first | (simp only [putAll, Act.put, List.setIfInBounds_toArray, List.set_cons_zero, List.set_cons_succ]; done) | (simp only [putAll, Act.put, List.setIfInBounds_toArray, List.set_cons_zero, List.set_cons_succ]; rfl)) (hJ1_4_5_6 (v497, v506, .slice Ao24 y508.length co24, v512) _ ⟨hHeld, (Kd.Rq (Kd.R_mono HO507.out (fun _ hk => ⟨hk.1.1, ⟨hk.2, hk.1.2⟩⟩))), (Kd.Rq (Kd.R_mono HO510.out (fun _ hk => ⟨hk.1.1, ⟨hk.2, hk.1.2⟩⟩))), (Kd.Rq (Kd.R_mono HO513.out (fun _ hk => ⟨hk.1.1.2, ⟨hk.1.2, hk.2⟩⟩))), (bkq BK483.out), (bkq BK484.out), (bkq BK485.out), (blq HB.out)⟩)
       ·
        skip
        refine box_step ?hg (N := 6) ?hd (cs := #[.slice none 0 0, .int .i64 0, .int .i64 0, .int .i64 0, .int .i64 0, .int .i64 0, .int .i64 0]) (t := 31) ?hr ?_; (case hd => rfl); (case hg => rfl); (case hr => first | (go_simp; done) | (go_simp; rfl))
        intro gb521 hg w24 hbox hb
        have BK521 := Aside0.mk (hbox)
        have GW521 := sQ hg HB
        have GE521 := sQ hg HB
        have NB483_521 := qL hg BK483
        have NB521_483 := qG hg BK483
        have NB484_521 := qL hg BK484
        have NB521_484 := qG hg BK484
        have NB485_521 := qL hg BK485
        have NB521_485 := qG hg BK485
        replace HO507 := rob HO507 hb
        replace HO510 := rob HO510 hb
        replace BK483 := bkb BK483 hb
        replace BK484 := bkb BK484 hb
        replace BK485 := bkb BK485 hb
        replace HB := hbs HB hb
        clear hb hbox hg
        refine hK.out _ _ ⟨bc BK483 0, bc BK483 1, bc BK483 2, bc BK483 3, bc BK483 4, bc BK483 5, bc BK483 6, bc BK484 0, bc BK484 1⟩ (fun hHeld => ?_)
        clear hK K
        refine norm_ (a' := ?_) ?_ ?_
        rotate_left
        ·
         show Act.put _ (some 6) _ = _
         simp only [Act.put, List.setIfInBounds_toArray, List.set_cons_zero, List.set_cons_succ, i64_w, i32_w]
         rfl
        exact norm_ (by first | (simp only [putAll, Act.put, List.setIfInBounds_toArray, List.set_cons_zero, List.set_cons_succ]; done) | (simp only [putAll, Act.put, List.setIfInBounds_toArray, List.set_cons_zero, List.set_cons_succ]; rfl)) (hJ1_4_5_10 (v497, v506, (.slice Ao24 y508.length co24), gb521) _ ⟨hHeld, (Kd.Rq HO507.out), (Kd.Rq HO510.out), (bkq BK483.out), (bkq BK484.out), (bkq BK485.out), (bkq BK521.out), GW521.out, GE521.out, NB483_521.out, NB521_483.out, NB484_521.out, NB521_484.out, NB485_521.out, NB521_485.out, (blq HB.out)⟩)
     ·
      skip
      rintro ⟨v497, v506, v509, gb521⟩ w24 ⟨hS_, h0_, h1_, h2_, h3_, h4_, h5_, h6_, h7_, h8_, h9_, h10_, h11_, h12_, h13_, h14_⟩
      have n0_ : Aside0 (Kd.R k41 41 w24 w.heap.size (fun k_ => some k_ ≠ (v509 : Value).ownBlock ∧ k_ ≠ gb484) v506 y505) := ⟨h0_⟩
      have n1_ : Aside0 (Kd.R k41 41 w24 w.heap.size (fun k_ => some k_ ≠ (v506 : Value).ownBlock ∧ k_ ≠ gb484) v509 y508) := ⟨h1_⟩
      have n2_ : Aside0 (w24.heap[gb483]? = some (.cells #[.slice A0_0 l0_0.length c0_0, .int .i64 a0_1, .int .i64 a0_2, .int .i64 a0_3, .int .i64 a0_4, .int .i64 a0_5, .int .i64 a0_6] 31 (0, 0))) := ⟨h2_⟩
      have n3_ : Aside0 (w24.heap[gb484]? = some (.cells #[.int .i64 a1_0, .int .i64 a1_1] 41 (0, 0))) := ⟨h3_⟩
      have n4_ : Aside0 (w24.heap[gb485]? = some (.cells #[.slice none 0 0, .int .i64 0, .int .i64 0, .int .i64 0, .int .i64 0, .int .i64 0, .int .i64 0] 31 (0, 0))) := ⟨h4_⟩
      have n5_ : Aside0 (w24.heap[gb521]? = some (.cells #[.slice none 0 0, .int .i64 0, .int .i64 0, .int .i64 0, .int .i64 0, .int .i64 0, .int .i64 0] 31 (0, 0))) := ⟨h5_⟩
      have n6_ : Aside0 (w.heap.size ≤ gb521) := ⟨h6_⟩
      have n7_ : Aside0 (w.heap.size ≤ gb521) := ⟨h7_⟩
      have n8_ : Aside0 (gb483 ≠ gb521) := ⟨h8_⟩
      have n9_ : Aside0 (gb521 ≠ gb483) := ⟨h9_⟩
      have n10_ : Aside0 (gb484 ≠ gb521) := ⟨h10_⟩
      have n11_ : Aside0 (gb521 ≠ gb484) := ⟨h11_⟩
      have n12_ : Aside0 (gb485 ≠ gb521) := ⟨h12_⟩
      have n13_ : Aside0 (gb521 ≠ gb485) := ⟨h13_⟩
      have n14_ : Aside0 (Below w.heap.size w w24) := ⟨h14_⟩
      clear BK483
      clear BK484
      clear BK485
      clear HB
      clear h0_ h1_ h2_ h3_ h4_ h5_ h6_ h7_ h8_ h9_ h10_ h11_ h12_ h13_ h14_
      have HO507 := n0_
      have HO510 := n1_
      have BK483 := n2_
      have BK484 := n3_
      have BK485 := n4_
      have BK521 := n5_
      have GW521 := n6_
      have GE521 := n7_
      have NB483_521 := n8_
      have NB521_483 := n9_
      have NB484_521 := n10_
      have NB521_484 := n11_
      have NB485_521 := n12_
      have NB521_485 := n13_
      have HB := n14_
      clear n0_ n1_ n2_ n3_ n4_ n5_ n6_ n7_ n8_ n9_ n10_ n11_ n12_ n13_ n14_
      have hHeld : w24.cell? ⟨gb483, 0, none⟩ = some (.slice A0_0 l0_0.length c0_0) ∧ w24.cell? ⟨gb483, 1, none⟩ = some (.int .i64 a0_1) ∧ w24.cell? ⟨gb483, 2, none⟩ = some (.int .i64 a0_2) ∧ w24.cell? ⟨gb483, 3, none⟩ = some (.int .i64 a0_3) ∧ w24.cell? ⟨gb483, 4, none⟩ = some (.int .i64 a0_4) ∧ w24.cell? ⟨gb483, 5, none⟩ = some (.int .i64 a0_5) ∧ w24.cell? ⟨gb483, 6, none⟩ = some (.int .i64 a0_6) ∧ w24.cell? ⟨gb484, 0, none⟩ = some (.int .i64 a1_0) ∧ w24.cell? ⟨gb484, 1, none⟩ = some (.int .i64 a1_1) := hS_
      obtain ⟨Ao25, co25, eo25⟩ := Kd.R_slice HO510.out
      (first | subst eo25 | (injection eo25 with f1_ f2_ f3_; have f4_ := f1_.symm; have f5_ := f3_.symm; clear f1_ f2_ f3_; subst f4_; subst f5_))
      refine norm_ (a' := ?_) ?_ ?_
      rotate_left
      ·
       simp only [putAll, Act.put, List.setIfInBounds_toArray, List.set_cons_zero, List.set_cons_succ]
       rfl
      refine one_ (i := 6) (N := some 20) #[true, true, true, true, true, true, true, false, false, false, true, false, false] rfl rfl (one_of HT_.out (by kernel_rfl)) (by decide) (fun K hK => ?_)
      refine goes_ Try.func57 (by kernel_rfl) rfl #[.slice Ao25 y508.length co25] (by rfl) rfl rfl (by (try simp only [List.map_toArray, List.map_cons, List.map_nil]); first | done | rfl | (simp only [List.length_drop, List.length_take]; rfl)) ?_
      with_reducible refine (impl_counted.calls k _ _ y508 t511 t514 t515 t516 t517 t518 t519 t520 _ ?side1 ?side2 A15.out).mono ?_
      (case side1 => repeat (first | exact (Kd.R_reads' HO510.out).2.2 | (with_reducible refine Kd.C_alloc ?_ _) | (with_reducible refine Kd.C_drewN ?_ _) | (with_reducible refine Kd.C_drew ?_)))
      (case side2 => exact (Kd.R_reads' HO510.out).2.1)
      rintro e w26 ⟨v512, rfl, ho0, hb⟩
      refine ⟨_, rfl, ?_⟩
      have HO513 := Aside0.mk (Kd.R_lower (Kd.R_newB (Kd.R_new' (Kd.R_new' ho0 (Kd.R_lt (Kd.Rq HO507.out))) (Kd.R_lt (Kd.Rq HO510.out))) (g := gb484) (o := .cells #[.int .i64 a1_0, .int .i64 a1_1] 41 (0, 0)) (bkq BK484.out)) (below_size (blq HB.out)))
      replace HO507 := Aside0.mk (Kd.R_elder' (Kd.Rq HO507.out) (Kd.R_base ho0) hb)
      replace HO510 := Aside0.mk (Kd.R_elder' (Kd.Rq HO510.out) (Kd.R_base ho0) hb)
      replace BK483 := bkb BK483 hb
      replace BK484 := bkb BK484 hb
      replace BK485 := bkb BK485 hb
      replace BK521 := bkb BK521 hb
      replace HB := hbs HB hb
      (try clear hb)
      (try clear hb2)
      (try clear hk)
      (try clear hi)
      (try clear ho0)
      refine hK.out _ _ ⟨bc BK483 0, bc BK483 1, bc BK483 2, bc BK483 3, bc BK483 4, bc BK483 5, bc BK483 6, bc BK484 0, bc BK484 1⟩ (fun hHeld => ?_)
      clear hK K
      refine norm_ (a' := ?_) ?_ ?_
      rotate_left
      ·
       show Act.put _ (some 20) _ = _
       simp only [Act.put, List.setIfInBounds_toArray, List.set_cons_zero, List.set_cons_succ, i64_w, i32_w]
       rfl
      refine pure_ (i := 7) (N := some 13) (v := ?_) (a' := ?_) #[true, true, true, true, true, true, true, true, false, false, true, false, false] rfl rfl (any_of HT_.out (by kernel_rfl)) (fun _ _ _ h => h) (Or.inl ⟨by rfl, ?_⟩) ?_ ?_
      rotate_left
      ·
       intro w'
       go_simp
       with_reducible rfl
      rotate_left
      ·
       simp only [Act.put, List.setIfInBounds_toArray, List.set_cons_zero, List.set_cons_succ, i64_w, i32_w]
       rfl
      refine pure_ (i := 8) (N := some 21) (v := ?_) (a' := ?_) #[true, true, true, true, true, true, true, true, true, false, true, false, false] rfl rfl (any_of HT_.out (by kernel_rfl)) (fun _ _ _ h => h) (Or.inl ⟨by rfl, ?_⟩) ?_ ?_
      rotate_left
      ·
       intro w'
       go_simp
       with_reducible rfl
      rotate_left
      ·
       simp only [Act.put, List.setIfInBounds_toArray, List.set_cons_zero, List.set_cons_succ, i64_w, i32_w]
       rfl
      refine pure_ (i := 9) (N := some 22) (v := ?_) (a' := ?_) #[true, true, true, true, true, true, true, true, true, true, true, false, false] rfl rfl (any_of HT_.out (by kernel_rfl)) (fun _ _ _ h => h) (Or.inl ⟨by rfl, ?_⟩) ?_ ?_
      rotate_left
      ·
       intro w'
       go_simp
       with_reducible rfl
      rotate_left
      ·
       simp only [Act.put, List.setIfInBounds_toArray, List.set_cons_zero, List.set_cons_succ, i64_w, i32_w]
       rfl
      exact norm_ (by first | (simp only [putAll, Act.put, List.setIfInBounds_toArray, List.set_cons_zero, List.set_cons_succ]; done) | (simp only [putAll, Act.put, List.setIfInBounds_toArray, List.set_cons_zero, List.set_cons_succ]; rfl)) (hJ1_4_5_6_10 (v497, v506, .slice Ao25 y508.length co25, v512, gb521) _ ⟨hHeld, (Kd.Rq (Kd.R_mono HO507.out (fun _ hk => ⟨hk.1.1, ⟨hk.2, hk.1.2⟩⟩))), (Kd.Rq (Kd.R_mono HO510.out (fun _ hk => ⟨hk.1.1, ⟨hk.2, hk.1.2⟩⟩))), (Kd.Rq (Kd.R_mono HO513.out (fun _ hk => ⟨hk.1.1.2, ⟨hk.1.2, hk.2⟩⟩))), (bkq BK483.out), (bkq BK484.out), (bkq BK485.out), (bkq BK521.out), GW521.out, GE521.out, NB483_521.out, NB521_483.out, NB484_521.out, NB521_484.out, NB485_521.out, NB521_485.out, (blq HB.out)⟩)
    ·
     skip
     rintro ⟨v497, v506, v509, v512⟩ w25 ⟨hS_, h0_, h1_, h2_, h3_, h4_, h5_, h6_⟩
     have n0_ : Aside0 (Kd.R k41 41 w25 w.heap.size (fun k_ => some k_ ≠ (v509 : Value).ownBlock ∧ some k_ ≠ (v512 : Value).ownBlock ∧ k_ ≠ gb484) v506 y505) := ⟨h0_⟩
     have n1_ : Aside0 (Kd.R k41 41 w25 w.heap.size (fun k_ => some k_ ≠ (v506 : Value).ownBlock ∧ some k_ ≠ (v512 : Value).ownBlock ∧ k_ ≠ gb484) v509 y508) := ⟨h1_⟩
     have n2_ : Aside0 (Kd.R k41 41 w25 w.heap.size (fun k_ => some k_ ≠ (v506 : Value).ownBlock ∧ some k_ ≠ (v509 : Value).ownBlock ∧ k_ ≠ gb484) v512 t511) := ⟨h2_⟩
     have n3_ : Aside0 (w25.heap[gb483]? = some (.cells #[.slice A0_0 l0_0.length c0_0, .int .i64 a0_1, .int .i64 a0_2, .int .i64 a0_3, .int .i64 a0_4, .int .i64 a0_5, .int .i64 a0_6] 31 (0, 0))) := ⟨h3_⟩
     have n4_ : Aside0 (w25.heap[gb484]? = some (.cells #[.int .i64 a1_0, .int .i64 a1_1] 41 (0, 0))) := ⟨h4_⟩
     have n5_ : Aside0 (w25.heap[gb485]? = some (.cells #[.slice none 0 0, .int .i64 0, .int .i64 0, .int .i64 0, .int .i64 0, .int .i64 0, .int .i64 0] 31 (0, 0))) := ⟨h5_⟩
     have n6_ : Aside0 (Below w.heap.size w w25) := ⟨h6_⟩
     clear BK483
     clear BK484
     clear BK485
     clear HB
     clear h0_ h1_ h2_ h3_ h4_ h5_ h6_
     have HO507 := n0_
     have HO510 := n1_
     have HO513 := n2_
     have BK483 := n3_
     have BK484 := n4_
     have BK485 := n5_
     have HB := n6_
     clear n0_ n1_ n2_ n3_ n4_ n5_ n6_
     have hHeld : w25.cell? ⟨gb483, 0, none⟩ = some (.slice A0_0 l0_0.length c0_0) ∧ w25.cell? ⟨gb483, 1, none⟩ = some (.int .i64 a0_1) ∧ w25.cell? ⟨gb483, 2, none⟩ = some (.int .i64 a0_2) ∧ w25.cell? ⟨gb483, 3, none⟩ = some (.int .i64 a0_3) ∧ w25.cell? ⟨gb483, 4, none⟩ = some (.int .i64 a0_4) ∧ w25.cell? ⟨gb483, 5, none⟩ = some (.int .i64 a0_5) ∧ w25.cell? ⟨gb483, 6, none⟩ = some (.int .i64 a0_6) ∧ w25.cell? ⟨gb484, 0, none⟩ = some (.int .i64 a1_0) ∧ w25.cell? ⟨gb484, 1, none⟩ = some (.int .i64 a1_1) := hS_
     refine norm_ (a' := ?_) ?_ ?_
     rotate_left
     ·
      simp only [putAll, Act.put, List.setIfInBounds_toArray, List.set_cons_zero, List.set_cons_succ]
      rfl
     refine one_ (i := 10) (N := some 6) #[true, true, true, true, true, true, true, true, true, true, true, false, false] rfl rfl (one_of HT_.out (by kernel_rfl)) (by decide) (fun K hK => ?_)
     refine box_step ?hg (N := 6) ?hd (cs := #[.slice none 0 0, .int .i64 0, .int .i64 0, .int .i64 0, .int .i64 0, .int .i64 0, .int .i64 0]) (t := 31) ?hr ?_; (case hd => rfl); (case hg => rfl); (case hr => first | (go_simp; done) | (go_simp; rfl))
     intro gb521 hg w26 hbox hb
     have BK521 := Aside0.mk (hbox)
     have GW521 := sQ hg HB
     have GE521 := sQ hg HB
     have NB483_521 := qL hg BK483
     have NB521_483 := qG hg BK483
     have NB484_521 := qL hg BK484
     have NB521_484 := qG hg BK484
     have NB485_521 := qL hg BK485
     have NB521_485 := qG hg BK485
     replace HO507 := rob HO507 hb
     replace HO510 := rob HO510 hb
     replace HO513 := rob HO513 hb
     replace BK483 := bkb BK483 hb
     replace BK484 := bkb BK484 hb
     replace BK485 := bkb BK485 hb
     replace HB := hbs HB hb
     clear hb hbox hg
     refine hK.out _ _ ⟨bc BK483 0, bc BK483 1, bc BK483 2, bc BK483 3, bc BK483 4, bc BK483 5, bc BK483 6, bc BK484 0, bc BK484 1⟩ (fun hHeld => ?_)
     clear hK K
     refine norm_ (a' := ?_) ?_ ?_
     rotate_left
     ·
      show Act.put _ (some 6) _ = _
      simp only [Act.put, List.setIfInBounds_toArray, List.set_cons_zero, List.set_cons_succ, i64_w, i32_w]
      rfl
     exact norm_ (by first | (simp only [putAll, Act.put, List.setIfInBounds_toArray, List.set_cons_zero, List.set_cons_succ]; done) | (simp only [putAll, Act.put, List.setIfInBounds_toArray, List.set_cons_zero, List.set_cons_succ]; rfl)) (hJ1_4_5_6_10 (v497, v506, v509, v512, gb521) _ ⟨hHeld, (Kd.Rq HO507.out), (Kd.Rq HO510.out), (Kd.Rq HO513.out), (bkq BK483.out), (bkq BK484.out), (bkq BK485.out), (bkq BK521.out), GW521.out, GE521.out, NB483_521.out, NB521_483.out, NB484_521.out, NB521_484.out, NB485_521.out, NB521_485.out, (blq HB.out)⟩)
   rintro ⟨v497, v506, v509, v512, gb521⟩ w26 ⟨hS_, h0_, h1_, h2_, h3_, h4_, h5_, h6_, h7_, h8_, h9_, h10_, h11_, h12_, h13_, h14_, h15_⟩
   have n0_ : Aside0 (Kd.R k41 41 w26 w.heap.size (fun k_ => some k_ ≠ (v509 : Value).ownBlock ∧ some k_ ≠ (v512 : Value).ownBlock ∧ k_ ≠ gb484) v506 y505) := ⟨h0_⟩
   have n1_ : Aside0 (Kd.R k41 41 w26 w.heap.size (fun k_ => some k_ ≠ (v506 : Value).ownBlock ∧ some k_ ≠ (v512 : Value).ownBlock ∧ k_ ≠ gb484) v509 y508) := ⟨h1_⟩
   have n2_ : Aside0 (Kd.R k41 41 w26 w.heap.size (fun k_ => some k_ ≠ (v506 : Value).ownBlock ∧ some k_ ≠ (v509 : Value).ownBlock ∧ k_ ≠ gb484) v512 t511) := ⟨h2_⟩
   have n3_ : Aside0 (w26.heap[gb483]? = some (.cells #[.slice A0_0 l0_0.length c0_0, .int .i64 a0_1, .int .i64 a0_2, .int .i64 a0_3, .int .i64 a0_4, .int .i64 a0_5, .int .i64 a0_6] 31 (0, 0))) := ⟨h3_⟩
   have n4_ : Aside0 (w26.heap[gb484]? = some (.cells #[.int .i64 a1_0, .int .i64 a1_1] 41 (0, 0))) := ⟨h4_⟩
   have n5_ : Aside0 (w26.heap[gb485]? = some (.cells #[.slice none 0 0, .int .i64 0, .int .i64 0, .int .i64 0, .int .i64 0, .int .i64 0, .int .i64 0] 31 (0, 0))) := ⟨h5_⟩
   have n6_ : Aside0 (w26.heap[gb521]? = some (.cells #[.slice none 0 0, .int .i64 0, .int .i64 0, .int .i64 0, .int .i64 0, .int .i64 0, .int .i64 0] 31 (0, 0))) := ⟨h6_⟩
   have n7_ : Aside0 (w.heap.size ≤ gb521) := ⟨h7_⟩
   have n8_ : Aside0 (w.heap.size ≤ gb521) := ⟨h8_⟩
   have n9_ : Aside0 (gb483 ≠ gb521) := ⟨h9_⟩
   have n10_ : Aside0 (gb521 ≠ gb483) := ⟨h10_⟩
   have n11_ : Aside0 (gb484 ≠ gb521) := ⟨h11_⟩
   have n12_ : Aside0 (gb521 ≠ gb484) := ⟨h12_⟩
   have n13_ : Aside0 (gb485 ≠ gb521) := ⟨h13_⟩
   have n14_ : Aside0 (gb521 ≠ gb485) := ⟨h14_⟩
   have n15_ : Aside0 (Below w.heap.size w w26) := ⟨h15_⟩
   clear BK483
   clear BK484
   clear BK485
   clear HB
   clear h0_ h1_ h2_ h3_ h4_ h5_ h6_ h7_ h8_ h9_ h10_ h11_ h12_ h13_ h14_ h15_
   have HO507 := n0_
   have HO510 := n1_
   have HO513 := n2_
   have BK483 := n3_
   have BK484 := n4_
   have BK485 := n5_
   have BK521 := n6_
   have GW521 := n7_
   have GE521 := n8_
   have NB483_521 := n9_
   have NB521_483 := n10_
   have NB484_521 := n11_
   have NB521_484 := n12_
   have NB485_521 := n13_
   have NB521_485 := n14_
   have HB := n15_
   clear n0_ n1_ n2_ n3_ n4_ n5_ n6_ n7_ n8_ n9_ n10_ n11_ n12_ n13_ n14_ n15_
   have hHeld : w26.cell? ⟨gb483, 0, none⟩ = some (.slice A0_0 l0_0.length c0_0) ∧ w26.cell? ⟨gb483, 1, none⟩ = some (.int .i64 a0_1) ∧ w26.cell? ⟨gb483, 2, none⟩ = some (.int .i64 a0_2) ∧ w26.cell? ⟨gb483, 3, none⟩ = some (.int .i64 a0_3) ∧ w26.cell? ⟨gb483, 4, none⟩ = some (.int .i64 a0_4) ∧ w26.cell? ⟨gb483, 5, none⟩ = some (.int .i64 a0_5) ∧ w26.cell? ⟨gb483, 6, none⟩ = some (.int .i64 a0_6) ∧ w26.cell? ⟨gb484, 0, none⟩ = some (.int .i64 a1_0) ∧ w26.cell? ⟨gb484, 1, none⟩ = some (.int .i64 a1_1) := hS_
   obtain ⟨Ao27, co27, eo27⟩ := Kd.R_slice HO513.out
   (first | subst eo27 | (injection eo27 with f1_ f2_ f3_; have f4_ := f1_.symm; have f5_ := f3_.symm; clear f1_ f2_ f3_; subst f4_; subst f5_))
   refine norm_ (a' := ?_) ?_ ?_
   rotate_left
   ·
    simp only [putAll, Act.put, List.setIfInBounds_toArray, List.set_cons_zero, List.set_cons_succ]
    rfl
   refine one_ (i := 11) (N := none) #[true, true, true, true, true, true, true, true, true, true, true, true, false] rfl rfl (one_of HT_.out (by kernel_rfl)) (by decide) (fun K hK => ?_)
   have hs28 : w26.cell? ⟨gb521, 0, none⟩ = some (.slice none 0 0) := bc BK521 0
   have hfs28 := blk_frozen BK521.out 0
   have hns28_0 := NB483_521.out
   have hns28_1 := NB484_521.out
   have hns28_2 := NB485_521.out
   have hms28_0 := NB521_483.out
   have hms28_1 := NB521_484.out
   have hms28_2 := NB521_485.out
   have hs29 : w26.cell? ⟨gb521, 1, none⟩ = some (.int .i64 0) := bc BK521 1
   have hfs29 := blk_frozen BK521.out 1
   have hns29_0 := NB483_521.out
   have hns29_1 := NB484_521.out
   have hns29_2 := NB485_521.out
   have hms29_0 := NB521_483.out
   have hms29_1 := NB521_484.out
   have hms29_2 := NB521_485.out
   have hs30 : w26.cell? ⟨gb521, 2, none⟩ = some (.int .i64 0) := bc BK521 2
   have hfs30 := blk_frozen BK521.out 2
   have hns30_0 := NB483_521.out
   have hns30_1 := NB484_521.out
   have hns30_2 := NB485_521.out
   have hms30_0 := NB521_483.out
   have hms30_1 := NB521_484.out
   have hms30_2 := NB521_485.out
   have hs31 : w26.cell? ⟨gb521, 3, none⟩ = some (.int .i64 0) := bc BK521 3
   have hfs31 := blk_frozen BK521.out 3
   have hns31_0 := NB483_521.out
   have hns31_1 := NB484_521.out
   have hns31_2 := NB485_521.out
   have hms31_0 := NB521_483.out
   have hms31_1 := NB521_484.out
   have hms31_2 := NB521_485.out
   have hs32 : w26.cell? ⟨gb521, 4, none⟩ = some (.int .i64 0) := bc BK521 4
   have hfs32 := blk_frozen BK521.out 4
   have hns32_0 := NB483_521.out
   have hns32_1 := NB484_521.out
   have hns32_2 := NB485_521.out
   have hms32_0 := NB521_483.out
   have hms32_1 := NB521_484.out
   have hms32_2 := NB521_485.out
   have hs33 : w26.cell? ⟨gb521, 5, none⟩ = some (.int .i64 0) := bc BK521 5
   have hfs33 := blk_frozen BK521.out 5
   have hns33_0 := NB483_521.out
   have hns33_1 := NB484_521.out
   have hns33_2 := NB485_521.out
   have hms33_0 := NB521_483.out
   have hms33_1 := NB521_484.out
   have hms33_2 := NB521_485.out
   have hs34 : w26.cell? ⟨gb521, 6, none⟩ = some (.int .i64 0) := bc BK521 6
   have hfs34 := blk_frozen BK521.out 6
   have hns34_0 := NB483_521.out
   have hns34_1 := NB484_521.out
   have hns34_2 := NB485_521.out
   have hms34_0 := NB521_483.out
   have hms34_1 := NB521_484.out
   have hms34_2 := NB521_485.out
   refine skip_ (w1 := ?_) (by rfl) rfl ?_ ?_
   rotate_left
   ·
    go_simp
    rfl
   refine hK.out _ _ ⟨((cf NB483_521).trans (((cf NB483_521).trans (((cf NB483_521).trans (((cf NB483_521).trans (((cf NB483_521).trans (((cf NB483_521).trans (((cf NB483_521).trans (hHeld.1)))))))))))))), ((cf NB483_521).trans (((cf NB483_521).trans (((cf NB483_521).trans (((cf NB483_521).trans (((cf NB483_521).trans (((cf NB483_521).trans (((cf NB483_521).trans (hHeld.2.1)))))))))))))), ((cf NB483_521).trans (((cf NB483_521).trans (((cf NB483_521).trans (((cf NB483_521).trans (((cf NB483_521).trans (((cf NB483_521).trans (((cf NB483_521).trans (hHeld.2.2.1)))))))))))))), ((cf NB483_521).trans (((cf NB483_521).trans (((cf NB483_521).trans (((cf NB483_521).trans (((cf NB483_521).trans (((cf NB483_521).trans (((cf NB483_521).trans (hHeld.2.2.2.1)))))))))))))), ((cf NB483_521).trans (((cf NB483_521).trans (((cf NB483_521).trans (((cf NB483_521).trans (((cf NB483_521).trans (((cf NB483_521).trans (((cf NB483_521).trans (hHeld.2.2.2.2.1)))))))))))))), ((cf NB483_521).trans (((cf NB483_521).trans (((cf NB483_521).trans (((cf NB483_521).trans (((cf NB483_521).trans (((cf NB483_521).trans (((cf NB483_521).trans (hHeld.2.2.2.2.2.1)))))))))))))), ((cf NB483_521).trans (((cf NB483_521).trans (((cf NB483_521).trans (((cf NB483_521).trans (((cf NB483_521).trans (((cf NB483_521).trans (((cf NB483_521).trans (hHeld.2.2.2.2.2.2.1)))))))))))))), ((cf NB484_521).trans (((cf NB484_521).trans (((cf NB484_521).trans (((cf NB484_521).trans (((cf NB484_521).trans (((cf NB484_521).trans (((cf NB484_521).trans (hHeld.2.2.2.2.2.2.2.1)))))))))))))), ((cf NB484_521).trans (((cf NB484_521).trans (((cf NB484_521).trans (((cf NB484_521).trans (((cf NB484_521).trans (((cf NB484_521).trans (((cf NB484_521).trans (hHeld.2.2.2.2.2.2.2.2))))))))))))))⟩ (fun hHeld => ?_)
   clear hK K
   refine pure_ (i := 12) (N := some 7) (v := ?_) (a' := ?_) #[true, true, true, true, true, true, true, true, true, true, true, true, true] rfl rfl (any_of HT_.out (by kernel_rfl)) (fun _ _ _ h => h) (Or.inl ⟨by rfl, ?_⟩) ?_ ?_
   rotate_left
   ·
    intro w'
    go_simp
    with_reducible rfl
   rotate_left
   ·
    simp only [Act.put, List.setIfInBounds_toArray, List.set_cons_zero, List.set_cons_succ, i64_w, i32_w]
    rfl
   refine done_ (done_of HT_.out (by kernel_rfl)) ?_
   go_upto_if 24 with (fail)
   have H := HF16.out
   clear HF16
   by_cases c35 : t520 = true
   ·
    subst c35
    have H1 : (some (t511, t514, t515, t516, t517, t518, t519, true)) = some (r1, r2, r3, r4, r5, r6, r7, r8) := by rw [if_pos rfl] at H; exact H
    clear H
    have H := H1
    clear H1
    simp only [Option.some.injEq, Prod.mk.injEq] at H
    obtain ⟨rfl, rfl, rfl, rfl, rfl, rfl, rfl, rfl⟩ := H
    obtain ⟨_, _, _, _, _, _⟩ := ne6 NB521_483 NB483_521 NB521_484 NB484_521 NB521_485 NB485_521
    have hcz39_0 : w26.cell? ⟨gb521, 0, none⟩ = some (.slice none 0 0) := bc BK521 0
    have hcz39_1 : w26.cell? ⟨gb521, 1, none⟩ = some (.int .i64 0) := bc BK521 1
    have hcz39_2 : w26.cell? ⟨gb521, 2, none⟩ = some (.int .i64 0) := bc BK521 2
    have hcz39_3 : w26.cell? ⟨gb521, 3, none⟩ = some (.int .i64 0) := bc BK521 3
    have hcz39_4 : w26.cell? ⟨gb521, 4, none⟩ = some (.int .i64 0) := bc BK521 4
    have hcz39_5 : w26.cell? ⟨gb521, 5, none⟩ = some (.int .i64 0) := bc BK521 5
    have hcz39_6 : w26.cell? ⟨gb521, 6, none⟩ = some (.int .i64 0) := bc BK521 6
    have hfz39_0 := blk_frozen BK521.out 0
    have hfz39_1 := blk_frozen BK521.out 1
    have hfz39_2 := blk_frozen BK521.out 2
    have hfz39_3 := blk_frozen BK521.out 3
    have hfz39_4 := blk_frozen BK521.out 4
    have hfz39_5 := blk_frozen BK521.out 5
    have hfz39_6 := blk_frozen BK521.out 6
    obtain ⟨_, _, _, _⟩ := ne4 NB485_483 NB483_485 NB485_484 NB484_485
    obtain ⟨hcz42_0, hcz42_1, hcz42_2, hcz42_3, hcz42_4, hcz42_5, hcz42_6, hfz42_0, hfz42_1, hfz42_2, hfz42_3, hfz42_4, hfz42_5, hfz42_6⟩ := bq7 BK485.out
    go_wp2
    refine bodyPost_ret (results_ct rfl _ _ gb485 31 #[.slice Ao27 t511.length co27, .int .i64 t514, .int .i64 t515, .int .i64 t516, .int .i64 t517, .int .i64 t518, .int .i64 t519] (0, 0) _ rfl (by (with_reducible repeat (first | refine blk_drewN ?_ _ | refine blk_drew ?_ | refine blk_alloc ?_ _)); refine blk_put (cs := #[.slice Ao27 t511.length co27, .int .i64 t514, .int .i64 t515, .int .i64 t516, .int .i64 t517, .int .i64 t518, .int .i64 0]) ?_ 6 _ rfl; (with_reducible repeat (first | refine blk_drewN ?_ _ | refine blk_drew ?_ | refine blk_alloc ?_ _)); refine blk_put (cs := #[.slice Ao27 t511.length co27, .int .i64 t514, .int .i64 t515, .int .i64 t516, .int .i64 t517, .int .i64 0, .int .i64 0]) ?_ 5 _ rfl; (with_reducible repeat (first | refine blk_drewN ?_ _ | refine blk_drew ?_ | refine blk_alloc ?_ _)); refine blk_put (cs := #[.slice Ao27 t511.length co27, .int .i64 t514, .int .i64 t515, .int .i64 t516, .int .i64 0, .int .i64 0, .int .i64 0]) ?_ 4 _ rfl; (with_reducible repeat (first | refine blk_drewN ?_ _ | refine blk_drew ?_ | refine blk_alloc ?_ _)); refine blk_put (cs := #[.slice Ao27 t511.length co27, .int .i64 t514, .int .i64 t515, .int .i64 0, .int .i64 0, .int .i64 0, .int .i64 0]) ?_ 3 _ rfl; (with_reducible repeat (first | refine blk_drewN ?_ _ | refine blk_drew ?_ | refine blk_alloc ?_ _)); refine blk_put (cs := #[.slice Ao27 t511.length co27, .int .i64 t514, .int .i64 0, .int .i64 0, .int .i64 0, .int .i64 0, .int .i64 0]) ?_ 2 _ rfl; (with_reducible repeat (first | refine blk_drewN ?_ _ | refine blk_drew ?_ | refine blk_alloc ?_ _)); refine blk_put (cs := #[.slice Ao27 t511.length co27, .int .i64 0, .int .i64 0, .int .i64 0, .int .i64 0, .int .i64 0, .int .i64 0]) ?_ 1 _ rfl; (with_reducible repeat (first | refine blk_drewN ?_ _ | refine blk_drew ?_ | refine blk_alloc ?_ _)); refine blk_put (cs := #[.slice none 0 0, .int .i64 0, .int .i64 0, .int .i64 0, .int .i64 0, .int .i64 0, .int .i64 0]) ?_ 0 _ rfl; (with_reducible repeat (first | refine blk_drewN ?_ _ | refine blk_drew ?_ | refine blk_alloc ?_ _)); refine blk_far ?_ NB485_521.out _; (with_reducible repeat (first | refine blk_drewN ?_ _ | refine blk_drew ?_ | refine blk_alloc ?_ _)); refine blk_far ?_ NB485_521.out _; (with_reducible repeat (first | refine blk_drewN ?_ _ | refine blk_drew ?_ | refine blk_alloc ?_ _)); refine blk_far ?_ NB485_521.out _; (with_reducible repeat (first | refine blk_drewN ?_ _ | refine blk_drew ?_ | refine blk_alloc ?_ _)); refine blk_far ?_ NB485_521.out _; (with_reducible repeat (first | refine blk_drewN ?_ _ | refine blk_drew ?_ | refine blk_alloc ?_ _)); refine blk_far ?_ NB485_521.out _; (with_reducible repeat (first | refine blk_drewN ?_ _ | refine blk_drew ?_ | refine blk_alloc ?_ _)); refine blk_far ?_ NB485_521.out _; (with_reducible repeat (first | refine blk_drewN ?_ _ | refine blk_drew ?_ | refine blk_alloc ?_ _)); refine blk_far ?_ NB485_521.out _; (with_reducible repeat (first | refine blk_drewN ?_ _ | refine blk_drew ?_ | refine blk_alloc ?_ _)); exact BK485.out) Try.underlying31 rfl (by kernel_rfl)) rfl ?_
    exact ⟨_, by first | rfl | (simp [errW_none, errW_some] <;> rfl) | (simp [*, errW_none, errW_some] <;> rfl), Kd.Rq (Kd.R_mono (Kd.R_far (p := ⟨gb485, 6, none⟩) (Kd.R_far (p := ⟨gb485, 5, none⟩) (Kd.R_far (p := ⟨gb485, 4, none⟩) (Kd.R_far (p := ⟨gb485, 3, none⟩) (Kd.R_far (p := ⟨gb485, 2, none⟩) (Kd.R_far (p := ⟨gb485, 1, none⟩) (Kd.R_far (p := ⟨gb485, 0, none⟩) (Kd.R_far (p := ⟨gb521, 6, none⟩) (Kd.R_far (p := ⟨gb521, 5, none⟩) (Kd.R_far (p := ⟨gb521, 4, none⟩) (Kd.R_far (p := ⟨gb521, 3, none⟩) (Kd.R_far (p := ⟨gb521, 2, none⟩) (Kd.R_far (p := ⟨gb521, 1, none⟩) (Kd.R_far (p := ⟨gb521, 0, none⟩) (Kd.R_types (Kd.R_types HO513.out BK521.out (by decide)) BK485.out (by decide)) (fun _ hk => hk.1.2) (.slice Ao27 t511.length co27)) (fun _ hk => hk.1.2) (.int .i64 t514)) (fun _ hk => hk.1.2) (.int .i64 t515)) (fun _ hk => hk.1.2) (.int .i64 t516)) (fun _ hk => hk.1.2) (.int .i64 t517)) (fun _ hk => hk.1.2) (.int .i64 t518)) (fun _ hk => hk.1.2) (.int .i64 t519)) (fun _ hk => hk.2) (.slice Ao27 t511.length co27)) (fun _ hk => hk.2) (.int .i64 t514)) (fun _ hk => hk.2) (.int .i64 t515)) (fun _ hk => hk.2) (.int .i64 t516)) (fun _ hk => hk.2) (.int .i64 t517)) (fun _ hk => hk.2) (.int .i64 t518)) (fun _ hk => hk.2) (.int .i64 t519)) (fun _ hk => trivial)), blq HB.out⟩
   ·
    replace c35 := Bool.eq_false_iff.mpr c35
    subst c35
    have H1 : ((impl_bookCopy.f l0_0 a0_1 a0_2 a0_3 a0_4 a0_5 a0_6).bind fun bt522 => (some (bt522.1, bt522.2.1, bt522.2.2.1, bt522.2.2.2.1, bt522.2.2.2.2.1, bt522.2.2.2.2.2.1, bt522.2.2.2.2.2.2, false))) = some (r1, r2, r3, r4, r5, r6, r7, r8) := by rw [if_neg (show ¬ (false = true) by decide)] at H; exact H
    clear H
    have H := H1
    clear H1
    replace H := Option.bind_eq_some_iff.mp H
    obtain ⟨⟨t522, t525, t526, t527, t528, t529, t530⟩, A430, H⟩ := H
    replace H : (some (t522, t525, t526, t527, t528, t529, t530, false)) = some (r1, r2, r3, r4, r5, r6, r7, r8) := H
    have A43 := Aside0.mk A430
    clear A430
    simp only [Option.some.injEq, Prod.mk.injEq] at H
    obtain ⟨rfl, rfl, rfl, rfl, rfl, rfl, rfl, rfl⟩ := H
    obtain ⟨_, _, _, _, _, _⟩ := ne6 NB483_484 NB484_483 NB483_485 NB485_483 NB483_521 NB521_483
    obtain ⟨hcz47_0, hcz47_1, hcz47_2, hcz47_3, hcz47_4, hcz47_5, hcz47_6, hfz47_0, hfz47_1, hfz47_2, hfz47_3, hfz47_4, hfz47_5, hfz47_6⟩ := bq7 BK483.out
    go_wp2_with (first | ((with_reducible refine gate_callee (f := 56) rfl ?_); refine gLq (some 26) Try.func56 #[.agg #[.slice A0_0 l0_0.length c0_0, .int .i64 a0_1, .int .i64 a0_2, .int .i64 a0_3, .int .i64 a0_4, .int .i64 a0_5, .int .i64 a0_6]] ?_; (with_reducible refine (impl_bookCopy.calls _ _ l0_0 a0_1 a0_2 a0_3 a0_4 a0_5 a0_6 t522 t525 t526 t527 t528 t529 t530 _ ?side1 ?side2 A43.out).mono ?_); (case side1 => exact Kd.C_below HR0_0.out (blq HB.out)); (case side2 => exact HC0_0.out); rintro e w48 ⟨v523, rfl, ho0, hb⟩; refine ⟨_, rfl, ?_⟩; have HO524 := Aside0.mk (Kd.R_lower (Kd.R_newB (Kd.R_new' (Kd.R_new' (Kd.R_new' ho0 (Kd.R_lt (Kd.Rq (Kd.R_mono (Kd.R_far (p := ⟨gb521, 6, none⟩) (Kd.R_far (p := ⟨gb521, 5, none⟩) (Kd.R_far (p := ⟨gb521, 4, none⟩) (Kd.R_far (p := ⟨gb521, 3, none⟩) (Kd.R_far (p := ⟨gb521, 2, none⟩) (Kd.R_far (p := ⟨gb521, 1, none⟩) (Kd.R_far (p := ⟨gb521, 0, none⟩) (Kd.R_types HO507.out BK521.out (by decide)) (fun _ hk => hk.2) (.slice Ao27 t511.length co27)) (fun _ hk => hk.2) (.int .i64 t514)) (fun _ hk => hk.2) (.int .i64 t515)) (fun _ hk => hk.2) (.int .i64 t516)) (fun _ hk => hk.2) (.int .i64 t517)) (fun _ hk => hk.2) (.int .i64 t518)) (fun _ hk => hk.2) (.int .i64 t519)) (fun _ h_ => h_.1))))) (Kd.R_lt (Kd.Rq (Kd.R_mono (Kd.R_far (p := ⟨gb521, 6, none⟩) (Kd.R_far (p := ⟨gb521, 5, none⟩) (Kd.R_far (p := ⟨gb521, 4, none⟩) (Kd.R_far (p := ⟨gb521, 3, none⟩) (Kd.R_far (p := ⟨gb521, 2, none⟩) (Kd.R_far (p := ⟨gb521, 1, none⟩) (Kd.R_far (p := ⟨gb521, 0, none⟩) (Kd.R_types HO510.out BK521.out (by decide)) (fun _ hk => hk.2) (.slice Ao27 t511.length co27)) (fun _ hk => hk.2) (.int .i64 t514)) (fun _ hk => hk.2) (.int .i64 t515)) (fun _ hk => hk.2) (.int .i64 t516)) (fun _ hk => hk.2) (.int .i64 t517)) (fun _ hk => hk.2) (.int .i64 t518)) (fun _ hk => hk.2) (.int .i64 t519)) (fun _ h_ => h_.1))))) (Kd.R_lt (Kd.Rq (Kd.R_mono (Kd.R_far (p := ⟨gb521, 6, none⟩) (Kd.R_far (p := ⟨gb521, 5, none⟩) (Kd.R_far (p := ⟨gb521, 4, none⟩) (Kd.R_far (p := ⟨gb521, 3, none⟩) (Kd.R_far (p := ⟨gb521, 2, none⟩) (Kd.R_far (p := ⟨gb521, 1, none⟩) (Kd.R_far (p := ⟨gb521, 0, none⟩) (Kd.R_types HO513.out BK521.out (by decide)) (fun _ hk => hk.2) (.slice Ao27 t511.length co27)) (fun _ hk => hk.2) (.int .i64 t514)) (fun _ hk => hk.2) (.int .i64 t515)) (fun _ hk => hk.2) (.int .i64 t516)) (fun _ hk => hk.2) (.int .i64 t517)) (fun _ hk => hk.2) (.int .i64 t518)) (fun _ hk => hk.2) (.int .i64 t519)) (fun _ h_ => h_.1))))) (g := gb484) (o := .cells #[.int .i64 a1_0, .int .i64 a1_1] 41 (0, 0)) (qk BK484.out)) (below_size (blq HB.out))); replace HO507 := Aside0.mk (Kd.R_elder' (Kd.Rq (Kd.R_mono (Kd.R_far (p := ⟨gb521, 6, none⟩) (Kd.R_far (p := ⟨gb521, 5, none⟩) (Kd.R_far (p := ⟨gb521, 4, none⟩) (Kd.R_far (p := ⟨gb521, 3, none⟩) (Kd.R_far (p := ⟨gb521, 2, none⟩) (Kd.R_far (p := ⟨gb521, 1, none⟩) (Kd.R_far (p := ⟨gb521, 0, none⟩) (Kd.R_types HO507.out BK521.out (by decide)) (fun _ hk => hk.2) (.slice Ao27 t511.length co27)) (fun _ hk => hk.2) (.int .i64 t514)) (fun _ hk => hk.2) (.int .i64 t515)) (fun _ hk => hk.2) (.int .i64 t516)) (fun _ hk => hk.2) (.int .i64 t517)) (fun _ hk => hk.2) (.int .i64 t518)) (fun _ hk => hk.2) (.int .i64 t519)) (fun _ h_ => h_.1))) (Kd.R_base ho0) hb); replace HO510 := Aside0.mk (Kd.R_elder' (Kd.Rq (Kd.R_mono (Kd.R_far (p := ⟨gb521, 6, none⟩) (Kd.R_far (p := ⟨gb521, 5, none⟩) (Kd.R_far (p := ⟨gb521, 4, none⟩) (Kd.R_far (p := ⟨gb521, 3, none⟩) (Kd.R_far (p := ⟨gb521, 2, none⟩) (Kd.R_far (p := ⟨gb521, 1, none⟩) (Kd.R_far (p := ⟨gb521, 0, none⟩) (Kd.R_types HO510.out BK521.out (by decide)) (fun _ hk => hk.2) (.slice Ao27 t511.length co27)) (fun _ hk => hk.2) (.int .i64 t514)) (fun _ hk => hk.2) (.int .i64 t515)) (fun _ hk => hk.2) (.int .i64 t516)) (fun _ hk => hk.2) (.int .i64 t517)) (fun _ hk => hk.2) (.int .i64 t518)) (fun _ hk => hk.2) (.int .i64 t519)) (fun _ h_ => h_.1))) (Kd.R_base ho0) hb); replace HO513 := Aside0.mk (Kd.R_elder' (Kd.Rq (Kd.R_mono (Kd.R_far (p := ⟨gb521, 6, none⟩) (Kd.R_far (p := ⟨gb521, 5, none⟩) (Kd.R_far (p := ⟨gb521, 4, none⟩) (Kd.R_far (p := ⟨gb521, 3, none⟩) (Kd.R_far (p := ⟨gb521, 2, none⟩) (Kd.R_far (p := ⟨gb521, 1, none⟩) (Kd.R_far (p := ⟨gb521, 0, none⟩) (Kd.R_types HO513.out BK521.out (by decide)) (fun _ hk => hk.2) (.slice Ao27 t511.length co27)) (fun _ hk => hk.2) (.int .i64 t514)) (fun _ hk => hk.2) (.int .i64 t515)) (fun _ hk => hk.2) (.int .i64 t516)) (fun _ hk => hk.2) (.int .i64 t517)) (fun _ hk => hk.2) (.int .i64 t518)) (fun _ hk => hk.2) (.int .i64 t519)) (fun _ h_ => h_.1))) (Kd.R_base ho0) hb); replace BK483 := Aside0.mk (blk_below (g := gb483) (o := .cells #[.slice A0_0 l0_0.length c0_0, .int .i64 a0_1, .int .i64 a0_2, .int .i64 a0_3, .int .i64 a0_4, .int .i64 a0_5, .int .i64 a0_6] 31 (0, 0)) (qk BK483.out) hb); replace BK484 := Aside0.mk (blk_below (g := gb484) (o := .cells #[.int .i64 a1_0, .int .i64 a1_1] 41 (0, 0)) (qk BK484.out) hb); replace BK485 := Aside0.mk (blk_below (g := gb485) (o := .cells #[.slice none 0 0, .int .i64 0, .int .i64 0, .int .i64 0, .int .i64 0, .int .i64 0, .int .i64 0] 31 (0, 0)) (qk BK485.out) hb); replace BK521 := Aside0.mk (blk_below (g := gb521) (o := .cells #[.slice Ao27 t511.length co27, .int .i64 t514, .int .i64 t515, .int .i64 t516, .int .i64 t517, .int .i64 t518, .int .i64 t519] 31 (0, 0)) (by (with_reducible repeat (first | refine blk_drewN ?_ _ | refine blk_drew ?_ | refine blk_alloc ?_ _)); refine blk_put (cs := #[.slice Ao27 t511.length co27, .int .i64 t514, .int .i64 t515, .int .i64 t516, .int .i64 t517, .int .i64 t518, .int .i64 0]) ?_ 6 _ rfl; (with_reducible repeat (first | refine blk_drewN ?_ _ | refine blk_drew ?_ | refine blk_alloc ?_ _)); refine blk_put (cs := #[.slice Ao27 t511.length co27, .int .i64 t514, .int .i64 t515, .int .i64 t516, .int .i64 t517, .int .i64 0, .int .i64 0]) ?_ 5 _ rfl; (with_reducible repeat (first | refine blk_drewN ?_ _ | refine blk_drew ?_ | refine blk_alloc ?_ _)); refine blk_put (cs := #[.slice Ao27 t511.length co27, .int .i64 t514, .int .i64 t515, .int .i64 t516, .int .i64 0, .int .i64 0, .int .i64 0]) ?_ 4 _ rfl; (with_reducible repeat (first | refine blk_drewN ?_ _ | refine blk_drew ?_ | refine blk_alloc ?_ _)); refine blk_put (cs := #[.slice Ao27 t511.length co27, .int .i64 t514, .int .i64 t515, .int .i64 0, .int .i64 0, .int .i64 0, .int .i64 0]) ?_ 3 _ rfl; (with_reducible repeat (first | refine blk_drewN ?_ _ | refine blk_drew ?_ | refine blk_alloc ?_ _)); refine blk_put (cs := #[.slice Ao27 t511.length co27, .int .i64 t514, .int .i64 0, .int .i64 0, .int .i64 0, .int .i64 0, .int .i64 0]) ?_ 2 _ rfl; (with_reducible repeat (first | refine blk_drewN ?_ _ | refine blk_drew ?_ | refine blk_alloc ?_ _)); refine blk_put (cs := #[.slice Ao27 t511.length co27, .int .i64 0, .int .i64 0, .int .i64 0, .int .i64 0, .int .i64 0, .int .i64 0]) ?_ 1 _ rfl; (with_reducible repeat (first | refine blk_drewN ?_ _ | refine blk_drew ?_ | refine blk_alloc ?_ _)); refine blk_put (cs := #[.slice none 0 0, .int .i64 0, .int .i64 0, .int .i64 0, .int .i64 0, .int .i64 0, .int .i64 0]) ?_ 0 _ rfl; (with_reducible repeat (first | refine blk_drewN ?_ _ | refine blk_drew ?_ | refine blk_alloc ?_ _)); exact BK521.out) hb); replace HB := hbs HB hb; (try clear hb); (try clear hb2); (try clear hk); (try clear hi); (try clear ho0); obtain ⟨Ao49, co49, eo49⟩ := Kd.R_slice HO524.out; subst eo49; obtain ⟨_, _, _, _⟩ := ne4 NB485_484 NB484_485 NB485_521 NB521_485; obtain ⟨hcz52_0, hcz52_1, hcz52_2, hcz52_3, hcz52_4, hcz52_5, hcz52_6, hfz52_0, hfz52_1, hfz52_2, hfz52_3, hfz52_4, hfz52_5, hfz52_6⟩ := bq7 BK485.out))
    refine bodyPost_ret (results_ct rfl _ _ gb485 31 #[.slice Ao49 t522.length co49, .int .i64 t525, .int .i64 t526, .int .i64 t527, .int .i64 t528, .int .i64 t529, .int .i64 t530] (0, 0) _ rfl (by (with_reducible repeat (first | refine blk_drewN ?_ _ | refine blk_drew ?_ | refine blk_alloc ?_ _)); refine blk_put (cs := #[.slice Ao49 t522.length co49, .int .i64 t525, .int .i64 t526, .int .i64 t527, .int .i64 t528, .int .i64 t529, .int .i64 0]) ?_ 6 _ rfl; (with_reducible repeat (first | refine blk_drewN ?_ _ | refine blk_drew ?_ | refine blk_alloc ?_ _)); refine blk_put (cs := #[.slice Ao49 t522.length co49, .int .i64 t525, .int .i64 t526, .int .i64 t527, .int .i64 t528, .int .i64 0, .int .i64 0]) ?_ 5 _ rfl; (with_reducible repeat (first | refine blk_drewN ?_ _ | refine blk_drew ?_ | refine blk_alloc ?_ _)); refine blk_put (cs := #[.slice Ao49 t522.length co49, .int .i64 t525, .int .i64 t526, .int .i64 t527, .int .i64 0, .int .i64 0, .int .i64 0]) ?_ 4 _ rfl; (with_reducible repeat (first | refine blk_drewN ?_ _ | refine blk_drew ?_ | refine blk_alloc ?_ _)); refine blk_put (cs := #[.slice Ao49 t522.length co49, .int .i64 t525, .int .i64 t526, .int .i64 0, .int .i64 0, .int .i64 0, .int .i64 0]) ?_ 3 _ rfl; (with_reducible repeat (first | refine blk_drewN ?_ _ | refine blk_drew ?_ | refine blk_alloc ?_ _)); refine blk_put (cs := #[.slice Ao49 t522.length co49, .int .i64 t525, .int .i64 0, .int .i64 0, .int .i64 0, .int .i64 0, .int .i64 0]) ?_ 2 _ rfl; (with_reducible repeat (first | refine blk_drewN ?_ _ | refine blk_drew ?_ | refine blk_alloc ?_ _)); refine blk_put (cs := #[.slice Ao49 t522.length co49, .int .i64 0, .int .i64 0, .int .i64 0, .int .i64 0, .int .i64 0, .int .i64 0]) ?_ 1 _ rfl; (with_reducible repeat (first | refine blk_drewN ?_ _ | refine blk_drew ?_ | refine blk_alloc ?_ _)); refine blk_put (cs := #[.slice none 0 0, .int .i64 0, .int .i64 0, .int .i64 0, .int .i64 0, .int .i64 0, .int .i64 0]) ?_ 0 _ rfl; (with_reducible repeat (first | refine blk_drewN ?_ _ | refine blk_drew ?_ | refine blk_alloc ?_ _)); exact BK485.out) Try.underlying31 rfl (by kernel_rfl)) rfl ?_
    exact ⟨_, by first | rfl | (simp [errW_none, errW_some] <;> rfl) | (simp [*, errW_none, errW_some] <;> rfl), Kd.Rq (Kd.R_mono (Kd.R_far (p := ⟨gb485, 6, none⟩) (Kd.R_far (p := ⟨gb485, 5, none⟩) (Kd.R_far (p := ⟨gb485, 4, none⟩) (Kd.R_far (p := ⟨gb485, 3, none⟩) (Kd.R_far (p := ⟨gb485, 2, none⟩) (Kd.R_far (p := ⟨gb485, 1, none⟩) (Kd.R_far (p := ⟨gb485, 0, none⟩) (Kd.R_types HO524.out BK485.out (by decide)) (fun _ hk => hk.2) (.slice Ao49 t522.length co49)) (fun _ hk => hk.2) (.int .i64 t525)) (fun _ hk => hk.2) (.int .i64 t526)) (fun _ hk => hk.2) (.int .i64 t527)) (fun _ hk => hk.2) (.int .i64 t528)) (fun _ hk => hk.2) (.int .i64 t529)) (fun _ hk => hk.2) (.int .i64 t530)) (fun _ hk => trivial)), blq HB.out⟩
  ·
   rw [if_neg c14] at H
   exact absurd H (by simp)
 ·
  replace c12 := Bool.eq_false_iff.mpr c12
  subst c12
  have H1 : ((impl_bookCopy.f l0_0 a0_1 a0_2 a0_3 a0_4 a0_5 a0_6).bind fun bt487 => (some (bt487.1, bt487.2.1, bt487.2.2.1, bt487.2.2.2.1, bt487.2.2.2.2.1, bt487.2.2.2.2.2.1, bt487.2.2.2.2.2.2, false))) = some (r1, r2, r3, r4, r5, r6, r7, r8) := by rw [if_neg (show ¬ (false = true) by decide)] at H; exact H
  clear H
  have H := H1
  clear H1
  replace H := Option.bind_eq_some_iff.mp H
  obtain ⟨⟨t487, t490, t491, t492, t493, t494, t495⟩, A530, H⟩ := H
  replace H : (some (t487, t490, t491, t492, t493, t494, t495, false)) = some (r1, r2, r3, r4, r5, r6, r7, r8) := H
  have A53 := Aside0.mk A530
  clear A530
  simp only [Option.some.injEq, Prod.mk.injEq] at H
  obtain ⟨rfl, rfl, rfl, rfl, rfl, rfl, rfl, rfl⟩ := H
  obtain ⟨_, _, _, _⟩ := ne4 NB483_484 NB484_483 NB483_485 NB485_483
  obtain ⟨hcz56_0, hcz56_1, hcz56_2, hcz56_3, hcz56_4, hcz56_5, hcz56_6, hfz56_0, hfz56_1, hfz56_2, hfz56_3, hfz56_4, hfz56_5, hfz56_6⟩ := bq7 BK483.out
  go_wp2_with (first | ((with_reducible refine gate_callee (f := 56) rfl ?_); refine gLq (some 12) Try.func56 #[.agg #[.slice A0_0 l0_0.length c0_0, .int .i64 a0_1, .int .i64 a0_2, .int .i64 a0_3, .int .i64 a0_4, .int .i64 a0_5, .int .i64 a0_6]] ?_; (with_reducible refine (impl_bookCopy.calls _ _ l0_0 a0_1 a0_2 a0_3 a0_4 a0_5 a0_6 t487 t490 t491 t492 t493 t494 t495 _ ?side1 ?side2 A53.out).mono ?_); (case side1 => exact Kd.Cq (Kd.C_below HR0_0.out HB.out)); (case side2 => exact HC0_0.out); rintro e w57 ⟨v488, rfl, ho0, hb⟩; refine ⟨_, rfl, ?_⟩; have HO489 := Aside0.mk (Kd.R_lower (Kd.R_newB ho0 (g := gb484) (o := .cells #[.int .i64 a1_0, .int .i64 a1_1] 41 (0, 0)) (bkq BK484.out)) (below_size (blq HB.out))); replace BK483 := bkb BK483 hb; replace BK484 := bkb BK484 hb; replace BK485 := bkb BK485 hb; replace HB := hbs HB hb; (try clear hb); (try clear hb2); (try clear hk); (try clear hi); (try clear ho0); obtain ⟨Ao58, co58, eo58⟩ := Kd.R_slice HO489.out; subst eo58; obtain ⟨_, _⟩ := ne2 NB485_484 NB484_485; obtain ⟨hcz60_0, hcz60_1, hcz60_2, hcz60_3, hcz60_4, hcz60_5, hcz60_6, hfz60_0, hfz60_1, hfz60_2, hfz60_3, hfz60_4, hfz60_5, hfz60_6⟩ := bq7 BK485.out))
  refine bodyPost_ret (results_ct rfl _ _ gb485 31 #[.slice Ao58 t487.length co58, .int .i64 t490, .int .i64 t491, .int .i64 t492, .int .i64 t493, .int .i64 t494, .int .i64 t495] (0, 0) _ rfl (by (with_reducible repeat (first | refine blk_drewN ?_ _ | refine blk_drew ?_ | refine blk_alloc ?_ _)); refine blk_put (cs := #[.slice Ao58 t487.length co58, .int .i64 t490, .int .i64 t491, .int .i64 t492, .int .i64 t493, .int .i64 t494, .int .i64 0]) ?_ 6 _ rfl; (with_reducible repeat (first | refine blk_drewN ?_ _ | refine blk_drew ?_ | refine blk_alloc ?_ _)); refine blk_put (cs := #[.slice Ao58 t487.length co58, .int .i64 t490, .int .i64 t491, .int .i64 t492, .int .i64 t493, .int .i64 0, .int .i64 0]) ?_ 5 _ rfl; (with_reducible repeat (first | refine blk_drewN ?_ _ | refine blk_drew ?_ | refine blk_alloc ?_ _)); refine blk_put (cs := #[.slice Ao58 t487.length co58, .int .i64 t490, .int .i64 t491, .int .i64 t492, .int .i64 0, .int .i64 0, .int .i64 0]) ?_ 4 _ rfl; (with_reducible repeat (first | refine blk_drewN ?_ _ | refine blk_drew ?_ | refine blk_alloc ?_ _)); refine blk_put (cs := #[.slice Ao58 t487.length co58, .int .i64 t490, .int .i64 t491, .int .i64 0, .int .i64 0, .int .i64 0, .int .i64 0]) ?_ 3 _ rfl; (with_reducible repeat (first | refine blk_drewN ?_ _ | refine blk_drew ?_ | refine blk_alloc ?_ _)); refine blk_put (cs := #[.slice Ao58 t487.length co58, .int .i64 t490, .int .i64 0, .int .i64 0, .int .i64 0, .int .i64 0, .int .i64 0]) ?_ 2 _ rfl; (with_reducible repeat (first | refine blk_drewN ?_ _ | refine blk_drew ?_ | refine blk_alloc ?_ _)); refine blk_put (cs := #[.slice Ao58 t487.length co58, .int .i64 0, .int .i64 0, .int .i64 0, .int .i64 0, .int .i64 0, .int .i64 0]) ?_ 1 _ rfl; (with_reducible repeat (first | refine blk_drewN ?_ _ | refine blk_drew ?_ | refine blk_alloc ?_ _)); refine blk_put (cs := #[.slice none 0 0, .int .i64 0, .int .i64 0, .int .i64 0, .int .i64 0, .int .i64 0, .int .i64 0]) ?_ 0 _ rfl; (with_reducible repeat (first | refine blk_drewN ?_ _ | refine blk_drew ?_ | refine blk_alloc ?_ _)); exact BK485.out) Try.underlying31 rfl (by kernel_rfl)) rfl ?_
  exact ⟨_, by first | rfl | (simp [errW_none, errW_some] <;> rfl) | (simp [*, errW_none, errW_some] <;> rfl), Kd.Rq (Kd.R_mono (Kd.R_far (p := ⟨gb485, 6, none⟩) (Kd.R_far (p := ⟨gb485, 5, none⟩) (Kd.R_far (p := ⟨gb485, 4, none⟩) (Kd.R_far (p := ⟨gb485, 3, none⟩) (Kd.R_far (p := ⟨gb485, 2, none⟩) (Kd.R_far (p := ⟨gb485, 1, none⟩) (Kd.R_far (p := ⟨gb485, 0, none⟩) (Kd.R_types HO489.out BK485.out (by decide)) (fun _ hk => hk.2) (.slice Ao58 t487.length co58)) (fun _ hk => hk.2) (.int .i64 t490)) (fun _ hk => hk.2) (.int .i64 t491)) (fun _ hk => hk.2) (.int .i64 t492)) (fun _ hk => hk.2) (.int .i64 t493)) (fun _ hk => hk.2) (.int .i64 t494)) (fun _ hk => hk.2) (.int .i64 t495)) (fun _ hk => trivial)), blq HB.out⟩

end Go.Proofs.Ytonaabffckkdlaa.Q
