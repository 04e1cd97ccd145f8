-- Written for this claim by wip/xprint.py of this repository (by way of the kit's print); Lean checks every line.
import Derived.Test.YtbjgkecnclpdaaaDoorQ0
namespace Go.Proofs.YtbjgkecnclpdaaaDoor.Q
open Go.RowKit Go.Proofs.YtbjgkecnclpdaaaDoorW.PrintWords Go.Proofs.YtbjgkecnclpdaaaDoorW.PrintLast Go.Proofs.YtbjgkecnclpdaaaDoorW.PrintMore
attribute [local go_sem] max2_int min2_int max_two min_two max_three min_three max_four min_four   -- for this text's walks alone
set_option linter.unusedVariables false
set_option linter.unusedSimpArgs false

/-! ### spec_l01In: function 6 -/
def spec_l01In.f (a0 : Int) (a1 : Int) (a2 : Int) : Option (Bool) := if a0 ≥ a1 then (some (decide (a0 ≤ a2))) else (some false)
set_option maxHeartbeats 8000000 in
set_option maxRecDepth 100000 in
theorem spec_l01In.calls (a0 : Int) (a1 : Int) (a2 : Int) (r : Bool) (w : World) (h : spec_l01In.f a0 a1 a2 = some r) :
  Calls Tryd.prog 6 #[.int .i64 a0, .int .i64 a1, .int .i64 a2] w fun e w' => e = .returned (.bool r) ∧ Drawn0 w w' := by
 have H : (if a0 ≥ a1 then (some (decide (a0 ≤ a2))) else (some false)) = some r := h
 clear h
 by_cases c4 : a0 ≥ a1
 ·
  rw [if_pos c4] at H
  have c4b0 : decide (a1 ≤ a0) = true := decide_eq_true c4
  clear c4
  obtain rfl := Option.some.inj H
  go_enter Tryd.func6, Tryd.ntmps6
  go_wp2
  go_ret
  exact ⟨by first | rfl | (simp; done) | (simp [*]; done), by repeat (first | exact Drawn0.refl _ | apply Drawn0.step)⟩
 ·
  rw [if_neg c4] at H
  have c4b0 : decide (a1 ≤ a0) = false := decide_eq_false c4
  clear c4
  obtain rfl := Option.some.inj H
  go_enter Tryd.func6, Tryd.ntmps6
  go_wp2
  go_ret
  exact ⟨by first | rfl | (simp; done) | (simp [*]; done), by repeat (first | exact Drawn0.refl _ | apply Drawn0.step)⟩

/-! ### spec_l01Figure: function 10 -/
def spec_l01Figure.f (a0 : Int) : Option (Int) := if a0 < 10 then (some ((wrap64 (48 + a0)) % 256)) else (some ((wrap64 ((wrap64 (97 + a0)) - 10)) % 256))
set_option maxHeartbeats 8000000 in
set_option maxRecDepth 100000 in
theorem spec_l01Figure.calls (a0 : Int) (r : Int) (w : World) (h : spec_l01Figure.f a0 = some r) :
  Calls Tryd.prog 10 #[.int .i64 a0] w fun e w' => e = .returned (.int .u8 r) ∧ Drawn0 w w' := by
 have H : (if a0 < 10 then (some ((wrap64 (48 + a0)) % 256)) else (some ((wrap64 ((wrap64 (97 + a0)) - 10)) % 256))) = some r := h
 clear h
 by_cases c2 : a0 < 10
 ·
  rw [if_pos c2] at H
  have c2b0 : decide (a0 < 10) = true := decide_eq_true c2
  clear c2
  obtain rfl := Option.some.inj H
  go_enter Tryd.func10, Tryd.ntmps10
  go_wp2
  go_ret
  exact ⟨by first | rfl | (simp; done) | (simp [*]; done), by repeat (first | exact Drawn0.refl _ | apply Drawn0.step)⟩
 ·
  rw [if_neg c2] at H
  have c2b0 : decide (a0 < 10) = false := decide_eq_false c2
  clear c2
  obtain rfl := Option.some.inj H
  go_enter Tryd.func10, Tryd.ntmps10
  go_wp2
  go_ret
  exact ⟨by first | rfl | (simp; done) | (simp [*]; done), by repeat (first | exact Drawn0.refl _ | apply Drawn0.step)⟩

/-! ### spec_FormatInt: function 7 -/
def spec_FormatInt.l0 : Nat → Int → Bool → ByteArray → Option (ByteArray)
 | 0, _, _, _ => none
 | k + 1, x0, x3, x4 => if x0 = 0 then (if x3 = true then (if 1 + x4.size ≤ 9223372036854775807 then (some ((⟨#[45]⟩ : ByteArray) ++ x4)) else (none)) else (some x4)) else (if (Int.tmod x0 10) < 0 then ((spec_l01Figure.f (wrap64 (-(Int.tmod x0 10)))).bind fun t101 => ((some (([t101] : List Int) : List Int)).bind fun y102 => (if (strOfNums y102).size + x4.size ≤ 9223372036854775807 then (spec_FormatInt.l0 k (wrap64 (Int.tdiv x0 10)) x3 ((strOfNums y102) ++ x4)) else (none)))) else ((spec_l01Figure.f (Int.tmod x0 10)).bind fun t105 => ((some (([t105] : List Int) : List Int)).bind fun y106 => (if (strOfNums y106).size + x4.size ≤ 9223372036854775807 then (spec_FormatInt.l0 k (wrap64 (Int.tdiv x0 10)) x3 ((strOfNums y106) ++ x4)) else (none)))))
def spec_FormatInt.f (k : Nat) (a0 : Int) : Option (ByteArray) := if a0 = 0 then (some (⟨#[48]⟩ : ByteArray)) else (spec_FormatInt.l0 k a0 (decide (a0 < 0)) (⟨#[]⟩ : ByteArray))
theorem spec_FormatInt.mono_l : ∀ k, (∀ y0 y1 y2, LeO (spec_FormatInt.l0 k y0 y1 y2) (spec_FormatInt.l0 (k + 1) y0 y1 y2))
 | 0 => fun _ _ _ r h => by simp [spec_FormatInt.l0] at h
 | k + 1 => by
  have ih0 := spec_FormatInt.mono_l k
  ·
   intro y0 y1 y2
   unfold spec_FormatInt.l0
   repeat' first
   | (with_reducible exact ih0 _ _ _)
   | (with_reducible exact LeO.refl _)
   | (with_reducible exact LeO.none _)
   | (with_reducible refine LeO.ite ?_ ?_)
   | (with_reducible refine LeO.bind ?_ (fun _ => ?_))
   | exact ih0 _ _ _
   | exact LeO.none _
   | refine LeO.ite ?_ ?_
   | refine LeO.bind ?_ (fun _ => ?_)
theorem spec_FormatInt.mono : ∀ a0 k, LeO (spec_FormatInt.f k a0) (spec_FormatInt.f (k + 1) a0) := by
 intro a0 k
 have ih0 := spec_FormatInt.mono_l k
 unfold spec_FormatInt.f
 repeat' first
   | (with_reducible exact ih0 _ _ _)
   | (with_reducible exact LeO.refl _)
   | (with_reducible exact LeO.none _)
   | (with_reducible refine LeO.ite ?_ ?_)
   | (with_reducible refine LeO.bind ?_ (fun _ => ?_))
   | exact ih0 _ _ _
   | exact LeO.none _
   | refine LeO.ite ?_ ?_
   | refine LeO.bind ?_ (fun _ => ?_)
set_option maxHeartbeats 8000000 in
set_option maxRecDepth 100000 in
theorem spec_FormatInt.calls (k : Nat) (a0 : Int) (r : ByteArray) (w : World) (h : spec_FormatInt.f k a0 = some r) :
  Calls Tryd.prog 7 #[.int .i64 a0] w fun e w' => e = .returned (.string r) ∧ Below w.heap.size w w' := by
 have HB := Aside0.mk (Below.refl w.heap.size w)
 have H : (if a0 = 0 then (some (⟨#[48]⟩ : ByteArray)) else (spec_FormatInt.l0 k a0 (decide (a0 < 0)) (⟨#[]⟩ : ByteArray))) = some r := h
 clear h
 by_cases c2 : a0 = 0
 ·
  rw [if_pos c2] at H
  have c2b0 : (a0 == 0) = true := beq_iff_eq.mpr c2
  have c2b1 : (a0 != 0) = false := bne_eq_false_iff_eq.mpr c2
  clear c2
  obtain rfl := Option.some.inj H
  go_enter Tryd.func7, Tryd.ntmps7
  go_wp2
  go_ret
  exact ⟨by first | rfl | (simp [errW_none, errW_some] <;> rfl) | (simp [*, errW_none, errW_some] <;> rfl), blq HB.out⟩
 ·
  rw [if_neg c2] at H
  have c2b0 : (a0 == 0) = false := beq_eq_false_iff_ne.mpr c2
  have c2b1 : (a0 != 0) = true := bne_iff_ne.mpr c2
  have H' := Aside0.mk H
  clear H
  go_enter Tryd.func7, Tryd.ntmps7
  go_wp2
  obtain ⟨b0, hb0_⟩ : ∃ b_ : Bool, b_ = decide (a0 < 0) := ⟨_, rfl⟩
  rw [← hb0_] at H' ⊢
  clear hb0_
  go_loopg [0, 4] k (fun kq v0 v4 w' => ∃ (x0_1 : Int) (x4_1 : ByteArray), v0 = .int .i64 x0_1 ∧ v4 = .string x4_1 ∧ Aside0 (spec_FormatInt.l0 kq x0_1 b0 x4_1 = some r) ∧ Aside0 (kq ≤ k) ∧ Aside0 (Below w.heap.size w w'))
  case atStart => exact ⟨(a0), ((⟨#[]⟩ : ByteArray)), (by first | rfl | (simp; done) | (simp [*]; done)), (by first | rfl | (simp; done) | (simp [*]; done)), H', ⟨Nat.le_refl _⟩, ⟨blq HB.out⟩⟩
  case round =>
   clear H'
   try clear c2
   try clear c2b0
   try clear c2b1
   try clear p2
   obtain ⟨x0_1, x4_1, rfl, rfl, HA, HK1, HB⟩ := hrel
   cases gk with
   | zero => exact absurd HA.out (by simp [spec_FormatInt.l0])
   | succ k1 =>
    have H := HA.out
    clear HA
    simp only [spec_FormatInt.l0] at H
    by_cases c3 : x0_1 = 0
    ·
     rw [if_pos c3] at H
     have c3b0 : (x0_1 == 0) = true := beq_iff_eq.mpr c3
     have c3b1 : (x0_1 != 0) = false := bne_eq_false_iff_eq.mpr c3
     clear c3
     by_cases c4 : b0 = true
     ·
      rw [if_pos c4] at H
      subst c4
      by_cases c5 : 1 + x4_1.size ≤ 9223372036854775807
      ·
       rw [if_pos c5] at H
       have c5b0 := eq_true c5
       have c5b1 : decide (1 + x4_1.size ≤ 9223372036854775807) = true := decide_eq_true c5
       try have c5b2 : (9223372036854775807 < 1 + x4_1.size) = False := eq_false (Nat.not_lt.2 c5)
       obtain rfl := Option.some.inj H
       go_wp2
       go_ret
       exact ⟨by first | rfl | (simp [errW_none, errW_some] <;> rfl) | (simp [*, errW_none, errW_some] <;> rfl), blq HB.out⟩
      ·
       rw [if_neg c5] at H
       exact absurd H (by simp)
     ·
      rw [if_neg c4] at H
      have c4z : b0 = false := by simpa using c4
      clear c4
      subst c4z
      obtain rfl := Option.some.inj H
      go_wp2
      go_ret
      exact ⟨by first | rfl | (simp [errW_none, errW_some] <;> rfl) | (simp [*, errW_none, errW_some] <;> rfl), blq HB.out⟩
    ·
     rw [if_neg c3] at H
     have c3b0 : (x0_1 == 0) = false := beq_eq_false_iff_ne.mpr c3
     have c3b1 : (x0_1 != 0) = true := bne_iff_ne.mpr c3
     by_cases c6 : (Int.tmod x0_1 10) < 0
     ·
      rw [if_pos c6] at H
      have c6b0 : decide ((Int.tmod x0_1 10) < 0) = true := decide_eq_true c6
      clear c6
      replace H := Option.bind_eq_some_iff.mp H
      obtain ⟨t101, A70, H⟩ := H
      replace H : ((some (([t101] : List Int) : List Int)).bind fun y102 => (if (strOfNums y102).size + x4_1.size ≤ 9223372036854775807 then (spec_FormatInt.l0 k1 (wrap64 (Int.tdiv x0_1 10)) b0 ((strOfNums y102) ++ x4_1)) else (none))) = some r := H
      have A7 := Aside0.mk A70
      clear A70
      obtain ⟨y102, hy102⟩ : ∃ y_ : List Int, y_ = (([t101] : List Int)) := ⟨_, rfl⟩
      replace H : (if (strOfNums y102).size + x4_1.size ≤ 9223372036854775807 then (spec_FormatInt.l0 k1 (wrap64 (Int.tdiv x0_1 10)) b0 ((strOfNums y102) ++ x4_1)) else (none)) = some r := by first | (rw [hy102]; with_reducible exact H) | (have H2_ := (Option.bind_some _ _).symm.trans H; rw [hy102]; with_reducible exact H2_) | (have H2_ := (Option.bind_some _ _).symm.trans H; with_reducible exact H2_) | with_reducible exact H | (rw [hy102]; exact H) | exact H
      have Ny102 := Aside0.mk hy102
      clear hy102
      by_cases c8 : (strOfNums y102).size + x4_1.size ≤ 9223372036854775807
      ·
       rw [if_pos c8] at H
       have c8b0 := eq_true c8
       have c8b1 : decide ((strOfNums y102).size + x4_1.size ≤ 9223372036854775807) = true := decide_eq_true c8
       try have c8b2 : (9223372036854775807 < (strOfNums y102).size + x4_1.size) = False := eq_false (Nat.not_lt.2 c8)
       have H' := Aside0.mk H
       clear H
       go_wp2_with (first | ((with_reducible refine gate_callee (f := 10) rfl ?_); refine gLq (some 19) Tryd.func10 #[.int .i64 (wrap64 (-(Int.tmod x0_1 10)))] ?_; (with_reducible refine (spec_l01Figure.calls (wrap64 (-(Int.tmod x0_1 10))) t101 _ A7.out).mono ?_); rintro e w' ⟨rfl, ⟨nd, rfl⟩⟩; refine ⟨_, rfl, ?_⟩) | ((with_reducible refine gate_dst (N := 20) rfl ?_); refine Kd.R_lit (Kd.int .u8) _ 5 ?hg (N := 20) ?hd (xs := ([t101] : List Int)) (inner := [.int .u8 t101]) (ok := fun _ => True) (okp := fun _ => True) ?hr ?hp (fun _ hk => hk) trivial (Below.refl _ _) (Nat.le_refl _) (by simp) ?_; (case hd => rfl); (case hg => rfl); (case hr => first | (go_simp; done) | (go_simp; rfl)); (case hp => exact (Reps.one (show Kd.M (Kd.int .u8) _ _ _ t101 [.int .u8 t101] from rfl) (Reps.none _ _))); intro v103 w9 ho10 hb hg_ hnew_; clear hg_ hnew_; (first | rw [← Ny102.out] at ho10 | (simp only [Int.reduceToNat] at ho10; rw [← Ny102.out] at ho10)); have HO104 := Aside0.mk (Kd.R_lower ho10 (below_size (blq HB.out))); replace HB := hbs HB hb; clear hb ho10; have hcv11 := own_string (P := Tryd.prog) Tryd.underlying26 Tryd.underlying5 Tryd.underlying9 (Kd.own_of_R HO104.out)))
       go_roundg k1
       case measure => have := HK1.out; omega
       case rel => exact ⟨(wrap64 (Int.tdiv x0_1 10)), ((strOfNums y102) ++ x4_1), (by first | rfl | (simp; done) | (simp [*]; done)), (by first | rfl | (simp; done) | (simp [*]; done)), H', ⟨by have := HK1.out; omega⟩, ⟨blq HB.out⟩⟩
      ·
       rw [if_neg c8] at H
       exact absurd H (by simp)
     ·
      rw [if_neg c6] at H
      have c6b0 : decide ((Int.tmod x0_1 10) < 0) = false := decide_eq_false c6
      clear c6
      replace H := Option.bind_eq_some_iff.mp H
      obtain ⟨t105, A120, H⟩ := H
      replace H : ((some (([t105] : List Int) : List Int)).bind fun y106 => (if (strOfNums y106).size + x4_1.size ≤ 9223372036854775807 then (spec_FormatInt.l0 k1 (wrap64 (Int.tdiv x0_1 10)) b0 ((strOfNums y106) ++ x4_1)) else (none))) = some r := H
      have A12 := Aside0.mk A120
      clear A120
      obtain ⟨y106, hy106⟩ : ∃ y_ : List Int, y_ = (([t105] : List Int)) := ⟨_, rfl⟩
      replace H : (if (strOfNums y106).size + x4_1.size ≤ 9223372036854775807 then (spec_FormatInt.l0 k1 (wrap64 (Int.tdiv x0_1 10)) b0 ((strOfNums y106) ++ x4_1)) else (none)) = some r := by first | (rw [hy106]; with_reducible exact H) | (have H2_ := (Option.bind_some _ _).symm.trans H; rw [hy106]; with_reducible exact H2_) | (have H2_ := (Option.bind_some _ _).symm.trans H; with_reducible exact H2_) | with_reducible exact H | (rw [hy106]; exact H) | exact H
      have Ny106 := Aside0.mk hy106
      clear hy106
      by_cases c13 : (strOfNums y106).size + x4_1.size ≤ 9223372036854775807
      ·
       rw [if_pos c13] at H
       have c13b0 := eq_true c13
       have c13b1 : decide ((strOfNums y106).size + x4_1.size ≤ 9223372036854775807) = true := decide_eq_true c13
       try have c13b2 : (9223372036854775807 < (strOfNums y106).size + x4_1.size) = False := eq_false (Nat.not_lt.2 c13)
       have H' := Aside0.mk H
       clear H
       go_wp2_with (first | ((with_reducible refine gate_callee (f := 10) rfl ?_); refine gLq (some 19) Tryd.func10 #[.int .i64 (Int.tmod x0_1 10)] ?_; (with_reducible refine (spec_l01Figure.calls (Int.tmod x0_1 10) t105 _ A12.out).mono ?_); rintro e w' ⟨rfl, ⟨nd, rfl⟩⟩; refine ⟨_, rfl, ?_⟩) | ((with_reducible refine gate_dst (N := 20) rfl ?_); refine Kd.R_lit (Kd.int .u8) _ 5 ?hg (N := 20) ?hd (xs := ([t105] : List Int)) (inner := [.int .u8 t105]) (ok := fun _ => True) (okp := fun _ => True) ?hr ?hp (fun _ hk => hk) trivial (Below.refl _ _) (Nat.le_refl _) (by simp) ?_; (case hd => rfl); (case hg => rfl); (case hr => first | (go_simp; done) | (go_simp; rfl)); (case hp => exact (Reps.one (show Kd.M (Kd.int .u8) _ _ _ t105 [.int .u8 t105] from rfl) (Reps.none _ _))); intro v107 w14 ho15 hb hg_ hnew_; clear hg_ hnew_; (first | rw [← Ny106.out] at ho15 | (simp only [Int.reduceToNat] at ho15; rw [← Ny106.out] at ho15)); have HO108 := Aside0.mk (Kd.R_lower ho15 (below_size (blq HB.out))); replace HB := hbs HB hb; clear hb ho15; have hcv16 := own_string (P := Tryd.prog) Tryd.underlying26 Tryd.underlying5 Tryd.underlying9 (Kd.own_of_R HO108.out)))
       go_roundg k1
       case measure => have := HK1.out; omega
       case rel => exact ⟨(wrap64 (Int.tdiv x0_1 10)), ((strOfNums y106) ++ x4_1), (by first | rfl | (simp; done) | (simp [*]; done)), (by first | rfl | (simp; done) | (simp [*]; done)), H', ⟨by have := HK1.out; omega⟩, ⟨blq HB.out⟩⟩
      ·
       rw [if_neg c13] at H
       exact absurd H (by simp)

/-! ### spec_LengthText: function 4 -/
def spec_LengthText.f (k : Nat) (a0 : Int) : Option (ByteArray) := (spec_l01In.f a0 0 100000).bind fun t109 => (if t109 = true then ((spec_FormatInt.f k (wrap64 (Int.tdiv a0 60))).bind fun t110 => (if t110.size + 1 ≤ 9223372036854775807 then ((spec_FormatInt.f k (Int.tmod a0 60)).bind fun t111 => (if t111.size + 1 ≤ 9223372036854775807 then (if a0 < 60 then (some (t111 ++ (⟨#[109]⟩ : ByteArray))) else (if (Int.tmod a0 60) = 0 then (some (t110 ++ (⟨#[104]⟩ : ByteArray))) else (if (t110 ++ (⟨#[104]⟩ : ByteArray)).size + 1 ≤ 9223372036854775807 then (if ((t110 ++ (⟨#[104]⟩ : ByteArray)) ++ (⟨#[32]⟩ : ByteArray)).size + (t111 ++ (⟨#[109]⟩ : ByteArray)).size ≤ 9223372036854775807 then (some (((t110 ++ (⟨#[104]⟩ : ByteArray)) ++ (⟨#[32]⟩ : ByteArray)) ++ (t111 ++ (⟨#[109]⟩ : ByteArray)))) else (none)) else (none)))) else (none))) else (none))) else (some (⟨#[]⟩ : ByteArray)))
theorem spec_LengthText.mono : ∀ a0 k, LeO (spec_LengthText.f k a0) (spec_LengthText.f (k + 1) a0) := by
 intro a0 k
 unfold spec_LengthText.f
 repeat' first
   | (with_reducible exact spec_FormatInt.mono _ _)
   | (with_reducible exact LeO.refl _)
   | (with_reducible exact LeO.none _)
   | (with_reducible refine LeO.ite ?_ ?_)
   | (with_reducible refine LeO.bind ?_ (fun _ => ?_))
   | exact spec_FormatInt.mono _ _
   | exact LeO.none _
   | refine LeO.ite ?_ ?_
   | refine LeO.bind ?_ (fun _ => ?_)
set_option maxHeartbeats 8000000 in
set_option maxRecDepth 100000 in
theorem spec_LengthText.calls (k : Nat) (a0 : Int) (r : ByteArray) (w : World) (h : spec_LengthText.f k a0 = some r) :
  Calls Tryd.prog 4 #[.int .i64 a0] w fun e w' => e = .returned (.string r) ∧ Below w.heap.size w w' := by
 have HB := Aside0.mk (Below.refl w.heap.size w)
 have H : ((spec_l01In.f a0 0 100000).bind fun t109 => (if t109 = true then ((spec_FormatInt.f k (wrap64 (Int.tdiv a0 60))).bind fun t110 => (if t110.size + 1 ≤ 9223372036854775807 then ((spec_FormatInt.f k (Int.tmod a0 60)).bind fun t111 => (if t111.size + 1 ≤ 9223372036854775807 then (if a0 < 60 then (some (t111 ++ (⟨#[109]⟩ : ByteArray))) else (if (Int.tmod a0 60) = 0 then (some (t110 ++ (⟨#[104]⟩ : ByteArray))) else (if (t110 ++ (⟨#[104]⟩ : ByteArray)).size + 1 ≤ 9223372036854775807 then (if ((t110 ++ (⟨#[104]⟩ : ByteArray)) ++ (⟨#[32]⟩ : ByteArray)).size + (t111 ++ (⟨#[109]⟩ : ByteArray)).size ≤ 9223372036854775807 then (some (((t110 ++ (⟨#[104]⟩ : ByteArray)) ++ (⟨#[32]⟩ : ByteArray)) ++ (t111 ++ (⟨#[109]⟩ : ByteArray)))) else (none)) else (none)))) else (none))) else (none))) else (some (⟨#[]⟩ : ByteArray)))) = some r := h
 clear h
 replace H := Option.bind_eq_some_iff.mp H
 obtain ⟨t109, A20, H⟩ := H
 replace H : (if t109 = true then ((spec_FormatInt.f k (wrap64 (Int.tdiv a0 60))).bind fun t110 => (if t110.size + 1 ≤ 9223372036854775807 then ((spec_FormatInt.f k (Int.tmod a0 60)).bind fun t111 => (if t111.size + 1 ≤ 9223372036854775807 then (if a0 < 60 then (some (t111 ++ (⟨#[109]⟩ : ByteArray))) else (if (Int.tmod a0 60) = 0 then (some (t110 ++ (⟨#[104]⟩ : ByteArray))) else (if (t110 ++ (⟨#[104]⟩ : ByteArray)).size + 1 ≤ 9223372036854775807 then (if ((t110 ++ (⟨#[104]⟩ : ByteArray)) ++ (⟨#[32]⟩ : ByteArray)).size + (t111 ++ (⟨#[109]⟩ : ByteArray)).size ≤ 9223372036854775807 then (some (((t110 ++ (⟨#[104]⟩ : ByteArray)) ++ (⟨#[32]⟩ : ByteArray)) ++ (t111 ++ (⟨#[109]⟩ : ByteArray)))) else (none)) else (none)))) else (none))) else (none))) else (some (⟨#[]⟩ : ByteArray))) = some r := H
 have A2 := Aside0.mk A20
 clear A20
 by_cases c3 : t109 = true
 ·
  subst c3
  have H1 : ((spec_FormatInt.f k (wrap64 (Int.tdiv a0 60))).bind fun t110 => (if t110.size + 1 ≤ 9223372036854775807 then ((spec_FormatInt.f k (Int.tmod a0 60)).bind fun t111 => (if t111.size + 1 ≤ 9223372036854775807 then (if a0 < 60 then (some (t111 ++ (⟨#[109]⟩ : ByteArray))) else (if (Int.tmod a0 60) = 0 then (some (t110 ++ (⟨#[104]⟩ : ByteArray))) else (if (t110 ++ (⟨#[104]⟩ : ByteArray)).size + 1 ≤ 9223372036854775807 then (if ((t110 ++ (⟨#[104]⟩ : ByteArray)) ++ (⟨#[32]⟩ : ByteArray)).size + (t111 ++ (⟨#[109]⟩ : ByteArray)).size ≤ 9223372036854775807 then (some (((t110 ++ (⟨#[104]⟩ : ByteArray)) ++ (⟨#[32]⟩ : ByteArray)) ++ (t111 ++ (⟨#[109]⟩ : ByteArray)))) else (none)) else (none)))) else (none))) else (none))) = some r := by rw [if_pos rfl] at H; exact H
  clear H
  have H := H1
  clear H1
  replace H := Option.bind_eq_some_iff.mp H
  obtain ⟨t110, A40, H⟩ := H
  replace H : (if t110.size + 1 ≤ 9223372036854775807 then ((spec_FormatInt.f k (Int.tmod a0 60)).bind fun t111 => (if t111.size + 1 ≤ 9223372036854775807 then (if a0 < 60 then (some (t111 ++ (⟨#[109]⟩ : ByteArray))) else (if (Int.tmod a0 60) = 0 then (some (t110 ++ (⟨#[104]⟩ : ByteArray))) else (if (t110 ++ (⟨#[104]⟩ : ByteArray)).size + 1 ≤ 9223372036854775807 then (if ((t110 ++ (⟨#[104]⟩ : ByteArray)) ++ (⟨#[32]⟩ : ByteArray)).size + (t111 ++ (⟨#[109]⟩ : ByteArray)).size ≤ 9223372036854775807 then (some (((t110 ++ (⟨#[104]⟩ : ByteArray)) ++ (⟨#[32]⟩ : ByteArray)) ++ (t111 ++ (⟨#[109]⟩ : ByteArray)))) else (none)) else (none)))) else (none))) else (none)) = some r := H
  have A4 := Aside0.mk A40
  clear A40
  by_cases c5 : t110.size + 1 ≤ 9223372036854775807
  ·
   rw [if_pos c5] at H
   have c5b0 := eq_true c5
   have c5b1 : decide (t110.size + 1 ≤ 9223372036854775807) = true := decide_eq_true c5
   try have c5b2 : (9223372036854775807 < t110.size + 1) = False := eq_false (Nat.not_lt.2 c5)
   replace H := Option.bind_eq_some_iff.mp H
   obtain ⟨t111, A60, H⟩ := H
   replace H : (if t111.size + 1 ≤ 9223372036854775807 then (if a0 < 60 then (some (t111 ++ (⟨#[109]⟩ : ByteArray))) else (if (Int.tmod a0 60) = 0 then (some (t110 ++ (⟨#[104]⟩ : ByteArray))) else (if (t110 ++ (⟨#[104]⟩ : ByteArray)).size + 1 ≤ 9223372036854775807 then (if ((t110 ++ (⟨#[104]⟩ : ByteArray)) ++ (⟨#[32]⟩ : ByteArray)).size + (t111 ++ (⟨#[109]⟩ : ByteArray)).size ≤ 9223372036854775807 then (some (((t110 ++ (⟨#[104]⟩ : ByteArray)) ++ (⟨#[32]⟩ : ByteArray)) ++ (t111 ++ (⟨#[109]⟩ : ByteArray)))) else (none)) else (none)))) else (none)) = some r := H
   have A6 := Aside0.mk A60
   clear A60
   by_cases c7 : t111.size + 1 ≤ 9223372036854775807
   ·
    rw [if_pos c7] at H
    have c7b0 := eq_true c7
    have c7b1 : decide (t111.size + 1 ≤ 9223372036854775807) = true := decide_eq_true c7
    try have c7b2 : (9223372036854775807 < t111.size + 1) = False := eq_false (Nat.not_lt.2 c7)
    by_cases c8 : a0 < 60
    ·
     rw [if_pos c8] at H
     have c8b0 : decide (a0 < 60) = true := decide_eq_true c8
     clear c8
     obtain rfl := Option.some.inj H
     go_enter Tryd.func4, Tryd.ntmps4
     go_wp2_with (first | ((with_reducible refine gate_callee (f := 6) rfl ?_); refine gLq (some 6) Tryd.func6 #[.int .i64 a0, .int .i64 0, .int .i64 100000] ?_; (with_reducible refine (spec_l01In.calls a0 0 100000 true _ A2.out).mono ?_); rintro e w' ⟨rfl, ⟨nd, rfl⟩⟩; refine ⟨_, rfl, ?_⟩) | ((with_reducible refine gate_callee (f := 7) rfl ?_); refine gLq (some 10) Tryd.func7 #[.int .i64 (wrap64 (Int.tdiv a0 60))] ?_; (with_reducible refine (spec_FormatInt.calls k (wrap64 (Int.tdiv a0 60)) t110 _ A4.out).mono ?_); rintro e w9 ⟨rfl, hb⟩; refine ⟨_, rfl, ?_⟩; replace HB := hbs HB hb; (try clear hb); (try clear hb2); (try clear hk); (try clear hi)) | ((with_reducible refine gate_callee (f := 7) rfl ?_); refine gLq (some 14) Tryd.func7 #[.int .i64 (Int.tmod a0 60)] ?_; (with_reducible refine (spec_FormatInt.calls k (Int.tmod a0 60) t111 _ A6.out).mono ?_); rintro e w10 ⟨rfl, hb⟩; refine ⟨_, rfl, ?_⟩; replace HB := hbs HB hb; (try clear hb); (try clear hb2); (try clear hk); (try clear hi)))
     go_ret
     exact ⟨by first | rfl | (simp [errW_none, errW_some] <;> rfl) | (simp [*, errW_none, errW_some] <;> rfl), blq HB.out⟩
    ·
     rw [if_neg c8] at H
     have c8b0 : decide (a0 < 60) = false := decide_eq_false c8
     clear c8
     by_cases c11 : (Int.tmod a0 60) = 0
     ·
      rw [if_pos c11] at H
      have c11b0 : ((Int.tmod a0 60) == 0) = true := beq_iff_eq.mpr c11
      have c11b1 : ((Int.tmod a0 60) != 0) = false := bne_eq_false_iff_eq.mpr c11
      clear c11
      obtain rfl := Option.some.inj H
      go_enter Tryd.func4, Tryd.ntmps4
      go_wp2_with (first | ((with_reducible refine gate_callee (f := 6) rfl ?_); refine gLq (some 6) Tryd.func6 #[.int .i64 a0, .int .i64 0, .int .i64 100000] ?_; (with_reducible refine (spec_l01In.calls a0 0 100000 true _ A2.out).mono ?_); rintro e w' ⟨rfl, ⟨nd, rfl⟩⟩; refine ⟨_, rfl, ?_⟩) | ((with_reducible refine gate_callee (f := 7) rfl ?_); refine gLq (some 10) Tryd.func7 #[.int .i64 (wrap64 (Int.tdiv a0 60))] ?_; (with_reducible refine (spec_FormatInt.calls k (wrap64 (Int.tdiv a0 60)) t110 _ A4.out).mono ?_); rintro e w12 ⟨rfl, hb⟩; refine ⟨_, rfl, ?_⟩; replace HB := hbs HB hb; (try clear hb); (try clear hb2); (try clear hk); (try clear hi)) | ((with_reducible refine gate_callee (f := 7) rfl ?_); refine gLq (some 14) Tryd.func7 #[.int .i64 (Int.tmod a0 60)] ?_; (with_reducible refine (spec_FormatInt.calls k (Int.tmod a0 60) t111 _ A6.out).mono ?_); rintro e w13 ⟨rfl, hb⟩; refine ⟨_, rfl, ?_⟩; replace HB := hbs HB hb; (try clear hb); (try clear hb2); (try clear hk); (try clear hi)))
      go_ret
      exact ⟨by first | rfl | (simp [errW_none, errW_some] <;> rfl) | (simp [*, errW_none, errW_some] <;> rfl), blq HB.out⟩
     ·
      rw [if_neg c11] at H
      have c11b0 : ((Int.tmod a0 60) == 0) = false := beq_eq_false_iff_ne.mpr c11
      have c11b1 : ((Int.tmod a0 60) != 0) = true := bne_iff_ne.mpr c11
      by_cases c14 : (t110 ++ (⟨#[104]⟩ : ByteArray)).size + 1 ≤ 9223372036854775807
      ·
       rw [if_pos c14] at H
       have c14b0 := eq_true c14
       have c14b1 : decide ((t110 ++ (⟨#[104]⟩ : ByteArray)).size + 1 ≤ 9223372036854775807) = true := decide_eq_true c14
       try have c14b2 : (9223372036854775807 < (t110 ++ (⟨#[104]⟩ : ByteArray)).size + 1) = False := eq_false (Nat.not_lt.2 c14)
       try (have c14q := c14b2; simp only [ByteArray.size_append, show (⟨#[104]⟩ : ByteArray).size = 1 from rfl] at c14q)
       by_cases c15 : ((t110 ++ (⟨#[104]⟩ : ByteArray)) ++ (⟨#[32]⟩ : ByteArray)).size + (t111 ++ (⟨#[109]⟩ : ByteArray)).size ≤ 9223372036854775807
       ·
        rw [if_pos c15] at H
        have c15b0 := eq_true c15
        have c15b1 : decide (((t110 ++ (⟨#[104]⟩ : ByteArray)) ++ (⟨#[32]⟩ : ByteArray)).size + (t111 ++ (⟨#[109]⟩ : ByteArray)).size ≤ 9223372036854775807) = true := decide_eq_true c15
        try have c15b2 : (9223372036854775807 < ((t110 ++ (⟨#[104]⟩ : ByteArray)) ++ (⟨#[32]⟩ : ByteArray)).size + (t111 ++ (⟨#[109]⟩ : ByteArray)).size) = False := eq_false (Nat.not_lt.2 c15)
        try (have c15q := c15b2; simp only [ByteArray.size_append, show (⟨#[104]⟩ : ByteArray).size = 1 from rfl, show (⟨#[109]⟩ : ByteArray).size = 1 from rfl, show (⟨#[32]⟩ : ByteArray).size = 1 from rfl] at c15q)
        obtain rfl := Option.some.inj H
        go_enter Tryd.func4, Tryd.ntmps4
        go_wp2_with (first | ((with_reducible refine gate_callee (f := 6) rfl ?_); refine gLq (some 6) Tryd.func6 #[.int .i64 a0, .int .i64 0, .int .i64 100000] ?_; (with_reducible refine (spec_l01In.calls a0 0 100000 true _ A2.out).mono ?_); rintro e w' ⟨rfl, ⟨nd, rfl⟩⟩; refine ⟨_, rfl, ?_⟩) | ((with_reducible refine gate_callee (f := 7) rfl ?_); refine gLq (some 10) Tryd.func7 #[.int .i64 (wrap64 (Int.tdiv a0 60))] ?_; (with_reducible refine (spec_FormatInt.calls k (wrap64 (Int.tdiv a0 60)) t110 _ A4.out).mono ?_); rintro e w16 ⟨rfl, hb⟩; refine ⟨_, rfl, ?_⟩; replace HB := hbs HB hb; (try clear hb); (try clear hb2); (try clear hk); (try clear hi)) | ((with_reducible refine gate_callee (f := 7) rfl ?_); refine gLq (some 14) Tryd.func7 #[.int .i64 (Int.tmod a0 60)] ?_; (with_reducible refine (spec_FormatInt.calls k (Int.tmod a0 60) t111 _ A6.out).mono ?_); rintro e w17 ⟨rfl, hb⟩; refine ⟨_, rfl, ?_⟩; replace HB := hbs HB hb; (try clear hb); (try clear hb2); (try clear hk); (try clear hi)))
        go_ret
        exact ⟨by first | rfl | (simp [errW_none, errW_some] <;> rfl) | (simp [*, errW_none, errW_some] <;> rfl), blq HB.out⟩
       ·
        rw [if_neg c15] at H
        exact absurd H (by simp)
      ·
       rw [if_neg c14] at H
       exact absurd H (by simp)
   ·
    rw [if_neg c7] at H
    exact absurd H (by simp)
  ·
   rw [if_neg c5] at H
   exact absurd H (by simp)
 ·
  replace c3 := Bool.eq_false_iff.mpr c3
  subst c3
  have H1 : (some (⟨#[]⟩ : ByteArray)) = some r := by rw [if_neg (show ¬ (false = true) by decide)] at H; exact H
  clear H
  have H := H1
  clear H1
  obtain rfl := Option.some.inj H
  go_enter Tryd.func4, Tryd.ntmps4
  go_wp2_with (first | ((with_reducible refine gate_callee (f := 6) rfl ?_); refine gLq (some 6) Tryd.func6 #[.int .i64 a0, .int .i64 0, .int .i64 100000] ?_; (with_reducible refine (spec_l01In.calls a0 0 100000 false _ A2.out).mono ?_); rintro e w' ⟨rfl, ⟨nd, rfl⟩⟩; refine ⟨_, rfl, ?_⟩))
  go_ret
  exact ⟨by first | rfl | (simp [errW_none, errW_some] <;> rfl) | (simp [*, errW_none, errW_some] <;> rfl), blq HB.out⟩

/-! ### impl_in: function 8 -/
def impl_in.f (a0 : Int) (a1 : Int) (a2 : Int) : Option (Bool) := if a1 ≤ a0 then (some (decide (a0 ≤ a2))) else (some false)
set_option maxHeartbeats 8000000 in
set_option maxRecDepth 100000 in
theorem impl_in.calls (a0 : Int) (a1 : Int) (a2 : Int) (r : Bool) (w : World) (h : impl_in.f a0 a1 a2 = some r) :
  Calls Tryd.prog 8 #[.int .i64 a0, .int .i64 a1, .int .i64 a2] w fun e w' => e = .returned (.bool r) ∧ Drawn0 w w' := by
 have H : (if a1 ≤ a0 then (some (decide (a0 ≤ a2))) else (some false)) = some r := h
 clear h
 by_cases c4 : a1 ≤ a0
 ·
  rw [if_pos c4] at H
  have c4b0 : decide (a1 ≤ a0) = true := decide_eq_true c4
  clear c4
  obtain rfl := Option.some.inj H
  go_enter Tryd.func8, Tryd.ntmps8
  go_wp2
  go_ret
  exact ⟨by first | rfl | (simp; done) | (simp [*]; done), by repeat (first | exact Drawn0.refl _ | apply Drawn0.step)⟩
 ·
  rw [if_neg c4] at H
  have c4b0 : decide (a1 ≤ a0) = false := decide_eq_false c4
  clear c4
  obtain rfl := Option.some.inj H
  go_enter Tryd.func8, Tryd.ntmps8
  go_wp2
  go_ret
  exact ⟨by first | rfl | (simp; done) | (simp [*]; done), by repeat (first | exact Drawn0.refl _ | apply Drawn0.step)⟩

/-! ### strconv_small: function 14 (by hand) -/

/-! ### strconv_log10Pow2: function 18 (by hand) -/

/-! ### bits_Len64: function 19 (by hand) -/

/-! ### strconv_bool2_int: function 20 (by hand) -/

/-! ### strconv_numDigits: function 15 (by hand) -/

/-! ### strconv_formatBase10: function 16 (by hand) -/

/-! ### strconv_isPowerOfTwo: function 21 (by hand) -/

/-! ### bits_TrailingZeros32: function 23 (by hand) -/

/-! ### bits_TrailingZeros64: function 24 (by hand) -/

/-! ### bits_TrailingZeros: function 22 (by hand) -/

/-! ### strconv_formatBits: function 17 (by hand) -/

/-! ### strconv_FormatInt: function 13 (by hand) -/

/-! ### strconv_Itoa_12: function 12 (by hand) -/

/-! ### strconv_Itoa_11: function 11 (by hand) -/

/-! ### impl_FormatInt: function 9 (by hand) -/
theorem gPow : Tryd.prog.globalNamed "internal/strconv.uint64pow10" = some 0 := by kernel_rfl
/-- The library's table of powers of ten holds what it was laid with. -/
def TB (w : World) : Prop := Lib.TabIs Tryd.prog w "internal/strconv.uint64pow10" .u64 Lib.pow10Tab
theorem tb_ {w W : World} (h : TB w) (hb : Below w.heap.size w W) : TB W := Go.Joins.var_stays gPow h hb (Nat.le_refl _)
def impl_FormatInt.f (a0 : Int) : Option (ByteArray) := if -9223372036854775808 ≤ a0 ∧ a0 ≤ 9223372036854775807 then some ⟨(Lib.itoa a0).toArray⟩ else none
set_option maxHeartbeats 8000000 in
set_option maxRecDepth 100000 in
theorem impl_FormatInt.calls (a0 : Int) (r : ByteArray) (w : World) (htab : TB w) (h : impl_FormatInt.f a0 = some r) :
    Calls Tryd.prog 9 #[.int .i64 a0] w fun e w' => e = .returned (.string r) ∧ Below w.heap.size w w' := by
  unfold impl_FormatInt.f at h
  split at h
  case isFalse => cases h
  case isTrue hs =>
  obtain rfl := Option.some.inj h
  clear h
  have HB := Aside0.mk (Below.refl w.heap.size w)
  have HC : Aside0 (∀ W : World, Below w.heap.size w W → Calls Tryd.prog 11 #[.int .i64 a0] W fun e w' => e = .returned (.string ⟨(Lib.itoa a0).toArray⟩) ∧ Below W.heap.size W w') := by
    refine ⟨fun W hb => (Tryd.strconv_Itoa a0 hs.1 hs.2 W (tb_ htab hb)).mono ?_⟩
    rintro e w' ⟨rfl, kk, os, rfl⟩
    exact ⟨rfl, Lib.below_grow _ _ (Nat.le_refl _) kk os⟩
  clear hs htab
  generalize (⟨(Lib.itoa a0).toArray⟩ : ByteArray) = s at HC ⊢
  go_enter Tryd.func9, Tryd.ntmps9
  go_wp2_with (go_at_call 11; (with_reducible refine (HC.out _ ?tb).mono ?_); (case tb => exact blq HB.out); rintro e w' ⟨rfl, hb⟩; have n0_ := Aside0.mk (below_step (blq HB.out) hb); clear HB; have HB := n0_; clear n0_ hb)
  go_ret
  exact ⟨rfl, blq HB.out⟩

/-! ### impl_LengthText: function 5 -/
def impl_LengthText.f (a0 : Int) : Option (ByteArray) := (impl_in.f a0 0 100000).bind fun t112 => (if t112 = true then (if (wrap64 (Int.tdiv a0 60)) = 0 then ((impl_FormatInt.f (Int.tmod a0 60)).bind fun t113 => (if t113.size + 1 ≤ 9223372036854775807 then (some (t113 ++ (⟨#[109]⟩ : ByteArray))) else (none))) else (if (Int.tmod a0 60) = 0 then ((impl_FormatInt.f (wrap64 (Int.tdiv a0 60))).bind fun t114 => (if t114.size + 1 ≤ 9223372036854775807 then (some (t114 ++ (⟨#[104]⟩ : ByteArray))) else (none))) else ((impl_FormatInt.f (wrap64 (Int.tdiv a0 60))).bind fun t115 => (if t115.size + 2 ≤ 9223372036854775807 then ((impl_FormatInt.f (Int.tmod a0 60)).bind fun t116 => (if (t115 ++ (⟨#[104, 32]⟩ : ByteArray)).size + t116.size ≤ 9223372036854775807 then (if ((t115 ++ (⟨#[104, 32]⟩ : ByteArray)) ++ t116).size + 1 ≤ 9223372036854775807 then (some (((t115 ++ (⟨#[104, 32]⟩ : ByteArray)) ++ t116) ++ (⟨#[109]⟩ : ByteArray))) else (none)) else (none))) else (none))))) else (some (⟨#[]⟩ : ByteArray)))
set_option maxHeartbeats 8000000 in
set_option maxRecDepth 100000 in
theorem impl_LengthText.calls (a0 : Int) (r : ByteArray) (w : World) (htab : TB w) (h : impl_LengthText.f a0 = some r) :
  Calls Tryd.prog 5 #[.int .i64 a0] w fun e w' => e = .returned (.string r) ∧ Below w.heap.size w w' := by
 have HT := Aside0.mk htab
 clear htab
 have HB := Aside0.mk (Below.refl w.heap.size w)
 have H : ((impl_in.f a0 0 100000).bind fun t112 => (if t112 = true then (if (wrap64 (Int.tdiv a0 60)) = 0 then ((impl_FormatInt.f (Int.tmod a0 60)).bind fun t113 => (if t113.size + 1 ≤ 9223372036854775807 then (some (t113 ++ (⟨#[109]⟩ : ByteArray))) else (none))) else (if (Int.tmod a0 60) = 0 then ((impl_FormatInt.f (wrap64 (Int.tdiv a0 60))).bind fun t114 => (if t114.size + 1 ≤ 9223372036854775807 then (some (t114 ++ (⟨#[104]⟩ : ByteArray))) else (none))) else ((impl_FormatInt.f (wrap64 (Int.tdiv a0 60))).bind fun t115 => (if t115.size + 2 ≤ 9223372036854775807 then ((impl_FormatInt.f (Int.tmod a0 60)).bind fun t116 => (if (t115 ++ (⟨#[104, 32]⟩ : ByteArray)).size + t116.size ≤ 9223372036854775807 then (if ((t115 ++ (⟨#[104, 32]⟩ : ByteArray)) ++ t116).size + 1 ≤ 9223372036854775807 then (some (((t115 ++ (⟨#[104, 32]⟩ : ByteArray)) ++ t116) ++ (⟨#[109]⟩ : ByteArray))) else (none)) else (none))) else (none))))) else (some (⟨#[]⟩ : ByteArray)))) = some r := h
 clear h
 replace H := Option.bind_eq_some_iff.mp H
 obtain ⟨t112, A20, H⟩ := H
 replace H : (if t112 = true then (if (wrap64 (Int.tdiv a0 60)) = 0 then ((impl_FormatInt.f (Int.tmod a0 60)).bind fun t113 => (if t113.size + 1 ≤ 9223372036854775807 then (some (t113 ++ (⟨#[109]⟩ : ByteArray))) else (none))) else (if (Int.tmod a0 60) = 0 then ((impl_FormatInt.f (wrap64 (Int.tdiv a0 60))).bind fun t114 => (if t114.size + 1 ≤ 9223372036854775807 then (some (t114 ++ (⟨#[104]⟩ : ByteArray))) else (none))) else ((impl_FormatInt.f (wrap64 (Int.tdiv a0 60))).bind fun t115 => (if t115.size + 2 ≤ 9223372036854775807 then ((impl_FormatInt.f (Int.tmod a0 60)).bind fun t116 => (if (t115 ++ (⟨#[104, 32]⟩ : ByteArray)).size + t116.size ≤ 9223372036854775807 then (if ((t115 ++ (⟨#[104, 32]⟩ : ByteArray)) ++ t116).size + 1 ≤ 9223372036854775807 then (some (((t115 ++ (⟨#[104, 32]⟩ : ByteArray)) ++ t116) ++ (⟨#[109]⟩ : ByteArray))) else (none)) else (none))) else (none))))) else (some (⟨#[]⟩ : ByteArray))) = some r := H
 have A2 := Aside0.mk A20
 clear A20
 by_cases c3 : t112 = true
 ·
  subst c3
  have H1 : (if (wrap64 (Int.tdiv a0 60)) = 0 then ((impl_FormatInt.f (Int.tmod a0 60)).bind fun t113 => (if t113.size + 1 ≤ 9223372036854775807 then (some (t113 ++ (⟨#[109]⟩ : ByteArray))) else (none))) else (if (Int.tmod a0 60) = 0 then ((impl_FormatInt.f (wrap64 (Int.tdiv a0 60))).bind fun t114 => (if t114.size + 1 ≤ 9223372036854775807 then (some (t114 ++ (⟨#[104]⟩ : ByteArray))) else (none))) else ((impl_FormatInt.f (wrap64 (Int.tdiv a0 60))).bind fun t115 => (if t115.size + 2 ≤ 9223372036854775807 then ((impl_FormatInt.f (Int.tmod a0 60)).bind fun t116 => (if (t115 ++ (⟨#[104, 32]⟩ : ByteArray)).size + t116.size ≤ 9223372036854775807 then (if ((t115 ++ (⟨#[104, 32]⟩ : ByteArray)) ++ t116).size + 1 ≤ 9223372036854775807 then (some (((t115 ++ (⟨#[104, 32]⟩ : ByteArray)) ++ t116) ++ (⟨#[109]⟩ : ByteArray))) else (none)) else (none))) else (none))))) = some r := by rw [if_pos rfl] at H; exact H
  clear H
  have H := H1
  clear H1
  by_cases c4 : (wrap64 (Int.tdiv a0 60)) = 0
  ·
   rw [if_pos c4] at H
   have c4b0 : ((wrap64 (Int.tdiv a0 60)) == 0) = true := beq_iff_eq.mpr c4
   have c4b1 : ((wrap64 (Int.tdiv a0 60)) != 0) = false := bne_eq_false_iff_eq.mpr c4
   clear c4
   replace H := Option.bind_eq_some_iff.mp H
   obtain ⟨t113, A50, H⟩ := H
   replace H : (if t113.size + 1 ≤ 9223372036854775807 then (some (t113 ++ (⟨#[109]⟩ : ByteArray))) else (none)) = some r := H
   have A5 := Aside0.mk A50
   clear A50
   by_cases c6 : t113.size + 1 ≤ 9223372036854775807
   ·
    rw [if_pos c6] at H
    have c6b0 := eq_true c6
    have c6b1 : decide (t113.size + 1 ≤ 9223372036854775807) = true := decide_eq_true c6
    try have c6b2 : (9223372036854775807 < t113.size + 1) = False := eq_false (Nat.not_lt.2 c6)
    obtain rfl := Option.some.inj H
    go_enter Tryd.func5, Tryd.ntmps5
    go_wp2_with (first | ((with_reducible refine gate_callee (f := 8) rfl ?_); refine gLq (some 6) Tryd.func8 #[.int .i64 a0, .int .i64 0, .int .i64 100000] ?_; (with_reducible refine (impl_in.calls a0 0 100000 true _ A2.out).mono ?_); rintro e w' ⟨rfl, ⟨nd, rfl⟩⟩; refine ⟨_, rfl, ?_⟩) | ((with_reducible refine gate_callee (f := 9) rfl ?_); refine gLq (some 16) Tryd.func9 #[.int .i64 (Int.tmod a0 60)] ?_; (with_reducible refine (impl_FormatInt.calls (Int.tmod a0 60) t113 _ ?tab_ A5.out).mono ?_); (case tab_ => exact tb_ HT.out (blq HB.out)); rintro e w7 ⟨rfl, hb⟩; refine ⟨_, rfl, ?_⟩; replace HB := hbs HB hb; (try clear hb); (try clear hb2); (try clear hk); (try clear hi)))
    go_ret
    exact ⟨by first | rfl | (simp [errW_none, errW_some] <;> rfl) | (simp [*, errW_none, errW_some] <;> rfl), blq HB.out⟩
   ·
    rw [if_neg c6] at H
    exact absurd H (by simp)
  ·
   rw [if_neg c4] at H
   have c4b0 : ((wrap64 (Int.tdiv a0 60)) == 0) = false := beq_eq_false_iff_ne.mpr c4
   have c4b1 : ((wrap64 (Int.tdiv a0 60)) != 0) = true := bne_iff_ne.mpr c4
   by_cases c8 : (Int.tmod a0 60) = 0
   ·
    rw [if_pos c8] at H
    have c8b0 : ((Int.tmod a0 60) == 0) = true := beq_iff_eq.mpr c8
    have c8b1 : ((Int.tmod a0 60) != 0) = false := bne_eq_false_iff_eq.mpr c8
    clear c8
    replace H := Option.bind_eq_some_iff.mp H
    obtain ⟨t114, A90, H⟩ := H
    replace H : (if t114.size + 1 ≤ 9223372036854775807 then (some (t114 ++ (⟨#[104]⟩ : ByteArray))) else (none)) = some r := H
    have A9 := Aside0.mk A90
    clear A90
    by_cases c10 : t114.size + 1 ≤ 9223372036854775807
    ·
     rw [if_pos c10] at H
     have c10b0 := eq_true c10
     have c10b1 : decide (t114.size + 1 ≤ 9223372036854775807) = true := decide_eq_true c10
     try have c10b2 : (9223372036854775807 < t114.size + 1) = False := eq_false (Nat.not_lt.2 c10)
     obtain rfl := Option.some.inj H
     go_enter Tryd.func5, Tryd.ntmps5
     go_wp2_with (first | ((with_reducible refine gate_callee (f := 8) rfl ?_); refine gLq (some 6) Tryd.func8 #[.int .i64 a0, .int .i64 0, .int .i64 100000] ?_; (with_reducible refine (impl_in.calls a0 0 100000 true _ A2.out).mono ?_); rintro e w' ⟨rfl, ⟨nd, rfl⟩⟩; refine ⟨_, rfl, ?_⟩) | ((with_reducible refine gate_callee (f := 9) rfl ?_); refine gLq (some 22) Tryd.func9 #[.int .i64 (wrap64 (Int.tdiv a0 60))] ?_; (with_reducible refine (impl_FormatInt.calls (wrap64 (Int.tdiv a0 60)) t114 _ ?tab_ A9.out).mono ?_); (case tab_ => exact tb_ HT.out (blq HB.out)); rintro e w11 ⟨rfl, hb⟩; refine ⟨_, rfl, ?_⟩; replace HB := hbs HB hb; (try clear hb); (try clear hb2); (try clear hk); (try clear hi)))
     go_ret
     exact ⟨by first | rfl | (simp [errW_none, errW_some] <;> rfl) | (simp [*, errW_none, errW_some] <;> rfl), blq HB.out⟩
    ·
     rw [if_neg c10] at H
     exact absurd H (by simp)
   ·
    rw [if_neg c8] at H
    have c8b0 : ((Int.tmod a0 60) == 0) = false := beq_eq_false_iff_ne.mpr c8
    have c8b1 : ((Int.tmod a0 60) != 0) = true := bne_iff_ne.mpr c8
    replace H := Option.bind_eq_some_iff.mp H
    obtain ⟨t115, A120, H⟩ := H
    replace H : (if t115.size + 2 ≤ 9223372036854775807 then ((impl_FormatInt.f (Int.tmod a0 60)).bind fun t116 => (if (t115 ++ (⟨#[104, 32]⟩ : ByteArray)).size + t116.size ≤ 9223372036854775807 then (if ((t115 ++ (⟨#[104, 32]⟩ : ByteArray)) ++ t116).size + 1 ≤ 9223372036854775807 then (some (((t115 ++ (⟨#[104, 32]⟩ : ByteArray)) ++ t116) ++ (⟨#[109]⟩ : ByteArray))) else (none)) else (none))) else (none)) = some r := H
    have A12 := Aside0.mk A120
    clear A120
    by_cases c13 : t115.size + 2 ≤ 9223372036854775807
    ·
     rw [if_pos c13] at H
     have c13b0 := eq_true c13
     have c13b1 : decide (t115.size + 2 ≤ 9223372036854775807) = true := decide_eq_true c13
     try have c13b2 : (9223372036854775807 < t115.size + 2) = False := eq_false (Nat.not_lt.2 c13)
     replace H := Option.bind_eq_some_iff.mp H
     obtain ⟨t116, A140, H⟩ := H
     replace H : (if (t115 ++ (⟨#[104, 32]⟩ : ByteArray)).size + t116.size ≤ 9223372036854775807 then (if ((t115 ++ (⟨#[104, 32]⟩ : ByteArray)) ++ t116).size + 1 ≤ 9223372036854775807 then (some (((t115 ++ (⟨#[104, 32]⟩ : ByteArray)) ++ t116) ++ (⟨#[109]⟩ : ByteArray))) else (none)) else (none)) = some r := H
     have A14 := Aside0.mk A140
     clear A140
     by_cases c15 : (t115 ++ (⟨#[104, 32]⟩ : ByteArray)).size + t116.size ≤ 9223372036854775807
     ·
      rw [if_pos c15] at H
      have c15b0 := eq_true c15
      have c15b1 : decide ((t115 ++ (⟨#[104, 32]⟩ : ByteArray)).size + t116.size ≤ 9223372036854775807) = true := decide_eq_true c15
      try have c15b2 : (9223372036854775807 < (t115 ++ (⟨#[104, 32]⟩ : ByteArray)).size + t116.size) = False := eq_false (Nat.not_lt.2 c15)
      try (have c15q := c15b2; simp only [ByteArray.size_append, show (⟨#[104, 32]⟩ : ByteArray).size = 2 from rfl] at c15q)
      by_cases c16 : ((t115 ++ (⟨#[104, 32]⟩ : ByteArray)) ++ t116).size + 1 ≤ 9223372036854775807
      ·
       rw [if_pos c16] at H
       have c16b0 := eq_true c16
       have c16b1 : decide (((t115 ++ (⟨#[104, 32]⟩ : ByteArray)) ++ t116).size + 1 ≤ 9223372036854775807) = true := decide_eq_true c16
       try have c16b2 : (9223372036854775807 < ((t115 ++ (⟨#[104, 32]⟩ : ByteArray)) ++ t116).size + 1) = False := eq_false (Nat.not_lt.2 c16)
       try (have c16q := c16b2; simp only [ByteArray.size_append, show (⟨#[104, 32]⟩ : ByteArray).size = 2 from rfl] at c16q)
       obtain rfl := Option.some.inj H
       go_enter Tryd.func5, Tryd.ntmps5
       go_wp2_with (first | ((with_reducible refine gate_callee (f := 8) rfl ?_); refine gLq (some 6) Tryd.func8 #[.int .i64 a0, .int .i64 0, .int .i64 100000] ?_; (with_reducible refine (impl_in.calls a0 0 100000 true _ A2.out).mono ?_); rintro e w' ⟨rfl, ⟨nd, rfl⟩⟩; refine ⟨_, rfl, ?_⟩) | ((with_reducible refine gate_callee (f := 9) rfl ?_); refine gLq (some 25) Tryd.func9 #[.int .i64 (wrap64 (Int.tdiv a0 60))] ?_; (with_reducible refine (impl_FormatInt.calls (wrap64 (Int.tdiv a0 60)) t115 _ ?tab_ A12.out).mono ?_); (case tab_ => exact tb_ HT.out (blq HB.out)); rintro e w17 ⟨rfl, hb⟩; refine ⟨_, rfl, ?_⟩; replace HB := hbs HB hb; (try clear hb); (try clear hb2); (try clear hk); (try clear hi)) | ((with_reducible refine gate_callee (f := 9) rfl ?_); refine gLq (some 28) Tryd.func9 #[.int .i64 (Int.tmod a0 60)] ?_; (with_reducible refine (impl_FormatInt.calls (Int.tmod a0 60) t116 _ ?tab_ A14.out).mono ?_); (case tab_ => exact tb_ HT.out (blq HB.out)); rintro e w18 ⟨rfl, hb⟩; refine ⟨_, rfl, ?_⟩; replace HB := hbs HB hb; (try clear hb); (try clear hb2); (try clear hk); (try clear hi)))
       go_ret
       exact ⟨by first | rfl | (simp [errW_none, errW_some] <;> rfl) | (simp [*, errW_none, errW_some] <;> rfl), blq HB.out⟩
      ·
       rw [if_neg c16] at H
       exact absurd H (by simp)
     ·
      rw [if_neg c15] at H
      exact absurd H (by simp)
    ·
     rw [if_neg c13] at H
     exact absurd H (by simp)
 ·
  replace c3 := Bool.eq_false_iff.mpr c3
  subst c3
  have H1 : (some (⟨#[]⟩ : ByteArray)) = some r := by rw [if_neg (show ¬ (false = true) by decide)] at H; exact H
  clear H
  have H := H1
  clear H1
  obtain rfl := Option.some.inj H
  go_enter Tryd.func5, Tryd.ntmps5
  go_wp2_with (first | ((with_reducible refine gate_callee (f := 8) rfl ?_); refine gLq (some 6) Tryd.func8 #[.int .i64 a0, .int .i64 0, .int .i64 100000] ?_; (with_reducible refine (impl_in.calls a0 0 100000 false _ A2.out).mono ?_); rintro e w' ⟨rfl, ⟨nd, rfl⟩⟩; refine ⟨_, rfl, ?_⟩))
  go_ret
  exact ⟨by first | rfl | (simp [errW_none, errW_some] <;> rfl) | (simp [*, errW_none, errW_some] <;> rfl), blq HB.out⟩

/-! ### laws_FnExactLengthText: function 3 -/
def laws_FnExactLengthText.f (k : Nat) (a0 : Int) : Option (Bool) := (spec_LengthText.f k a0).bind fun t117 => ((impl_LengthText.f a0).bind fun t118 => (if t118.toList = t117.toList then (some true) else (some false)))
theorem laws_FnExactLengthText.mono : ∀ a0 k, LeO (laws_FnExactLengthText.f k a0) (laws_FnExactLengthText.f (k + 1) a0) := by
 intro a0 k
 unfold laws_FnExactLengthText.f
 repeat' first
   | (with_reducible exact spec_LengthText.mono _ _)
   | (with_reducible exact LeO.refl _)
   | (with_reducible exact LeO.none _)
   | (with_reducible refine LeO.ite ?_ ?_)
   | (with_reducible refine LeO.bind ?_ (fun _ => ?_))
   | exact spec_LengthText.mono _ _
   | exact LeO.none _
   | refine LeO.ite ?_ ?_
   | refine LeO.bind ?_ (fun _ => ?_)
set_option maxHeartbeats 8000000 in
set_option maxRecDepth 100000 in
theorem laws_FnExactLengthText.calls (k : Nat) (a0 : Int) (r : Bool) (w : World) (htab : TB w) (h : laws_FnExactLengthText.f k a0 = some r) :
  Calls Tryd.prog 3 #[.int .i64 a0] w fun e w' => e = .returned (.bool r) ∧ Below w.heap.size w w' := by
 have HT := Aside0.mk htab
 clear htab
 have HB := Aside0.mk (Below.refl w.heap.size w)
 have H : ((spec_LengthText.f k a0).bind fun t117 => ((impl_LengthText.f a0).bind fun t118 => (if t118.toList = t117.toList then (some true) else (some false)))) = some r := h
 clear h
 replace H := Option.bind_eq_some_iff.mp H
 obtain ⟨t117, A20, H⟩ := H
 replace H : ((impl_LengthText.f a0).bind fun t118 => (if t118.toList = t117.toList then (some true) else (some false))) = some r := H
 have A2 := Aside0.mk A20
 clear A20
 replace H := Option.bind_eq_some_iff.mp H
 obtain ⟨t118, A30, H⟩ := H
 replace H : (if t118.toList = t117.toList then (some true) else (some false)) = some r := H
 have A3 := Aside0.mk A30
 clear A30
 by_cases c4 : t118.toList = t117.toList
 ·
  rw [if_pos c4] at H
  have c4b0 : (t118.toList == t117.toList) = true := beq_iff_eq.mpr c4
  have c4b1 : (t118.toList != t117.toList) = false := bne_eq_false_iff_eq.mpr c4
  clear c4
  obtain rfl := Option.some.inj H
  go_enter Tryd.func3, Tryd.ntmps3
  go_wp2_with (first | ((with_reducible refine gate_callee (f := 4) rfl ?_); refine gLq (some 6) Tryd.func4 #[.int .i64 a0] ?_; (with_reducible refine (spec_LengthText.calls k a0 t117 _ A2.out).mono ?_); rintro e w5 ⟨rfl, hb⟩; refine ⟨_, rfl, ?_⟩; replace HB := hbs HB hb; (try clear hb); (try clear hb2); (try clear hk); (try clear hi)) | ((with_reducible refine gate_callee (f := 5) rfl ?_); refine gLq (some 8) Tryd.func5 #[.int .i64 a0] ?_; (with_reducible refine (impl_LengthText.calls a0 t118 _ ?tab_ A3.out).mono ?_); (case tab_ => exact tb_ HT.out (blq HB.out)); rintro e w6 ⟨rfl, hb⟩; refine ⟨_, rfl, ?_⟩; replace HB := hbs HB hb; (try clear hb); (try clear hb2); (try clear hk); (try clear hi)))
  go_ret
  exact ⟨by first | rfl | (simp [errW_none, errW_some] <;> rfl) | (simp [*, errW_none, errW_some] <;> rfl), blq HB.out⟩
 ·
  rw [if_neg c4] at H
  have c4b0 : (t118.toList == t117.toList) = false := beq_eq_false_iff_ne.mpr c4
  have c4b1 : (t118.toList != t117.toList) = true := bne_iff_ne.mpr c4
  obtain rfl := Option.some.inj H
  go_enter Tryd.func3, Tryd.ntmps3
  go_wp2_with (first | ((with_reducible refine gate_callee (f := 4) rfl ?_); refine gLq (some 6) Tryd.func4 #[.int .i64 a0] ?_; (with_reducible refine (spec_LengthText.calls k a0 t117 _ A2.out).mono ?_); rintro e w7 ⟨rfl, hb⟩; refine ⟨_, rfl, ?_⟩; replace HB := hbs HB hb; (try clear hb); (try clear hb2); (try clear hk); (try clear hi)) | ((with_reducible refine gate_callee (f := 5) rfl ?_); refine gLq (some 8) Tryd.func5 #[.int .i64 a0] ?_; (with_reducible refine (impl_LengthText.calls a0 t118 _ ?tab_ A3.out).mono ?_); (case tab_ => exact tb_ HT.out (blq HB.out)); rintro e w8 ⟨rfl, hb⟩; refine ⟨_, rfl, ?_⟩; replace HB := hbs HB hb; (try clear hb); (try clear hb2); (try clear hk); (try clear hi)))
  go_ret
  exact ⟨by first | rfl | (simp [errW_none, errW_some] <;> rfl) | (simp [*, errW_none, errW_some] <;> rfl), blq HB.out⟩

/-- THE ONE PURE STATEMENT of laws_FnExactLengthText: yours. -/
def laws_FnExactLengthText.Pure : Prop := ∀ (a0 : Int), (Lit.int .i64 a0).wf = true → ∃ k, laws_FnExactLengthText.f k a0 = some true
theorem laws_FnExactLengthText.walk (P : laws_FnExactLengthText.Pure) (a0 : Int) (w : World) (htab : TB w) (w0 : (Lit.int .i64 a0).wf = true) :
  Calls Tryd.prog 3 #[.int .i64 a0] w fun e w' => e = .returned (.bool true) ∧ Below w.heap.size w w' := by
 obtain ⟨k, h⟩ := P a0 w0
 refine (laws_FnExactLengthText.calls k a0 true w htab h).mono ?_
 rintro e w' ⟨rfl, hd⟩
 exact ⟨rfl, hd⟩

end Go.Proofs.YtbjgkecnclpdaaaDoor.Q
