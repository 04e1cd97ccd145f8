/- What functions of the program compute, as functions of numbers and lists, and that they do. (The file is written by wip/x/vxp.py of this repository.) -/
import Derived.Test.YtlenacakmmikiaaGreatDoorLib
import Derived.Test.YtlenacakmmikiaaGreatDoorX18
namespace Go.Proofs.YtlenacakmmikiaaGreatDoorX
open Go Go.Proofs
set_option linter.unusedVariables false
set_option maxRecDepth 100000
/-! ### spec.SplitFields: function 18 -/
noncomputable def spec_SplitFields_s0 (k : Nat)  (line : ByteArray) (J : Int → Int → (List ByteArray) → Option ((List ByteArray) × Bool)) (x0_0 : Int) (x0_1 : Int) (x0_2 : (List ByteArray)) : Option ((List ByteArray) × Bool) :=
 cond (decide ((x0_1 : Int) ≤ ((line).size : Int)))
 (cond (decide ((x0_1 : Int) < ((line).size : Int)))
  (if 0 ≤ (x0_1 : Int) ∧ (x0_1 : Int) < ((line).size : Int) then
   cond (decide (((byteAt line (Int.toNat x0_1)) : Int) < 32))
    (some ([], false))
    (if 0 ≤ (x0_1 : Int) ∧ (x0_1 : Int) < ((line).size : Int) then
     cond (decide ((126 : Int) < (byteAt line (Int.toNat x0_1))))
      (some ([], false))
      (cond (decide ((x0_1 : Int) < ((line).size : Int)))
       (if 0 ≤ (x0_1 : Int) ∧ (x0_1 : Int) < ((line).size : Int) then
        cond (!(decide (((byteAt line (Int.toNat x0_1)) : Int) = 32)))
        (J x0_0 (wr (x0_1 + 1)) x0_2)
        (cond (decide ((x0_0 : Int) < x0_1))
        (if (0 : Int) ≤ x0_0 ∧ x0_0 ≤ x0_1 ∧ x0_1 ≤ ((line).size : Int) then
        if (x0_2 : List ByteArray).length + ([(line.extract (Int.toNat x0_0) (Int.toNat x0_1))] : List ByteArray).length ≤ maxRow then
        J (wr (x0_1 + 1)) (wr (x0_1 + 1)) (x0_2 ++ [(line.extract (Int.toNat x0_0) (Int.toNat x0_1))]) else none else none)
        (J (wr (x0_1 + 1)) (wr (x0_1 + 1)) x0_2)) else none)
       (cond (decide ((x0_0 : Int) < x0_1))
        (if (0 : Int) ≤ x0_0 ∧ x0_0 ≤ x0_1 ∧ x0_1 ≤ ((line).size : Int) then
        if (x0_2 : List ByteArray).length + ([(line.extract (Int.toNat x0_0) (Int.toNat x0_1))] : List ByteArray).length ≤ maxRow then
        J (wr (x0_1 + 1)) (wr (x0_1 + 1)) (x0_2 ++ [(line.extract (Int.toNat x0_0) (Int.toNat x0_1))]) else none else none)
        (J (wr (x0_1 + 1)) (wr (x0_1 + 1)) x0_2))) else none) else none)
  (cond (decide ((x0_1 : Int) < ((line).size : Int)))
   (if 0 ≤ (x0_1 : Int) ∧ (x0_1 : Int) < ((line).size : Int) then
    cond (!(decide (((byteAt line (Int.toNat x0_1)) : Int) = 32)))
     (J x0_0 (wr (x0_1 + 1)) x0_2)
     (cond (decide ((x0_0 : Int) < x0_1))
      (if (0 : Int) ≤ x0_0 ∧ x0_0 ≤ x0_1 ∧ x0_1 ≤ ((line).size : Int) then
       if (x0_2 : List ByteArray).length + ([(line.extract (Int.toNat x0_0) (Int.toNat x0_1))] : List ByteArray).length ≤ maxRow then
        J (wr (x0_1 + 1)) (wr (x0_1 + 1)) (x0_2 ++ [(line.extract (Int.toNat x0_0) (Int.toNat x0_1))]) else none else none)
      (J (wr (x0_1 + 1)) (wr (x0_1 + 1)) x0_2)) else none)
   (cond (decide ((x0_0 : Int) < x0_1))
    (if (0 : Int) ≤ x0_0 ∧ x0_0 ≤ x0_1 ∧ x0_1 ≤ ((line).size : Int) then
     if (x0_2 : List ByteArray).length + ([(line.extract (Int.toNat x0_0) (Int.toNat x0_1))] : List ByteArray).length ≤ maxRow then
      J (wr (x0_1 + 1)) (wr (x0_1 + 1)) (x0_2 ++ [(line.extract (Int.toNat x0_0) (Int.toNat x0_1))]) else none else none)
    (J (wr (x0_1 + 1)) (wr (x0_1 + 1)) x0_2))))
 (cond (decide ((24 : Int) < ((x0_2).length : Int)))
  (some ([], false))
  (some (x0_2, true)))
noncomputable def spec_SplitFields_l0 (k : Nat) : Nat → ByteArray → Int → Int → (List ByteArray) → Option ((List ByteArray) × Bool)
 | 0, line, x0_0, x0_1, x0_2 => spec_SplitFields_s0 k line (fun _ _ _ => none) x0_0 x0_1 x0_2
 | m + 1, line, x0_0, x0_1, x0_2 => spec_SplitFields_s0 k line (spec_SplitFields_l0 k m line) x0_0 x0_1 x0_2
noncomputable def spec_SplitFields_m (k : Nat) (J0 : ByteArray → Int → Int → (List ByteArray) → Option ((List ByteArray) × Bool)) (line : ByteArray) : Option ((List ByteArray) × Bool) :=
 cond (decide ((600 : Int) < ((line).size : Int)))
 (some ([], false))
 (J0 line 0 0 ([]))
noncomputable def spec_SplitFields (k : Nat) (line : ByteArray) : Option ((List ByteArray) × Bool) := spec_SplitFields_m k (spec_SplitFields_l0 k k) line
noncomputable def spec_SplitFields_v : Nat → List Nat := fun t => match t with | 6 => [0, 2, 3, 4, 5, 6] | _ => []
noncomputable def spec_SplitFields_O (k : Nat) : Oracle := ofL []
theorem spec_SplitFields_Ok (k : Nat) : OkO (Ct Tryz.prog) (spec_SplitFields_O k) := okO_nil
noncomputable def spec_SplitFields_A (line : ByteArray) : Pk := ⟨[(.sc (.v (.string line)))], []⟩
noncomputable def spec_SplitFields_d : Rs → Option ((List ByteArray) × Bool)
 | ⟨(.tp [(.sc (.sl 0)), (.sc (.v (.bool r2)))]), [(.row true K.kstr r1)]⟩ => some (r1, r2)
 | _ => none
theorem spec_SplitFields_i {r : Rs} {y : (List ByteArray) × Bool} (h : spec_SplitFields_d r = some y) : r = ⟨(.tp [(.sc (.sl 0)), (.sc (.v (.bool y.2)))]), [(.row true K.kstr y.1)]⟩ := by
 unfold spec_SplitFields_d at h; split at h
 · cases h; rfl
 · cases h
noncomputable def spec_SplitFields_h0 (k m : Nat) (line : ByteArray) (x0_0 : Int) (x0_1 : Int) (x0_2 : (List ByteArray)) : Option ((List ByteArray) × Bool) := hdAt env (spec_SplitFields_O k) spec_SplitFields_v Tryz.f18 0 (fun r => spec_SplitFields_d (r.fin 0 [])) [1, 1, 1, 1, 0, 1, 0] k m ⟨tmF [0, 2, 3, 4, 5, 6] [(.a (.sc (.v (.string line)))), (.a (.sc .nl)), (.a (.sc (.v (.bool false)))), (.a (.sc (.sl 0))), (.a (.sc (.v (.int .i64 x0_0)))), (.a (.sc (.v (.int .i64 x0_1))))], blF [(.row true K.kstr x0_2)]⟩
theorem spec_SplitFields_z0 (k : Nat) (line : ByteArray) (x0_0 : Int) (x0_1 : Int) (x0_2 : (List ByteArray)) : spec_SplitFields_h0 k 0 line x0_0 x0_1 x0_2 = spec_SplitFields_s0 k line (fun _ _ _ => none) x0_0 x0_1 x0_2 := by kernel_rfl
theorem spec_SplitFields_g0 (k : Nat) (H : St → Option ((List ByteArray) × Bool)) (line : ByteArray) (x0_0 : Int) (x0_1 : Int) (x0_2 : (List ByteArray)) : rnd env (spec_SplitFields_O k) spec_SplitFields_v Tryz.f18 0 (fun r => spec_SplitFields_d (r.fin 0 [])) [1, 1, 1, 1, 0, 1, 0] k H ⟨tmF [0, 2, 3, 4, 5, 6] [(.a (.sc (.v (.string line)))), (.a (.sc .nl)), (.a (.sc (.v (.bool false)))), (.a (.sc (.sl 0))), (.a (.sc (.v (.int .i64 x0_0)))), (.a (.sc (.v (.int .i64 x0_1))))], blF [(.row true K.kstr x0_2)]⟩ = spec_SplitFields_s0 k line (fun x0_0 x0_1 x0_2 => H ⟨tmF [0, 2, 3, 4, 5, 6] [(.a (.sc (.v (.string line)))), (.a (.sc .nl)), (.a (.sc (.v (.bool false)))), (.a (.sc (.sl 0))), (.a (.sc (.v (.int .i64 x0_0)))), (.a (.sc (.v (.int .i64 x0_1))))], blF [(.row true K.kstr x0_2)]⟩) x0_0 x0_1 x0_2 := by kernel_rfl
theorem spec_SplitFields_n0 (k m : Nat) (line : ByteArray) (x0_0 : Int) (x0_1 : Int) (x0_2 : (List ByteArray)) : spec_SplitFields_h0 k (m + 1) line x0_0 x0_1 x0_2 = spec_SplitFields_s0 k line (spec_SplitFields_h0 k m line) x0_0 x0_1 x0_2 := (hdAt_succ _ _ _ _ _ _ _ _ _ _).trans (spec_SplitFields_g0 k _ line x0_0 x0_1 x0_2)
theorem spec_SplitFields_q0 (k : Nat) : ∀ m, spec_SplitFields_h0 k m = spec_SplitFields_l0 k m := by
 intro m
 induction m with
 | zero => funext line x0_0 x0_1 x0_2; rw [spec_SplitFields_z0]; rfl
 | succ m ih => funext line x0_0 x0_1 x0_2; rw [spec_SplitFields_n0, ih]; rfl
theorem spec_SplitFields_e (k : Nat) (line : ByteArray) : callF env (spec_SplitFields_O k) spec_SplitFields_v Tryz.f18 (k + 1) (spec_SplitFields_A line) (fun r => spec_SplitFields_d (r.fin 0 [])) = spec_SplitFields k line := by
 have e : ∀ H : St → Option ((List ByteArray) × Bool), callE env (spec_SplitFields_O k) spec_SplitFields_v Tryz.f18 (k + 1) (spec_SplitFields_A line) [1, 1, 1, 1, 0, 1, 0] (fun r => spec_SplitFields_d (r.fin 0 [])) H = spec_SplitFields_m k (fun line x0_0 x0_1 x0_2 => H ⟨tmF [0, 2, 3, 4, 5, 6] [(.a (.sc (.v (.string line)))), (.a (.sc .nl)), (.a (.sc (.v (.bool false)))), (.a (.sc (.sl 0))), (.a (.sc (.v (.int .i64 x0_0)))), (.a (.sc (.v (.int .i64 x0_1))))], blF [(.row true K.kstr x0_2)]⟩) line := fun H => by kernel_rfl
 exact (callE_eq env (spec_SplitFields_O k) spec_SplitFields_v Tryz.f18 k (spec_SplitFields_A line) [1, 1, 1, 1, 0, 1, 0] 0 (fun r => spec_SplitFields_d (r.fin 0 [])) rfl (by kernel_rfl)).trans ((e (hdAt env (spec_SplitFields_O k) spec_SplitFields_v Tryz.f18 0 (fun r => spec_SplitFields_d (r.fin 0 [])) [1, 1, 1, 1, 0, 1, 0] k k)).trans (by
  show spec_SplitFields_m k (spec_SplitFields_h0 k k) line = _
  rw [spec_SplitFields_q0]; rfl))
noncomputable def spec_SplitFields_x (k : Nat) : Ent1 := fun A R Q => match A with
 | ⟨[(.sc (.v (.string a1)))], []⟩ => (spec_SplitFields k a1).bind fun y => Q ⟨(.tp [(.sc (.sl 0)), (.sc (.v (.bool y.2)))]), [(.row true K.kstr y.1)]⟩
 | _ => none
theorem spec_SplitFields_ok (k : Nat) : OkE Tryz.prog 18 (spec_SplitFields_x k) := by
 intro A R Q x h
 unfold spec_SplitFields_x at h
 split at h
 · obtain ⟨y, hy, hK⟩ := Option.bind_eq_some_iff.1 h
   obtain ⟨r, hr, hd⟩ := callF_ok envOk (spec_SplitFields_Ok k) follows Tryz.func18 (by kernel_rfl) ((spec_SplitFields_e k _).trans hy)
   exact ⟨_, spec_SplitFields_i hd ▸ hr.fin [], hK⟩
 · cases h
/-! ### spec.l01In: function 40 -/
noncomputable def spec_l01In (k : Nat)  (x : Int) (least : Int) (most : Int) : Option (Bool) :=
 cond (decide ((least : Int) ≤ x))
 (some (decide ((x : Int) ≤ most)))
 (some false)
noncomputable def spec_l01In_v : Nat → List Nat := fun t => match t with | _ => []
noncomputable def spec_l01In_O (k : Nat) : Oracle := ofL []
theorem spec_l01In_Ok (k : Nat) : OkO (Ct Tryz.prog) (spec_l01In_O k) := okO_nil
noncomputable def spec_l01In_A (x : Int) (least : Int) (most : Int) : Pk := ⟨[(.sc (.v (.int .i64 x))), (.sc (.v (.int .i64 least))), (.sc (.v (.int .i64 most)))], []⟩
noncomputable def spec_l01In_d : Rs → Option (Bool)
 | ⟨(.a (.sc (.v (.bool r1)))), []⟩ => some r1
 | _ => none
theorem spec_l01In_i {r : Rs} {y : Bool} (h : spec_l01In_d r = some y) : r = ⟨(.a (.sc (.v (.bool y)))), []⟩ := by
 unfold spec_l01In_d at h; split at h
 · cases h; rfl
 · cases h
theorem spec_l01In_e (k : Nat) (x : Int) (least : Int) (most : Int) : callF env (spec_l01In_O k) spec_l01In_v Tryz.f40 (k + 1) (spec_l01In_A x least most) (fun r => spec_l01In_d (r.fin 0 [])) = spec_l01In k x least most := by kernel_rfl
noncomputable def spec_l01In_x (k : Nat) : Ent1 := fun A R Q => match A with
 | ⟨[(.sc (.v (.int .i64 a1))), (.sc (.v (.int .i64 a2))), (.sc (.v (.int .i64 a3)))], []⟩ => (spec_l01In k a1 a2 a3).bind fun y => Q ⟨(.a (.sc (.v (.bool y)))), []⟩
 | _ => none
theorem spec_l01In_ok (k : Nat) : OkE Tryz.prog 40 (spec_l01In_x k) := by
 intro A R Q x h
 unfold spec_l01In_x at h
 split at h
 · obtain ⟨y, hy, hK⟩ := Option.bind_eq_some_iff.1 h
   obtain ⟨r, hr, hd⟩ := callF_ok envOk (spec_l01In_Ok k) follows Tryz.func40 (by kernel_rfl) ((spec_l01In_e k _ _ _).trans hy)
   exact ⟨_, spec_l01In_i hd ▸ hr.fin [], hK⟩
 · cases h
/-! ### spec.l01Figure: function 47 -/
noncomputable def spec_l01Figure (k : Nat)  (x : Int) : Option (Int) :=
 cond (decide ((x : Int) < 10))
 (some (IntKind.u8.wrap ((wr ((48 : Int) + x)))))
 (some (IntKind.u8.wrap ((wr ((wr ((97 : Int) + x)) - 10)))))
noncomputable def spec_l01Figure_v : Nat → List Nat := fun t => match t with | _ => []
noncomputable def spec_l01Figure_O (k : Nat) : Oracle := ofL []
theorem spec_l01Figure_Ok (k : Nat) : OkO (Ct Tryz.prog) (spec_l01Figure_O k) := okO_nil
noncomputable def spec_l01Figure_A (x : Int) : Pk := ⟨[(.sc (.v (.int .i64 x)))], []⟩
noncomputable def spec_l01Figure_d : Rs → Option (Int)
 | ⟨(.a (.sc (.v (.int .u8 r1)))), []⟩ => some r1
 | _ => none
theorem spec_l01Figure_i {r : Rs} {y : Int} (h : spec_l01Figure_d r = some y) : r = ⟨(.a (.sc (.v (.int .u8 y)))), []⟩ := by
 unfold spec_l01Figure_d at h; split at h
 · cases h; rfl
 · cases h
theorem spec_l01Figure_e (k : Nat) (x : Int) : callF env (spec_l01Figure_O k) spec_l01Figure_v Tryz.f47 (k + 1) (spec_l01Figure_A x) (fun r => spec_l01Figure_d (r.fin 0 [])) = spec_l01Figure k x := by kernel_rfl
noncomputable def spec_l01Figure_x (k : Nat) : Ent1 := fun A R Q => match A with
 | ⟨[(.sc (.v (.int .i64 a1)))], []⟩ => (spec_l01Figure k a1).bind fun y => Q ⟨(.a (.sc (.v (.int .u8 y)))), []⟩
 | _ => none
theorem spec_l01Figure_ok (k : Nat) : OkE Tryz.prog 47 (spec_l01Figure_x k) := by
 intro A R Q x h
 unfold spec_l01Figure_x at h
 split at h
 · obtain ⟨y, hy, hK⟩ := Option.bind_eq_some_iff.1 h
   obtain ⟨r, hr, hd⟩ := callF_ok envOk (spec_l01Figure_Ok k) follows Tryz.func47 (by kernel_rfl) ((spec_l01Figure_e k _).trans hy)
   exact ⟨_, spec_l01Figure_i hd ▸ hr.fin [], hK⟩
 · cases h
/-! ### spec.FormatInt: function 22 -/
noncomputable def spec_FormatInt_s0 (k : Nat)  (n : Int) (J : Int → ByteArray → Option (ByteArray)) (x0_0 : Int) (x0_1 : ByteArray) : Option (ByteArray) :=
 cond (!(decide ((x0_0 : Int) = 0)))
 (if (10 : Int) ≠ 0 then
  cond (decide (((Int.tmod x0_0 10) : Int) < 0))
   ((spec_l01Figure k (wr (0 - (Int.tmod x0_0 10)))).bind fun y3 =>
    if ((strOf ([y3]))).size + (x0_1).size ≤ 9223372036854775807 then
     if (10 : Int) ≠ 0 then
      J (wr (Int.tdiv x0_0 10)) ((strOf ([y3])) ++ x0_1) else none else none)
   ((spec_l01Figure k (Int.tmod x0_0 10)).bind fun y4 =>
    if ((strOf ([y4]))).size + (x0_1).size ≤ 9223372036854775807 then
     if (10 : Int) ≠ 0 then
      J (wr (Int.tdiv x0_0 10)) ((strOf ([y4])) ++ x0_1) else none else none) else none)
 (cond (decide ((n : Int) < 0))
  (if ((ByteArray.mk #[45])).size + (x0_1).size ≤ 9223372036854775807 then
   some ((ByteArray.mk #[45]) ++ x0_1) else none)
  (some x0_1))
noncomputable def spec_FormatInt_l0 (k : Nat) : Nat → Int → Int → ByteArray → Option (ByteArray)
 | 0, n, x0_0, x0_1 => spec_FormatInt_s0 k n (fun _ _ => none) x0_0 x0_1
 | m + 1, n, x0_0, x0_1 => spec_FormatInt_s0 k n (spec_FormatInt_l0 k m n) x0_0 x0_1
noncomputable def spec_FormatInt_m (k : Nat) (J0 : Int → Int → ByteArray → Option (ByteArray)) (n : Int) : Option (ByteArray) :=
 cond (decide ((n : Int) = 0))
 (some (ByteArray.mk #[48]))
 (J0 n n (ByteArray.mk #[]))
noncomputable def spec_FormatInt (k : Nat) (n : Int) : Option (ByteArray) := spec_FormatInt_m k (spec_FormatInt_l0 k k) n
noncomputable def spec_FormatInt_v : Nat → List Nat := fun t => match t with | 5 => [0, 2, 3, 4] | _ => []
noncomputable def spec_FormatInt_O (k : Nat) : Oracle := ofL [(47, spec_l01Figure_x k)]
theorem spec_FormatInt_Ok (k : Nat) : OkO (Ct Tryz.prog) (spec_FormatInt_O k) := okO_cons (spec_l01Figure_ok k) (okO_nil)
noncomputable def spec_FormatInt_A (n : Int) : Pk := ⟨[(.sc (.v (.int .i64 n)))], []⟩
noncomputable def spec_FormatInt_d : Rs → Option (ByteArray)
 | ⟨(.a (.sc (.v (.string r1)))), []⟩ => some r1
 | _ => none
theorem spec_FormatInt_i {r : Rs} {y : ByteArray} (h : spec_FormatInt_d r = some y) : r = ⟨(.a (.sc (.v (.string y)))), []⟩ := by
 unfold spec_FormatInt_d at h; split at h
 · cases h; rfl
 · cases h
noncomputable def spec_FormatInt_h0 (k m : Nat) (n : Int) (x0_0 : Int) (x0_1 : ByteArray) : Option (ByteArray) := hdAt env (spec_FormatInt_O k) spec_FormatInt_v Tryz.f22 0 (fun r => spec_FormatInt_d (r.fin 0 [])) [1, 1, 1, 1, 0, 0] k m ⟨tmF [0, 2, 3, 4] [(.a (.sc (.v (.int .i64 x0_0)))), (.a (.sc (.v (.string (ByteArray.mk #[]))))), (.a (.sc (.v (.bool (decide ((n : Int) < 0)))))), (.a (.sc (.v (.string x0_1))))], blF []⟩
theorem spec_FormatInt_z0 (k : Nat) (n : Int) (x0_0 : Int) (x0_1 : ByteArray) : spec_FormatInt_h0 k 0 n x0_0 x0_1 = spec_FormatInt_s0 k n (fun _ _ => none) x0_0 x0_1 := by kernel_rfl
theorem spec_FormatInt_g0 (k : Nat) (H : St → Option (ByteArray)) (n : Int) (x0_0 : Int) (x0_1 : ByteArray) : rnd env (spec_FormatInt_O k) spec_FormatInt_v Tryz.f22 0 (fun r => spec_FormatInt_d (r.fin 0 [])) [1, 1, 1, 1, 0, 0] k H ⟨tmF [0, 2, 3, 4] [(.a (.sc (.v (.int .i64 x0_0)))), (.a (.sc (.v (.string (ByteArray.mk #[]))))), (.a (.sc (.v (.bool (decide ((n : Int) < 0)))))), (.a (.sc (.v (.string x0_1))))], blF []⟩ = spec_FormatInt_s0 k n (fun x0_0 x0_1 => H ⟨tmF [0, 2, 3, 4] [(.a (.sc (.v (.int .i64 x0_0)))), (.a (.sc (.v (.string (ByteArray.mk #[]))))), (.a (.sc (.v (.bool (decide ((n : Int) < 0)))))), (.a (.sc (.v (.string x0_1))))], blF []⟩) x0_0 x0_1 := by kernel_rfl
theorem spec_FormatInt_n0 (k m : Nat) (n : Int) (x0_0 : Int) (x0_1 : ByteArray) : spec_FormatInt_h0 k (m + 1) n x0_0 x0_1 = spec_FormatInt_s0 k n (spec_FormatInt_h0 k m n) x0_0 x0_1 := (hdAt_succ _ _ _ _ _ _ _ _ _ _).trans (spec_FormatInt_g0 k _ n x0_0 x0_1)
theorem spec_FormatInt_q0 (k : Nat) : ∀ m, spec_FormatInt_h0 k m = spec_FormatInt_l0 k m := by
 intro m
 induction m with
 | zero => funext n x0_0 x0_1; rw [spec_FormatInt_z0]; rfl
 | succ m ih => funext n x0_0 x0_1; rw [spec_FormatInt_n0, ih]; rfl
theorem spec_FormatInt_e (k : Nat) (n : Int) : callF env (spec_FormatInt_O k) spec_FormatInt_v Tryz.f22 (k + 1) (spec_FormatInt_A n) (fun r => spec_FormatInt_d (r.fin 0 [])) = spec_FormatInt k n := by
 have e : ∀ H : St → Option (ByteArray), callE env (spec_FormatInt_O k) spec_FormatInt_v Tryz.f22 (k + 1) (spec_FormatInt_A n) [1, 1, 1, 1, 0, 0] (fun r => spec_FormatInt_d (r.fin 0 [])) H = spec_FormatInt_m k (fun n x0_0 x0_1 => H ⟨tmF [0, 2, 3, 4] [(.a (.sc (.v (.int .i64 x0_0)))), (.a (.sc (.v (.string (ByteArray.mk #[]))))), (.a (.sc (.v (.bool (decide ((n : Int) < 0)))))), (.a (.sc (.v (.string x0_1))))], blF []⟩) n := fun H => by kernel_rfl
 exact (callE_eq env (spec_FormatInt_O k) spec_FormatInt_v Tryz.f22 k (spec_FormatInt_A n) [1, 1, 1, 1, 0, 0] 0 (fun r => spec_FormatInt_d (r.fin 0 [])) rfl (by kernel_rfl)).trans ((e (hdAt env (spec_FormatInt_O k) spec_FormatInt_v Tryz.f22 0 (fun r => spec_FormatInt_d (r.fin 0 [])) [1, 1, 1, 1, 0, 0] k k)).trans (by
  show spec_FormatInt_m k (spec_FormatInt_h0 k k) n = _
  rw [spec_FormatInt_q0]; rfl))
noncomputable def spec_FormatInt_x (k : Nat) : Ent1 := fun A R Q => match A with
 | ⟨[(.sc (.v (.int .i64 a1)))], []⟩ => (spec_FormatInt k a1).bind fun y => Q ⟨(.a (.sc (.v (.string y)))), []⟩
 | _ => none
theorem spec_FormatInt_ok (k : Nat) : OkE Tryz.prog 22 (spec_FormatInt_x k) := by
 intro A R Q x h
 unfold spec_FormatInt_x at h
 split at h
 · obtain ⟨y, hy, hK⟩ := Option.bind_eq_some_iff.1 h
   obtain ⟨r, hr, hd⟩ := callF_ok envOk (spec_FormatInt_Ok k) follows Tryz.func22 (by kernel_rfl) ((spec_FormatInt_e k _).trans hy)
   exact ⟨_, spec_FormatInt_i hd ▸ hr.fin [], hK⟩
 · cases h
/-! ### spec.ParseUint: function 76 -/
noncomputable def spec_ParseUint_s0 (k : Nat)  (text : ByteArray) (J : Int → Int → Option (Int × Bool)) (x0_0 : Int) (x0_1 : Int) : Option (Int × Bool) :=
 cond (decide ((x0_1 : Int) < ((text).size : Int)))
 (if 0 ≤ (x0_1 : Int) ∧ (x0_1 : Int) < ((text).size : Int) then
  cond (decide (((byteAt text (Int.toNat x0_1)) : Int) < 48))
   (some (0, false))
   (if 0 ≤ (x0_1 : Int) ∧ (x0_1 : Int) < ((text).size : Int) then
    cond (decide ((57 : Int) < (byteAt text (Int.toNat x0_1))))
     (some (0, false))
     (if 0 ≤ (x0_1 : Int) ∧ (x0_1 : Int) < ((text).size : Int) then
      J (wr ((wr ((wr ((10 : Int) * x0_0)) + (wr (byteAt text (Int.toNat x0_1))))) - 48)) (wr (x0_1 + 1)) else none) else none) else none)
 (cond (decide ((1000000000 : Int) < x0_0))
  (some (0, false))
  ((spec_FormatInt k x0_0).bind fun y2 =>
   cond (!(decide ((y2 : ByteArray) = text)))
    (some (0, false))
    (some (x0_0, true))))
noncomputable def spec_ParseUint_l0 (k : Nat) : Nat → ByteArray → Int → Int → Option (Int × Bool)
 | 0, text, x0_0, x0_1 => spec_ParseUint_s0 k text (fun _ _ => none) x0_0 x0_1
 | m + 1, text, x0_0, x0_1 => spec_ParseUint_s0 k text (spec_ParseUint_l0 k m text) x0_0 x0_1
noncomputable def spec_ParseUint_m (k : Nat) (J0 : ByteArray → Int → Int → Option (Int × Bool)) (text : ByteArray) : Option (Int × Bool) :=
 cond (decide ((10 : Int) < ((text).size : Int)))
 (some (0, false))
 (J0 text 0 0)
noncomputable def spec_ParseUint (k : Nat) (text : ByteArray) : Option (Int × Bool) := spec_ParseUint_m k (spec_ParseUint_l0 k k) text
noncomputable def spec_ParseUint_v : Nat → List Nat := fun t => match t with | 5 => [0, 2, 3, 4, 5] | _ => []
noncomputable def spec_ParseUint_O (k : Nat) : Oracle := ofL [(22, spec_FormatInt_x k)]
theorem spec_ParseUint_Ok (k : Nat) : OkO (Ct Tryz.prog) (spec_ParseUint_O k) := okO_cons (spec_FormatInt_ok k) (okO_nil)
noncomputable def spec_ParseUint_A (text : ByteArray) : Pk := ⟨[(.sc (.v (.string text)))], []⟩
noncomputable def spec_ParseUint_d : Rs → Option (Int × Bool)
 | ⟨(.tp [(.sc (.v (.int .i64 r1))), (.sc (.v (.bool r2)))]), []⟩ => some (r1, r2)
 | _ => none
theorem spec_ParseUint_i {r : Rs} {y : Int × Bool} (h : spec_ParseUint_d r = some y) : r = ⟨(.tp [(.sc (.v (.int .i64 y.1))), (.sc (.v (.bool y.2)))]), []⟩ := by
 unfold spec_ParseUint_d at h; split at h
 · cases h; rfl
 · cases h
noncomputable def spec_ParseUint_h0 (k m : Nat) (text : ByteArray) (x0_0 : Int) (x0_1 : Int) : Option (Int × Bool) := hdAt env (spec_ParseUint_O k) spec_ParseUint_v Tryz.f76 0 (fun r => spec_ParseUint_d (r.fin 0 [])) [1, 1, 1, 0, 1, 0] k m ⟨tmF [0, 2, 3, 4, 5] [(.a (.sc (.v (.string text)))), (.a (.sc (.v (.int .i64 0)))), (.a (.sc (.v (.bool false)))), (.a (.sc (.v (.int .i64 x0_0)))), (.a (.sc (.v (.int .i64 x0_1))))], blF []⟩
theorem spec_ParseUint_z0 (k : Nat) (text : ByteArray) (x0_0 : Int) (x0_1 : Int) : spec_ParseUint_h0 k 0 text x0_0 x0_1 = spec_ParseUint_s0 k text (fun _ _ => none) x0_0 x0_1 := by kernel_rfl
theorem spec_ParseUint_g0 (k : Nat) (H : St → Option (Int × Bool)) (text : ByteArray) (x0_0 : Int) (x0_1 : Int) : rnd env (spec_ParseUint_O k) spec_ParseUint_v Tryz.f76 0 (fun r => spec_ParseUint_d (r.fin 0 [])) [1, 1, 1, 0, 1, 0] k H ⟨tmF [0, 2, 3, 4, 5] [(.a (.sc (.v (.string text)))), (.a (.sc (.v (.int .i64 0)))), (.a (.sc (.v (.bool false)))), (.a (.sc (.v (.int .i64 x0_0)))), (.a (.sc (.v (.int .i64 x0_1))))], blF []⟩ = spec_ParseUint_s0 k text (fun x0_0 x0_1 => H ⟨tmF [0, 2, 3, 4, 5] [(.a (.sc (.v (.string text)))), (.a (.sc (.v (.int .i64 0)))), (.a (.sc (.v (.bool false)))), (.a (.sc (.v (.int .i64 x0_0)))), (.a (.sc (.v (.int .i64 x0_1))))], blF []⟩) x0_0 x0_1 := by kernel_rfl
theorem spec_ParseUint_n0 (k m : Nat) (text : ByteArray) (x0_0 : Int) (x0_1 : Int) : spec_ParseUint_h0 k (m + 1) text x0_0 x0_1 = spec_ParseUint_s0 k text (spec_ParseUint_h0 k m text) x0_0 x0_1 := (hdAt_succ _ _ _ _ _ _ _ _ _ _).trans (spec_ParseUint_g0 k _ text x0_0 x0_1)
theorem spec_ParseUint_q0 (k : Nat) : ∀ m, spec_ParseUint_h0 k m = spec_ParseUint_l0 k m := by
 intro m
 induction m with
 | zero => funext text x0_0 x0_1; rw [spec_ParseUint_z0]; rfl
 | succ m ih => funext text x0_0 x0_1; rw [spec_ParseUint_n0, ih]; rfl
theorem spec_ParseUint_e (k : Nat) (text : ByteArray) : callF env (spec_ParseUint_O k) spec_ParseUint_v Tryz.f76 (k + 1) (spec_ParseUint_A text) (fun r => spec_ParseUint_d (r.fin 0 [])) = spec_ParseUint k text := by
 have e : ∀ H : St → Option (Int × Bool), callE env (spec_ParseUint_O k) spec_ParseUint_v Tryz.f76 (k + 1) (spec_ParseUint_A text) [1, 1, 1, 0, 1, 0] (fun r => spec_ParseUint_d (r.fin 0 [])) H = spec_ParseUint_m k (fun text x0_0 x0_1 => H ⟨tmF [0, 2, 3, 4, 5] [(.a (.sc (.v (.string text)))), (.a (.sc (.v (.int .i64 0)))), (.a (.sc (.v (.bool false)))), (.a (.sc (.v (.int .i64 x0_0)))), (.a (.sc (.v (.int .i64 x0_1))))], blF []⟩) text := fun H => by kernel_rfl
 exact (callE_eq env (spec_ParseUint_O k) spec_ParseUint_v Tryz.f76 k (spec_ParseUint_A text) [1, 1, 1, 0, 1, 0] 0 (fun r => spec_ParseUint_d (r.fin 0 [])) rfl (by kernel_rfl)).trans ((e (hdAt env (spec_ParseUint_O k) spec_ParseUint_v Tryz.f76 0 (fun r => spec_ParseUint_d (r.fin 0 [])) [1, 1, 1, 0, 1, 0] k k)).trans (by
  show spec_ParseUint_m k (spec_ParseUint_h0 k k) text = _
  rw [spec_ParseUint_q0]; rfl))
noncomputable def spec_ParseUint_x (k : Nat) : Ent1 := fun A R Q => match A with
 | ⟨[(.sc (.v (.string a1)))], []⟩ => (spec_ParseUint k a1).bind fun y => Q ⟨(.tp [(.sc (.v (.int .i64 y.1))), (.sc (.v (.bool y.2)))]), []⟩
 | _ => none
theorem spec_ParseUint_ok (k : Nat) : OkE Tryz.prog 76 (spec_ParseUint_x k) := by
 intro A R Q x h
 unfold spec_ParseUint_x at h
 split at h
 · obtain ⟨y, hy, hK⟩ := Option.bind_eq_some_iff.1 h
   obtain ⟨r, hr, hd⟩ := callF_ok envOk (spec_ParseUint_Ok k) follows Tryz.func76 (by kernel_rfl) ((spec_ParseUint_e k _).trans hy)
   exact ⟨_, spec_ParseUint_i hd ▸ hr.fin [], hK⟩
 · cases h
/-! ### spec.l40Number: function 41 -/
noncomputable def spec_l40Number (k : Nat)  (s : ByteArray) : Option (Int) :=
 cond (decide ((1 : Int) < ((s).size : Int)))
 (if 0 ≤ (0 : Int) ∧ (0 : Int) < ((s).size : Int) then
  cond (decide (((byteAt s 0) : Int) = 45))
   (if (0 : Int) ≤ 1 ∧ 1 ≤ ((s).size : Int) ∧ ((s).size : Int) ≤ ((s).size : Int) then
    (spec_ParseUint k (s.extract 1 (Int.toNat ((s).size : Int)))).bind fun y1 =>
     some (wr (0 - y1.1)) else none)
   ((spec_ParseUint k s).bind fun y2 =>
    some y2.1) else none)
 ((spec_ParseUint k s).bind fun y3 =>
  some y3.1)
noncomputable def spec_l40Number_v : Nat → List Nat := fun t => match t with | _ => []
noncomputable def spec_l40Number_O (k : Nat) : Oracle := ofL [(76, spec_ParseUint_x k)]
theorem spec_l40Number_Ok (k : Nat) : OkO (Ct Tryz.prog) (spec_l40Number_O k) := okO_cons (spec_ParseUint_ok k) (okO_nil)
noncomputable def spec_l40Number_A (s : ByteArray) : Pk := ⟨[(.sc (.v (.string s)))], []⟩
noncomputable def spec_l40Number_d : Rs → Option (Int)
 | ⟨(.a (.sc (.v (.int .i64 r1)))), []⟩ => some r1
 | _ => none
theorem spec_l40Number_i {r : Rs} {y : Int} (h : spec_l40Number_d r = some y) : r = ⟨(.a (.sc (.v (.int .i64 y)))), []⟩ := by
 unfold spec_l40Number_d at h; split at h
 · cases h; rfl
 · cases h
theorem spec_l40Number_e (k : Nat) (s : ByteArray) : callF env (spec_l40Number_O k) spec_l40Number_v Tryz.f41 (k + 1) (spec_l40Number_A s) (fun r => spec_l40Number_d (r.fin 0 [])) = spec_l40Number k s := by kernel_rfl
noncomputable def spec_l40Number_x (k : Nat) : Ent1 := fun A R Q => match A with
 | ⟨[(.sc (.v (.string a1)))], []⟩ => (spec_l40Number k a1).bind fun y => Q ⟨(.a (.sc (.v (.int .i64 y)))), []⟩
 | _ => none
theorem spec_l40Number_ok (k : Nat) : OkE Tryz.prog 41 (spec_l40Number_x k) := by
 intro A R Q x h
 unfold spec_l40Number_x at h
 split at h
 · obtain ⟨y, hy, hK⟩ := Option.bind_eq_some_iff.1 h
   obtain ⟨r, hr, hd⟩ := callF_ok envOk (spec_l40Number_Ok k) follows Tryz.func41 (by kernel_rfl) ((spec_l40Number_e k _).trans hy)
   exact ⟨_, spec_l40Number_i hd ▸ hr.fin [], hK⟩
 · cases h
/-! ### spec.ActOk: function 77 -/
noncomputable def spec_ActOk (k : Nat)  (a : Deed) : Option (Bool) :=
 cond (decide ((a.Kind : Int) = 1))
 (cond (decide ((a.Kind : Int) = 1))
  ((spec_l01In k a.A 0 1000).bind fun y1 =>
   cond y1
    (some (decide ((a.B : Int) = 0)))
    (some false))
  (cond (decide ((a.Kind : Int) = 5))
   ((spec_l01In k a.A 0 3).bind fun y2 =>
    cond y2
     ((spec_l01In k a.B 0 100000).bind fun y3 =>
      some y3)
     (some false))
   (cond (decide ((a.Kind : Int) = 4))
    (cond (decide ((a.A : Int) = 0))
     (some (decide ((a.B : Int) = 0)))
     (some false))
    (some false))))
 (cond (decide ((a.Kind : Int) = 2))
  (cond (decide ((a.Kind : Int) = 2))
   ((spec_l01In k a.A 0 1000).bind fun y4 =>
    cond y4
     (some (decide ((a.B : Int) = 0)))
     (some false))
   (cond (decide ((a.Kind : Int) = 5))
    ((spec_l01In k a.A 0 3).bind fun y5 =>
     cond y5
      ((spec_l01In k a.B 0 100000).bind fun y6 =>
       some y6)
      (some false))
    (cond (decide ((a.Kind : Int) = 4))
     (cond (decide ((a.A : Int) = 0))
      (some (decide ((a.B : Int) = 0)))
      (some false))
     (some false))))
  (cond (decide ((a.Kind : Int) = 3))
   (cond (decide ((a.Kind : Int) = 3))
    ((spec_l01In k a.A 0 1000).bind fun y7 =>
     cond y7
      (some (decide ((a.B : Int) = 0)))
      (some false))
    (cond (decide ((a.Kind : Int) = 5))
     ((spec_l01In k a.A 0 3).bind fun y8 =>
      cond y8
       ((spec_l01In k a.B 0 100000).bind fun y9 =>
        some y9)
       (some false))
     (cond (decide ((a.Kind : Int) = 4))
      (cond (decide ((a.A : Int) = 0))
       (some (decide ((a.B : Int) = 0)))
       (some false))
      (some false))))
   (cond (decide ((a.Kind : Int) = 6))
    ((spec_l01In k a.A 0 1000).bind fun y10 =>
     cond y10
      (some (decide ((a.B : Int) = 0)))
      (some false))
    (cond (decide ((a.Kind : Int) = 5))
     ((spec_l01In k a.A 0 3).bind fun y11 =>
      cond y11
       ((spec_l01In k a.B 0 100000).bind fun y12 =>
        some y12)
       (some false))
     (cond (decide ((a.Kind : Int) = 4))
      (cond (decide ((a.A : Int) = 0))
       (some (decide ((a.B : Int) = 0)))
       (some false))
      (some false))))))
noncomputable def spec_ActOk_v : Nat → List Nat := fun t => match t with | _ => []
noncomputable def spec_ActOk_O (k : Nat) : Oracle := ofL [(40, spec_l01In_x k)]
theorem spec_ActOk_Ok (k : Nat) : OkO (Ct Tryz.prog) (spec_ActOk_O k) := okO_cons (spec_l01In_ok k) (okO_nil)
noncomputable def spec_ActOk_A (a : Deed) : Pk := ⟨[(.ag [(.v (.int .i64 a.Kind)), (.v (.int .i64 a.A)), (.v (.int .i64 a.B))])], []⟩
noncomputable def spec_ActOk_d : Rs → Option (Bool)
 | ⟨(.a (.sc (.v (.bool r1)))), []⟩ => some r1
 | _ => none
theorem spec_ActOk_i {r : Rs} {y : Bool} (h : spec_ActOk_d r = some y) : r = ⟨(.a (.sc (.v (.bool y)))), []⟩ := by
 unfold spec_ActOk_d at h; split at h
 · cases h; rfl
 · cases h
theorem spec_ActOk_e (k : Nat) (a : Deed) : callF env (spec_ActOk_O k) spec_ActOk_v Tryz.f77 (k + 1) (spec_ActOk_A a) (fun r => spec_ActOk_d (r.fin 0 [])) = spec_ActOk k a := by kernel_rfl
noncomputable def spec_ActOk_x (k : Nat) : Ent1 := fun A R Q => match A with
 | ⟨[(.ag [(.v (.int .i64 a1)), (.v (.int .i64 a2)), (.v (.int .i64 a3))])], []⟩ => (spec_ActOk k (⟨a1, a2, a3⟩ : Deed)).bind fun y => Q ⟨(.a (.sc (.v (.bool y)))), []⟩
 | _ => none
theorem spec_ActOk_ok (k : Nat) : OkE Tryz.prog 77 (spec_ActOk_x k) := by
 intro A R Q x h
 unfold spec_ActOk_x at h
 split at h
 · obtain ⟨y, hy, hK⟩ := Option.bind_eq_some_iff.1 h
   obtain ⟨r, hr, hd⟩ := callF_ok envOk (spec_ActOk_Ok k) follows Tryz.func77 (by kernel_rfl) ((spec_ActOk_e k _).trans hy)
   exact ⟨_, spec_ActOk_i hd ▸ hr.fin [], hK⟩
 · cases h
/-! ### spec.FormatAct: function 42 -/
noncomputable def spec_FormatAct_s0 (k : Nat)  (a : Deed) (J : ByteArray → Int → Option (ByteArray × Bool)) (x0_0 : ByteArray) (x0_1 : Int) : Option (ByteArray × Bool) :=
 cond (decide ((x0_1 : Int) < (([0, 1, 1, 1, 0, 2, 1]).getD (Int.toNat a.Kind) 0)))
 (if (x0_0).size + ((ByteArray.mk #[32])).size ≤ 9223372036854775807 then
  if 0 ≤ (x0_1 : Int) ∧ (x0_1 : Int) < (([a.A, a.B]).length : Int) then
   (spec_FormatInt k (([a.A, a.B]).getD (Int.toNat x0_1) 0)).bind fun y3 =>
    if ((x0_0 ++ (ByteArray.mk #[32]))).size + (y3).size ≤ 9223372036854775807 then
     J ((x0_0 ++ (ByteArray.mk #[32])) ++ y3) (wr (x0_1 + 1)) else none else none else none)
 (some (x0_0, true))
noncomputable def spec_FormatAct_l0 (k : Nat) : Nat → Deed → ByteArray → Int → Option (ByteArray × Bool)
 | 0, a, x0_0, x0_1 => spec_FormatAct_s0 k a (fun _ _ => none) x0_0 x0_1
 | m + 1, a, x0_0, x0_1 => spec_FormatAct_s0 k a (spec_FormatAct_l0 k m a) x0_0 x0_1
noncomputable def spec_FormatAct_m (k : Nat) (J0 : Deed → ByteArray → Int → Option (ByteArray × Bool)) (a : Deed) : Option (ByteArray × Bool) :=
 (spec_ActOk k a).bind fun y1 =>
 cond (!y1)
  (some ((ByteArray.mk #[]), false))
  (if 0 ≤ (a.Kind : Int) ∧ (a.Kind : Int) < (([(ByteArray.mk #[]), (ByteArray.mk #[98, 97, 107, 101]), (ByteArray.mk #[115, 101, 108, 108]), (ByteArray.mk #[99, 104, 101, 97, 112]), (ByteArray.mk #[109, 111, 114, 110, 105, 110, 103]), (ByteArray.mk #[98, 117, 121]), (ByteArray.mk #[102, 108, 111, 117, 114])]).length : Int) then
   if 0 ≤ (a.Kind : Int) ∧ (a.Kind : Int) < (([0, 1, 1, 1, 0, 2, 1]).length : Int) then
    J0 a (([(ByteArray.mk #[]), (ByteArray.mk #[98, 97, 107, 101]), (ByteArray.mk #[115, 101, 108, 108]), (ByteArray.mk #[99, 104, 101, 97, 112]), (ByteArray.mk #[109, 111, 114, 110, 105, 110, 103]), (ByteArray.mk #[98, 117, 121]), (ByteArray.mk #[102, 108, 111, 117, 114])]).getD (Int.toNat a.Kind) (ByteArray.mk #[])) 0 else none else none)
noncomputable def spec_FormatAct (k : Nat) (a : Deed) : Option (ByteArray × Bool) := spec_FormatAct_m k (spec_FormatAct_l0 k k) a
noncomputable def spec_FormatAct_v : Nat → List Nat := fun t => match t with | 7 => [2, 3, 4, 5, 6, 7] | _ => []
noncomputable def spec_FormatAct_O (k : Nat) : Oracle := ofL [(22, spec_FormatInt_x k), (77, spec_ActOk_x k)]
theorem spec_FormatAct_Ok (k : Nat) : OkO (Ct Tryz.prog) (spec_FormatAct_O k) := okO_cons (spec_FormatInt_ok k) (okO_cons (spec_ActOk_ok k) (okO_nil))
noncomputable def spec_FormatAct_A (a : Deed) : Pk := ⟨[(.ag [(.v (.int .i64 a.Kind)), (.v (.int .i64 a.A)), (.v (.int .i64 a.B))])], []⟩
noncomputable def spec_FormatAct_d : Rs → Option (ByteArray × Bool)
 | ⟨(.tp [(.sc (.v (.string r1))), (.sc (.v (.bool r2)))]), []⟩ => some (r1, r2)
 | _ => none
theorem spec_FormatAct_i {r : Rs} {y : ByteArray × Bool} (h : spec_FormatAct_d r = some y) : r = ⟨(.tp [(.sc (.v (.string y.1))), (.sc (.v (.bool y.2)))]), []⟩ := by
 unfold spec_FormatAct_d at h; split at h
 · cases h; rfl
 · cases h
noncomputable def spec_FormatAct_h0 (k m : Nat) (a : Deed) (x0_0 : ByteArray) (x0_1 : Int) : Option (ByteArray × Bool) := hdAt env (spec_FormatAct_O k) spec_FormatAct_v Tryz.f42 0 (fun r => spec_FormatAct_d (r.fin 0 [])) [1, 1, 1, 1, 1, 0, 1, 0] k m ⟨tmF [2, 3, 4, 5, 6, 7] [(.a (.sc (.v (.string (ByteArray.mk #[]))))), (.a (.sc (.v (.bool false)))), (.a (.sc (.v (.string x0_0)))), (.a (.sc (.v (.int .i64 (([0, 1, 1, 1, 0, 2, 1]).getD (Int.toNat a.Kind) 0))))), (.a (.sc (.sl 0))), (.a (.sc (.v (.int .i64 x0_1))))], blF [(.row true K.ki64 ([a.A, a.B]))]⟩
theorem spec_FormatAct_z0 (k : Nat) (a : Deed) (x0_0 : ByteArray) (x0_1 : Int) : spec_FormatAct_h0 k 0 a x0_0 x0_1 = spec_FormatAct_s0 k a (fun _ _ => none) x0_0 x0_1 := by kernel_rfl
theorem spec_FormatAct_g0 (k : Nat) (H : St → Option (ByteArray × Bool)) (a : Deed) (x0_0 : ByteArray) (x0_1 : Int) : rnd env (spec_FormatAct_O k) spec_FormatAct_v Tryz.f42 0 (fun r => spec_FormatAct_d (r.fin 0 [])) [1, 1, 1, 1, 1, 0, 1, 0] k H ⟨tmF [2, 3, 4, 5, 6, 7] [(.a (.sc (.v (.string (ByteArray.mk #[]))))), (.a (.sc (.v (.bool false)))), (.a (.sc (.v (.string x0_0)))), (.a (.sc (.v (.int .i64 (([0, 1, 1, 1, 0, 2, 1]).getD (Int.toNat a.Kind) 0))))), (.a (.sc (.sl 0))), (.a (.sc (.v (.int .i64 x0_1))))], blF [(.row true K.ki64 ([a.A, a.B]))]⟩ = spec_FormatAct_s0 k a (fun x0_0 x0_1 => H ⟨tmF [2, 3, 4, 5, 6, 7] [(.a (.sc (.v (.string (ByteArray.mk #[]))))), (.a (.sc (.v (.bool false)))), (.a (.sc (.v (.string x0_0)))), (.a (.sc (.v (.int .i64 (([0, 1, 1, 1, 0, 2, 1]).getD (Int.toNat a.Kind) 0))))), (.a (.sc (.sl 0))), (.a (.sc (.v (.int .i64 x0_1))))], blF [(.row true K.ki64 ([a.A, a.B]))]⟩) x0_0 x0_1 := by kernel_rfl
theorem spec_FormatAct_n0 (k m : Nat) (a : Deed) (x0_0 : ByteArray) (x0_1 : Int) : spec_FormatAct_h0 k (m + 1) a x0_0 x0_1 = spec_FormatAct_s0 k a (spec_FormatAct_h0 k m a) x0_0 x0_1 := (hdAt_succ _ _ _ _ _ _ _ _ _ _).trans (spec_FormatAct_g0 k _ a x0_0 x0_1)
theorem spec_FormatAct_q0 (k : Nat) : ∀ m, spec_FormatAct_h0 k m = spec_FormatAct_l0 k m := by
 intro m
 induction m with
 | zero => funext a x0_0 x0_1; rw [spec_FormatAct_z0]; rfl
 | succ m ih => funext a x0_0 x0_1; rw [spec_FormatAct_n0, ih]; rfl
theorem spec_FormatAct_e (k : Nat) (a : Deed) : callF env (spec_FormatAct_O k) spec_FormatAct_v Tryz.f42 (k + 1) (spec_FormatAct_A a) (fun r => spec_FormatAct_d (r.fin 0 [])) = spec_FormatAct k a := by
 have e : ∀ H : St → Option (ByteArray × Bool), callE env (spec_FormatAct_O k) spec_FormatAct_v Tryz.f42 (k + 1) (spec_FormatAct_A a) [1, 1, 1, 1, 1, 0, 1, 0] (fun r => spec_FormatAct_d (r.fin 0 [])) H = spec_FormatAct_m k (fun a x0_0 x0_1 => H ⟨tmF [2, 3, 4, 5, 6, 7] [(.a (.sc (.v (.string (ByteArray.mk #[]))))), (.a (.sc (.v (.bool false)))), (.a (.sc (.v (.string x0_0)))), (.a (.sc (.v (.int .i64 (([0, 1, 1, 1, 0, 2, 1]).getD (Int.toNat a.Kind) 0))))), (.a (.sc (.sl 0))), (.a (.sc (.v (.int .i64 x0_1))))], blF [(.row true K.ki64 ([a.A, a.B]))]⟩) a := fun H => by kernel_rfl
 exact (callE_eq env (spec_FormatAct_O k) spec_FormatAct_v Tryz.f42 k (spec_FormatAct_A a) [1, 1, 1, 1, 1, 0, 1, 0] 0 (fun r => spec_FormatAct_d (r.fin 0 [])) rfl (by kernel_rfl)).trans ((e (hdAt env (spec_FormatAct_O k) spec_FormatAct_v Tryz.f42 0 (fun r => spec_FormatAct_d (r.fin 0 [])) [1, 1, 1, 1, 1, 0, 1, 0] k k)).trans (by
  show spec_FormatAct_m k (spec_FormatAct_h0 k k) a = _
  rw [spec_FormatAct_q0]; rfl))
noncomputable def spec_FormatAct_x (k : Nat) : Ent1 := fun A R Q => match A with
 | ⟨[(.ag [(.v (.int .i64 a1)), (.v (.int .i64 a2)), (.v (.int .i64 a3))])], []⟩ => (spec_FormatAct k (⟨a1, a2, a3⟩ : Deed)).bind fun y => Q ⟨(.tp [(.sc (.v (.string y.1))), (.sc (.v (.bool y.2)))]), []⟩
 | _ => none
theorem spec_FormatAct_ok (k : Nat) : OkE Tryz.prog 42 (spec_FormatAct_x k) := by
 intro A R Q x h
 unfold spec_FormatAct_x at h
 split at h
 · obtain ⟨y, hy, hK⟩ := Option.bind_eq_some_iff.1 h
   obtain ⟨r, hr, hd⟩ := callF_ok envOk (spec_FormatAct_Ok k) follows Tryz.func42 (by kernel_rfl) ((spec_FormatAct_e k _).trans hy)
   exact ⟨_, spec_FormatAct_i hd ▸ hr.fin [], hK⟩
 · cases h
/-! ### spec.ParseAct: function 19 -/
noncomputable def spec_ParseAct_s1 (k : Nat)  (x0_0 : ByteArray) (x0_2 : (List Int)) (J : Int → Option (Deed × Bool)) (x1_0 : Int) : Option (Deed × Bool) :=
 cond (decide ((x1_0 : Int) ≤ 6))
 (if 0 ≤ (0 : Int) ∧ (0 : Int) < (((x0_2 ++ [0, 0])).length : Int) then
  if 0 ≤ (1 : Int) ∧ (1 : Int) < (((x0_2 ++ [0, 0])).length : Int) then
   (spec_FormatAct k (⟨x1_0, ((x0_2 ++ [0, 0]).getD 0 0), ((x0_2 ++ [0, 0]).getD 1 0)⟩ : Deed)).bind fun y8 =>
    cond y8.2
     (cond (decide ((y8.1 : ByteArray) = x0_0))
      (some ((⟨x1_0, ((x0_2 ++ [0, 0]).getD 0 0), ((x0_2 ++ [0, 0]).getD 1 0)⟩ : Deed), true))
      (J (wr (x1_0 + 1))))
     (J (wr (x1_0 + 1))) else none else none)
 (some ((⟨0, 0, 0⟩ : Deed), false))
noncomputable def spec_ParseAct_l1 (k : Nat) : Nat → ByteArray → (List Int) → Int → Option (Deed × Bool)
 | 0, x0_0, x0_2, x1_0 => spec_ParseAct_s1 k x0_0 x0_2 (fun _ => none) x1_0
 | m + 1, x0_0, x0_2, x1_0 => spec_ParseAct_s1 k x0_0 x0_2 (spec_ParseAct_l1 k m x0_0 x0_2) x1_0
noncomputable def spec_ParseAct_s0 (k : Nat) (J1 : ByteArray → (List Int) → Int → Option (Deed × Bool)) (y1 : (List ByteArray) × Bool) (J : ByteArray → Int → (List Int) → Option (Deed × Bool)) (x0_0 : ByteArray) (x0_1 : Int) (x0_2 : (List Int)) : Option (Deed × Bool) :=
 cond (decide ((x0_1 : Int) < ((y1.1).length : Int)))
 (if (x0_0).size + ((ByteArray.mk #[32])).size ≤ 9223372036854775807 then
  if 0 ≤ (x0_1 : Int) ∧ (x0_1 : Int) < ((y1.1).length : Int) then
   if ((x0_0 ++ (ByteArray.mk #[32]))).size + ((y1.1.getD (Int.toNat x0_1) (ByteArray.mk #[]))).size ≤ 9223372036854775807 then
    if 0 ≤ (x0_1 : Int) ∧ (x0_1 : Int) < ((y1.1).length : Int) then
     (spec_l40Number k (y1.1.getD (Int.toNat x0_1) (ByteArray.mk #[]))).bind fun y6 =>
      if (x0_2 : List Int).length + ([y6] : List Int).length ≤ maxRow then
       J ((x0_0 ++ (ByteArray.mk #[32])) ++ (y1.1.getD (Int.toNat x0_1) (ByteArray.mk #[]))) (wr (x0_1 + 1)) (x0_2 ++ [y6]) else none else none else none else none else none)
 (if (x0_2 : List Int).length + ([0, 0] : List Int).length ≤ maxRow then
  J1 x0_0 x0_2 1 else none)
noncomputable def spec_ParseAct_l0 (k : Nat) : Nat → (List ByteArray) × Bool → ByteArray → Int → (List Int) → Option (Deed × Bool)
 | 0, y1, x0_0, x0_1, x0_2 => spec_ParseAct_s0 k (spec_ParseAct_l1 k k) y1 (fun _ _ _ => none) x0_0 x0_1 x0_2
 | m + 1, y1, x0_0, x0_1, x0_2 => spec_ParseAct_s0 k (spec_ParseAct_l1 k k) y1 (spec_ParseAct_l0 k m y1) x0_0 x0_1 x0_2
noncomputable def spec_ParseAct_m (k : Nat) (J0 : (List ByteArray) × Bool → ByteArray → Int → (List Int) → Option (Deed × Bool)) (line : ByteArray) : Option (Deed × Bool) :=
 (spec_SplitFields k line).bind fun y1 =>
 cond (!y1.2)
  (some ((⟨0, 0, 0⟩ : Deed), false))
  ((spec_l01In k ((y1.1).length : Int) 1 3).bind fun y2 =>
   cond (!y2)
    (some ((⟨0, 0, 0⟩ : Deed), false))
    (if 0 ≤ (0 : Int) ∧ (0 : Int) < ((y1.1).length : Int) then
     J0 y1 (y1.1.getD 0 (ByteArray.mk #[])) 1 ([]) else none))
noncomputable def spec_ParseAct (k : Nat) (line : ByteArray) : Option (Deed × Bool) := spec_ParseAct_m k (spec_ParseAct_l0 k k) line
noncomputable def spec_ParseAct_v : Nat → List Nat := fun t => match t with | 7 => [2, 3, 4, 6, 7, 8] | 13 => [2, 3, 6, 7, 9] | _ => []
noncomputable def spec_ParseAct_O (k : Nat) : Oracle := ofL [(18, spec_SplitFields_x k), (40, spec_l01In_x k), (41, spec_l40Number_x k), (42, spec_FormatAct_x k)]
theorem spec_ParseAct_Ok (k : Nat) : OkO (Ct Tryz.prog) (spec_ParseAct_O k) := okO_cons (spec_SplitFields_ok k) (okO_cons (spec_l01In_ok k) (okO_cons (spec_l40Number_ok k) (okO_cons (spec_FormatAct_ok k) (okO_nil))))
noncomputable def spec_ParseAct_A (line : ByteArray) : Pk := ⟨[(.sc (.v (.string line)))], []⟩
noncomputable def spec_ParseAct_d : Rs → Option (Deed × Bool)
 | ⟨(.tp [(.ag [(.v (.int .i64 r1)), (.v (.int .i64 r2)), (.v (.int .i64 r3))]), (.sc (.v (.bool r4)))]), []⟩ => some ((⟨r1, r2, r3⟩ : Deed), r4)
 | _ => none
theorem spec_ParseAct_i {r : Rs} {y : Deed × Bool} (h : spec_ParseAct_d r = some y) : r = ⟨(.tp [(.ag [(.v (.int .i64 y.1.Kind)), (.v (.int .i64 y.1.A)), (.v (.int .i64 y.1.B))]), (.sc (.v (.bool y.2)))]), []⟩ := by
 unfold spec_ParseAct_d at h; split at h
 · cases h; rfl
 · cases h
noncomputable def spec_ParseAct_h1 (k m : Nat) (x0_0 : ByteArray) (x0_2 : (List Int)) (x1_0 : Int) : Option (Deed × Bool) := hdAt env (spec_ParseAct_O k) spec_ParseAct_v Tryz.f19 0 (fun r => spec_ParseAct_d (r.fin 0 [])) [1, 1, 1, 1, 1, 1, 1, 0, 1, 0] k m ⟨tmF [2, 3, 6, 7, 9] [(.a (.sc (.bp 0 0))), (.a (.sc (.v (.bool false)))), (.a (.sc (.v (.string x0_0)))), (.a (.sc (.sl 1))), (.a (.sc (.v (.int .i64 x1_0))))], blF [(.box true [(.v (.int .i64 0)), (.v (.int .i64 0)), (.v (.int .i64 0))]), (.row true K.ki64 (x0_2 ++ [0, 0]))]⟩
theorem spec_ParseAct_z1 (k : Nat) (x0_0 : ByteArray) (x0_2 : (List Int)) (x1_0 : Int) : spec_ParseAct_h1 k 0 x0_0 x0_2 x1_0 = spec_ParseAct_s1 k x0_0 x0_2 (fun _ => none) x1_0 := by kernel_rfl
theorem spec_ParseAct_g1 (k : Nat) (H : St → Option (Deed × Bool)) (x0_0 : ByteArray) (x0_2 : (List Int)) (x1_0 : Int) : rnd env (spec_ParseAct_O k) spec_ParseAct_v Tryz.f19 0 (fun r => spec_ParseAct_d (r.fin 0 [])) [1, 1, 1, 1, 1, 1, 1, 0, 1, 0] k H ⟨tmF [2, 3, 6, 7, 9] [(.a (.sc (.bp 0 0))), (.a (.sc (.v (.bool false)))), (.a (.sc (.v (.string x0_0)))), (.a (.sc (.sl 1))), (.a (.sc (.v (.int .i64 x1_0))))], blF [(.box true [(.v (.int .i64 0)), (.v (.int .i64 0)), (.v (.int .i64 0))]), (.row true K.ki64 (x0_2 ++ [0, 0]))]⟩ = spec_ParseAct_s1 k x0_0 x0_2 (fun x1_0 => H ⟨tmF [2, 3, 6, 7, 9] [(.a (.sc (.bp 0 0))), (.a (.sc (.v (.bool false)))), (.a (.sc (.v (.string x0_0)))), (.a (.sc (.sl 1))), (.a (.sc (.v (.int .i64 x1_0))))], blF [(.box true [(.v (.int .i64 0)), (.v (.int .i64 0)), (.v (.int .i64 0))]), (.row true K.ki64 (x0_2 ++ [0, 0]))]⟩) x1_0 := by kernel_rfl
theorem spec_ParseAct_n1 (k m : Nat) (x0_0 : ByteArray) (x0_2 : (List Int)) (x1_0 : Int) : spec_ParseAct_h1 k (m + 1) x0_0 x0_2 x1_0 = spec_ParseAct_s1 k x0_0 x0_2 (spec_ParseAct_h1 k m x0_0 x0_2) x1_0 := (hdAt_succ _ _ _ _ _ _ _ _ _ _).trans (spec_ParseAct_g1 k _ x0_0 x0_2 x1_0)
theorem spec_ParseAct_q1 (k : Nat) : ∀ m, spec_ParseAct_h1 k m = spec_ParseAct_l1 k m := by
 intro m
 induction m with
 | zero => funext x0_0 x0_2 x1_0; rw [spec_ParseAct_z1]; rfl
 | succ m ih => funext x0_0 x0_2 x1_0; rw [spec_ParseAct_n1, ih]; rfl
noncomputable def spec_ParseAct_h0 (k m : Nat) (y1 : (List ByteArray) × Bool) (x0_0 : ByteArray) (x0_1 : Int) (x0_2 : (List Int)) : Option (Deed × Bool) := hdAt env (spec_ParseAct_O k) spec_ParseAct_v Tryz.f19 0 (fun r => spec_ParseAct_d (r.fin 0 [])) [1, 1, 1, 1, 1, 0, 1, 0] k m ⟨tmF [2, 3, 4, 6, 7, 8] [(.a (.sc (.bp 0 0))), (.a (.sc (.v (.bool false)))), (.a (.sc (.sl 1))), (.a (.sc (.v (.string x0_0)))), (.a (.sc (.sl 2))), (.a (.sc (.v (.int .i64 x0_1))))], blF [(.box true [(.v (.int .i64 0)), (.v (.int .i64 0)), (.v (.int .i64 0))]), (.row true K.kstr y1.1), (.row true K.ki64 x0_2)]⟩
theorem spec_ParseAct_z0 (k : Nat) (y1 : (List ByteArray) × Bool) (x0_0 : ByteArray) (x0_1 : Int) (x0_2 : (List Int)) : spec_ParseAct_h0 k 0 y1 x0_0 x0_1 x0_2 = spec_ParseAct_s0 k (spec_ParseAct_h1 k k) y1 (fun _ _ _ => none) x0_0 x0_1 x0_2 := by kernel_rfl
theorem spec_ParseAct_g0 (k : Nat) (H : St → Option (Deed × Bool)) (y1 : (List ByteArray) × Bool) (x0_0 : ByteArray) (x0_1 : Int) (x0_2 : (List Int)) : rnd env (spec_ParseAct_O k) spec_ParseAct_v Tryz.f19 0 (fun r => spec_ParseAct_d (r.fin 0 [])) [1, 1, 1, 1, 1, 0, 1, 0] k H ⟨tmF [2, 3, 4, 6, 7, 8] [(.a (.sc (.bp 0 0))), (.a (.sc (.v (.bool false)))), (.a (.sc (.sl 1))), (.a (.sc (.v (.string x0_0)))), (.a (.sc (.sl 2))), (.a (.sc (.v (.int .i64 x0_1))))], blF [(.box true [(.v (.int .i64 0)), (.v (.int .i64 0)), (.v (.int .i64 0))]), (.row true K.kstr y1.1), (.row true K.ki64 x0_2)]⟩ = spec_ParseAct_s0 k (spec_ParseAct_h1 k k) y1 (fun x0_0 x0_1 x0_2 => H ⟨tmF [2, 3, 4, 6, 7, 8] [(.a (.sc (.bp 0 0))), (.a (.sc (.v (.bool false)))), (.a (.sc (.sl 1))), (.a (.sc (.v (.string x0_0)))), (.a (.sc (.sl 2))), (.a (.sc (.v (.int .i64 x0_1))))], blF [(.box true [(.v (.int .i64 0)), (.v (.int .i64 0)), (.v (.int .i64 0))]), (.row true K.kstr y1.1), (.row true K.ki64 x0_2)]⟩) x0_0 x0_1 x0_2 := by kernel_rfl
theorem spec_ParseAct_n0 (k m : Nat) (y1 : (List ByteArray) × Bool) (x0_0 : ByteArray) (x0_1 : Int) (x0_2 : (List Int)) : spec_ParseAct_h0 k (m + 1) y1 x0_0 x0_1 x0_2 = spec_ParseAct_s0 k (spec_ParseAct_h1 k k) y1 (spec_ParseAct_h0 k m y1) x0_0 x0_1 x0_2 := (hdAt_succ _ _ _ _ _ _ _ _ _ _).trans (spec_ParseAct_g0 k _ y1 x0_0 x0_1 x0_2)
theorem spec_ParseAct_q0 (k : Nat) : ∀ m, spec_ParseAct_h0 k m = spec_ParseAct_l0 k m := by
 intro m
 induction m with
 | zero => funext y1 x0_0 x0_1 x0_2; rw [spec_ParseAct_z0, spec_ParseAct_q1]; rfl
 | succ m ih => funext y1 x0_0 x0_1 x0_2; rw [spec_ParseAct_n0, ih, spec_ParseAct_q1]; rfl
theorem spec_ParseAct_e (k : Nat) (line : ByteArray) : callF env (spec_ParseAct_O k) spec_ParseAct_v Tryz.f19 (k + 1) (spec_ParseAct_A line) (fun r => spec_ParseAct_d (r.fin 0 [])) = spec_ParseAct k line := by
 have e : ∀ H : St → Option (Deed × Bool), callE env (spec_ParseAct_O k) spec_ParseAct_v Tryz.f19 (k + 1) (spec_ParseAct_A line) [1, 1, 1, 1, 1, 0, 1, 0] (fun r => spec_ParseAct_d (r.fin 0 [])) H = spec_ParseAct_m k (fun y1 x0_0 x0_1 x0_2 => H ⟨tmF [2, 3, 4, 6, 7, 8] [(.a (.sc (.bp 0 0))), (.a (.sc (.v (.bool false)))), (.a (.sc (.sl 1))), (.a (.sc (.v (.string x0_0)))), (.a (.sc (.sl 2))), (.a (.sc (.v (.int .i64 x0_1))))], blF [(.box true [(.v (.int .i64 0)), (.v (.int .i64 0)), (.v (.int .i64 0))]), (.row true K.kstr y1.1), (.row true K.ki64 x0_2)]⟩) line := fun H => by kernel_rfl
 exact (callE_eq env (spec_ParseAct_O k) spec_ParseAct_v Tryz.f19 k (spec_ParseAct_A line) [1, 1, 1, 1, 1, 0, 1, 0] 0 (fun r => spec_ParseAct_d (r.fin 0 [])) rfl (by kernel_rfl)).trans ((e (hdAt env (spec_ParseAct_O k) spec_ParseAct_v Tryz.f19 0 (fun r => spec_ParseAct_d (r.fin 0 [])) [1, 1, 1, 1, 1, 0, 1, 0] k k)).trans (by
  show spec_ParseAct_m k (spec_ParseAct_h0 k k) line = _
  rw [spec_ParseAct_q0]; rfl))
noncomputable def spec_ParseAct_x (k : Nat) : Ent1 := fun A R Q => match A with
 | ⟨[(.sc (.v (.string a1)))], []⟩ => (spec_ParseAct k a1).bind fun y => Q ⟨(.tp [(.ag [(.v (.int .i64 y.1.Kind)), (.v (.int .i64 y.1.A)), (.v (.int .i64 y.1.B))]), (.sc (.v (.bool y.2)))]), []⟩
 | _ => none
theorem spec_ParseAct_ok (k : Nat) : OkE Tryz.prog 19 (spec_ParseAct_x k) := by
 intro A R Q x h
 unfold spec_ParseAct_x at h
 split at h
 · obtain ⟨y, hy, hK⟩ := Option.bind_eq_some_iff.1 h
   obtain ⟨r, hr, hd⟩ := callF_ok envOk (spec_ParseAct_Ok k) follows Tryz.func19 (by kernel_rfl) ((spec_ParseAct_e k _).trans hy)
   exact ⟨_, spec_ParseAct_i hd ▸ hr.fin [], hK⟩
 · cases h
/-! ### spec.StoreOk: function 80 -/
noncomputable def spec_StoreOk_s0 (k : Nat)  (s : Stock) (J : Int → Option (Bool)) (x0_0 : Int) : Option (Bool) :=
 cond (decide ((x0_0 : Int) < ((s.Grams).length : Int)))
 (if 0 ≤ (x0_0 : Int) ∧ (x0_0 : Int) < ((s.Grams).length : Int) then
  (spec_l01In k (s.Grams.getD (Int.toNat x0_0) 0) 0 1000000).bind fun y2 =>
   cond (!y2)
    (some false)
    (J (wr (x0_0 + 1))) else none)
 (some (decide ((((s.Grams).length : Int) : Int) = 4)))
noncomputable def spec_StoreOk_l0 (k : Nat) : Nat → Stock → Int → Option (Bool)
 | 0, s, x0_0 => spec_StoreOk_s0 k s (fun _ => none) x0_0
 | m + 1, s, x0_0 => spec_StoreOk_s0 k s (spec_StoreOk_l0 k m s) x0_0
noncomputable def spec_StoreOk_m (k : Nat) (J0 : Stock → Int → Option (Bool)) (s : Stock) : Option (Bool) :=
 J0 s 0
noncomputable def spec_StoreOk (k : Nat) (s : Stock) : Option (Bool) := spec_StoreOk_m k (spec_StoreOk_l0 k k) s
noncomputable def spec_StoreOk_v : Nat → List Nat := fun t => match t with | 2 => [1, 2, 3] | _ => []
noncomputable def spec_StoreOk_O (k : Nat) : Oracle := ofL [(40, spec_l01In_x k)]
theorem spec_StoreOk_Ok (k : Nat) : OkO (Ct Tryz.prog) (spec_StoreOk_O k) := okO_cons (spec_l01In_ok k) (okO_nil)
noncomputable def spec_StoreOk_A (s : Stock) : Pk := ⟨[(.ag [(.sl 0)])], [(.row false K.ki64 s.Grams)]⟩
noncomputable def spec_StoreOk_d : Rs → Option (Bool)
 | ⟨(.a (.sc (.v (.bool r1)))), [.dead]⟩ => some r1
 | _ => none
theorem spec_StoreOk_i {r : Rs} {y : Bool} (h : spec_StoreOk_d r = some y) : r = ⟨(.a (.sc (.v (.bool y)))), [.dead]⟩ := by
 unfold spec_StoreOk_d at h; split at h
 · cases h; rfl
 · cases h
noncomputable def spec_StoreOk_h0 (k m : Nat) (s : Stock) (x0_0 : Int) : Option (Bool) := hdAt env (spec_StoreOk_O k) spec_StoreOk_v Tryz.f80 1 (fun r => spec_StoreOk_d (r.fin 1 [])) [1, 0, 1, 0] k m ⟨tmF [1, 2, 3] [(.a (.sc (.bp 1 0))), (.a (.sc (.v (.bool false)))), (.a (.sc (.v (.int .i64 x0_0))))], blF [(.row false K.ki64 s.Grams), (.box true [(.sl 0)])]⟩
theorem spec_StoreOk_z0 (k : Nat) (s : Stock) (x0_0 : Int) : spec_StoreOk_h0 k 0 s x0_0 = spec_StoreOk_s0 k s (fun _ => none) x0_0 := by kernel_rfl
theorem spec_StoreOk_g0 (k : Nat) (H : St → Option (Bool)) (s : Stock) (x0_0 : Int) : rnd env (spec_StoreOk_O k) spec_StoreOk_v Tryz.f80 1 (fun r => spec_StoreOk_d (r.fin 1 [])) [1, 0, 1, 0] k H ⟨tmF [1, 2, 3] [(.a (.sc (.bp 1 0))), (.a (.sc (.v (.bool false)))), (.a (.sc (.v (.int .i64 x0_0))))], blF [(.row false K.ki64 s.Grams), (.box true [(.sl 0)])]⟩ = spec_StoreOk_s0 k s (fun x0_0 => H ⟨tmF [1, 2, 3] [(.a (.sc (.bp 1 0))), (.a (.sc (.v (.bool false)))), (.a (.sc (.v (.int .i64 x0_0))))], blF [(.row false K.ki64 s.Grams), (.box true [(.sl 0)])]⟩) x0_0 := by kernel_rfl
theorem spec_StoreOk_n0 (k m : Nat) (s : Stock) (x0_0 : Int) : spec_StoreOk_h0 k (m + 1) s x0_0 = spec_StoreOk_s0 k s (spec_StoreOk_h0 k m s) x0_0 := (hdAt_succ _ _ _ _ _ _ _ _ _ _).trans (spec_StoreOk_g0 k _ s x0_0)
theorem spec_StoreOk_q0 (k : Nat) : ∀ m, spec_StoreOk_h0 k m = spec_StoreOk_l0 k m := by
 intro m
 induction m with
 | zero => funext s x0_0; rw [spec_StoreOk_z0]; rfl
 | succ m ih => funext s x0_0; rw [spec_StoreOk_n0, ih]; rfl
theorem spec_StoreOk_e (k : Nat) (s : Stock) : callF env (spec_StoreOk_O k) spec_StoreOk_v Tryz.f80 (k + 1) (spec_StoreOk_A s) (fun r => spec_StoreOk_d (r.fin 1 [])) = spec_StoreOk k s := by
 have e : ∀ H : St → Option (Bool), callE env (spec_StoreOk_O k) spec_StoreOk_v Tryz.f80 (k + 1) (spec_StoreOk_A s) [1, 0, 1, 0] (fun r => spec_StoreOk_d (r.fin 1 [])) H = spec_StoreOk_m k (fun s x0_0 => H ⟨tmF [1, 2, 3] [(.a (.sc (.bp 1 0))), (.a (.sc (.v (.bool false)))), (.a (.sc (.v (.int .i64 x0_0))))], blF [(.row false K.ki64 s.Grams), (.box true [(.sl 0)])]⟩) s := fun H => by kernel_rfl
 exact (callE_eq env (spec_StoreOk_O k) spec_StoreOk_v Tryz.f80 k (spec_StoreOk_A s) [1, 0, 1, 0] 1 (fun r => spec_StoreOk_d (r.fin 1 [])) rfl (by kernel_rfl)).trans ((e (hdAt env (spec_StoreOk_O k) spec_StoreOk_v Tryz.f80 1 (fun r => spec_StoreOk_d (r.fin 1 [])) [1, 0, 1, 0] k k)).trans (by
  show spec_StoreOk_m k (spec_StoreOk_h0 k k) s = _
  rw [spec_StoreOk_q0]; rfl))
noncomputable def spec_StoreOk_x (k : Nat) : Ent1 := fun A R Q => match A with
 | ⟨[(.ag [(.sl 0)])], [(.row false K.ki64 a1)]⟩ => (spec_StoreOk k (⟨a1⟩ : Stock)).bind fun y => Q ⟨(.a (.sc (.v (.bool y)))), [.dead]⟩
 | _ => none
theorem spec_StoreOk_ok (k : Nat) : OkE Tryz.prog 80 (spec_StoreOk_x k) := by
 intro A R Q x h
 unfold spec_StoreOk_x at h
 split at h
 · obtain ⟨y, hy, hK⟩ := Option.bind_eq_some_iff.1 h
   obtain ⟨r, hr, hd⟩ := callF_ok envOk (spec_StoreOk_Ok k) follows Tryz.func80 (by kernel_rfl) ((spec_StoreOk_e k _).trans hy)
   exact ⟨_, spec_StoreOk_i hd ▸ hr.fin [], hK⟩
 · cases h
/-! ### spec.DoughOk: function 81 -/
noncomputable def spec_DoughOk (k : Nat)  (d : Dough) : Option (Bool) :=
 (spec_l01In k d.Water 300 1200).bind fun y1 =>
 cond y1
  ((spec_l01In k d.Salt 0 50).bind fun y2 =>
   cond y2
    ((spec_l01In k d.Leaven 0 500).bind fun y3 =>
     some y3)
    (some false))
  (some false)
noncomputable def spec_DoughOk_v : Nat → List Nat := fun t => match t with | _ => []
noncomputable def spec_DoughOk_O (k : Nat) : Oracle := ofL [(40, spec_l01In_x k)]
theorem spec_DoughOk_Ok (k : Nat) : OkO (Ct Tryz.prog) (spec_DoughOk_O k) := okO_cons (spec_l01In_ok k) (okO_nil)
noncomputable def spec_DoughOk_A (d : Dough) : Pk := ⟨[(.ag [(.v (.int .i64 d.Water)), (.v (.int .i64 d.Salt)), (.v (.int .i64 d.Leaven))])], []⟩
noncomputable def spec_DoughOk_d : Rs → Option (Bool)
 | ⟨(.a (.sc (.v (.bool r1)))), []⟩ => some r1
 | _ => none
theorem spec_DoughOk_i {r : Rs} {y : Bool} (h : spec_DoughOk_d r = some y) : r = ⟨(.a (.sc (.v (.bool y)))), []⟩ := by
 unfold spec_DoughOk_d at h; split at h
 · cases h; rfl
 · cases h
theorem spec_DoughOk_e (k : Nat) (d : Dough) : callF env (spec_DoughOk_O k) spec_DoughOk_v Tryz.f81 (k + 1) (spec_DoughOk_A d) (fun r => spec_DoughOk_d (r.fin 0 [])) = spec_DoughOk k d := by kernel_rfl
noncomputable def spec_DoughOk_x (k : Nat) : Ent1 := fun A R Q => match A with
 | ⟨[(.ag [(.v (.int .i64 a1)), (.v (.int .i64 a2)), (.v (.int .i64 a3))])], []⟩ => (spec_DoughOk k (⟨a1, a2, a3⟩ : Dough)).bind fun y => Q ⟨(.a (.sc (.v (.bool y)))), []⟩
 | _ => none
theorem spec_DoughOk_ok (k : Nat) : OkE Tryz.prog 81 (spec_DoughOk_x k) := by
 intro A R Q x h
 unfold spec_DoughOk_x at h
 split at h
 · obtain ⟨y, hy, hK⟩ := Option.bind_eq_some_iff.1 h
   obtain ⟨r, hr, hd⟩ := callF_ok envOk (spec_DoughOk_Ok k) follows Tryz.func81 (by kernel_rfl) ((spec_DoughOk_e k _).trans hy)
   exact ⟨_, spec_DoughOk_i hd ▸ hr.fin [], hK⟩
 · cases h
/-! ### spec.LoafOk: function 82 -/
noncomputable def spec_LoafOk (k : Nat)  (l : Loaf) : Option (Bool) :=
 (spec_l01In k l.Weight 10 5000).bind fun y1 =>
 cond y1
  ((spec_l01In k l.Loss 0 40).bind fun y2 =>
   some y2)
  (some false)
noncomputable def spec_LoafOk_v : Nat → List Nat := fun t => match t with | _ => []
noncomputable def spec_LoafOk_O (k : Nat) : Oracle := ofL [(40, spec_l01In_x k)]
theorem spec_LoafOk_Ok (k : Nat) : OkO (Ct Tryz.prog) (spec_LoafOk_O k) := okO_cons (spec_l01In_ok k) (okO_nil)
noncomputable def spec_LoafOk_A (l : Loaf) : Pk := ⟨[(.ag [(.v (.int .i64 l.Weight)), (.v (.int .i64 l.Loss))])], []⟩
noncomputable def spec_LoafOk_d : Rs → Option (Bool)
 | ⟨(.a (.sc (.v (.bool r1)))), []⟩ => some r1
 | _ => none
theorem spec_LoafOk_i {r : Rs} {y : Bool} (h : spec_LoafOk_d r = some y) : r = ⟨(.a (.sc (.v (.bool y)))), []⟩ := by
 unfold spec_LoafOk_d at h; split at h
 · cases h; rfl
 · cases h
theorem spec_LoafOk_e (k : Nat) (l : Loaf) : callF env (spec_LoafOk_O k) spec_LoafOk_v Tryz.f82 (k + 1) (spec_LoafOk_A l) (fun r => spec_LoafOk_d (r.fin 0 [])) = spec_LoafOk k l := by kernel_rfl
noncomputable def spec_LoafOk_x (k : Nat) : Ent1 := fun A R Q => match A with
 | ⟨[(.ag [(.v (.int .i64 a1)), (.v (.int .i64 a2))])], []⟩ => (spec_LoafOk k (⟨a1, a2⟩ : Loaf)).bind fun y => Q ⟨(.a (.sc (.v (.bool y)))), []⟩
 | _ => none
theorem spec_LoafOk_ok (k : Nat) : OkE Tryz.prog 82 (spec_LoafOk_x k) := by
 intro A R Q x h
 unfold spec_LoafOk_x at h
 split at h
 · obtain ⟨y, hy, hK⟩ := Option.bind_eq_some_iff.1 h
   obtain ⟨r, hr, hd⟩ := callF_ok envOk (spec_LoafOk_Ok k) follows Tryz.func82 (by kernel_rfl) ((spec_LoafOk_e k _).trans hy)
   exact ⟨_, spec_LoafOk_i hd ▸ hr.fin [], hK⟩
 · cases h
/-! ### spec.RackOk: function 169 -/
noncomputable def spec_RackOk (k : Nat)  (r : Rack) : Option (Bool) :=
 (spec_l01In k r.Fresh 0 10000).bind fun y1 =>
 cond y1
  ((spec_l01In k r.Day 0 10000).bind fun y2 =>
   cond y2
    ((spec_l01In k r.Old 0 10000).bind fun y3 =>
     some y3)
    (some false))
  (some false)
noncomputable def spec_RackOk_v : Nat → List Nat := fun t => match t with | _ => []
noncomputable def spec_RackOk_O (k : Nat) : Oracle := ofL [(40, spec_l01In_x k)]
theorem spec_RackOk_Ok (k : Nat) : OkO (Ct Tryz.prog) (spec_RackOk_O k) := okO_cons (spec_l01In_ok k) (okO_nil)
noncomputable def spec_RackOk_A (r : Rack) : Pk := ⟨[(.ag [(.v (.int .i64 r.Fresh)), (.v (.int .i64 r.Day)), (.v (.int .i64 r.Old))])], []⟩
noncomputable def spec_RackOk_d : Rs → Option (Bool)
 | ⟨(.a (.sc (.v (.bool r1)))), []⟩ => some r1
 | _ => none
theorem spec_RackOk_i {r : Rs} {y : Bool} (h : spec_RackOk_d r = some y) : r = ⟨(.a (.sc (.v (.bool y)))), []⟩ := by
 unfold spec_RackOk_d at h; split at h
 · cases h; rfl
 · cases h
theorem spec_RackOk_e (k : Nat) (r : Rack) : callF env (spec_RackOk_O k) spec_RackOk_v Tryz.f169 (k + 1) (spec_RackOk_A r) (fun r => spec_RackOk_d (r.fin 0 [])) = spec_RackOk k r := by kernel_rfl
noncomputable def spec_RackOk_x (k : Nat) : Ent1 := fun A R Q => match A with
 | ⟨[(.ag [(.v (.int .i64 a1)), (.v (.int .i64 a2)), (.v (.int .i64 a3))])], []⟩ => (spec_RackOk k (⟨a1, a2, a3⟩ : Rack)).bind fun y => Q ⟨(.a (.sc (.v (.bool y)))), []⟩
 | _ => none
theorem spec_RackOk_ok (k : Nat) : OkE Tryz.prog 169 (spec_RackOk_x k) := by
 intro A R Q x h
 unfold spec_RackOk_x at h
 split at h
 · obtain ⟨y, hy, hK⟩ := Option.bind_eq_some_iff.1 h
   obtain ⟨r, hr, hd⟩ := callF_ok envOk (spec_RackOk_Ok k) follows Tryz.func169 (by kernel_rfl) ((spec_RackOk_e k _).trans hy)
   exact ⟨_, spec_RackOk_i hd ▸ hr.fin [], hK⟩
 · cases h
/-! ### spec.SellFresh: function 170 -/
noncomputable def spec_SellFresh (k : Nat)  (r : Rack) (n : Int) : Option (Rack × Int) :=
 (spec_RackOk k r).bind fun y1 =>
 cond (!y1)
  (some (r, (-1)))
  ((spec_l01In k n 0 10000).bind fun y2 =>
   cond (!y2)
    (some (r, (-1)))
    (some ((⟨(wr (r.Fresh - (mn n r.Fresh))), (wr (r.Day - (mn (wr (n - (mn n r.Fresh))) r.Day))), r.Old⟩ : Rack), (wr ((mn n r.Fresh) + (mn (wr (n - (mn n r.Fresh))) r.Day))))))
noncomputable def spec_SellFresh_v : Nat → List Nat := fun t => match t with | _ => []
noncomputable def spec_SellFresh_O (k : Nat) : Oracle := ofL [(169, spec_RackOk_x k), (40, spec_l01In_x k)]
theorem spec_SellFresh_Ok (k : Nat) : OkO (Ct Tryz.prog) (spec_SellFresh_O k) := okO_cons (spec_RackOk_ok k) (okO_cons (spec_l01In_ok k) (okO_nil))
noncomputable def spec_SellFresh_A (r : Rack) (n : Int) : Pk := ⟨[(.ag [(.v (.int .i64 r.Fresh)), (.v (.int .i64 r.Day)), (.v (.int .i64 r.Old))]), (.sc (.v (.int .i64 n)))], []⟩
noncomputable def spec_SellFresh_d : Rs → Option (Rack × Int)
 | ⟨(.tp [(.ag [(.v (.int .i64 r1)), (.v (.int .i64 r2)), (.v (.int .i64 r3))]), (.sc (.v (.int .i64 r4)))]), []⟩ => some ((⟨r1, r2, r3⟩ : Rack), r4)
 | _ => none
theorem spec_SellFresh_i {r : Rs} {y : Rack × Int} (h : spec_SellFresh_d r = some y) : r = ⟨(.tp [(.ag [(.v (.int .i64 y.1.Fresh)), (.v (.int .i64 y.1.Day)), (.v (.int .i64 y.1.Old))]), (.sc (.v (.int .i64 y.2)))]), []⟩ := by
 unfold spec_SellFresh_d at h; split at h
 · cases h; rfl
 · cases h
theorem spec_SellFresh_e (k : Nat) (r : Rack) (n : Int) : callF env (spec_SellFresh_O k) spec_SellFresh_v Tryz.f170 (k + 1) (spec_SellFresh_A r n) (fun r => spec_SellFresh_d (r.fin 0 [])) = spec_SellFresh k r n := by kernel_rfl
noncomputable def spec_SellFresh_x (k : Nat) : Ent1 := fun A R Q => match A with
 | ⟨[(.ag [(.v (.int .i64 a1)), (.v (.int .i64 a2)), (.v (.int .i64 a3))]), (.sc (.v (.int .i64 a4)))], []⟩ => (spec_SellFresh k (⟨a1, a2, a3⟩ : Rack) a4).bind fun y => Q ⟨(.tp [(.ag [(.v (.int .i64 y.1.Fresh)), (.v (.int .i64 y.1.Day)), (.v (.int .i64 y.1.Old))]), (.sc (.v (.int .i64 y.2)))]), []⟩
 | _ => none
theorem spec_SellFresh_ok (k : Nat) : OkE Tryz.prog 170 (spec_SellFresh_x k) := by
 intro A R Q x h
 unfold spec_SellFresh_x at h
 split at h
 · obtain ⟨y, hy, hK⟩ := Option.bind_eq_some_iff.1 h
   obtain ⟨r, hr, hd⟩ := callF_ok envOk (spec_SellFresh_Ok k) follows Tryz.func170 (by kernel_rfl) ((spec_SellFresh_e k _ _).trans hy)
   exact ⟨_, spec_SellFresh_i hd ▸ hr.fin [], hK⟩
 · cases h
end Go.Proofs.YtlenacakmmikiaaGreatDoorX
