/- What functions of the program compute, as functions of numbers and lists, and that they do. (The file is written by wip/x/vxp.py of this repository.) -/
import Derived.Test.YtlenacakmmikiaaDoorF1
import Derived.Test.YtlenacakmmikiaaDoorX18
namespace Go.Proofs.YtlenacakmmikiaaDoorX
open Go Go.Proofs
set_option linter.unusedVariables false
set_option maxRecDepth 100000
/-! ### impl.FormatAct: function 6 -/
noncomputable def impl_FormatAct (k : Nat)  (a : Deed) : Option (ByteArray × Bool) :=
 (impl_ActOk k a).bind fun y1 =>
 cond (!y1)
  (some ((ByteArray.mk #[]), false))
  ((impl_actWords k).bind fun y2 =>
   if 0 ≤ ((wr (a.Kind - 1)) : Int) ∧ ((wr (a.Kind - 1)) : Int) < ((y2).length : Int) then
    (impl_actNumbers k).bind fun y3 =>
     if 0 ≤ ((wr (a.Kind - 1)) : Int) ∧ ((wr (a.Kind - 1)) : Int) < ((y3).length : Int) then
      if (0 : Int) ≤ 0 ∧ 0 ≤ (y3.getD (Int.toNat (wr (a.Kind - 1))) 0) ∧ (y3.getD (Int.toNat (wr (a.Kind - 1))) 0) ≤ (([a.A, a.B]).length : Int) then
       (impl_told k (y2.getD (Int.toNat (wr (a.Kind - 1))) (ByteArray.mk #[])) ((([a.A, a.B]).take (Int.toNat (y3.getD (Int.toNat (wr (a.Kind - 1))) 0))).drop 0)).bind fun y4 =>
        some (y4, true) else none else none else none)
noncomputable def impl_FormatAct_v : Nat → List Nat := fun t => match t with | _ => []
noncomputable def impl_FormatAct_O (k : Nat) : Oracle := ofL [(11, impl_ActOk_x k), (12, impl_told_x k), (13, impl_actWords_x k), (14, impl_actNumbers_x k)]
theorem impl_FormatAct_Ok (k : Nat) : OkO (Ct Tryd.prog) (impl_FormatAct_O k) := okO_cons (impl_ActOk_ok k) (okO_cons (impl_told_ok k) (okO_cons (impl_actWords_ok k) (okO_cons (impl_actNumbers_ok k) (okO_nil))))
noncomputable def impl_FormatAct_A (a : Deed) : Pk := ⟨[(.ag [(.v (.int .i64 a.Kind)), (.v (.int .i64 a.A)), (.v (.int .i64 a.B))])], []⟩
noncomputable def impl_FormatAct_d : Rs → Option (ByteArray × Bool)
 | ⟨(.tp [(.sc (.v (.string r1))), (.sc (.v (.bool r2)))]), []⟩ => some (r1, r2)
 | _ => none
theorem impl_FormatAct_i {r : Rs} {y : ByteArray × Bool} (h : impl_FormatAct_d r = some y) : r = ⟨(.tp [(.sc (.v (.string y.1))), (.sc (.v (.bool y.2)))]), []⟩ := by
 unfold impl_FormatAct_d at h; split at h
 · cases h; rfl
 · cases h
theorem impl_FormatAct_e (k : Nat) (a : Deed) : callD env (impl_FormatAct_O k) impl_FormatAct_v Tryd.f6 (k + 1) (impl_FormatAct_A a) (fun r => impl_FormatAct_d (r.fin 0 [])) = impl_FormatAct k a := by kernel_rfl
noncomputable def impl_FormatAct_x (k : Nat) : Ent1 := fun A R Q => match A with
 | ⟨[(.ag [(.v (.int .i64 a1)), (.v (.int .i64 a2)), (.v (.int .i64 a3))])], []⟩ => (impl_FormatAct k (⟨a1, a2, a3⟩ : Deed)).bind fun y => Q ⟨(.tp [(.sc (.v (.string y.1))), (.sc (.v (.bool y.2)))]), []⟩
 | _ => none
theorem impl_FormatAct_ok (k : Nat) : OkE Tryd.prog 6 (impl_FormatAct_x k) := by
 intro A R Q x h
 unfold impl_FormatAct_x at h
 split at h
 · obtain ⟨y, hy, hK⟩ := Option.bind_eq_some_iff.1 h
   obtain ⟨r, hr, hd⟩ := callD_ok envOk (impl_FormatAct_Ok k) follows Tryd.func6 (by kernel_rfl) ((impl_FormatAct_e k _).trans hy)
   exact ⟨_, impl_FormatAct_i hd ▸ hr.fin [], hK⟩
 · cases h
/-! ### impl.SplitFields: function 15 -/
noncomputable def impl_SplitFields_s0 (k : Nat)  (line : ByteArray) (J : Int → Option ((List ByteArray) × Bool)) (x0_0 : Int) : Option ((List ByteArray) × Bool) :=
 cond (decide ((x0_0 : Int) < ((line).size : Int)))
 (if 0 ≤ (x0_0 : Int) ∧ (x0_0 : Int) < ((line).size : Int) then
  cond (decide (((byteAt line (Int.toNat x0_0)) : Int) < 32))
   (some ([], false))
   (if 0 ≤ (x0_0 : Int) ∧ (x0_0 : Int) < ((line).size : Int) then
    cond (decide ((126 : Int) < (byteAt line (Int.toNat x0_0))))
     (some ([], false))
     (J (wr (x0_0 + 1))) else none) else none)
 ((strings_FieldsFunc k line).bind fun y2 =>
  cond (decide ((24 : Int) < ((y2).length : Int)))
   (some ([], false))
   (some (y2, true)))
noncomputable def impl_SplitFields_l0 (k : Nat) : Nat → ByteArray → Int → Option ((List ByteArray) × Bool)
 | 0, line, x0_0 => impl_SplitFields_s0 k line (fun _ => none) x0_0
 | m + 1, line, x0_0 => impl_SplitFields_s0 k line (impl_SplitFields_l0 k m line) x0_0
noncomputable def impl_SplitFields_m (k : Nat) (J0 : ByteArray → Int → Option ((List ByteArray) × Bool)) (line : ByteArray) : Option ((List ByteArray) × Bool) :=
 cond (decide ((600 : Int) < ((line).size : Int)))
 (some ([], false))
 (J0 line 0)
noncomputable def impl_SplitFields (k : Nat) (line : ByteArray) : Option ((List ByteArray) × Bool) := impl_SplitFields_m k (impl_SplitFields_l0 k k) line
noncomputable def impl_SplitFields_v : Nat → List Nat := fun t => match t with | 4 => [0, 2, 3, 10, 11] | _ => []
noncomputable def impl_SplitFields_O (k : Nat) : Oracle := ofL [(26, strings_FieldsFunc_x k)]
theorem impl_SplitFields_Ok (k : Nat) : OkO (Ct Tryd.prog) (impl_SplitFields_O k) := okO_cons (strings_FieldsFunc_ok k) (okO_nil)
noncomputable def impl_SplitFields_A (line : ByteArray) : Pk := ⟨[(.sc (.v (.string line)))], []⟩
noncomputable def impl_SplitFields_d : Rs → Option ((List ByteArray) × Bool)
 | ⟨(.tp [(.sc (.sl 0)), (.sc (.v (.bool r2)))]), [(.row true K.kstr r1)]⟩ => some (r1, r2)
 | _ => none
theorem impl_SplitFields_i {r : Rs} {y : (List ByteArray) × Bool} (h : impl_SplitFields_d r = some y) : r = ⟨(.tp [(.sc (.sl 0)), (.sc (.v (.bool y.2)))]), [(.row true K.kstr y.1)]⟩ := by
 unfold impl_SplitFields_d at h; split at h
 · cases h; rfl
 · cases h
noncomputable def impl_SplitFields_h0 (k m : Nat) (line : ByteArray) (x0_0 : Int) : Option ((List ByteArray) × Bool) := hdAt env (impl_SplitFields_O k) impl_SplitFields_v Tryd.f15 0 (fun r => impl_SplitFields_d (r.fin 0 [K.kstr])) [1, 1, 0, 1, 0] k m ⟨tmF [0, 2, 3, 10, 11] [(.a (.sc (.v (.string line)))), (.a (.sc .nl)), (.a (.sc (.v (.bool false)))), (.a (.sc (.v (.int .i64 ((line).size : Int))))), (.a (.sc (.v (.int .i64 x0_0))))], blF []⟩
theorem impl_SplitFields_z0 (k : Nat) (line : ByteArray) (x0_0 : Int) : impl_SplitFields_h0 k 0 line x0_0 = impl_SplitFields_s0 k line (fun _ => none) x0_0 := by kernel_rfl
theorem impl_SplitFields_g0 (k : Nat) (H : St → Option ((List ByteArray) × Bool)) (line : ByteArray) (x0_0 : Int) : rnd env (impl_SplitFields_O k) impl_SplitFields_v Tryd.f15 0 (fun r => impl_SplitFields_d (r.fin 0 [K.kstr])) [1, 1, 0, 1, 0] k H ⟨tmF [0, 2, 3, 10, 11] [(.a (.sc (.v (.string line)))), (.a (.sc .nl)), (.a (.sc (.v (.bool false)))), (.a (.sc (.v (.int .i64 ((line).size : Int))))), (.a (.sc (.v (.int .i64 x0_0))))], blF []⟩ = impl_SplitFields_s0 k line (fun x0_0 => H ⟨tmF [0, 2, 3, 10, 11] [(.a (.sc (.v (.string line)))), (.a (.sc .nl)), (.a (.sc (.v (.bool false)))), (.a (.sc (.v (.int .i64 ((line).size : Int))))), (.a (.sc (.v (.int .i64 x0_0))))], blF []⟩) x0_0 := by kernel_rfl
theorem impl_SplitFields_n0 (k m : Nat) (line : ByteArray) (x0_0 : Int) : impl_SplitFields_h0 k (m + 1) line x0_0 = impl_SplitFields_s0 k line (impl_SplitFields_h0 k m line) x0_0 := (hdAt_succ _ _ _ _ _ _ _ _ _ _).trans (impl_SplitFields_g0 k _ line x0_0)
theorem impl_SplitFields_q0 (k : Nat) : ∀ m, impl_SplitFields_h0 k m = impl_SplitFields_l0 k m := by
 intro m
 induction m with
 | zero => funext line x0_0; rw [impl_SplitFields_z0]; rfl
 | succ m ih => funext line x0_0; rw [impl_SplitFields_n0, ih]; rfl
theorem impl_SplitFields_e (k : Nat) (line : ByteArray) : callF env (impl_SplitFields_O k) impl_SplitFields_v Tryd.f15 (k + 1) (impl_SplitFields_A line) (fun r => impl_SplitFields_d (r.fin 0 [K.kstr])) = impl_SplitFields k line := by
 have e : ∀ H : St → Option ((List ByteArray) × Bool), callE env (impl_SplitFields_O k) impl_SplitFields_v Tryd.f15 (k + 1) (impl_SplitFields_A line) [1, 1, 0, 1, 0] (fun r => impl_SplitFields_d (r.fin 0 [K.kstr])) H = impl_SplitFields_m k (fun line x0_0 => H ⟨tmF [0, 2, 3, 10, 11] [(.a (.sc (.v (.string line)))), (.a (.sc .nl)), (.a (.sc (.v (.bool false)))), (.a (.sc (.v (.int .i64 ((line).size : Int))))), (.a (.sc (.v (.int .i64 x0_0))))], blF []⟩) line := fun H => by kernel_rfl
 exact (callE_eq env (impl_SplitFields_O k) impl_SplitFields_v Tryd.f15 k (impl_SplitFields_A line) [1, 1, 0, 1, 0] 0 (fun r => impl_SplitFields_d (r.fin 0 [K.kstr])) rfl (by kernel_rfl)).trans ((e (hdAt env (impl_SplitFields_O k) impl_SplitFields_v Tryd.f15 0 (fun r => impl_SplitFields_d (r.fin 0 [K.kstr])) [1, 1, 0, 1, 0] k k)).trans (by
  show impl_SplitFields_m k (impl_SplitFields_h0 k k) line = _
  rw [impl_SplitFields_q0]; rfl))
noncomputable def impl_SplitFields_x (k : Nat) : Ent1 := fun A R Q => match A with
 | ⟨[(.sc (.v (.string a1)))], []⟩ => (impl_SplitFields k a1).bind fun y => Q ⟨(.tp [(.sc (.sl 0)), (.sc (.v (.bool y.2)))]), [(.row true K.kstr y.1)]⟩
 | _ => none
theorem impl_SplitFields_ok (k : Nat) : OkE Tryd.prog 15 (impl_SplitFields_x k) := by
 intro A R Q x h
 unfold impl_SplitFields_x at h
 split at h
 · obtain ⟨y, hy, hK⟩ := Option.bind_eq_some_iff.1 h
   obtain ⟨r, hr, hd⟩ := callF_ok envOk (impl_SplitFields_Ok k) follows Tryd.func15 (by kernel_rfl) ((impl_SplitFields_e k _).trans hy)
   exact ⟨_, impl_SplitFields_i hd ▸ hr.fin [K.kstr], hK⟩
 · cases h
/-! ### impl.ParseAct: function 7 -/
noncomputable def impl_ParseAct_s0 (k : Nat)  (y1 : (List ByteArray) × Bool) (y3 : Int × (List ByteArray)) (J : Int → Int → Int → Option (Deed × Bool)) (x0_0 : Int) (x0_1 : Int) (x0_2 : Int) : Option (Deed × Bool) :=
 cond (decide ((x0_0 : Int) < ((((y1.1.take (Int.toNat ((y1.1).length : Int))).drop 1)).length : Int)))
 (if 0 ≤ (x0_0 : Int) ∧ (x0_0 : Int) < ((((y1.1.take (Int.toNat ((y1.1).length : Int))).drop 1)).length : Int) then
  (impl_ParseUint k (((y1.1.take (Int.toNat ((y1.1).length : Int))).drop 1).getD (Int.toNat x0_0) (ByteArray.mk #[]))).bind fun y7 =>
   cond (!y7.2)
    (some ((⟨0, 0, 0⟩ : Deed), false))
    (if 0 ≤ (x0_0 : Int) ∧ (x0_0 : Int) < (2 : Int) then
     cond (decide ((x0_0 : Int) = 0))
      (J (wr (x0_0 + 1)) y7.1 x0_2)
      (cond (decide ((x0_0 : Int) = 1))
       (J (wr (x0_0 + 1)) x0_1 y7.1)
       (none)) else none) else none)
 (if 0 ≤ (0 : Int) ∧ (0 : Int) < (2 : Int) then
  if 0 ≤ (1 : Int) ∧ (1 : Int) < (2 : Int) then
   (impl_ActOk k (⟨(wr (y3.1 + 1)), x0_1, x0_2⟩ : Deed)).bind fun y8 =>
    cond (!y8)
     (some ((⟨0, 0, 0⟩ : Deed), false))
     (some ((⟨(wr (y3.1 + 1)), x0_1, x0_2⟩ : Deed), true)) else none else none)
noncomputable def impl_ParseAct_l0 (k : Nat) : Nat → (List ByteArray) × Bool → Int × (List ByteArray) → Int → Int → Int → Option (Deed × Bool)
 | 0, y1, y3, x0_0, x0_1, x0_2 => impl_ParseAct_s0 k y1 y3 (fun _ _ _ => none) x0_0 x0_1 x0_2
 | m + 1, y1, y3, x0_0, x0_1, x0_2 => impl_ParseAct_s0 k y1 y3 (impl_ParseAct_l0 k m y1 y3) x0_0 x0_1 x0_2
noncomputable def impl_ParseAct_m (k : Nat) (J0 : (List ByteArray) × Bool → Int × (List ByteArray) → Int → Int → Int → Option (Deed × Bool)) (line : ByteArray) : Option (Deed × Bool) :=
 (impl_SplitFields k line).bind fun y1 =>
 cond (!y1.2)
  (some ((⟨0, 0, 0⟩ : Deed), false))
  (cond (decide ((((y1.1).length : Int) : Int) = 0))
   (some ((⟨0, 0, 0⟩ : Deed), false))
   ((impl_actWords k).bind fun y2 =>
    if 0 ≤ (0 : Int) ∧ (0 : Int) < ((y1.1).length : Int) then
     (slices_Index_string_string k y2 (y1.1.getD 0 (ByteArray.mk #[]))).bind fun y3 =>
      cond (decide ((y3.1 : Int) < 0))
       (some ((⟨0, 0, 0⟩ : Deed), false))
       ((impl_actNumbers k).bind fun y4 =>
        if 0 ≤ (y3.1 : Int) ∧ (y3.1 : Int) < ((y4).length : Int) then
        cond (!(decide ((((y1.1).length : Int) : Int) = (wr ((y4.getD (Int.toNat y3.1) 0) + 1)))))
        (some ((⟨0, 0, 0⟩ : Deed), false))
        (if (0 : Int) ≤ 1 ∧ 1 ≤ ((y1.1).length : Int) ∧ ((y1.1).length : Int) ≤ ((y1.1).length : Int) then
        J0 y1 y3 0 0 0 else none) else none) else none))
noncomputable def impl_ParseAct (k : Nat) (line : ByteArray) : Option (Deed × Bool) := impl_ParseAct_m k (impl_ParseAct_l0 k k) line
noncomputable def impl_ParseAct_v : Nat → List Nat := fun t => match t with | 9 => [2, 3, 6, 7, 46, 47, 48] | _ => []
noncomputable def impl_ParseAct_O (k : Nat) : Oracle := ofL [(11, impl_ActOk_x k), (13, impl_actWords_x k), (14, impl_actNumbers_x k), (15, impl_SplitFields_x k), (16, slices_Index_string_string_x k), (17, impl_ParseUint_x k)]
theorem impl_ParseAct_Ok (k : Nat) : OkO (Ct Tryd.prog) (impl_ParseAct_O k) := okO_cons (impl_ActOk_ok k) (okO_cons (impl_actWords_ok k) (okO_cons (impl_actNumbers_ok k) (okO_cons (impl_SplitFields_ok k) (okO_cons (slices_Index_string_string_ok k) (okO_cons (impl_ParseUint_ok k) (okO_nil))))))
noncomputable def impl_ParseAct_A (line : ByteArray) : Pk := ⟨[(.sc (.v (.string line)))], []⟩
noncomputable def impl_ParseAct_d : Rs → Option (Deed × Bool)
 | ⟨(.tp [(.ag [(.v (.int .i64 r1)), (.v (.int .i64 r2)), (.v (.int .i64 r3))]), (.sc (.v (.bool r4)))]), []⟩ => some ((⟨r1, r2, r3⟩ : Deed), r4)
 | _ => none
theorem impl_ParseAct_i {r : Rs} {y : Deed × Bool} (h : impl_ParseAct_d r = some y) : r = ⟨(.tp [(.ag [(.v (.int .i64 y.1.Kind)), (.v (.int .i64 y.1.A)), (.v (.int .i64 y.1.B))]), (.sc (.v (.bool y.2)))]), []⟩ := by
 unfold impl_ParseAct_d at h; split at h
 · cases h; rfl
 · cases h
noncomputable def impl_ParseAct_h0 (k m : Nat) (y1 : (List ByteArray) × Bool) (y3 : Int × (List ByteArray)) (x0_0 : Int) (x0_1 : Int) (x0_2 : Int) : Option (Deed × Bool) := hdAt env (impl_ParseAct_O k) impl_ParseAct_v Tryd.f7 0 (fun r => impl_ParseAct_d (r.fin 0 [])) [1, 1, 1, 1, 1, 1, 0, 1, 0] k m ⟨tmF [2, 3, 6, 7, 46, 47, 48] [(.a (.sc (.bp 0 0))), (.a (.sc (.v (.bool false)))), (.a (.sc (.v (.int .i64 y3.1)))), (.a (.sc (.bp 1 0))), (.a (.sc (.sl 2))), (.a (.sc (.v (.int .i64 ((((y1.1.take (Int.toNat ((y1.1).length : Int))).drop 1)).length : Int))))), (.a (.sc (.v (.int .i64 x0_0))))], blF [(.box true [(.v (.int .i64 0)), (.v (.int .i64 0)), (.v (.int .i64 0))]), (.box true [(.v (.int .i64 x0_1)), (.v (.int .i64 x0_2))]), (.row false K.kstr ((y1.1.take (Int.toNat ((y1.1).length : Int))).drop 1))]⟩
theorem impl_ParseAct_z0 (k : Nat) (y1 : (List ByteArray) × Bool) (y3 : Int × (List ByteArray)) (x0_0 : Int) (x0_1 : Int) (x0_2 : Int) : impl_ParseAct_h0 k 0 y1 y3 x0_0 x0_1 x0_2 = impl_ParseAct_s0 k y1 y3 (fun _ _ _ => none) x0_0 x0_1 x0_2 := by kernel_rfl
theorem impl_ParseAct_g0 (k : Nat) (H : St → Option (Deed × Bool)) (y1 : (List ByteArray) × Bool) (y3 : Int × (List ByteArray)) (x0_0 : Int) (x0_1 : Int) (x0_2 : Int) : rnd env (impl_ParseAct_O k) impl_ParseAct_v Tryd.f7 0 (fun r => impl_ParseAct_d (r.fin 0 [])) [1, 1, 1, 1, 1, 1, 0, 1, 0] k H ⟨tmF [2, 3, 6, 7, 46, 47, 48] [(.a (.sc (.bp 0 0))), (.a (.sc (.v (.bool false)))), (.a (.sc (.v (.int .i64 y3.1)))), (.a (.sc (.bp 1 0))), (.a (.sc (.sl 2))), (.a (.sc (.v (.int .i64 ((((y1.1.take (Int.toNat ((y1.1).length : Int))).drop 1)).length : Int))))), (.a (.sc (.v (.int .i64 x0_0))))], blF [(.box true [(.v (.int .i64 0)), (.v (.int .i64 0)), (.v (.int .i64 0))]), (.box true [(.v (.int .i64 x0_1)), (.v (.int .i64 x0_2))]), (.row false K.kstr ((y1.1.take (Int.toNat ((y1.1).length : Int))).drop 1))]⟩ = impl_ParseAct_s0 k y1 y3 (fun x0_0 x0_1 x0_2 => H ⟨tmF [2, 3, 6, 7, 46, 47, 48] [(.a (.sc (.bp 0 0))), (.a (.sc (.v (.bool false)))), (.a (.sc (.v (.int .i64 y3.1)))), (.a (.sc (.bp 1 0))), (.a (.sc (.sl 2))), (.a (.sc (.v (.int .i64 ((((y1.1.take (Int.toNat ((y1.1).length : Int))).drop 1)).length : Int))))), (.a (.sc (.v (.int .i64 x0_0))))], blF [(.box true [(.v (.int .i64 0)), (.v (.int .i64 0)), (.v (.int .i64 0))]), (.box true [(.v (.int .i64 x0_1)), (.v (.int .i64 x0_2))]), (.row false K.kstr ((y1.1.take (Int.toNat ((y1.1).length : Int))).drop 1))]⟩) x0_0 x0_1 x0_2 := by kernel_rfl
theorem impl_ParseAct_n0 (k m : Nat) (y1 : (List ByteArray) × Bool) (y3 : Int × (List ByteArray)) (x0_0 : Int) (x0_1 : Int) (x0_2 : Int) : impl_ParseAct_h0 k (m + 1) y1 y3 x0_0 x0_1 x0_2 = impl_ParseAct_s0 k y1 y3 (impl_ParseAct_h0 k m y1 y3) x0_0 x0_1 x0_2 := (hdAt_succ _ _ _ _ _ _ _ _ _ _).trans (impl_ParseAct_g0 k _ y1 y3 x0_0 x0_1 x0_2)
theorem impl_ParseAct_q0 (k : Nat) : ∀ m, impl_ParseAct_h0 k m = impl_ParseAct_l0 k m := by
 intro m
 induction m with
 | zero => funext y1 y3 x0_0 x0_1 x0_2; rw [impl_ParseAct_z0]; rfl
 | succ m ih => funext y1 y3 x0_0 x0_1 x0_2; rw [impl_ParseAct_n0, ih]; rfl
theorem impl_ParseAct_e (k : Nat) (line : ByteArray) : callF env (impl_ParseAct_O k) impl_ParseAct_v Tryd.f7 (k + 1) (impl_ParseAct_A line) (fun r => impl_ParseAct_d (r.fin 0 [])) = impl_ParseAct k line := by
 have e : ∀ H : St → Option (Deed × Bool), callE env (impl_ParseAct_O k) impl_ParseAct_v Tryd.f7 (k + 1) (impl_ParseAct_A line) [1, 1, 1, 1, 1, 1, 0, 1, 0] (fun r => impl_ParseAct_d (r.fin 0 [])) H = impl_ParseAct_m k (fun y1 y3 x0_0 x0_1 x0_2 => H ⟨tmF [2, 3, 6, 7, 46, 47, 48] [(.a (.sc (.bp 0 0))), (.a (.sc (.v (.bool false)))), (.a (.sc (.v (.int .i64 y3.1)))), (.a (.sc (.bp 1 0))), (.a (.sc (.sl 2))), (.a (.sc (.v (.int .i64 ((((y1.1.take (Int.toNat ((y1.1).length : Int))).drop 1)).length : Int))))), (.a (.sc (.v (.int .i64 x0_0))))], blF [(.box true [(.v (.int .i64 0)), (.v (.int .i64 0)), (.v (.int .i64 0))]), (.box true [(.v (.int .i64 x0_1)), (.v (.int .i64 x0_2))]), (.row false K.kstr ((y1.1.take (Int.toNat ((y1.1).length : Int))).drop 1))]⟩) line := fun H => by kernel_rfl
 exact (callE_eq env (impl_ParseAct_O k) impl_ParseAct_v Tryd.f7 k (impl_ParseAct_A line) [1, 1, 1, 1, 1, 1, 0, 1, 0] 0 (fun r => impl_ParseAct_d (r.fin 0 [])) rfl (by kernel_rfl)).trans ((e (hdAt env (impl_ParseAct_O k) impl_ParseAct_v Tryd.f7 0 (fun r => impl_ParseAct_d (r.fin 0 [])) [1, 1, 1, 1, 1, 1, 0, 1, 0] k k)).trans (by
  show impl_ParseAct_m k (impl_ParseAct_h0 k k) line = _
  rw [impl_ParseAct_q0]; rfl))
noncomputable def impl_ParseAct_x (k : Nat) : Ent1 := fun A R Q => match A with
 | ⟨[(.sc (.v (.string a1)))], []⟩ => (impl_ParseAct k a1).bind fun y => Q ⟨(.tp [(.ag [(.v (.int .i64 y.1.Kind)), (.v (.int .i64 y.1.A)), (.v (.int .i64 y.1.B))]), (.sc (.v (.bool y.2)))]), []⟩
 | _ => none
theorem impl_ParseAct_ok (k : Nat) : OkE Tryd.prog 7 (impl_ParseAct_x k) := by
 intro A R Q x h
 unfold impl_ParseAct_x at h
 split at h
 · obtain ⟨y, hy, hK⟩ := Option.bind_eq_some_iff.1 h
   obtain ⟨r, hr, hd⟩ := callF_ok envOk (impl_ParseAct_Ok k) follows Tryd.func7 (by kernel_rfl) ((impl_ParseAct_e k _).trans hy)
   exact ⟨_, impl_ParseAct_i hd ▸ hr.fin [], hK⟩
 · cases h
/-! ### laws.FnActTexts: function 3 -/
noncomputable def laws_FnActTexts_s0 (k : Nat)  (code : (List Int)) (y2 : Bakery × (List Deed)) (J : Int → Option (Bool)) (x0_0 : Int) : Option (Bool) :=
 cond (decide ((x0_0 : Int) < ((y2.2).length : Int)))
 (if 0 ≤ (x0_0 : Int) ∧ (x0_0 : Int) < ((y2.2).length : Int) then
  (impl_FormatAct k (y2.2.getD (Int.toNat x0_0) dk_impl_Act)).bind fun y5 =>
   if ((ByteArray.mk #[32, 32])).size + (y5.1).size ≤ 9223372036854775807 then
    if (((ByteArray.mk #[32, 32]) ++ y5.1)).size + ((ByteArray.mk #[32])).size ≤ 9223372036854775807 then
     (impl_ParseAct k (((ByteArray.mk #[32, 32]) ++ y5.1) ++ (ByteArray.mk #[32]))).bind fun y6 =>
      cond (!y5.2)
       (some false)
       (cond (!y6.2)
        (some false)
        (if 0 ≤ (x0_0 : Int) ∧ (x0_0 : Int) < ((y2.2).length : Int) then
        cond (!((decide ((y6.1.Kind : Int) = (y2.2.getD (Int.toNat x0_0) dk_impl_Act).Kind) && (decide ((y6.1.A : Int) = (y2.2.getD (Int.toNat x0_0) dk_impl_Act).A) && decide ((y6.1.B : Int) = (y2.2.getD (Int.toNat x0_0) dk_impl_Act).B)))))
        (some false)
        (J (wr (x0_0 + 1))) else none)) else none else none else none)
 (some true)
noncomputable def laws_FnActTexts_l0 (k : Nat) : Nat → (List Int) → Bakery × (List Deed) → Int → Option (Bool)
 | 0, code, y2, x0_0 => laws_FnActTexts_s0 k code y2 (fun _ => none) x0_0
 | m + 1, code, y2, x0_0 => laws_FnActTexts_s0 k code y2 (laws_FnActTexts_l0 k m code y2) x0_0
noncomputable def laws_FnActTexts_m (k : Nat) (J0 : (List Int) → Bakery × (List Deed) → Int → Option (Bool)) (code : (List Int)) : Option (Bool) :=
 (laws_big k code).bind fun y1 =>
 cond y1
  (some true)
  ((spec_DrawActs k code).bind fun y2 =>
   J0 code y2 0)
noncomputable def laws_FnActTexts (k : Nat) (code : (List Int)) : Option (Bool) := laws_FnActTexts_m k (laws_FnActTexts_l0 k k) code
noncomputable def laws_FnActTexts_v : Nat → List Nat := fun t => match t with | 5 => [2, 4, 5] | _ => []
noncomputable def laws_FnActTexts_O (k : Nat) : Oracle := ofL [(4, laws_big_x k), (5, spec_DrawActs_x k), (6, impl_FormatAct_x k), (7, impl_ParseAct_x k)]
theorem laws_FnActTexts_Ok (k : Nat) : OkO (Ct Tryd.prog) (laws_FnActTexts_O k) := okO_cons (laws_big_ok k) (okO_cons (spec_DrawActs_ok k) (okO_cons (impl_FormatAct_ok k) (okO_cons (impl_ParseAct_ok k) (okO_nil))))
noncomputable def laws_FnActTexts_A (code : (List Int)) : Pk := ⟨[(.sc (.sl 0))], [(.row false K.ku8 code)]⟩
noncomputable def laws_FnActTexts_d : Rs → Option (Bool)
 | ⟨(.a (.sc (.v (.bool r1)))), [.dead]⟩ => some r1
 | _ => none
theorem laws_FnActTexts_i {r : Rs} {y : Bool} (h : laws_FnActTexts_d r = some y) : r = ⟨(.a (.sc (.v (.bool y)))), [.dead]⟩ := by
 unfold laws_FnActTexts_d at h; split at h
 · cases h; rfl
 · cases h
noncomputable def laws_FnActTexts_h0 (k m : Nat) (code : (List Int)) (y2 : Bakery × (List Deed)) (x0_0 : Int) : Option (Bool) := hdAt env (laws_FnActTexts_O k) laws_FnActTexts_v Tryd.f3 1 (fun r => laws_FnActTexts_d (r.fin 1 [])) [1, 1, 1, 0, 1, 0] k m ⟨tmF [2, 4, 5] [(.a (.sc (.v (.bool false)))), (.a (.sc (.sl 1))), (.a (.sc (.v (.int .i64 x0_0))))], blF [(.row false K.ku8 code), (.row true K.k_impl_Act y2.2)]⟩
theorem laws_FnActTexts_z0 (k : Nat) (code : (List Int)) (y2 : Bakery × (List Deed)) (x0_0 : Int) : laws_FnActTexts_h0 k 0 code y2 x0_0 = laws_FnActTexts_s0 k code y2 (fun _ => none) x0_0 := by kernel_rfl
theorem laws_FnActTexts_g0 (k : Nat) (H : St → Option (Bool)) (code : (List Int)) (y2 : Bakery × (List Deed)) (x0_0 : Int) : rnd env (laws_FnActTexts_O k) laws_FnActTexts_v Tryd.f3 1 (fun r => laws_FnActTexts_d (r.fin 1 [])) [1, 1, 1, 0, 1, 0] k H ⟨tmF [2, 4, 5] [(.a (.sc (.v (.bool false)))), (.a (.sc (.sl 1))), (.a (.sc (.v (.int .i64 x0_0))))], blF [(.row false K.ku8 code), (.row true K.k_impl_Act y2.2)]⟩ = laws_FnActTexts_s0 k code y2 (fun x0_0 => H ⟨tmF [2, 4, 5] [(.a (.sc (.v (.bool false)))), (.a (.sc (.sl 1))), (.a (.sc (.v (.int .i64 x0_0))))], blF [(.row false K.ku8 code), (.row true K.k_impl_Act y2.2)]⟩) x0_0 := by kernel_rfl
theorem laws_FnActTexts_n0 (k m : Nat) (code : (List Int)) (y2 : Bakery × (List Deed)) (x0_0 : Int) : laws_FnActTexts_h0 k (m + 1) code y2 x0_0 = laws_FnActTexts_s0 k code y2 (laws_FnActTexts_h0 k m code y2) x0_0 := (hdAt_succ _ _ _ _ _ _ _ _ _ _).trans (laws_FnActTexts_g0 k _ code y2 x0_0)
theorem laws_FnActTexts_q0 (k : Nat) : ∀ m, laws_FnActTexts_h0 k m = laws_FnActTexts_l0 k m := by
 intro m
 induction m with
 | zero => funext code y2 x0_0; rw [laws_FnActTexts_z0]; rfl
 | succ m ih => funext code y2 x0_0; rw [laws_FnActTexts_n0, ih]; rfl
theorem laws_FnActTexts_e (k : Nat) (code : (List Int)) : callF env (laws_FnActTexts_O k) laws_FnActTexts_v Tryd.f3 (k + 1) (laws_FnActTexts_A code) (fun r => laws_FnActTexts_d (r.fin 1 [])) = laws_FnActTexts k code := by
 have e : ∀ H : St → Option (Bool), callE env (laws_FnActTexts_O k) laws_FnActTexts_v Tryd.f3 (k + 1) (laws_FnActTexts_A code) [1, 1, 1, 0, 1, 0] (fun r => laws_FnActTexts_d (r.fin 1 [])) H = laws_FnActTexts_m k (fun code y2 x0_0 => H ⟨tmF [2, 4, 5] [(.a (.sc (.v (.bool false)))), (.a (.sc (.sl 1))), (.a (.sc (.v (.int .i64 x0_0))))], blF [(.row false K.ku8 code), (.row true K.k_impl_Act y2.2)]⟩) code := fun H => by kernel_rfl
 exact (callE_eq env (laws_FnActTexts_O k) laws_FnActTexts_v Tryd.f3 k (laws_FnActTexts_A code) [1, 1, 1, 0, 1, 0] 1 (fun r => laws_FnActTexts_d (r.fin 1 [])) rfl (by kernel_rfl)).trans ((e (hdAt env (laws_FnActTexts_O k) laws_FnActTexts_v Tryd.f3 1 (fun r => laws_FnActTexts_d (r.fin 1 [])) [1, 1, 1, 0, 1, 0] k k)).trans (by
  show laws_FnActTexts_m k (laws_FnActTexts_h0 k k) code = _
  rw [laws_FnActTexts_q0]; rfl))
noncomputable def laws_FnActTexts_x (k : Nat) : Ent1 := fun A R Q => match A with
 | ⟨[(.sc (.sl 0))], [(.row false K.ku8 a1)]⟩ => (laws_FnActTexts k a1).bind fun y => Q ⟨(.a (.sc (.v (.bool y)))), [.dead]⟩
 | _ => none
theorem laws_FnActTexts_ok (k : Nat) : OkE Tryd.prog 3 (laws_FnActTexts_x k) := by
 intro A R Q x h
 unfold laws_FnActTexts_x at h
 split at h
 · obtain ⟨y, hy, hK⟩ := Option.bind_eq_some_iff.1 h
   obtain ⟨r, hr, hd⟩ := callF_ok envOk (laws_FnActTexts_Ok k) follows Tryd.func3 (by kernel_rfl) ((laws_FnActTexts_e k _).trans hy)
   exact ⟨_, laws_FnActTexts_i hd ▸ hr.fin [], hK⟩
 · cases h
end Go.Proofs.YtlenacakmmikiaaDoorX
