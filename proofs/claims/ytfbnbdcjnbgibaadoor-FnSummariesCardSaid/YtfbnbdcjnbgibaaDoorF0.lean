/- What functions of the program compute, as functions of numbers and lists, and that they do. (The file is written by wip/x/vxp.py of this repository.) -/
import Derived.Test.YtfbnbdcjnbgibaaDoorLib
namespace Go.Proofs.YtfbnbdcjnbgibaaDoorX
open Go Go.Proofs
set_option linter.unusedVariables false
set_option maxRecDepth 100000
/-! ### laws.toAct: function 8 -/
noncomputable def laws_toAct (k : Nat)  (a : Deed) : Option (Deed) :=
 some a
noncomputable def laws_toAct_v : Nat → List Nat := fun t => match t with | _ => []
noncomputable def laws_toAct_O (k : Nat) : Oracle := ofL []
theorem laws_toAct_Ok (k : Nat) : OkO (Ct Tryd.prog) (laws_toAct_O k) := okO_nil
noncomputable def laws_toAct_A (a : Deed) : Pk := ⟨[(.ag [(.v (.int .i64 a.Kind)), (.v (.int .i64 a.A)), (.v (.int .i64 a.B))])], []⟩
noncomputable def laws_toAct_d : Rs → Option (Deed)
 | ⟨(.a (.ag [(.v (.int .i64 r1)), (.v (.int .i64 r2)), (.v (.int .i64 r3))])), []⟩ => some (⟨r1, r2, r3⟩ : Deed)
 | _ => none
theorem laws_toAct_i {r : Rs} {y : Deed} (h : laws_toAct_d r = some y) : r = ⟨(.a (.ag [(.v (.int .i64 y.Kind)), (.v (.int .i64 y.A)), (.v (.int .i64 y.B))])), []⟩ := by
 unfold laws_toAct_d at h; split at h
 · cases h; rfl
 · cases h
theorem laws_toAct_e (k : Nat) (a : Deed) : callF env (laws_toAct_O k) laws_toAct_v Tryd.f8 (k + 1) (laws_toAct_A a) (fun r => laws_toAct_d (r.fin 0 [])) = laws_toAct k a := by kernel_rfl
noncomputable def laws_toAct_x (k : Nat) : Ent1 := fun A R Q => match A with
 | ⟨[(.ag [(.v (.int .i64 a1)), (.v (.int .i64 a2)), (.v (.int .i64 a3))])], []⟩ => (laws_toAct k (⟨a1, a2, a3⟩ : Deed)).bind fun y => Q ⟨(.a (.ag [(.v (.int .i64 y.Kind)), (.v (.int .i64 y.A)), (.v (.int .i64 y.B))])), []⟩
 | _ => none
theorem laws_toAct_ok (k : Nat) : OkE Tryd.prog 8 (laws_toAct_x k) := by
 intro A R Q x h
 unfold laws_toAct_x at h
 split at h
 · obtain ⟨y, hy, hK⟩ := Option.bind_eq_some_iff.1 h
   obtain ⟨r, hr, hd⟩ := callF_ok envOk (laws_toAct_Ok k) follows Tryd.func8 (by kernel_rfl) ((laws_toAct_e k _).trans hy)
   exact ⟨_, laws_toAct_i hd ▸ hr.fin [], hK⟩
 · cases h
/-! ### spec.l01In: function 56 -/
noncomputable def spec_l01In (k : Nat)  (x : Int) (least : Int) (most : Int) : Option (Bool) :=
 cond (decide ((least : Int) ≤ x))
 (some (decide ((x : Int) ≤ most)))
 (some false)
noncomputable def spec_l01In_v : Nat → List Nat := fun t => match t with | _ => []
noncomputable def spec_l01In_O (k : Nat) : Oracle := ofL []
theorem spec_l01In_Ok (k : Nat) : OkO (Ct Tryd.prog) (spec_l01In_O k) := okO_nil
noncomputable def spec_l01In_A (x : Int) (least : Int) (most : Int) : Pk := ⟨[(.sc (.v (.int .i64 x))), (.sc (.v (.int .i64 least))), (.sc (.v (.int .i64 most)))], []⟩
noncomputable def spec_l01In_d : Rs → Option (Bool)
 | ⟨(.a (.sc (.v (.bool r1)))), []⟩ => some r1
 | _ => none
theorem spec_l01In_i {r : Rs} {y : Bool} (h : spec_l01In_d r = some y) : r = ⟨(.a (.sc (.v (.bool y)))), []⟩ := by
 unfold spec_l01In_d at h; split at h
 · cases h; rfl
 · cases h
theorem spec_l01In_e (k : Nat) (x : Int) (least : Int) (most : Int) : callF env (spec_l01In_O k) spec_l01In_v Tryd.f56 (k + 1) (spec_l01In_A x least most) (fun r => spec_l01In_d (r.fin 0 [])) = spec_l01In k x least most := by kernel_rfl
noncomputable def spec_l01In_x (k : Nat) : Ent1 := fun A R Q => match A with
 | ⟨[(.sc (.v (.int .i64 a1))), (.sc (.v (.int .i64 a2))), (.sc (.v (.int .i64 a3)))], []⟩ => (spec_l01In k a1 a2 a3).bind fun y => Q ⟨(.a (.sc (.v (.bool y)))), []⟩
 | _ => none
theorem spec_l01In_ok (k : Nat) : OkE Tryd.prog 56 (spec_l01In_x k) := by
 intro A R Q x h
 unfold spec_l01In_x at h
 split at h
 · obtain ⟨y, hy, hK⟩ := Option.bind_eq_some_iff.1 h
   obtain ⟨r, hr, hd⟩ := callF_ok envOk (spec_l01In_Ok k) follows Tryd.func56 (by kernel_rfl) ((spec_l01In_e k _ _ _).trans hy)
   exact ⟨_, spec_l01In_i hd ▸ hr.fin [], hK⟩
 · cases h
/-! ### spec.ActOk: function 27 -/
noncomputable def spec_ActOk (k : Nat)  (a : Deed) : Option (Bool) :=
 cond (decide ((a.Kind : Int) = 1))
 (cond (decide ((a.Kind : Int) = 1))
  ((spec_l01In k a.A 0 1000).bind fun y1 =>
   cond y1
    (some (decide ((a.B : Int) = 0)))
    (some false))
  (cond (decide ((a.Kind : Int) = 5))
   ((spec_l01In k a.A 0 3).bind fun y2 =>
    cond y2
     ((spec_l01In k a.B 0 100000).bind fun y3 =>
      some y3)
     (some false))
   (cond (decide ((a.Kind : Int) = 4))
    (cond (decide ((a.A : Int) = 0))
     (some (decide ((a.B : Int) = 0)))
     (some false))
    (some false))))
 (cond (decide ((a.Kind : Int) = 2))
  (cond (decide ((a.Kind : Int) = 2))
   ((spec_l01In k a.A 0 1000).bind fun y4 =>
    cond y4
     (some (decide ((a.B : Int) = 0)))
     (some false))
   (cond (decide ((a.Kind : Int) = 5))
    ((spec_l01In k a.A 0 3).bind fun y5 =>
     cond y5
      ((spec_l01In k a.B 0 100000).bind fun y6 =>
       some y6)
      (some false))
    (cond (decide ((a.Kind : Int) = 4))
     (cond (decide ((a.A : Int) = 0))
      (some (decide ((a.B : Int) = 0)))
      (some false))
     (some false))))
  (cond (decide ((a.Kind : Int) = 3))
   (cond (decide ((a.Kind : Int) = 3))
    ((spec_l01In k a.A 0 1000).bind fun y7 =>
     cond y7
      (some (decide ((a.B : Int) = 0)))
      (some false))
    (cond (decide ((a.Kind : Int) = 5))
     ((spec_l01In k a.A 0 3).bind fun y8 =>
      cond y8
       ((spec_l01In k a.B 0 100000).bind fun y9 =>
        some y9)
       (some false))
     (cond (decide ((a.Kind : Int) = 4))
      (cond (decide ((a.A : Int) = 0))
       (some (decide ((a.B : Int) = 0)))
       (some false))
      (some false))))
   (cond (decide ((a.Kind : Int) = 6))
    ((spec_l01In k a.A 0 1000).bind fun y10 =>
     cond y10
      (some (decide ((a.B : Int) = 0)))
      (some false))
    (cond (decide ((a.Kind : Int) = 5))
     ((spec_l01In k a.A 0 3).bind fun y11 =>
      cond y11
       ((spec_l01In k a.B 0 100000).bind fun y12 =>
        some y12)
       (some false))
     (cond (decide ((a.Kind : Int) = 4))
      (cond (decide ((a.A : Int) = 0))
       (some (decide ((a.B : Int) = 0)))
       (some false))
      (some false))))))
noncomputable def spec_ActOk_v : Nat → List Nat := fun t => match t with | _ => []
noncomputable def spec_ActOk_O (k : Nat) : Oracle := ofL [(56, spec_l01In_x k)]
theorem spec_ActOk_Ok (k : Nat) : OkO (Ct Tryd.prog) (spec_ActOk_O k) := okO_cons (spec_l01In_ok k) (okO_nil)
noncomputable def spec_ActOk_A (a : Deed) : Pk := ⟨[(.ag [(.v (.int .i64 a.Kind)), (.v (.int .i64 a.A)), (.v (.int .i64 a.B))])], []⟩
noncomputable def spec_ActOk_d : Rs → Option (Bool)
 | ⟨(.a (.sc (.v (.bool r1)))), []⟩ => some r1
 | _ => none
theorem spec_ActOk_i {r : Rs} {y : Bool} (h : spec_ActOk_d r = some y) : r = ⟨(.a (.sc (.v (.bool y)))), []⟩ := by
 unfold spec_ActOk_d at h; split at h
 · cases h; rfl
 · cases h
theorem spec_ActOk_e (k : Nat) (a : Deed) : callF env (spec_ActOk_O k) spec_ActOk_v Tryd.f27 (k + 1) (spec_ActOk_A a) (fun r => spec_ActOk_d (r.fin 0 [])) = spec_ActOk k a := by kernel_rfl
noncomputable def spec_ActOk_x (k : Nat) : Ent1 := fun A R Q => match A with
 | ⟨[(.ag [(.v (.int .i64 a1)), (.v (.int .i64 a2)), (.v (.int .i64 a3))])], []⟩ => (spec_ActOk k (⟨a1, a2, a3⟩ : Deed)).bind fun y => Q ⟨(.a (.sc (.v (.bool y)))), []⟩
 | _ => none
theorem spec_ActOk_ok (k : Nat) : OkE Tryd.prog 27 (spec_ActOk_x k) := by
 intro A R Q x h
 unfold spec_ActOk_x at h
 split at h
 · obtain ⟨y, hy, hK⟩ := Option.bind_eq_some_iff.1 h
   obtain ⟨r, hr, hd⟩ := callF_ok envOk (spec_ActOk_Ok k) follows Tryd.func27 (by kernel_rfl) ((spec_ActOk_e k _).trans hy)
   exact ⟨_, spec_ActOk_i hd ▸ hr.fin [], hK⟩
 · cases h
/-! ### spec.l01Figure: function 57 -/
noncomputable def spec_l01Figure (k : Nat)  (x : Int) : Option (Int) :=
 cond (decide ((x : Int) < 10))
 (some (IntKind.u8.wrap ((wr ((48 : Int) + x)))))
 (some (IntKind.u8.wrap ((wr ((wr ((97 : Int) + x)) - 10)))))
noncomputable def spec_l01Figure_v : Nat → List Nat := fun t => match t with | _ => []
noncomputable def spec_l01Figure_O (k : Nat) : Oracle := ofL []
theorem spec_l01Figure_Ok (k : Nat) : OkO (Ct Tryd.prog) (spec_l01Figure_O k) := okO_nil
noncomputable def spec_l01Figure_A (x : Int) : Pk := ⟨[(.sc (.v (.int .i64 x)))], []⟩
noncomputable def spec_l01Figure_d : Rs → Option (Int)
 | ⟨(.a (.sc (.v (.int .u8 r1)))), []⟩ => some r1
 | _ => none
theorem spec_l01Figure_i {r : Rs} {y : Int} (h : spec_l01Figure_d r = some y) : r = ⟨(.a (.sc (.v (.int .u8 y)))), []⟩ := by
 unfold spec_l01Figure_d at h; split at h
 · cases h; rfl
 · cases h
theorem spec_l01Figure_e (k : Nat) (x : Int) : callF env (spec_l01Figure_O k) spec_l01Figure_v Tryd.f57 (k + 1) (spec_l01Figure_A x) (fun r => spec_l01Figure_d (r.fin 0 [])) = spec_l01Figure k x := by kernel_rfl
noncomputable def spec_l01Figure_x (k : Nat) : Ent1 := fun A R Q => match A with
 | ⟨[(.sc (.v (.int .i64 a1)))], []⟩ => (spec_l01Figure k a1).bind fun y => Q ⟨(.a (.sc (.v (.int .u8 y)))), []⟩
 | _ => none
theorem spec_l01Figure_ok (k : Nat) : OkE Tryd.prog 57 (spec_l01Figure_x k) := by
 intro A R Q x h
 unfold spec_l01Figure_x at h
 split at h
 · obtain ⟨y, hy, hK⟩ := Option.bind_eq_some_iff.1 h
   obtain ⟨r, hr, hd⟩ := callF_ok envOk (spec_l01Figure_Ok k) follows Tryd.func57 (by kernel_rfl) ((spec_l01Figure_e k _).trans hy)
   exact ⟨_, spec_l01Figure_i hd ▸ hr.fin [], hK⟩
 · cases h
/-! ### spec.FormatInt: function 28 -/
noncomputable def spec_FormatInt_s0 (k : Nat)  (n : Int) (J : Int → ByteArray → Option (ByteArray)) (x0_0 : Int) (x0_1 : ByteArray) : Option (ByteArray) :=
 cond (!(decide ((x0_0 : Int) = 0)))
 (if (10 : Int) ≠ 0 then
  cond (decide (((Int.tmod x0_0 10) : Int) < 0))
   ((spec_l01Figure k (wr (0 - (Int.tmod x0_0 10)))).bind fun y3 =>
    if ((strOf ([y3]))).size + (x0_1).size ≤ 9223372036854775807 then
     if (10 : Int) ≠ 0 then
      J (wr (Int.tdiv x0_0 10)) ((strOf ([y3])) ++ x0_1) else none else none)
   ((spec_l01Figure k (Int.tmod x0_0 10)).bind fun y4 =>
    if ((strOf ([y4]))).size + (x0_1).size ≤ 9223372036854775807 then
     if (10 : Int) ≠ 0 then
      J (wr (Int.tdiv x0_0 10)) ((strOf ([y4])) ++ x0_1) else none else none) else none)
 (cond (decide ((n : Int) < 0))
  (if ((ByteArray.mk #[45])).size + (x0_1).size ≤ 9223372036854775807 then
   some ((ByteArray.mk #[45]) ++ x0_1) else none)
  (some x0_1))
noncomputable def spec_FormatInt_l0 (k : Nat) : Nat → Int → Int → ByteArray → Option (ByteArray)
 | 0, n, x0_0, x0_1 => spec_FormatInt_s0 k n (fun _ _ => none) x0_0 x0_1
 | m + 1, n, x0_0, x0_1 => spec_FormatInt_s0 k n (spec_FormatInt_l0 k m n) x0_0 x0_1
noncomputable def spec_FormatInt_m (k : Nat) (J0 : Int → Int → ByteArray → Option (ByteArray)) (n : Int) : Option (ByteArray) :=
 cond (decide ((n : Int) = 0))
 (some (ByteArray.mk #[48]))
 (J0 n n (ByteArray.mk #[]))
noncomputable def spec_FormatInt (k : Nat) (n : Int) : Option (ByteArray) := spec_FormatInt_m k (spec_FormatInt_l0 k k) n
noncomputable def spec_FormatInt_v : Nat → List Nat := fun t => match t with | 5 => [0, 2, 3, 4] | _ => []
noncomputable def spec_FormatInt_O (k : Nat) : Oracle := ofL [(57, spec_l01Figure_x k)]
theorem spec_FormatInt_Ok (k : Nat) : OkO (Ct Tryd.prog) (spec_FormatInt_O k) := okO_cons (spec_l01Figure_ok k) (okO_nil)
noncomputable def spec_FormatInt_A (n : Int) : Pk := ⟨[(.sc (.v (.int .i64 n)))], []⟩
noncomputable def spec_FormatInt_d : Rs → Option (ByteArray)
 | ⟨(.a (.sc (.v (.string r1)))), []⟩ => some r1
 | _ => none
theorem spec_FormatInt_i {r : Rs} {y : ByteArray} (h : spec_FormatInt_d r = some y) : r = ⟨(.a (.sc (.v (.string y)))), []⟩ := by
 unfold spec_FormatInt_d at h; split at h
 · cases h; rfl
 · cases h
noncomputable def spec_FormatInt_h0 (k m : Nat) (n : Int) (x0_0 : Int) (x0_1 : ByteArray) : Option (ByteArray) := hdAt env (spec_FormatInt_O k) spec_FormatInt_v Tryd.f28 0 (fun r => spec_FormatInt_d (r.fin 0 [])) [1, 1, 1, 1, 0, 0] k m ⟨tmF [0, 2, 3, 4] [(.a (.sc (.v (.int .i64 x0_0)))), (.a (.sc (.v (.string (ByteArray.mk #[]))))), (.a (.sc (.v (.bool (decide ((n : Int) < 0)))))), (.a (.sc (.v (.string x0_1))))], blF []⟩
theorem spec_FormatInt_z0 (k : Nat) (n : Int) (x0_0 : Int) (x0_1 : ByteArray) : spec_FormatInt_h0 k 0 n x0_0 x0_1 = spec_FormatInt_s0 k n (fun _ _ => none) x0_0 x0_1 := by kernel_rfl
theorem spec_FormatInt_g0 (k : Nat) (H : St → Option (ByteArray)) (n : Int) (x0_0 : Int) (x0_1 : ByteArray) : rnd env (spec_FormatInt_O k) spec_FormatInt_v Tryd.f28 0 (fun r => spec_FormatInt_d (r.fin 0 [])) [1, 1, 1, 1, 0, 0] k H ⟨tmF [0, 2, 3, 4] [(.a (.sc (.v (.int .i64 x0_0)))), (.a (.sc (.v (.string (ByteArray.mk #[]))))), (.a (.sc (.v (.bool (decide ((n : Int) < 0)))))), (.a (.sc (.v (.string x0_1))))], blF []⟩ = spec_FormatInt_s0 k n (fun x0_0 x0_1 => H ⟨tmF [0, 2, 3, 4] [(.a (.sc (.v (.int .i64 x0_0)))), (.a (.sc (.v (.string (ByteArray.mk #[]))))), (.a (.sc (.v (.bool (decide ((n : Int) < 0)))))), (.a (.sc (.v (.string x0_1))))], blF []⟩) x0_0 x0_1 := by kernel_rfl
theorem spec_FormatInt_n0 (k m : Nat) (n : Int) (x0_0 : Int) (x0_1 : ByteArray) : spec_FormatInt_h0 k (m + 1) n x0_0 x0_1 = spec_FormatInt_s0 k n (spec_FormatInt_h0 k m n) x0_0 x0_1 := (hdAt_succ _ _ _ _ _ _ _ _ _ _).trans (spec_FormatInt_g0 k _ n x0_0 x0_1)
theorem spec_FormatInt_q0 (k : Nat) : ∀ m, spec_FormatInt_h0 k m = spec_FormatInt_l0 k m := by
 intro m
 induction m with
 | zero => funext n x0_0 x0_1; rw [spec_FormatInt_z0]; rfl
 | succ m ih => funext n x0_0 x0_1; rw [spec_FormatInt_n0, ih]; rfl
theorem spec_FormatInt_e (k : Nat) (n : Int) : callF env (spec_FormatInt_O k) spec_FormatInt_v Tryd.f28 (k + 1) (spec_FormatInt_A n) (fun r => spec_FormatInt_d (r.fin 0 [])) = spec_FormatInt k n := by
 have e : callF env (spec_FormatInt_O k) spec_FormatInt_v Tryd.f28 (k + 1) (spec_FormatInt_A n) (fun r => spec_FormatInt_d (r.fin 0 [])) = spec_FormatInt_m k (spec_FormatInt_h0 k k) n := by kernel_rfl
 rw [e, spec_FormatInt_q0]; rfl
noncomputable def spec_FormatInt_x (k : Nat) : Ent1 := fun A R Q => match A with
 | ⟨[(.sc (.v (.int .i64 a1)))], []⟩ => (spec_FormatInt k a1).bind fun y => Q ⟨(.a (.sc (.v (.string y)))), []⟩
 | _ => none
theorem spec_FormatInt_ok (k : Nat) : OkE Tryd.prog 28 (spec_FormatInt_x k) := by
 intro A R Q x h
 unfold spec_FormatInt_x at h
 split at h
 · obtain ⟨y, hy, hK⟩ := Option.bind_eq_some_iff.1 h
   obtain ⟨r, hr, hd⟩ := callF_ok envOk (spec_FormatInt_Ok k) follows Tryd.func28 (by kernel_rfl) ((spec_FormatInt_e k _).trans hy)
   exact ⟨_, spec_FormatInt_i hd ▸ hr.fin [], hK⟩
 · cases h
/-! ### spec.FormatAct: function 7 -/
noncomputable def spec_FormatAct_s0 (k : Nat)  (a : Deed) (J : ByteArray → Int → Option (ByteArray × Bool)) (x0_0 : ByteArray) (x0_1 : Int) : Option (ByteArray × Bool) :=
 cond (decide ((x0_1 : Int) < (([0, 1, 1, 1, 0, 2, 1]).getD (Int.toNat a.Kind) 0)))
 (if (x0_0).size + ((ByteArray.mk #[32])).size ≤ 9223372036854775807 then
  if 0 ≤ (x0_1 : Int) ∧ (x0_1 : Int) < (([a.A, a.B]).length : Int) then
   (spec_FormatInt k (([a.A, a.B]).getD (Int.toNat x0_1) 0)).bind fun y3 =>
    if ((x0_0 ++ (ByteArray.mk #[32]))).size + (y3).size ≤ 9223372036854775807 then
     J ((x0_0 ++ (ByteArray.mk #[32])) ++ y3) (wr (x0_1 + 1)) else none else none else none)
 (some (x0_0, true))
noncomputable def spec_FormatAct_l0 (k : Nat) : Nat → Deed → ByteArray → Int → Option (ByteArray × Bool)
 | 0, a, x0_0, x0_1 => spec_FormatAct_s0 k a (fun _ _ => none) x0_0 x0_1
 | m + 1, a, x0_0, x0_1 => spec_FormatAct_s0 k a (spec_FormatAct_l0 k m a) x0_0 x0_1
noncomputable def spec_FormatAct_m (k : Nat) (J0 : Deed → ByteArray → Int → Option (ByteArray × Bool)) (a : Deed) : Option (ByteArray × Bool) :=
 (spec_ActOk k a).bind fun y1 =>
 cond (!y1)
  (some ((ByteArray.mk #[]), false))
  (if 0 ≤ (a.Kind : Int) ∧ (a.Kind : Int) < (([(ByteArray.mk #[]), (ByteArray.mk #[98, 97, 107, 101]), (ByteArray.mk #[115, 101, 108, 108]), (ByteArray.mk #[99, 104, 101, 97, 112]), (ByteArray.mk #[109, 111, 114, 110, 105, 110, 103]), (ByteArray.mk #[98, 117, 121]), (ByteArray.mk #[102, 108, 111, 117, 114])]).length : Int) then
   if 0 ≤ (a.Kind : Int) ∧ (a.Kind : Int) < (([0, 1, 1, 1, 0, 2, 1]).length : Int) then
    J0 a (([(ByteArray.mk #[]), (ByteArray.mk #[98, 97, 107, 101]), (ByteArray.mk #[115, 101, 108, 108]), (ByteArray.mk #[99, 104, 101, 97, 112]), (ByteArray.mk #[109, 111, 114, 110, 105, 110, 103]), (ByteArray.mk #[98, 117, 121]), (ByteArray.mk #[102, 108, 111, 117, 114])]).getD (Int.toNat a.Kind) (ByteArray.mk #[])) 0 else none else none)
noncomputable def spec_FormatAct (k : Nat) (a : Deed) : Option (ByteArray × Bool) := spec_FormatAct_m k (spec_FormatAct_l0 k k) a
noncomputable def spec_FormatAct_v : Nat → List Nat := fun t => match t with | 7 => [2, 3, 4, 5, 6, 7] | _ => []
noncomputable def spec_FormatAct_O (k : Nat) : Oracle := ofL [(27, spec_ActOk_x k), (28, spec_FormatInt_x k)]
theorem spec_FormatAct_Ok (k : Nat) : OkO (Ct Tryd.prog) (spec_FormatAct_O k) := okO_cons (spec_ActOk_ok k) (okO_cons (spec_FormatInt_ok k) (okO_nil))
noncomputable def spec_FormatAct_A (a : Deed) : Pk := ⟨[(.ag [(.v (.int .i64 a.Kind)), (.v (.int .i64 a.A)), (.v (.int .i64 a.B))])], []⟩
noncomputable def spec_FormatAct_d : Rs → Option (ByteArray × Bool)
 | ⟨(.tp [(.sc (.v (.string r1))), (.sc (.v (.bool r2)))]), []⟩ => some (r1, r2)
 | _ => none
theorem spec_FormatAct_i {r : Rs} {y : ByteArray × Bool} (h : spec_FormatAct_d r = some y) : r = ⟨(.tp [(.sc (.v (.string y.1))), (.sc (.v (.bool y.2)))]), []⟩ := by
 unfold spec_FormatAct_d at h; split at h
 · cases h; rfl
 · cases h
noncomputable def spec_FormatAct_h0 (k m : Nat) (a : Deed) (x0_0 : ByteArray) (x0_1 : Int) : Option (ByteArray × Bool) := hdAt env (spec_FormatAct_O k) spec_FormatAct_v Tryd.f7 0 (fun r => spec_FormatAct_d (r.fin 0 [])) [1, 1, 1, 1, 1, 0, 1, 0] k m ⟨tmF [2, 3, 4, 5, 6, 7] [(.a (.sc (.v (.string (ByteArray.mk #[]))))), (.a (.sc (.v (.bool false)))), (.a (.sc (.v (.string x0_0)))), (.a (.sc (.v (.int .i64 (([0, 1, 1, 1, 0, 2, 1]).getD (Int.toNat a.Kind) 0))))), (.a (.sc (.sl 0))), (.a (.sc (.v (.int .i64 x0_1))))], blF [(.row true K.ki64 ([a.A, a.B]))]⟩
theorem spec_FormatAct_z0 (k : Nat) (a : Deed) (x0_0 : ByteArray) (x0_1 : Int) : spec_FormatAct_h0 k 0 a x0_0 x0_1 = spec_FormatAct_s0 k a (fun _ _ => none) x0_0 x0_1 := by kernel_rfl
theorem spec_FormatAct_g0 (k : Nat) (H : St → Option (ByteArray × Bool)) (a : Deed) (x0_0 : ByteArray) (x0_1 : Int) : rnd env (spec_FormatAct_O k) spec_FormatAct_v Tryd.f7 0 (fun r => spec_FormatAct_d (r.fin 0 [])) [1, 1, 1, 1, 1, 0, 1, 0] k H ⟨tmF [2, 3, 4, 5, 6, 7] [(.a (.sc (.v (.string (ByteArray.mk #[]))))), (.a (.sc (.v (.bool false)))), (.a (.sc (.v (.string x0_0)))), (.a (.sc (.v (.int .i64 (([0, 1, 1, 1, 0, 2, 1]).getD (Int.toNat a.Kind) 0))))), (.a (.sc (.sl 0))), (.a (.sc (.v (.int .i64 x0_1))))], blF [(.row true K.ki64 ([a.A, a.B]))]⟩ = spec_FormatAct_s0 k a (fun x0_0 x0_1 => H ⟨tmF [2, 3, 4, 5, 6, 7] [(.a (.sc (.v (.string (ByteArray.mk #[]))))), (.a (.sc (.v (.bool false)))), (.a (.sc (.v (.string x0_0)))), (.a (.sc (.v (.int .i64 (([0, 1, 1, 1, 0, 2, 1]).getD (Int.toNat a.Kind) 0))))), (.a (.sc (.sl 0))), (.a (.sc (.v (.int .i64 x0_1))))], blF [(.row true K.ki64 ([a.A, a.B]))]⟩) x0_0 x0_1 := by kernel_rfl
theorem spec_FormatAct_n0 (k m : Nat) (a : Deed) (x0_0 : ByteArray) (x0_1 : Int) : spec_FormatAct_h0 k (m + 1) a x0_0 x0_1 = spec_FormatAct_s0 k a (spec_FormatAct_h0 k m a) x0_0 x0_1 := (hdAt_succ _ _ _ _ _ _ _ _ _ _).trans (spec_FormatAct_g0 k _ a x0_0 x0_1)
theorem spec_FormatAct_q0 (k : Nat) : ∀ m, spec_FormatAct_h0 k m = spec_FormatAct_l0 k m := by
 intro m
 induction m with
 | zero => funext a x0_0 x0_1; rw [spec_FormatAct_z0]; rfl
 | succ m ih => funext a x0_0 x0_1; rw [spec_FormatAct_n0, ih]; rfl
theorem spec_FormatAct_e (k : Nat) (a : Deed) : callF env (spec_FormatAct_O k) spec_FormatAct_v Tryd.f7 (k + 1) (spec_FormatAct_A a) (fun r => spec_FormatAct_d (r.fin 0 [])) = spec_FormatAct k a := by
 have e : callF env (spec_FormatAct_O k) spec_FormatAct_v Tryd.f7 (k + 1) (spec_FormatAct_A a) (fun r => spec_FormatAct_d (r.fin 0 [])) = spec_FormatAct_m k (spec_FormatAct_h0 k k) a := by kernel_rfl
 rw [e, spec_FormatAct_q0]; rfl
noncomputable def spec_FormatAct_x (k : Nat) : Ent1 := fun A R Q => match A with
 | ⟨[(.ag [(.v (.int .i64 a1)), (.v (.int .i64 a2)), (.v (.int .i64 a3))])], []⟩ => (spec_FormatAct k (⟨a1, a2, a3⟩ : Deed)).bind fun y => Q ⟨(.tp [(.sc (.v (.string y.1))), (.sc (.v (.bool y.2)))]), []⟩
 | _ => none
theorem spec_FormatAct_ok (k : Nat) : OkE Tryd.prog 7 (spec_FormatAct_x k) := by
 intro A R Q x h
 unfold spec_FormatAct_x at h
 split at h
 · obtain ⟨y, hy, hK⟩ := Option.bind_eq_some_iff.1 h
   obtain ⟨r, hr, hd⟩ := callF_ok envOk (spec_FormatAct_Ok k) follows Tryd.func7 (by kernel_rfl) ((spec_FormatAct_e k _).trans hy)
   exact ⟨_, spec_FormatAct_i hd ▸ hr.fin [], hK⟩
 · cases h
/-! ### impl.in: function 58 -/
noncomputable def impl_in (k : Nat)  (n : Int) (low : Int) (high : Int) : Option (Bool) :=
 cond (decide ((low : Int) ≤ n))
 (some (decide ((n : Int) ≤ high)))
 (some false)
noncomputable def impl_in_v : Nat → List Nat := fun t => match t with | _ => []
noncomputable def impl_in_O (k : Nat) : Oracle := ofL []
theorem impl_in_Ok (k : Nat) : OkO (Ct Tryd.prog) (impl_in_O k) := okO_nil
noncomputable def impl_in_A (n : Int) (low : Int) (high : Int) : Pk := ⟨[(.sc (.v (.int .i64 n))), (.sc (.v (.int .i64 low))), (.sc (.v (.int .i64 high)))], []⟩
noncomputable def impl_in_d : Rs → Option (Bool)
 | ⟨(.a (.sc (.v (.bool r1)))), []⟩ => some r1
 | _ => none
theorem impl_in_i {r : Rs} {y : Bool} (h : impl_in_d r = some y) : r = ⟨(.a (.sc (.v (.bool y)))), []⟩ := by
 unfold impl_in_d at h; split at h
 · cases h; rfl
 · cases h
theorem impl_in_e (k : Nat) (n : Int) (low : Int) (high : Int) : callF env (impl_in_O k) impl_in_v Tryd.f58 (k + 1) (impl_in_A n low high) (fun r => impl_in_d (r.fin 0 [])) = impl_in k n low high := by kernel_rfl
noncomputable def impl_in_x (k : Nat) : Ent1 := fun A R Q => match A with
 | ⟨[(.sc (.v (.int .i64 a1))), (.sc (.v (.int .i64 a2))), (.sc (.v (.int .i64 a3)))], []⟩ => (impl_in k a1 a2 a3).bind fun y => Q ⟨(.a (.sc (.v (.bool y)))), []⟩
 | _ => none
theorem impl_in_ok (k : Nat) : OkE Tryd.prog 58 (impl_in_x k) := by
 intro A R Q x h
 unfold impl_in_x at h
 split at h
 · obtain ⟨y, hy, hK⟩ := Option.bind_eq_some_iff.1 h
   obtain ⟨r, hr, hd⟩ := callF_ok envOk (impl_in_Ok k) follows Tryd.func58 (by kernel_rfl) ((impl_in_e k _ _ _).trans hy)
   exact ⟨_, impl_in_i hd ▸ hr.fin [], hK⟩
 · cases h
/-! ### impl.ActOk: function 29 -/
noncomputable def impl_ActOk (k : Nat)  (a : Deed) : Option (Bool) :=
 cond (decide ((a.Kind : Int) = 1))
 (cond (decide ((a.Kind : Int) = 1))
  ((impl_in k a.A 0 1000).bind fun y1 =>
   cond y1
    (some (decide ((a.B : Int) = 0)))
    (some false))
  (cond (decide ((a.Kind : Int) = 4))
   (cond (decide ((a.A : Int) = 0))
    (some (decide ((a.B : Int) = 0)))
    (some false))
   (cond (decide ((a.Kind : Int) = 5))
    ((impl_in k a.A 0 3).bind fun y2 =>
     cond y2
      ((impl_in k a.B 0 100000).bind fun y3 =>
       some y3)
      (some false))
    (some false))))
 (cond (decide ((a.Kind : Int) = 2))
  (cond (decide ((a.Kind : Int) = 2))
   ((impl_in k a.A 0 1000).bind fun y4 =>
    cond y4
     (some (decide ((a.B : Int) = 0)))
     (some false))
   (cond (decide ((a.Kind : Int) = 4))
    (cond (decide ((a.A : Int) = 0))
     (some (decide ((a.B : Int) = 0)))
     (some false))
    (cond (decide ((a.Kind : Int) = 5))
     ((impl_in k a.A 0 3).bind fun y5 =>
      cond y5
       ((impl_in k a.B 0 100000).bind fun y6 =>
        some y6)
       (some false))
     (some false))))
  (cond (decide ((a.Kind : Int) = 3))
   (cond (decide ((a.Kind : Int) = 3))
    ((impl_in k a.A 0 1000).bind fun y7 =>
     cond y7
      (some (decide ((a.B : Int) = 0)))
      (some false))
    (cond (decide ((a.Kind : Int) = 4))
     (cond (decide ((a.A : Int) = 0))
      (some (decide ((a.B : Int) = 0)))
      (some false))
     (cond (decide ((a.Kind : Int) = 5))
      ((impl_in k a.A 0 3).bind fun y8 =>
       cond y8
        ((impl_in k a.B 0 100000).bind fun y9 =>
        some y9)
        (some false))
      (some false))))
   (cond (decide ((a.Kind : Int) = 6))
    ((impl_in k a.A 0 1000).bind fun y10 =>
     cond y10
      (some (decide ((a.B : Int) = 0)))
      (some false))
    (cond (decide ((a.Kind : Int) = 4))
     (cond (decide ((a.A : Int) = 0))
      (some (decide ((a.B : Int) = 0)))
      (some false))
     (cond (decide ((a.Kind : Int) = 5))
      ((impl_in k a.A 0 3).bind fun y11 =>
       cond y11
        ((impl_in k a.B 0 100000).bind fun y12 =>
        some y12)
        (some false))
      (some false))))))
noncomputable def impl_ActOk_v : Nat → List Nat := fun t => match t with | _ => []
noncomputable def impl_ActOk_O (k : Nat) : Oracle := ofL [(58, impl_in_x k)]
theorem impl_ActOk_Ok (k : Nat) : OkO (Ct Tryd.prog) (impl_ActOk_O k) := okO_cons (impl_in_ok k) (okO_nil)
noncomputable def impl_ActOk_A (a : Deed) : Pk := ⟨[(.ag [(.v (.int .i64 a.Kind)), (.v (.int .i64 a.A)), (.v (.int .i64 a.B))])], []⟩
noncomputable def impl_ActOk_d : Rs → Option (Bool)
 | ⟨(.a (.sc (.v (.bool r1)))), []⟩ => some r1
 | _ => none
theorem impl_ActOk_i {r : Rs} {y : Bool} (h : impl_ActOk_d r = some y) : r = ⟨(.a (.sc (.v (.bool y)))), []⟩ := by
 unfold impl_ActOk_d at h; split at h
 · cases h; rfl
 · cases h
theorem impl_ActOk_e (k : Nat) (a : Deed) : callF env (impl_ActOk_O k) impl_ActOk_v Tryd.f29 (k + 1) (impl_ActOk_A a) (fun r => impl_ActOk_d (r.fin 0 [])) = impl_ActOk k a := by kernel_rfl
noncomputable def impl_ActOk_x (k : Nat) : Ent1 := fun A R Q => match A with
 | ⟨[(.ag [(.v (.int .i64 a1)), (.v (.int .i64 a2)), (.v (.int .i64 a3))])], []⟩ => (impl_ActOk k (⟨a1, a2, a3⟩ : Deed)).bind fun y => Q ⟨(.a (.sc (.v (.bool y)))), []⟩
 | _ => none
theorem impl_ActOk_ok (k : Nat) : OkE Tryd.prog 29 (impl_ActOk_x k) := by
 intro A R Q x h
 unfold impl_ActOk_x at h
 split at h
 · obtain ⟨y, hy, hK⟩ := Option.bind_eq_some_iff.1 h
   obtain ⟨r, hr, hd⟩ := callF_ok envOk (impl_ActOk_Ok k) follows Tryd.func29 (by kernel_rfl) ((impl_ActOk_e k _).trans hy)
   exact ⟨_, impl_ActOk_i hd ▸ hr.fin [], hK⟩
 · cases h
/-! ### impl.actWords: function 31 -/
noncomputable def impl_actWords (k : Nat)  : Option ((List ByteArray)) :=
 some ([(ByteArray.mk #[98, 97, 107, 101]), (ByteArray.mk #[115, 101, 108, 108]), (ByteArray.mk #[99, 104, 101, 97, 112]), (ByteArray.mk #[109, 111, 114, 110, 105, 110, 103]), (ByteArray.mk #[98, 117, 121]), (ByteArray.mk #[102, 108, 111, 117, 114])])
noncomputable def impl_actWords_v : Nat → List Nat := fun t => match t with | _ => []
noncomputable def impl_actWords_O (k : Nat) : Oracle := ofL []
theorem impl_actWords_Ok (k : Nat) : OkO (Ct Tryd.prog) (impl_actWords_O k) := okO_nil
noncomputable def impl_actWords_A : Pk := ⟨[], []⟩
noncomputable def impl_actWords_d : Rs → Option ((List ByteArray))
 | ⟨(.a (.sc (.sl 0))), [(.row true K.kstr r1)]⟩ => some r1
 | _ => none
theorem impl_actWords_i {r : Rs} {y : (List ByteArray)} (h : impl_actWords_d r = some y) : r = ⟨(.a (.sc (.sl 0))), [(.row true K.kstr y)]⟩ := by
 unfold impl_actWords_d at h; split at h
 · cases h; rfl
 · cases h
theorem impl_actWords_e (k : Nat) : callF env (impl_actWords_O k) impl_actWords_v Tryd.f31 (k + 1) (impl_actWords_A) (fun r => impl_actWords_d (r.fin 0 [])) = impl_actWords k := by kernel_rfl
noncomputable def impl_actWords_x (k : Nat) : Ent1 := fun A R Q => match A with
 | ⟨[], []⟩ => (impl_actWords k).bind fun y => Q ⟨(.a (.sc (.sl 0))), [(.row true K.kstr y)]⟩
 | _ => none
theorem impl_actWords_ok (k : Nat) : OkE Tryd.prog 31 (impl_actWords_x k) := by
 intro A R Q x h
 unfold impl_actWords_x at h
 split at h
 · obtain ⟨y, hy, hK⟩ := Option.bind_eq_some_iff.1 h
   obtain ⟨r, hr, hd⟩ := callF_ok envOk (impl_actWords_Ok k) follows Tryd.func31 (by kernel_rfl) ((impl_actWords_e k).trans hy)
   exact ⟨_, impl_actWords_i hd ▸ hr.fin [], hK⟩
 · cases h
/-! ### impl.actNumbers: function 32 -/
noncomputable def impl_actNumbers (k : Nat)  : Option ((List Int)) :=
 some ([1, 1, 1, 0, 2, 1])
noncomputable def impl_actNumbers_v : Nat → List Nat := fun t => match t with | _ => []
noncomputable def impl_actNumbers_O (k : Nat) : Oracle := ofL []
theorem impl_actNumbers_Ok (k : Nat) : OkO (Ct Tryd.prog) (impl_actNumbers_O k) := okO_nil
noncomputable def impl_actNumbers_A : Pk := ⟨[], []⟩
noncomputable def impl_actNumbers_d : Rs → Option ((List Int))
 | ⟨(.a (.sc (.sl 0))), [(.row true K.ki64 r1)]⟩ => some r1
 | _ => none
theorem impl_actNumbers_i {r : Rs} {y : (List Int)} (h : impl_actNumbers_d r = some y) : r = ⟨(.a (.sc (.sl 0))), [(.row true K.ki64 y)]⟩ := by
 unfold impl_actNumbers_d at h; split at h
 · cases h; rfl
 · cases h
theorem impl_actNumbers_e (k : Nat) : callF env (impl_actNumbers_O k) impl_actNumbers_v Tryd.f32 (k + 1) (impl_actNumbers_A) (fun r => impl_actNumbers_d (r.fin 0 [])) = impl_actNumbers k := by kernel_rfl
noncomputable def impl_actNumbers_x (k : Nat) : Ent1 := fun A R Q => match A with
 | ⟨[], []⟩ => (impl_actNumbers k).bind fun y => Q ⟨(.a (.sc (.sl 0))), [(.row true K.ki64 y)]⟩
 | _ => none
theorem impl_actNumbers_ok (k : Nat) : OkE Tryd.prog 32 (impl_actNumbers_x k) := by
 intro A R Q x h
 unfold impl_actNumbers_x at h
 split at h
 · obtain ⟨y, hy, hK⟩ := Option.bind_eq_some_iff.1 h
   obtain ⟨r, hr, hd⟩ := callF_ok envOk (impl_actNumbers_Ok k) follows Tryd.func32 (by kernel_rfl) ((impl_actNumbers_e k).trans hy)
   exact ⟨_, impl_actNumbers_i hd ▸ hr.fin [], hK⟩
 · cases h
/-! ### impl.FormatInt: function 18 -/
noncomputable def impl_FormatInt (k : Nat)  (n : Int) : Option (ByteArray) :=
 (strconv_Itoa k n).bind fun y1 =>
 some y1
noncomputable def impl_FormatInt_v : Nat → List Nat := fun t => match t with | _ => []
noncomputable def impl_FormatInt_O (k : Nat) : Oracle := ofL [(40, strconv_Itoa_x k)]
theorem impl_FormatInt_Ok (k : Nat) : OkO (Ct Tryd.prog) (impl_FormatInt_O k) := okO_cons (strconv_Itoa_ok k) (okO_nil)
noncomputable def impl_FormatInt_A (n : Int) : Pk := ⟨[(.sc (.v (.int .i64 n)))], []⟩
noncomputable def impl_FormatInt_d : Rs → Option (ByteArray)
 | ⟨(.a (.sc (.v (.string r1)))), []⟩ => some r1
 | _ => none
theorem impl_FormatInt_i {r : Rs} {y : ByteArray} (h : impl_FormatInt_d r = some y) : r = ⟨(.a (.sc (.v (.string y)))), []⟩ := by
 unfold impl_FormatInt_d at h; split at h
 · cases h; rfl
 · cases h
theorem impl_FormatInt_e (k : Nat) (n : Int) : callF env (impl_FormatInt_O k) impl_FormatInt_v Tryd.f18 (k + 1) (impl_FormatInt_A n) (fun r => impl_FormatInt_d (r.fin 0 [])) = impl_FormatInt k n := by kernel_rfl
noncomputable def impl_FormatInt_x (k : Nat) : Ent1 := fun A R Q => match A with
 | ⟨[(.sc (.v (.int .i64 a1)))], []⟩ => (impl_FormatInt k a1).bind fun y => Q ⟨(.a (.sc (.v (.string y)))), []⟩
 | _ => none
theorem impl_FormatInt_ok (k : Nat) : OkE Tryd.prog 18 (impl_FormatInt_x k) := by
 intro A R Q x h
 unfold impl_FormatInt_x at h
 split at h
 · obtain ⟨y, hy, hK⟩ := Option.bind_eq_some_iff.1 h
   obtain ⟨r, hr, hd⟩ := callF_ok envOk (impl_FormatInt_Ok k) follows Tryd.func18 (by kernel_rfl) ((impl_FormatInt_e k _).trans hy)
   exact ⟨_, impl_FormatInt_i hd ▸ hr.fin [], hK⟩
 · cases h
/-! ### impl.told: function 30 -/
noncomputable def impl_told_s0 (k : Nat)  (numbers : (List Int)) (J : Int → (List ByteArray) → Option (ByteArray)) (x0_0 : Int) (x0_1 : (List ByteArray)) : Option (ByteArray) :=
 cond (decide ((x0_0 : Int) < ((numbers).length : Int)))
 (if 0 ≤ (x0_0 : Int) ∧ (x0_0 : Int) < ((numbers).length : Int) then
  (impl_FormatInt k (numbers.getD (Int.toNat x0_0) 0)).bind fun y3 =>
   if (x0_1 : List ByteArray).length + ([y3] : List ByteArray).length ≤ maxRow then
    J (wr (x0_0 + 1)) (x0_1 ++ [y3]) else none else none)
 ((strings_Join k x0_1 (ByteArray.mk #[32])).bind fun y4 =>
  some y4.1)
noncomputable def impl_told_l0 (k : Nat) : Nat → (List Int) → Int → (List ByteArray) → Option (ByteArray)
 | 0, numbers, x0_0, x0_1 => impl_told_s0 k numbers (fun _ _ => none) x0_0 x0_1
 | m + 1, numbers, x0_0, x0_1 => impl_told_s0 k numbers (impl_told_l0 k m numbers) x0_0 x0_1
noncomputable def impl_told_m (k : Nat) (J0 : (List Int) → Int → (List ByteArray) → Option (ByteArray)) (word : ByteArray) (numbers : (List Int)) : Option (ByteArray) :=
 J0 numbers 0 ([word])
noncomputable def impl_told (k : Nat) (word : ByteArray) (numbers : (List Int)) : Option (ByteArray) := impl_told_m k (impl_told_l0 k k) word numbers
noncomputable def impl_told_v : Nat → List Nat := fun t => match t with | 3 => [4, 5, 10, 11, 12] | _ => []
noncomputable def impl_told_O (k : Nat) : Oracle := ofL [(18, impl_FormatInt_x k), (59, strings_Join_x k)]
theorem impl_told_Ok (k : Nat) : OkO (Ct Tryd.prog) (impl_told_O k) := okO_cons (impl_FormatInt_ok k) (okO_cons (strings_Join_ok k) (okO_nil))
noncomputable def impl_told_A (word : ByteArray) (numbers : (List Int)) : Pk := ⟨[(.sc (.v (.string word))), (.sc (.sl 0))], [(.row false K.ki64 numbers)]⟩
noncomputable def impl_told_d : Rs → Option (ByteArray)
 | ⟨(.a (.sc (.v (.string r1)))), [.dead]⟩ => some r1
 | _ => none
theorem impl_told_i {r : Rs} {y : ByteArray} (h : impl_told_d r = some y) : r = ⟨(.a (.sc (.v (.string y)))), [.dead]⟩ := by
 unfold impl_told_d at h; split at h
 · cases h; rfl
 · cases h
noncomputable def impl_told_h0 (k m : Nat) (numbers : (List Int)) (x0_0 : Int) (x0_1 : (List ByteArray)) : Option (ByteArray) := hdAt env (impl_told_O k) impl_told_v Tryd.f30 1 (fun r => impl_told_d (r.fin 1 [])) [1, 1, 0, 1, 0] k m ⟨tmF [4, 5, 10, 11, 12] [(.a (.sc (.v (.string (ByteArray.mk #[]))))), (.a (.sc (.sl 1))), (.a (.sc (.sl 0))), (.a (.sc (.v (.int .i64 ((numbers).length : Int))))), (.a (.sc (.v (.int .i64 x0_0))))], blF [(.row false K.ki64 numbers), (.row true K.kstr x0_1)]⟩
theorem impl_told_z0 (k : Nat) (numbers : (List Int)) (x0_0 : Int) (x0_1 : (List ByteArray)) : impl_told_h0 k 0 numbers x0_0 x0_1 = impl_told_s0 k numbers (fun _ _ => none) x0_0 x0_1 := by kernel_rfl
theorem impl_told_g0 (k : Nat) (H : St → Option (ByteArray)) (numbers : (List Int)) (x0_0 : Int) (x0_1 : (List ByteArray)) : rnd env (impl_told_O k) impl_told_v Tryd.f30 1 (fun r => impl_told_d (r.fin 1 [])) [1, 1, 0, 1, 0] k H ⟨tmF [4, 5, 10, 11, 12] [(.a (.sc (.v (.string (ByteArray.mk #[]))))), (.a (.sc (.sl 1))), (.a (.sc (.sl 0))), (.a (.sc (.v (.int .i64 ((numbers).length : Int))))), (.a (.sc (.v (.int .i64 x0_0))))], blF [(.row false K.ki64 numbers), (.row true K.kstr x0_1)]⟩ = impl_told_s0 k numbers (fun x0_0 x0_1 => H ⟨tmF [4, 5, 10, 11, 12] [(.a (.sc (.v (.string (ByteArray.mk #[]))))), (.a (.sc (.sl 1))), (.a (.sc (.sl 0))), (.a (.sc (.v (.int .i64 ((numbers).length : Int))))), (.a (.sc (.v (.int .i64 x0_0))))], blF [(.row false K.ki64 numbers), (.row true K.kstr x0_1)]⟩) x0_0 x0_1 := by kernel_rfl
theorem impl_told_n0 (k m : Nat) (numbers : (List Int)) (x0_0 : Int) (x0_1 : (List ByteArray)) : impl_told_h0 k (m + 1) numbers x0_0 x0_1 = impl_told_s0 k numbers (impl_told_h0 k m numbers) x0_0 x0_1 := (hdAt_succ _ _ _ _ _ _ _ _ _ _).trans (impl_told_g0 k _ numbers x0_0 x0_1)
theorem impl_told_q0 (k : Nat) : ∀ m, impl_told_h0 k m = impl_told_l0 k m := by
 intro m
 induction m with
 | zero => funext numbers x0_0 x0_1; rw [impl_told_z0]; rfl
 | succ m ih => funext numbers x0_0 x0_1; rw [impl_told_n0, ih]; rfl
theorem impl_told_e (k : Nat) (word : ByteArray) (numbers : (List Int)) : callF env (impl_told_O k) impl_told_v Tryd.f30 (k + 1) (impl_told_A word numbers) (fun r => impl_told_d (r.fin 1 [])) = impl_told k word numbers := by
 have e : callF env (impl_told_O k) impl_told_v Tryd.f30 (k + 1) (impl_told_A word numbers) (fun r => impl_told_d (r.fin 1 [])) = impl_told_m k (impl_told_h0 k k) word numbers := by kernel_rfl
 rw [e, impl_told_q0]; rfl
noncomputable def impl_told_x (k : Nat) : Ent1 := fun A R Q => match A with
 | ⟨[(.sc (.v (.string a1))), (.sc (.sl 0))], [(.row false K.ki64 a2)]⟩ => (impl_told k a1 a2).bind fun y => Q ⟨(.a (.sc (.v (.string y)))), [.dead]⟩
 | _ => none
theorem impl_told_ok (k : Nat) : OkE Tryd.prog 30 (impl_told_x k) := by
 intro A R Q x h
 unfold impl_told_x at h
 split at h
 · obtain ⟨y, hy, hK⟩ := Option.bind_eq_some_iff.1 h
   obtain ⟨r, hr, hd⟩ := callF_ok envOk (impl_told_Ok k) follows Tryd.func30 (by kernel_rfl) ((impl_told_e k _ _).trans hy)
   exact ⟨_, impl_told_i hd ▸ hr.fin [], hK⟩
 · cases h
/-! ### impl.FormatAct: function 9 -/
noncomputable def impl_FormatAct (k : Nat)  (a : Deed) : Option (ByteArray × Bool) :=
 (impl_ActOk k a).bind fun y1 =>
 cond (!y1)
  (some ((ByteArray.mk #[]), false))
  ((impl_actWords k).bind fun y2 =>
   if 0 ≤ ((wr (a.Kind - 1)) : Int) ∧ ((wr (a.Kind - 1)) : Int) < ((y2).length : Int) then
    (impl_actNumbers k).bind fun y3 =>
     if 0 ≤ ((wr (a.Kind - 1)) : Int) ∧ ((wr (a.Kind - 1)) : Int) < ((y3).length : Int) then
      if (0 : Int) ≤ 0 ∧ 0 ≤ (y3.getD (Int.toNat (wr (a.Kind - 1))) 0) ∧ (y3.getD (Int.toNat (wr (a.Kind - 1))) 0) ≤ (([a.A, a.B]).length : Int) then
       (impl_told k (y2.getD (Int.toNat (wr (a.Kind - 1))) (ByteArray.mk #[])) ((([a.A, a.B]).take (Int.toNat (y3.getD (Int.toNat (wr (a.Kind - 1))) 0))).drop 0)).bind fun y4 =>
        some (y4, true) else none else none else none)
noncomputable def impl_FormatAct_v : Nat → List Nat := fun t => match t with | _ => []
noncomputable def impl_FormatAct_O (k : Nat) : Oracle := ofL [(29, impl_ActOk_x k), (30, impl_told_x k), (31, impl_actWords_x k), (32, impl_actNumbers_x k)]
theorem impl_FormatAct_Ok (k : Nat) : OkO (Ct Tryd.prog) (impl_FormatAct_O k) := okO_cons (impl_ActOk_ok k) (okO_cons (impl_told_ok k) (okO_cons (impl_actWords_ok k) (okO_cons (impl_actNumbers_ok k) (okO_nil))))
noncomputable def impl_FormatAct_A (a : Deed) : Pk := ⟨[(.ag [(.v (.int .i64 a.Kind)), (.v (.int .i64 a.A)), (.v (.int .i64 a.B))])], []⟩
noncomputable def impl_FormatAct_d : Rs → Option (ByteArray × Bool)
 | ⟨(.tp [(.sc (.v (.string r1))), (.sc (.v (.bool r2)))]), []⟩ => some (r1, r2)
 | _ => none
theorem impl_FormatAct_i {r : Rs} {y : ByteArray × Bool} (h : impl_FormatAct_d r = some y) : r = ⟨(.tp [(.sc (.v (.string y.1))), (.sc (.v (.bool y.2)))]), []⟩ := by
 unfold impl_FormatAct_d at h; split at h
 · cases h; rfl
 · cases h
theorem impl_FormatAct_e (k : Nat) (a : Deed) : callD env (impl_FormatAct_O k) impl_FormatAct_v Tryd.f9 (k + 1) (impl_FormatAct_A a) (fun r => impl_FormatAct_d (r.fin 0 [])) = impl_FormatAct k a := by kernel_rfl
noncomputable def impl_FormatAct_x (k : Nat) : Ent1 := fun A R Q => match A with
 | ⟨[(.ag [(.v (.int .i64 a1)), (.v (.int .i64 a2)), (.v (.int .i64 a3))])], []⟩ => (impl_FormatAct k (⟨a1, a2, a3⟩ : Deed)).bind fun y => Q ⟨(.tp [(.sc (.v (.string y.1))), (.sc (.v (.bool y.2)))]), []⟩
 | _ => none
theorem impl_FormatAct_ok (k : Nat) : OkE Tryd.prog 9 (impl_FormatAct_x k) := by
 intro A R Q x h
 unfold impl_FormatAct_x at h
 split at h
 · obtain ⟨y, hy, hK⟩ := Option.bind_eq_some_iff.1 h
   obtain ⟨r, hr, hd⟩ := callD_ok envOk (impl_FormatAct_Ok k) follows Tryd.func9 (by kernel_rfl) ((impl_FormatAct_e k _).trans hy)
   exact ⟨_, impl_FormatAct_i hd ▸ hr.fin [], hK⟩
 · cases h
/-! ### laws.FnExactFormatAct: function 3 -/
noncomputable def laws_FnExactFormatAct (k : Nat)  (aA : Deed) : Option (Bool) :=
 (laws_toAct k aA).bind fun y1 =>
 (spec_FormatAct k y1).bind fun y2 =>
  (laws_toAct k aA).bind fun y3 =>
   (impl_FormatAct k y3).bind fun y4 =>
    cond (!(decide ((y4.1 : ByteArray) = y2.1)))
     (some false)
     (cond (!(y4.2 == y2.2))
      (some false)
      (some true))
noncomputable def laws_FnExactFormatAct_v : Nat → List Nat := fun t => match t with | _ => []
noncomputable def laws_FnExactFormatAct_O (k : Nat) : Oracle := ofL [(7, spec_FormatAct_x k), (8, laws_toAct_x k), (9, impl_FormatAct_x k)]
theorem laws_FnExactFormatAct_Ok (k : Nat) : OkO (Ct Tryd.prog) (laws_FnExactFormatAct_O k) := okO_cons (spec_FormatAct_ok k) (okO_cons (laws_toAct_ok k) (okO_cons (impl_FormatAct_ok k) (okO_nil)))
noncomputable def laws_FnExactFormatAct_A (aA : Deed) : Pk := ⟨[(.ag [(.v (.int .i64 aA.Kind)), (.v (.int .i64 aA.A)), (.v (.int .i64 aA.B))])], []⟩
noncomputable def laws_FnExactFormatAct_d : Rs → Option (Bool)
 | ⟨(.a (.sc (.v (.bool r1)))), []⟩ => some r1
 | _ => none
theorem laws_FnExactFormatAct_i {r : Rs} {y : Bool} (h : laws_FnExactFormatAct_d r = some y) : r = ⟨(.a (.sc (.v (.bool y)))), []⟩ := by
 unfold laws_FnExactFormatAct_d at h; split at h
 · cases h; rfl
 · cases h
theorem laws_FnExactFormatAct_e (k : Nat) (aA : Deed) : callF env (laws_FnExactFormatAct_O k) laws_FnExactFormatAct_v Tryd.f3 (k + 1) (laws_FnExactFormatAct_A aA) (fun r => laws_FnExactFormatAct_d (r.fin 0 [])) = laws_FnExactFormatAct k aA := by kernel_rfl
noncomputable def laws_FnExactFormatAct_x (k : Nat) : Ent1 := fun A R Q => match A with
 | ⟨[(.ag [(.v (.int .i64 a1)), (.v (.int .i64 a2)), (.v (.int .i64 a3))])], []⟩ => (laws_FnExactFormatAct k (⟨a1, a2, a3⟩ : Deed)).bind fun y => Q ⟨(.a (.sc (.v (.bool y)))), []⟩
 | _ => none
theorem laws_FnExactFormatAct_ok (k : Nat) : OkE Tryd.prog 3 (laws_FnExactFormatAct_x k) := by
 intro A R Q x h
 unfold laws_FnExactFormatAct_x at h
 split at h
 · obtain ⟨y, hy, hK⟩ := Option.bind_eq_some_iff.1 h
   obtain ⟨r, hr, hd⟩ := callF_ok envOk (laws_FnExactFormatAct_Ok k) follows Tryd.func3 (by kernel_rfl) ((laws_FnExactFormatAct_e k _).trans hy)
   exact ⟨_, laws_FnExactFormatAct_i hd ▸ hr.fin [], hK⟩
 · cases h
/-! ### laws.szIntS: function 71 -/
noncomputable def laws_szIntS (k : Nat)  (a : (List Int)) (left : Int) : Option (Int) :=
 cond (decide (((wr (left - ((a).length : Int))) : Int) < 0))
 (some (-1))
 (some (wr (left - ((a).length : Int))))
noncomputable def laws_szIntS_v : Nat → List Nat := fun t => match t with | _ => []
noncomputable def laws_szIntS_O (k : Nat) : Oracle := ofL []
theorem laws_szIntS_Ok (k : Nat) : OkO (Ct Tryd.prog) (laws_szIntS_O k) := okO_nil
noncomputable def laws_szIntS_A (a : (List Int)) (left : Int) : Pk := ⟨[(.sc (.sl 0)), (.sc (.v (.int .i64 left)))], [(.row false K.ki64 a)]⟩
noncomputable def laws_szIntS_d : Rs → Option (Int)
 | ⟨(.a (.sc (.v (.int .i64 r1)))), [.dead]⟩ => some r1
 | _ => none
theorem laws_szIntS_i {r : Rs} {y : Int} (h : laws_szIntS_d r = some y) : r = ⟨(.a (.sc (.v (.int .i64 y)))), [.dead]⟩ := by
 unfold laws_szIntS_d at h; split at h
 · cases h; rfl
 · cases h
theorem laws_szIntS_e (k : Nat) (a : (List Int)) (left : Int) : callF env (laws_szIntS_O k) laws_szIntS_v Tryd.f71 (k + 1) (laws_szIntS_A a left) (fun r => laws_szIntS_d (r.fin 1 [])) = laws_szIntS k a left := by kernel_rfl
noncomputable def laws_szIntS_x (k : Nat) : Ent1 := fun A R Q => match A with
 | ⟨[(.sc (.sl 0)), (.sc (.v (.int .i64 a2)))], [(.row false K.ki64 a1)]⟩ => (laws_szIntS k a1 a2).bind fun y => Q ⟨(.a (.sc (.v (.int .i64 y)))), [.dead]⟩
 | _ => none
theorem laws_szIntS_ok (k : Nat) : OkE Tryd.prog 71 (laws_szIntS_x k) := by
 intro A R Q x h
 unfold laws_szIntS_x at h
 split at h
 · obtain ⟨y, hy, hK⟩ := Option.bind_eq_some_iff.1 h
   obtain ⟨r, hr, hd⟩ := callF_ok envOk (laws_szIntS_Ok k) follows Tryd.func71 (by kernel_rfl) ((laws_szIntS_e k _ _).trans hy)
   exact ⟨_, laws_szIntS_i hd ▸ hr.fin [], hK⟩
 · cases h
/-! ### laws.szStock: function 41 -/
noncomputable def laws_szStock (k : Nat)  (a : Stock) (left : Int) : Option (Int) :=
 (laws_szIntS k a.Grams left).bind fun y1 =>
 cond (decide ((y1 : Int) < 0))
  (some (-1))
  (some y1)
noncomputable def laws_szStock_v : Nat → List Nat := fun t => match t with | _ => []
noncomputable def laws_szStock_O (k : Nat) : Oracle := ofL [(71, laws_szIntS_x k)]
theorem laws_szStock_Ok (k : Nat) : OkO (Ct Tryd.prog) (laws_szStock_O k) := okO_cons (laws_szIntS_ok k) (okO_nil)
noncomputable def laws_szStock_A (a : Stock) (left : Int) : Pk := ⟨[(.ag [(.sl 0)]), (.sc (.v (.int .i64 left)))], [(.row false K.ki64 a.Grams)]⟩
noncomputable def laws_szStock_d : Rs → Option (Int)
 | ⟨(.a (.sc (.v (.int .i64 r1)))), [.dead]⟩ => some r1
 | _ => none
theorem laws_szStock_i {r : Rs} {y : Int} (h : laws_szStock_d r = some y) : r = ⟨(.a (.sc (.v (.int .i64 y)))), [.dead]⟩ := by
 unfold laws_szStock_d at h; split at h
 · cases h; rfl
 · cases h
theorem laws_szStock_e (k : Nat) (a : Stock) (left : Int) : callF env (laws_szStock_O k) laws_szStock_v Tryd.f41 (k + 1) (laws_szStock_A a left) (fun r => laws_szStock_d (r.fin 1 [])) = laws_szStock k a left := by kernel_rfl
noncomputable def laws_szStock_x (k : Nat) : Ent1 := fun A R Q => match A with
 | ⟨[(.ag [(.sl 0)]), (.sc (.v (.int .i64 a2)))], [(.row false K.ki64 a1)]⟩ => (laws_szStock k (⟨a1⟩ : Stock) a2).bind fun y => Q ⟨(.a (.sc (.v (.int .i64 y)))), [.dead]⟩
 | _ => none
theorem laws_szStock_ok (k : Nat) : OkE Tryd.prog 41 (laws_szStock_x k) := by
 intro A R Q x h
 unfold laws_szStock_x at h
 split at h
 · obtain ⟨y, hy, hK⟩ := Option.bind_eq_some_iff.1 h
   obtain ⟨r, hr, hd⟩ := callF_ok envOk (laws_szStock_Ok k) follows Tryd.func41 (by kernel_rfl) ((laws_szStock_e k _ _).trans hy)
   exact ⟨_, laws_szStock_i hd ▸ hr.fin [], hK⟩
 · cases h
/-! ### laws.szEventS: function 72 -/
noncomputable def laws_szEventS (k : Nat)  (a : (List Event)) (left : Int) : Option (Int) :=
 cond (decide (((wr (left - ((a).length : Int))) : Int) < 0))
 (some (-1))
 (some (wr (left - ((a).length : Int))))
noncomputable def laws_szEventS_v : Nat → List Nat := fun t => match t with | _ => []
noncomputable def laws_szEventS_O (k : Nat) : Oracle := ofL []
theorem laws_szEventS_Ok (k : Nat) : OkO (Ct Tryd.prog) (laws_szEventS_O k) := okO_nil
noncomputable def laws_szEventS_A (a : (List Event)) (left : Int) : Pk := ⟨[(.sc (.sl 0)), (.sc (.v (.int .i64 left)))], [(.row false K.k_laws_Event a)]⟩
noncomputable def laws_szEventS_d : Rs → Option (Int)
 | ⟨(.a (.sc (.v (.int .i64 r1)))), [.dead]⟩ => some r1
 | _ => none
theorem laws_szEventS_i {r : Rs} {y : Int} (h : laws_szEventS_d r = some y) : r = ⟨(.a (.sc (.v (.int .i64 y)))), [.dead]⟩ := by
 unfold laws_szEventS_d at h; split at h
 · cases h; rfl
 · cases h
theorem laws_szEventS_e (k : Nat) (a : (List Event)) (left : Int) : callF env (laws_szEventS_O k) laws_szEventS_v Tryd.f72 (k + 1) (laws_szEventS_A a left) (fun r => laws_szEventS_d (r.fin 1 [])) = laws_szEventS k a left := by kernel_rfl
noncomputable def laws_szEventS_x (k : Nat) : Ent1 := fun A R Q => match A with
 | ⟨[(.sc (.sl 0)), (.sc (.v (.int .i64 a2)))], [(.row false K.k_laws_Event a1)]⟩ => (laws_szEventS k a1 a2).bind fun y => Q ⟨(.a (.sc (.v (.int .i64 y)))), [.dead]⟩
 | _ => none
theorem laws_szEventS_ok (k : Nat) : OkE Tryd.prog 72 (laws_szEventS_x k) := by
 intro A R Q x h
 unfold laws_szEventS_x at h
 split at h
 · obtain ⟨y, hy, hK⟩ := Option.bind_eq_some_iff.1 h
   obtain ⟨r, hr, hd⟩ := callF_ok envOk (laws_szEventS_Ok k) follows Tryd.func72 (by kernel_rfl) ((laws_szEventS_e k _ _).trans hy)
   exact ⟨_, laws_szEventS_i hd ▸ hr.fin [], hK⟩
 · cases h
/-! ### laws.szBook: function 42 -/
noncomputable def laws_szBook (k : Nat)  (a : Book) (left : Int) : Option (Int) :=
 (laws_szEventS k a.Events left).bind fun y1 =>
 cond (decide ((y1 : Int) < 0))
  (some (-1))
  (some y1)
noncomputable def laws_szBook_v : Nat → List Nat := fun t => match t with | _ => []
noncomputable def laws_szBook_O (k : Nat) : Oracle := ofL [(72, laws_szEventS_x k)]
theorem laws_szBook_Ok (k : Nat) : OkO (Ct Tryd.prog) (laws_szBook_O k) := okO_cons (laws_szEventS_ok k) (okO_nil)
noncomputable def laws_szBook_A (a : Book) (left : Int) : Pk := ⟨[(.ag [(.sl 0), (.v (.int .i64 a.Rack.Fresh)), (.v (.int .i64 a.Rack.Day)), (.v (.int .i64 a.Rack.Old)), (.v (.int .i64 a.Baked)), (.v (.int .i64 a.Sold)), (.v (.int .i64 a.Thrown))]), (.sc (.v (.int .i64 left)))], [(.row false K.k_laws_Event a.Events)]⟩
noncomputable def laws_szBook_d : Rs → Option (Int)
 | ⟨(.a (.sc (.v (.int .i64 r1)))), [.dead]⟩ => some r1
 | _ => none
theorem laws_szBook_i {r : Rs} {y : Int} (h : laws_szBook_d r = some y) : r = ⟨(.a (.sc (.v (.int .i64 y)))), [.dead]⟩ := by
 unfold laws_szBook_d at h; split at h
 · cases h; rfl
 · cases h
theorem laws_szBook_e (k : Nat) (a : Book) (left : Int) : callF env (laws_szBook_O k) laws_szBook_v Tryd.f42 (k + 1) (laws_szBook_A a left) (fun r => laws_szBook_d (r.fin 1 [])) = laws_szBook k a left := by kernel_rfl
noncomputable def laws_szBook_x (k : Nat) : Ent1 := fun A R Q => match A with
 | ⟨[(.ag [(.sl 0), (.v (.int .i64 a2)), (.v (.int .i64 a3)), (.v (.int .i64 a4)), (.v (.int .i64 a5)), (.v (.int .i64 a6)), (.v (.int .i64 a7))]), (.sc (.v (.int .i64 a8)))], [(.row false K.k_laws_Event a1)]⟩ => (laws_szBook k (⟨a1, (⟨a2, a3, a4⟩ : Rack), a5, a6, a7⟩ : Book) a8).bind fun y => Q ⟨(.a (.sc (.v (.int .i64 y)))), [.dead]⟩
 | _ => none
theorem laws_szBook_ok (k : Nat) : OkE Tryd.prog 42 (laws_szBook_x k) := by
 intro A R Q x h
 unfold laws_szBook_x at h
 split at h
 · obtain ⟨y, hy, hK⟩ := Option.bind_eq_some_iff.1 h
   obtain ⟨r, hr, hd⟩ := callF_ok envOk (laws_szBook_Ok k) follows Tryd.func42 (by kernel_rfl) ((laws_szBook_e k _ _).trans hy)
   exact ⟨_, laws_szBook_i hd ▸ hr.fin [], hK⟩
 · cases h
/-! ### laws.szBakery: function 19 -/
noncomputable def laws_szBakery (k : Nat)  (a : Bakery) (left : Int) : Option (Int) :=
 (laws_szStock k a.Stock left).bind fun y1 =>
 cond (decide ((y1 : Int) < 0))
  (some (-1))
  ((laws_szBook k a.Book y1).bind fun y2 =>
   cond (decide ((y2 : Int) < 0))
    (some (-1))
    (some y2))
noncomputable def laws_szBakery_v : Nat → List Nat := fun t => match t with | _ => []
noncomputable def laws_szBakery_O (k : Nat) : Oracle := ofL [(41, laws_szStock_x k), (42, laws_szBook_x k)]
theorem laws_szBakery_Ok (k : Nat) : OkO (Ct Tryd.prog) (laws_szBakery_O k) := okO_cons (laws_szStock_ok k) (okO_cons (laws_szBook_ok k) (okO_nil))
noncomputable def laws_szBakery_A (a : Bakery) (left : Int) : Pk := ⟨[(.ag [(.sl 0), (.v (.int .i64 a.Dough.Water)), (.v (.int .i64 a.Dough.Salt)), (.v (.int .i64 a.Dough.Leaven)), (.v (.int .i64 a.Loaf.Weight)), (.v (.int .i64 a.Loaf.Loss)), (.sl 1), (.v (.int .i64 a.Book.Rack.Fresh)), (.v (.int .i64 a.Book.Rack.Day)), (.v (.int .i64 a.Book.Rack.Old)), (.v (.int .i64 a.Book.Baked)), (.v (.int .i64 a.Book.Sold)), (.v (.int .i64 a.Book.Thrown)), (.v (.int .i64 a.Money))]), (.sc (.v (.int .i64 left)))], [(.row false K.ki64 a.Stock.Grams), (.row false K.k_laws_Event a.Book.Events)]⟩
noncomputable def laws_szBakery_d : Rs → Option (Int)
 | ⟨(.a (.sc (.v (.int .i64 r1)))), [.dead, .dead]⟩ => some r1
 | _ => none
theorem laws_szBakery_i {r : Rs} {y : Int} (h : laws_szBakery_d r = some y) : r = ⟨(.a (.sc (.v (.int .i64 y)))), [.dead, .dead]⟩ := by
 unfold laws_szBakery_d at h; split at h
 · cases h; rfl
 · cases h
theorem laws_szBakery_e (k : Nat) (a : Bakery) (left : Int) : callF env (laws_szBakery_O k) laws_szBakery_v Tryd.f19 (k + 1) (laws_szBakery_A a left) (fun r => laws_szBakery_d (r.fin 2 [])) = laws_szBakery k a left := by kernel_rfl
noncomputable def laws_szBakery_x (k : Nat) : Ent1 := fun A R Q => match A with
 | ⟨[(.ag [(.sl 0), (.v (.int .i64 a2)), (.v (.int .i64 a3)), (.v (.int .i64 a4)), (.v (.int .i64 a5)), (.v (.int .i64 a6)), (.sl 1), (.v (.int .i64 a8)), (.v (.int .i64 a9)), (.v (.int .i64 a10)), (.v (.int .i64 a11)), (.v (.int .i64 a12)), (.v (.int .i64 a13)), (.v (.int .i64 a14))]), (.sc (.v (.int .i64 a15)))], [(.row false K.ki64 a1), (.row false K.k_laws_Event a7)]⟩ => (laws_szBakery k (⟨(⟨a1⟩ : Stock), (⟨a2, a3, a4⟩ : Dough), (⟨a5, a6⟩ : Loaf), (⟨a7, (⟨a8, a9, a10⟩ : Rack), a11, a12, a13⟩ : Book), a14⟩ : Bakery) a15).bind fun y => Q ⟨(.a (.sc (.v (.int .i64 y)))), [.dead, .dead]⟩
 | _ => none
theorem laws_szBakery_ok (k : Nat) : OkE Tryd.prog 19 (laws_szBakery_x k) := by
 intro A R Q x h
 unfold laws_szBakery_x at h
 split at h
 · obtain ⟨y, hy, hK⟩ := Option.bind_eq_some_iff.1 h
   obtain ⟨r, hr, hd⟩ := callF_ok envOk (laws_szBakery_Ok k) follows Tryd.func19 (by kernel_rfl) ((laws_szBakery_e k _ _).trans hy)
   exact ⟨_, laws_szBakery_i hd ▸ hr.fin [], hK⟩
 · cases h
/-! ### laws.toIntS: function 77 -/
noncomputable def laws_toIntS_s0 (k : Nat)  (a : (List Int)) (J : Int → (List Int) → Option ((List Int))) (x0_0 : Int) (x0_1 : (List Int)) : Option ((List Int)) :=
 cond (decide ((x0_0 : Int) < ((a).length : Int)))
 (if 0 ≤ (x0_0 : Int) ∧ (x0_0 : Int) < ((a).length : Int) then
  if 0 ≤ (x0_0 : Int) ∧ (x0_0 : Int) < ((x0_1).length : Int) then
   J (wr (x0_0 + 1)) (x0_1.set (Int.toNat x0_0) (a.getD (Int.toNat x0_0) 0)) else none else none)
 (some x0_1)
noncomputable def laws_toIntS_l0 (k : Nat) : Nat → (List Int) → Int → (List Int) → Option ((List Int))
 | 0, a, x0_0, x0_1 => laws_toIntS_s0 k a (fun _ _ => none) x0_0 x0_1
 | m + 1, a, x0_0, x0_1 => laws_toIntS_s0 k a (laws_toIntS_l0 k m a) x0_0 x0_1
noncomputable def laws_toIntS_m (k : Nat) (J0 : (List Int) → Int → (List Int) → Option ((List Int))) (a : (List Int)) : Option ((List Int)) :=
 if 0 ≤ (((a).length : Int) : Int) ∧ (((a).length : Int) : Int) ≤ (maxRow : Int) then
 J0 a 0 (List.replicate (Int.toNat ((a).length : Int)) 0) else none
noncomputable def laws_toIntS (k : Nat) (a : (List Int)) : Option ((List Int)) := laws_toIntS_m k (laws_toIntS_l0 k k) a
noncomputable def laws_toIntS_v : Nat → List Nat := fun t => match t with | 3 => [0, 2, 3, 4] | _ => []
noncomputable def laws_toIntS_O (k : Nat) : Oracle := ofL []
theorem laws_toIntS_Ok (k : Nat) : OkO (Ct Tryd.prog) (laws_toIntS_O k) := okO_nil
noncomputable def laws_toIntS_A (a : (List Int)) : Pk := ⟨[(.sc (.sl 0))], [(.row false K.ki64 a)]⟩
noncomputable def laws_toIntS_d : Rs → Option ((List Int))
 | ⟨(.a (.sc (.sl 1))), [.dead, (.row true K.ki64 r1)]⟩ => some r1
 | _ => none
theorem laws_toIntS_i {r : Rs} {y : (List Int)} (h : laws_toIntS_d r = some y) : r = ⟨(.a (.sc (.sl 1))), [.dead, (.row true K.ki64 y)]⟩ := by
 unfold laws_toIntS_d at h; split at h
 · cases h; rfl
 · cases h
noncomputable def laws_toIntS_h0 (k m : Nat) (a : (List Int)) (x0_0 : Int) (x0_1 : (List Int)) : Option ((List Int)) := hdAt env (laws_toIntS_O k) laws_toIntS_v Tryd.f77 1 (fun r => laws_toIntS_d (r.fin 1 [])) [1, 1, 0, 1, 0] k m ⟨tmF [0, 2, 3, 4] [(.a (.sc (.sl 0))), (.a (.sc .nl)), (.a (.sc (.sl 1))), (.a (.sc (.v (.int .i64 x0_0))))], blF [(.row false K.ki64 a), (.row true K.ki64 x0_1)]⟩
theorem laws_toIntS_z0 (k : Nat) (a : (List Int)) (x0_0 : Int) (x0_1 : (List Int)) : laws_toIntS_h0 k 0 a x0_0 x0_1 = laws_toIntS_s0 k a (fun _ _ => none) x0_0 x0_1 := by kernel_rfl
theorem laws_toIntS_g0 (k : Nat) (H : St → Option ((List Int))) (a : (List Int)) (x0_0 : Int) (x0_1 : (List Int)) : rnd env (laws_toIntS_O k) laws_toIntS_v Tryd.f77 1 (fun r => laws_toIntS_d (r.fin 1 [])) [1, 1, 0, 1, 0] k H ⟨tmF [0, 2, 3, 4] [(.a (.sc (.sl 0))), (.a (.sc .nl)), (.a (.sc (.sl 1))), (.a (.sc (.v (.int .i64 x0_0))))], blF [(.row false K.ki64 a), (.row true K.ki64 x0_1)]⟩ = laws_toIntS_s0 k a (fun x0_0 x0_1 => H ⟨tmF [0, 2, 3, 4] [(.a (.sc (.sl 0))), (.a (.sc .nl)), (.a (.sc (.sl 1))), (.a (.sc (.v (.int .i64 x0_0))))], blF [(.row false K.ki64 a), (.row true K.ki64 x0_1)]⟩) x0_0 x0_1 := by kernel_rfl
theorem laws_toIntS_n0 (k m : Nat) (a : (List Int)) (x0_0 : Int) (x0_1 : (List Int)) : laws_toIntS_h0 k (m + 1) a x0_0 x0_1 = laws_toIntS_s0 k a (laws_toIntS_h0 k m a) x0_0 x0_1 := (hdAt_succ _ _ _ _ _ _ _ _ _ _).trans (laws_toIntS_g0 k _ a x0_0 x0_1)
theorem laws_toIntS_q0 (k : Nat) : ∀ m, laws_toIntS_h0 k m = laws_toIntS_l0 k m := by
 intro m
 induction m with
 | zero => funext a x0_0 x0_1; rw [laws_toIntS_z0]; rfl
 | succ m ih => funext a x0_0 x0_1; rw [laws_toIntS_n0, ih]; rfl
theorem laws_toIntS_e (k : Nat) (a : (List Int)) : callF env (laws_toIntS_O k) laws_toIntS_v Tryd.f77 (k + 1) (laws_toIntS_A a) (fun r => laws_toIntS_d (r.fin 1 [])) = laws_toIntS k a := by
 have e : callF env (laws_toIntS_O k) laws_toIntS_v Tryd.f77 (k + 1) (laws_toIntS_A a) (fun r => laws_toIntS_d (r.fin 1 [])) = laws_toIntS_m k (laws_toIntS_h0 k k) a := by kernel_rfl
 rw [e, laws_toIntS_q0]; rfl
noncomputable def laws_toIntS_x (k : Nat) : Ent1 := fun A R Q => match A with
 | ⟨[(.sc (.sl 0))], [(.row false K.ki64 a1)]⟩ => (laws_toIntS k a1).bind fun y => Q ⟨(.a (.sc (.sl 1))), [.dead, (.row true K.ki64 y)]⟩
 | _ => none
theorem laws_toIntS_ok (k : Nat) : OkE Tryd.prog 77 (laws_toIntS_x k) := by
 intro A R Q x h
 unfold laws_toIntS_x at h
 split at h
 · obtain ⟨y, hy, hK⟩ := Option.bind_eq_some_iff.1 h
   obtain ⟨r, hr, hd⟩ := callF_ok envOk (laws_toIntS_Ok k) follows Tryd.func77 (by kernel_rfl) ((laws_toIntS_e k _).trans hy)
   exact ⟨_, laws_toIntS_i hd ▸ hr.fin [], hK⟩
 · cases h
/-! ### laws.toStock: function 45 -/
noncomputable def laws_toStock (k : Nat)  (a : Stock) : Option (Stock) :=
 (laws_toIntS k a.Grams).bind fun y1 =>
 some (⟨y1⟩ : Stock)
noncomputable def laws_toStock_v : Nat → List Nat := fun t => match t with | _ => []
noncomputable def laws_toStock_O (k : Nat) : Oracle := ofL [(77, laws_toIntS_x k)]
theorem laws_toStock_Ok (k : Nat) : OkO (Ct Tryd.prog) (laws_toStock_O k) := okO_cons (laws_toIntS_ok k) (okO_nil)
noncomputable def laws_toStock_A (a : Stock) : Pk := ⟨[(.ag [(.sl 0)])], [(.row false K.ki64 a.Grams)]⟩
noncomputable def laws_toStock_d : Rs → Option (Stock)
 | ⟨(.a (.ag [(.sl 1)])), [.dead, (.row true K.ki64 r1)]⟩ => some (⟨r1⟩ : Stock)
 | _ => none
theorem laws_toStock_i {r : Rs} {y : Stock} (h : laws_toStock_d r = some y) : r = ⟨(.a (.ag [(.sl 1)])), [.dead, (.row true K.ki64 y.Grams)]⟩ := by
 unfold laws_toStock_d at h; split at h
 · cases h; rfl
 · cases h
theorem laws_toStock_e (k : Nat) (a : Stock) : callF env (laws_toStock_O k) laws_toStock_v Tryd.f45 (k + 1) (laws_toStock_A a) (fun r => laws_toStock_d (r.fin 1 [])) = laws_toStock k a := by kernel_rfl
noncomputable def laws_toStock_x (k : Nat) : Ent1 := fun A R Q => match A with
 | ⟨[(.ag [(.sl 0)])], [(.row false K.ki64 a1)]⟩ => (laws_toStock k (⟨a1⟩ : Stock)).bind fun y => Q ⟨(.a (.ag [(.sl 1)])), [.dead, (.row true K.ki64 y.Grams)]⟩
 | _ => none
theorem laws_toStock_ok (k : Nat) : OkE Tryd.prog 45 (laws_toStock_x k) := by
 intro A R Q x h
 unfold laws_toStock_x at h
 split at h
 · obtain ⟨y, hy, hK⟩ := Option.bind_eq_some_iff.1 h
   obtain ⟨r, hr, hd⟩ := callF_ok envOk (laws_toStock_Ok k) follows Tryd.func45 (by kernel_rfl) ((laws_toStock_e k _).trans hy)
   exact ⟨_, laws_toStock_i hd ▸ hr.fin [], hK⟩
 · cases h
/-! ### laws.toDough: function 46 -/
noncomputable def laws_toDough (k : Nat)  (a : Dough) : Option (Dough) :=
 some a
noncomputable def laws_toDough_v : Nat → List Nat := fun t => match t with | _ => []
noncomputable def laws_toDough_O (k : Nat) : Oracle := ofL []
theorem laws_toDough_Ok (k : Nat) : OkO (Ct Tryd.prog) (laws_toDough_O k) := okO_nil
noncomputable def laws_toDough_A (a : Dough) : Pk := ⟨[(.ag [(.v (.int .i64 a.Water)), (.v (.int .i64 a.Salt)), (.v (.int .i64 a.Leaven))])], []⟩
noncomputable def laws_toDough_d : Rs → Option (Dough)
 | ⟨(.a (.ag [(.v (.int .i64 r1)), (.v (.int .i64 r2)), (.v (.int .i64 r3))])), []⟩ => some (⟨r1, r2, r3⟩ : Dough)
 | _ => none
theorem laws_toDough_i {r : Rs} {y : Dough} (h : laws_toDough_d r = some y) : r = ⟨(.a (.ag [(.v (.int .i64 y.Water)), (.v (.int .i64 y.Salt)), (.v (.int .i64 y.Leaven))])), []⟩ := by
 unfold laws_toDough_d at h; split at h
 · cases h; rfl
 · cases h
theorem laws_toDough_e (k : Nat) (a : Dough) : callF env (laws_toDough_O k) laws_toDough_v Tryd.f46 (k + 1) (laws_toDough_A a) (fun r => laws_toDough_d (r.fin 0 [])) = laws_toDough k a := by kernel_rfl
noncomputable def laws_toDough_x (k : Nat) : Ent1 := fun A R Q => match A with
 | ⟨[(.ag [(.v (.int .i64 a1)), (.v (.int .i64 a2)), (.v (.int .i64 a3))])], []⟩ => (laws_toDough k (⟨a1, a2, a3⟩ : Dough)).bind fun y => Q ⟨(.a (.ag [(.v (.int .i64 y.Water)), (.v (.int .i64 y.Salt)), (.v (.int .i64 y.Leaven))])), []⟩
 | _ => none
theorem laws_toDough_ok (k : Nat) : OkE Tryd.prog 46 (laws_toDough_x k) := by
 intro A R Q x h
 unfold laws_toDough_x at h
 split at h
 · obtain ⟨y, hy, hK⟩ := Option.bind_eq_some_iff.1 h
   obtain ⟨r, hr, hd⟩ := callF_ok envOk (laws_toDough_Ok k) follows Tryd.func46 (by kernel_rfl) ((laws_toDough_e k _).trans hy)
   exact ⟨_, laws_toDough_i hd ▸ hr.fin [], hK⟩
 · cases h
/-! ### laws.toLoaf: function 47 -/
noncomputable def laws_toLoaf (k : Nat)  (a : Loaf) : Option (Loaf) :=
 some a
noncomputable def laws_toLoaf_v : Nat → List Nat := fun t => match t with | _ => []
noncomputable def laws_toLoaf_O (k : Nat) : Oracle := ofL []
theorem laws_toLoaf_Ok (k : Nat) : OkO (Ct Tryd.prog) (laws_toLoaf_O k) := okO_nil
noncomputable def laws_toLoaf_A (a : Loaf) : Pk := ⟨[(.ag [(.v (.int .i64 a.Weight)), (.v (.int .i64 a.Loss))])], []⟩
noncomputable def laws_toLoaf_d : Rs → Option (Loaf)
 | ⟨(.a (.ag [(.v (.int .i64 r1)), (.v (.int .i64 r2))])), []⟩ => some (⟨r1, r2⟩ : Loaf)
 | _ => none
theorem laws_toLoaf_i {r : Rs} {y : Loaf} (h : laws_toLoaf_d r = some y) : r = ⟨(.a (.ag [(.v (.int .i64 y.Weight)), (.v (.int .i64 y.Loss))])), []⟩ := by
 unfold laws_toLoaf_d at h; split at h
 · cases h; rfl
 · cases h
theorem laws_toLoaf_e (k : Nat) (a : Loaf) : callF env (laws_toLoaf_O k) laws_toLoaf_v Tryd.f47 (k + 1) (laws_toLoaf_A a) (fun r => laws_toLoaf_d (r.fin 0 [])) = laws_toLoaf k a := by kernel_rfl
noncomputable def laws_toLoaf_x (k : Nat) : Ent1 := fun A R Q => match A with
 | ⟨[(.ag [(.v (.int .i64 a1)), (.v (.int .i64 a2))])], []⟩ => (laws_toLoaf k (⟨a1, a2⟩ : Loaf)).bind fun y => Q ⟨(.a (.ag [(.v (.int .i64 y.Weight)), (.v (.int .i64 y.Loss))])), []⟩
 | _ => none
theorem laws_toLoaf_ok (k : Nat) : OkE Tryd.prog 47 (laws_toLoaf_x k) := by
 intro A R Q x h
 unfold laws_toLoaf_x at h
 split at h
 · obtain ⟨y, hy, hK⟩ := Option.bind_eq_some_iff.1 h
   obtain ⟨r, hr, hd⟩ := callF_ok envOk (laws_toLoaf_Ok k) follows Tryd.func47 (by kernel_rfl) ((laws_toLoaf_e k _).trans hy)
   exact ⟨_, laws_toLoaf_i hd ▸ hr.fin [], hK⟩
 · cases h
end Go.Proofs.YtfbnbdcjnbgibaaDoorX
