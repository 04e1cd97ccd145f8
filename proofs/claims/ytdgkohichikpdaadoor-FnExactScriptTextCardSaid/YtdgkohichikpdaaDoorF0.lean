/- What functions of the program compute, as functions of numbers and lists, and that they do. (The file is written by wip/x/vxp.py of this repository.) -/
import Derived.Test.YtdgkohichikpdaaDoorLib
import Derived.Test.YtdgkohichikpdaaDoorX20
import Derived.WalkKit
import Derived.BigCall
import Derived.Lib.UnsafeStr
import Derived.Test.YtdgkohichikpdaaDoorX18
namespace Go.Proofs.YtdgkohichikpdaaDoorX
open Go Go.Proofs Go.RowKit
set_option linter.unusedVariables false
set_option maxRecDepth 100000
/-! ### laws.szActS: function 4 -/
noncomputable def laws_szActS (k : Nat)  (a : (List Deed)) (left : Int) : Option (Int) :=
 cond (decide (((wr (left - ((a).length : Int))) : Int) < 0))
 (some (-1))
 (some (wr (left - ((a).length : Int))))
noncomputable def laws_szActS_v : Nat → List Nat := fun t => match t with | _ => []
noncomputable def laws_szActS_O (k : Nat) : Oracle := ofL []
theorem laws_szActS_Ok (k : Nat) : OkO (Ct Tryd.prog) (laws_szActS_O k) := okO_nil
noncomputable def laws_szActS_A (a : (List Deed)) (left : Int) : Pk := ⟨[(.sc (.sl 0)), (.sc (.v (.int .i64 left)))], [(.row false K.k_laws_Act a)]⟩
noncomputable def laws_szActS_d : Rs → Option (Int)
 | ⟨(.a (.sc (.v (.int .i64 r1)))), [.dead]⟩ => some r1
 | _ => none
theorem laws_szActS_i {r : Rs} {y : Int} (h : laws_szActS_d r = some y) : r = ⟨(.a (.sc (.v (.int .i64 y)))), [.dead]⟩ := by
 unfold laws_szActS_d at h; split at h
 · cases h; rfl
 · cases h
theorem laws_szActS_e (k : Nat) (a : (List Deed)) (left : Int) : callF env (laws_szActS_O k) laws_szActS_v Tryd.f4 (k + 1) (laws_szActS_A a left) (fun r => laws_szActS_d (r.fin 1 [])) = laws_szActS k a left := by kernel_rfl
noncomputable def laws_szActS_x (k : Nat) : Ent1 := fun A R Q => match A with
 | ⟨[(.sc (.sl 0)), (.sc (.v (.int .i64 a2)))], [(.row false K.k_laws_Act a1)]⟩ => (laws_szActS k a1 a2).bind fun y => Q ⟨(.a (.sc (.v (.int .i64 y)))), [.dead]⟩
 | _ => none
theorem laws_szActS_ok (k : Nat) : OkE Tryd.prog 4 (laws_szActS_x k) := by
 intro A R Q x h
 unfold laws_szActS_x at h
 split at h
 · obtain ⟨y, hy, hK⟩ := Option.bind_eq_some_iff.1 h
   obtain ⟨r, hr, hd⟩ := callF_ok envOk (laws_szActS_Ok k) follows Tryd.func4 (by kernel_rfl) ((laws_szActS_e k _ _).trans hy)
   exact ⟨_, laws_szActS_i hd ▸ hr.fin [], hK⟩
 · cases h
/-! ### laws.toAct: function 10 -/
noncomputable def laws_toAct (k : Nat)  (a : Deed) : Option (Deed) :=
 some a
noncomputable def laws_toAct_v : Nat → List Nat := fun t => match t with | _ => []
noncomputable def laws_toAct_O (k : Nat) : Oracle := ofL []
theorem laws_toAct_Ok (k : Nat) : OkO (Ct Tryd.prog) (laws_toAct_O k) := okO_nil
noncomputable def laws_toAct_A (a : Deed) : Pk := ⟨[(.ag [(.v (.int .i64 a.Kind)), (.v (.int .i64 a.A)), (.v (.int .i64 a.B))])], []⟩
noncomputable def laws_toAct_d : Rs → Option (Deed)
 | ⟨(.a (.ag [(.v (.int .i64 r1)), (.v (.int .i64 r2)), (.v (.int .i64 r3))])), []⟩ => some (⟨r1, r2, r3⟩ : Deed)
 | _ => none
theorem laws_toAct_i {r : Rs} {y : Deed} (h : laws_toAct_d r = some y) : r = ⟨(.a (.ag [(.v (.int .i64 y.Kind)), (.v (.int .i64 y.A)), (.v (.int .i64 y.B))])), []⟩ := by
 unfold laws_toAct_d at h; split at h
 · cases h; rfl
 · cases h
theorem laws_toAct_e (k : Nat) (a : Deed) : callF env (laws_toAct_O k) laws_toAct_v Tryd.f10 (k + 1) (laws_toAct_A a) (fun r => laws_toAct_d (r.fin 0 [])) = laws_toAct k a := by kernel_rfl
noncomputable def laws_toAct_x (k : Nat) : Ent1 := fun A R Q => match A with
 | ⟨[(.ag [(.v (.int .i64 a1)), (.v (.int .i64 a2)), (.v (.int .i64 a3))])], []⟩ => (laws_toAct k (⟨a1, a2, a3⟩ : Deed)).bind fun y => Q ⟨(.a (.ag [(.v (.int .i64 y.Kind)), (.v (.int .i64 y.A)), (.v (.int .i64 y.B))])), []⟩
 | _ => none
theorem laws_toAct_ok (k : Nat) : OkE Tryd.prog 10 (laws_toAct_x k) := by
 intro A R Q x h
 unfold laws_toAct_x at h
 split at h
 · obtain ⟨y, hy, hK⟩ := Option.bind_eq_some_iff.1 h
   obtain ⟨r, hr, hd⟩ := callF_ok envOk (laws_toAct_Ok k) follows Tryd.func10 (by kernel_rfl) ((laws_toAct_e k _).trans hy)
   exact ⟨_, laws_toAct_i hd ▸ hr.fin [], hK⟩
 · cases h
/-! ### laws.toActS: function 6 -/
noncomputable def laws_toActS_s0 (k : Nat)  (a : (List Deed)) (J : Int → (List Deed) → Option ((List Deed))) (x0_0 : Int) (x0_1 : (List Deed)) : Option ((List Deed)) :=
 cond (decide ((x0_0 : Int) < ((a).length : Int)))
 (if 0 ≤ (x0_0 : Int) ∧ (x0_0 : Int) < ((a).length : Int) then
  (laws_toAct k (a.getD (Int.toNat x0_0) dk_laws_Act)).bind fun y2 =>
   if 0 ≤ (x0_0 : Int) ∧ (x0_0 : Int) < ((x0_1).length : Int) then
    J (wr (x0_0 + 1)) (x0_1.set (Int.toNat x0_0) y2) else none else none)
 (some x0_1)
noncomputable def laws_toActS_l0 (k : Nat) : Nat → (List Deed) → Int → (List Deed) → Option ((List Deed))
 | 0, a, x0_0, x0_1 => laws_toActS_s0 k a (fun _ _ => none) x0_0 x0_1
 | m + 1, a, x0_0, x0_1 => laws_toActS_s0 k a (laws_toActS_l0 k m a) x0_0 x0_1
noncomputable def laws_toActS_m (k : Nat) (J0 : (List Deed) → Int → (List Deed) → Option ((List Deed))) (a : (List Deed)) : Option ((List Deed)) :=
 if 0 ≤ (((a).length : Int) : Int) ∧ (((a).length : Int) : Int) ≤ (maxRow : Int) then
 J0 a 0 (List.replicate (Int.toNat ((a).length : Int)) dk_impl_Act) else none
noncomputable def laws_toActS (k : Nat) (a : (List Deed)) : Option ((List Deed)) := laws_toActS_m k (laws_toActS_l0 k k) a
noncomputable def laws_toActS_v : Nat → List Nat := fun t => match t with | 3 => [0, 2, 3, 4] | _ => []
noncomputable def laws_toActS_O (k : Nat) : Oracle := ofL [(10, laws_toAct_x k)]
theorem laws_toActS_Ok (k : Nat) : OkO (Ct Tryd.prog) (laws_toActS_O k) := okO_cons (laws_toAct_ok k) (okO_nil)
noncomputable def laws_toActS_A (a : (List Deed)) : Pk := ⟨[(.sc (.sl 0))], [(.row false K.k_laws_Act a)]⟩
noncomputable def laws_toActS_d : Rs → Option ((List Deed))
 | ⟨(.a (.sc (.sl 1))), [.dead, (.row true K.k_impl_Act r1)]⟩ => some r1
 | _ => none
theorem laws_toActS_i {r : Rs} {y : (List Deed)} (h : laws_toActS_d r = some y) : r = ⟨(.a (.sc (.sl 1))), [.dead, (.row true K.k_impl_Act y)]⟩ := by
 unfold laws_toActS_d at h; split at h
 · cases h; rfl
 · cases h
noncomputable def laws_toActS_h0 (k m : Nat) (a : (List Deed)) (x0_0 : Int) (x0_1 : (List Deed)) : Option ((List Deed)) := hdAt env (laws_toActS_O k) laws_toActS_v Tryd.f6 1 (fun r => laws_toActS_d (r.fin 1 [])) [1, 1, 0, 1, 0] k m ⟨tmF [0, 2, 3, 4] [(.a (.sc (.sl 0))), (.a (.sc .nl)), (.a (.sc (.sl 1))), (.a (.sc (.v (.int .i64 x0_0))))], blF [(.row false K.k_laws_Act a), (.row true K.k_impl_Act x0_1)]⟩
theorem laws_toActS_z0 (k : Nat) (a : (List Deed)) (x0_0 : Int) (x0_1 : (List Deed)) : laws_toActS_h0 k 0 a x0_0 x0_1 = laws_toActS_s0 k a (fun _ _ => none) x0_0 x0_1 := by kernel_rfl
theorem laws_toActS_g0 (k : Nat) (H : St → Option ((List Deed))) (a : (List Deed)) (x0_0 : Int) (x0_1 : (List Deed)) : rnd env (laws_toActS_O k) laws_toActS_v Tryd.f6 1 (fun r => laws_toActS_d (r.fin 1 [])) [1, 1, 0, 1, 0] k H ⟨tmF [0, 2, 3, 4] [(.a (.sc (.sl 0))), (.a (.sc .nl)), (.a (.sc (.sl 1))), (.a (.sc (.v (.int .i64 x0_0))))], blF [(.row false K.k_laws_Act a), (.row true K.k_impl_Act x0_1)]⟩ = laws_toActS_s0 k a (fun x0_0 x0_1 => H ⟨tmF [0, 2, 3, 4] [(.a (.sc (.sl 0))), (.a (.sc .nl)), (.a (.sc (.sl 1))), (.a (.sc (.v (.int .i64 x0_0))))], blF [(.row false K.k_laws_Act a), (.row true K.k_impl_Act x0_1)]⟩) x0_0 x0_1 := by kernel_rfl
theorem laws_toActS_n0 (k m : Nat) (a : (List Deed)) (x0_0 : Int) (x0_1 : (List Deed)) : laws_toActS_h0 k (m + 1) a x0_0 x0_1 = laws_toActS_s0 k a (laws_toActS_h0 k m a) x0_0 x0_1 := (hdAt_succ _ _ _ _ _ _ _ _ _ _).trans (laws_toActS_g0 k _ a x0_0 x0_1)
theorem laws_toActS_q0 (k : Nat) : ∀ m, laws_toActS_h0 k m = laws_toActS_l0 k m := by
 intro m
 induction m with
 | zero => funext a x0_0 x0_1; rw [laws_toActS_z0]; rfl
 | succ m ih => funext a x0_0 x0_1; rw [laws_toActS_n0, ih]; rfl
theorem laws_toActS_e (k : Nat) (a : (List Deed)) : callF env (laws_toActS_O k) laws_toActS_v Tryd.f6 (k + 1) (laws_toActS_A a) (fun r => laws_toActS_d (r.fin 1 [])) = laws_toActS k a := by
 have e : ∀ H : St → Option ((List Deed)), callE env (laws_toActS_O k) laws_toActS_v Tryd.f6 (k + 1) (laws_toActS_A a) [1, 1, 0, 1, 0] (fun r => laws_toActS_d (r.fin 1 [])) H = laws_toActS_m k (fun a x0_0 x0_1 => H ⟨tmF [0, 2, 3, 4] [(.a (.sc (.sl 0))), (.a (.sc .nl)), (.a (.sc (.sl 1))), (.a (.sc (.v (.int .i64 x0_0))))], blF [(.row false K.k_laws_Act a), (.row true K.k_impl_Act x0_1)]⟩) a := fun H => by kernel_rfl
 exact (callE_eq env (laws_toActS_O k) laws_toActS_v Tryd.f6 k (laws_toActS_A a) [1, 1, 0, 1, 0] 1 (fun r => laws_toActS_d (r.fin 1 [])) rfl (by kernel_rfl)).trans ((e (hdAt env (laws_toActS_O k) laws_toActS_v Tryd.f6 1 (fun r => laws_toActS_d (r.fin 1 [])) [1, 1, 0, 1, 0] k k)).trans (by
  show laws_toActS_m k (laws_toActS_h0 k k) a = _
  rw [laws_toActS_q0]; rfl))
noncomputable def laws_toActS_x (k : Nat) : Ent1 := fun A R Q => match A with
 | ⟨[(.sc (.sl 0))], [(.row false K.k_laws_Act a1)]⟩ => (laws_toActS k a1).bind fun y => Q ⟨(.a (.sc (.sl 1))), [.dead, (.row true K.k_impl_Act y)]⟩
 | _ => none
theorem laws_toActS_ok (k : Nat) : OkE Tryd.prog 6 (laws_toActS_x k) := by
 intro A R Q x h
 unfold laws_toActS_x at h
 split at h
 · obtain ⟨y, hy, hK⟩ := Option.bind_eq_some_iff.1 h
   obtain ⟨r, hr, hd⟩ := callF_ok envOk (laws_toActS_Ok k) follows Tryd.func6 (by kernel_rfl) ((laws_toActS_e k _).trans hy)
   exact ⟨_, laws_toActS_i hd ▸ hr.fin [], hK⟩
 · cases h
/-! ### spec.l01In: function 22 -/
noncomputable def spec_l01In (k : Nat)  (x : Int) (least : Int) (most : Int) : Option (Bool) :=
 cond (decide ((least : Int) ≤ x))
 (some (decide ((x : Int) ≤ most)))
 (some false)
noncomputable def spec_l01In_v : Nat → List Nat := fun t => match t with | _ => []
noncomputable def spec_l01In_O (k : Nat) : Oracle := ofL []
theorem spec_l01In_Ok (k : Nat) : OkO (Ct Tryd.prog) (spec_l01In_O k) := okO_nil
noncomputable def spec_l01In_A (x : Int) (least : Int) (most : Int) : Pk := ⟨[(.sc (.v (.int .i64 x))), (.sc (.v (.int .i64 least))), (.sc (.v (.int .i64 most)))], []⟩
noncomputable def spec_l01In_d : Rs → Option (Bool)
 | ⟨(.a (.sc (.v (.bool r1)))), []⟩ => some r1
 | _ => none
theorem spec_l01In_i {r : Rs} {y : Bool} (h : spec_l01In_d r = some y) : r = ⟨(.a (.sc (.v (.bool y)))), []⟩ := by
 unfold spec_l01In_d at h; split at h
 · cases h; rfl
 · cases h
theorem spec_l01In_e (k : Nat) (x : Int) (least : Int) (most : Int) : callF env (spec_l01In_O k) spec_l01In_v Tryd.f22 (k + 1) (spec_l01In_A x least most) (fun r => spec_l01In_d (r.fin 0 [])) = spec_l01In k x least most := by kernel_rfl
noncomputable def spec_l01In_x (k : Nat) : Ent1 := fun A R Q => match A with
 | ⟨[(.sc (.v (.int .i64 a1))), (.sc (.v (.int .i64 a2))), (.sc (.v (.int .i64 a3)))], []⟩ => (spec_l01In k a1 a2 a3).bind fun y => Q ⟨(.a (.sc (.v (.bool y)))), []⟩
 | _ => none
theorem spec_l01In_ok (k : Nat) : OkE Tryd.prog 22 (spec_l01In_x k) := by
 intro A R Q x h
 unfold spec_l01In_x at h
 split at h
 · obtain ⟨y, hy, hK⟩ := Option.bind_eq_some_iff.1 h
   obtain ⟨r, hr, hd⟩ := callF_ok envOk (spec_l01In_Ok k) follows Tryd.func22 (by kernel_rfl) ((spec_l01In_e k _ _ _).trans hy)
   exact ⟨_, spec_l01In_i hd ▸ hr.fin [], hK⟩
 · cases h
/-! ### spec.ActOk: function 15 -/
noncomputable def spec_ActOk (k : Nat)  (a : Deed) : Option (Bool) :=
 cond (decide ((a.Kind : Int) = 1))
 (cond (decide ((a.Kind : Int) = 1))
  ((spec_l01In k a.A 0 1000).bind fun y1 =>
   cond y1
    (some (decide ((a.B : Int) = 0)))
    (some false))
  (cond (decide ((a.Kind : Int) = 5))
   ((spec_l01In k a.A 0 3).bind fun y2 =>
    cond y2
     ((spec_l01In k a.B 0 100000).bind fun y3 =>
      some y3)
     (some false))
   (cond (decide ((a.Kind : Int) = 4))
    (cond (decide ((a.A : Int) = 0))
     (some (decide ((a.B : Int) = 0)))
     (some false))
    (some false))))
 (cond (decide ((a.Kind : Int) = 2))
  (cond (decide ((a.Kind : Int) = 2))
   ((spec_l01In k a.A 0 1000).bind fun y4 =>
    cond y4
     (some (decide ((a.B : Int) = 0)))
     (some false))
   (cond (decide ((a.Kind : Int) = 5))
    ((spec_l01In k a.A 0 3).bind fun y5 =>
     cond y5
      ((spec_l01In k a.B 0 100000).bind fun y6 =>
       some y6)
      (some false))
    (cond (decide ((a.Kind : Int) = 4))
     (cond (decide ((a.A : Int) = 0))
      (some (decide ((a.B : Int) = 0)))
      (some false))
     (some false))))
  (cond (decide ((a.Kind : Int) = 3))
   (cond (decide ((a.Kind : Int) = 3))
    ((spec_l01In k a.A 0 1000).bind fun y7 =>
     cond y7
      (some (decide ((a.B : Int) = 0)))
      (some false))
    (cond (decide ((a.Kind : Int) = 5))
     ((spec_l01In k a.A 0 3).bind fun y8 =>
      cond y8
       ((spec_l01In k a.B 0 100000).bind fun y9 =>
        some y9)
       (some false))
     (cond (decide ((a.Kind : Int) = 4))
      (cond (decide ((a.A : Int) = 0))
       (some (decide ((a.B : Int) = 0)))
       (some false))
      (some false))))
   (cond (decide ((a.Kind : Int) = 6))
    ((spec_l01In k a.A 0 1000).bind fun y10 =>
     cond y10
      (some (decide ((a.B : Int) = 0)))
      (some false))
    (cond (decide ((a.Kind : Int) = 5))
     ((spec_l01In k a.A 0 3).bind fun y11 =>
      cond y11
       ((spec_l01In k a.B 0 100000).bind fun y12 =>
        some y12)
       (some false))
     (cond (decide ((a.Kind : Int) = 4))
      (cond (decide ((a.A : Int) = 0))
       (some (decide ((a.B : Int) = 0)))
       (some false))
      (some false))))))
noncomputable def spec_ActOk_v : Nat → List Nat := fun t => match t with | _ => []
noncomputable def spec_ActOk_O (k : Nat) : Oracle := ofL [(22, spec_l01In_x k)]
theorem spec_ActOk_Ok (k : Nat) : OkO (Ct Tryd.prog) (spec_ActOk_O k) := okO_cons (spec_l01In_ok k) (okO_nil)
noncomputable def spec_ActOk_A (a : Deed) : Pk := ⟨[(.ag [(.v (.int .i64 a.Kind)), (.v (.int .i64 a.A)), (.v (.int .i64 a.B))])], []⟩
noncomputable def spec_ActOk_d : Rs → Option (Bool)
 | ⟨(.a (.sc (.v (.bool r1)))), []⟩ => some r1
 | _ => none
theorem spec_ActOk_i {r : Rs} {y : Bool} (h : spec_ActOk_d r = some y) : r = ⟨(.a (.sc (.v (.bool y)))), []⟩ := by
 unfold spec_ActOk_d at h; split at h
 · cases h; rfl
 · cases h
theorem spec_ActOk_e (k : Nat) (a : Deed) : callF env (spec_ActOk_O k) spec_ActOk_v Tryd.f15 (k + 1) (spec_ActOk_A a) (fun r => spec_ActOk_d (r.fin 0 [])) = spec_ActOk k a := by kernel_rfl
noncomputable def spec_ActOk_x (k : Nat) : Ent1 := fun A R Q => match A with
 | ⟨[(.ag [(.v (.int .i64 a1)), (.v (.int .i64 a2)), (.v (.int .i64 a3))])], []⟩ => (spec_ActOk k (⟨a1, a2, a3⟩ : Deed)).bind fun y => Q ⟨(.a (.sc (.v (.bool y)))), []⟩
 | _ => none
theorem spec_ActOk_ok (k : Nat) : OkE Tryd.prog 15 (spec_ActOk_x k) := by
 intro A R Q x h
 unfold spec_ActOk_x at h
 split at h
 · obtain ⟨y, hy, hK⟩ := Option.bind_eq_some_iff.1 h
   obtain ⟨r, hr, hd⟩ := callF_ok envOk (spec_ActOk_Ok k) follows Tryd.func15 (by kernel_rfl) ((spec_ActOk_e k _).trans hy)
   exact ⟨_, spec_ActOk_i hd ▸ hr.fin [], hK⟩
 · cases h
/-! ### spec.l01Figure: function 23 -/
noncomputable def spec_l01Figure (k : Nat)  (x : Int) : Option (Int) :=
 cond (decide ((x : Int) < 10))
 (some (IntKind.u8.wrap ((wr ((48 : Int) + x)))))
 (some (IntKind.u8.wrap ((wr ((wr ((97 : Int) + x)) - 10)))))
noncomputable def spec_l01Figure_v : Nat → List Nat := fun t => match t with | _ => []
noncomputable def spec_l01Figure_O (k : Nat) : Oracle := ofL []
theorem spec_l01Figure_Ok (k : Nat) : OkO (Ct Tryd.prog) (spec_l01Figure_O k) := okO_nil
noncomputable def spec_l01Figure_A (x : Int) : Pk := ⟨[(.sc (.v (.int .i64 x)))], []⟩
noncomputable def spec_l01Figure_d : Rs → Option (Int)
 | ⟨(.a (.sc (.v (.int .u8 r1)))), []⟩ => some r1
 | _ => none
theorem spec_l01Figure_i {r : Rs} {y : Int} (h : spec_l01Figure_d r = some y) : r = ⟨(.a (.sc (.v (.int .u8 y)))), []⟩ := by
 unfold spec_l01Figure_d at h; split at h
 · cases h; rfl
 · cases h
theorem spec_l01Figure_e (k : Nat) (x : Int) : callF env (spec_l01Figure_O k) spec_l01Figure_v Tryd.f23 (k + 1) (spec_l01Figure_A x) (fun r => spec_l01Figure_d (r.fin 0 [])) = spec_l01Figure k x := by kernel_rfl
noncomputable def spec_l01Figure_x (k : Nat) : Ent1 := fun A R Q => match A with
 | ⟨[(.sc (.v (.int .i64 a1)))], []⟩ => (spec_l01Figure k a1).bind fun y => Q ⟨(.a (.sc (.v (.int .u8 y)))), []⟩
 | _ => none
theorem spec_l01Figure_ok (k : Nat) : OkE Tryd.prog 23 (spec_l01Figure_x k) := by
 intro A R Q x h
 unfold spec_l01Figure_x at h
 split at h
 · obtain ⟨y, hy, hK⟩ := Option.bind_eq_some_iff.1 h
   obtain ⟨r, hr, hd⟩ := callF_ok envOk (spec_l01Figure_Ok k) follows Tryd.func23 (by kernel_rfl) ((spec_l01Figure_e k _).trans hy)
   exact ⟨_, spec_l01Figure_i hd ▸ hr.fin [], hK⟩
 · cases h
/-! ### spec.FormatInt: function 16 -/
noncomputable def spec_FormatInt_s0 (k : Nat)  (n : Int) (J : Int → ByteArray → Option (ByteArray)) (x0_0 : Int) (x0_1 : ByteArray) : Option (ByteArray) :=
 cond (!(decide ((x0_0 : Int) = 0)))
 (if (10 : Int) ≠ 0 then
  cond (decide (((Int.tmod x0_0 10) : Int) < 0))
   ((spec_l01Figure k (wr (0 - (Int.tmod x0_0 10)))).bind fun y3 =>
    if ((strOf ([y3]))).size + (x0_1).size ≤ 9223372036854775807 then
     if (10 : Int) ≠ 0 then
      J (wr (Int.tdiv x0_0 10)) ((strOf ([y3])) ++ x0_1) else none else none)
   ((spec_l01Figure k (Int.tmod x0_0 10)).bind fun y4 =>
    if ((strOf ([y4]))).size + (x0_1).size ≤ 9223372036854775807 then
     if (10 : Int) ≠ 0 then
      J (wr (Int.tdiv x0_0 10)) ((strOf ([y4])) ++ x0_1) else none else none) else none)
 (cond (decide ((n : Int) < 0))
  (if ((ByteArray.mk #[45])).size + (x0_1).size ≤ 9223372036854775807 then
   some ((ByteArray.mk #[45]) ++ x0_1) else none)
  (some x0_1))
noncomputable def spec_FormatInt_l0 (k : Nat) : Nat → Int → Int → ByteArray → Option (ByteArray)
 | 0, n, x0_0, x0_1 => spec_FormatInt_s0 k n (fun _ _ => none) x0_0 x0_1
 | m + 1, n, x0_0, x0_1 => spec_FormatInt_s0 k n (spec_FormatInt_l0 k m n) x0_0 x0_1
noncomputable def spec_FormatInt_m (k : Nat) (J0 : Int → Int → ByteArray → Option (ByteArray)) (n : Int) : Option (ByteArray) :=
 cond (decide ((n : Int) = 0))
 (some (ByteArray.mk #[48]))
 (J0 n n (ByteArray.mk #[]))
noncomputable def spec_FormatInt (k : Nat) (n : Int) : Option (ByteArray) := spec_FormatInt_m k (spec_FormatInt_l0 k k) n
noncomputable def spec_FormatInt_v : Nat → List Nat := fun t => match t with | 5 => [0, 2, 3, 4] | _ => []
noncomputable def spec_FormatInt_O (k : Nat) : Oracle := ofL [(23, spec_l01Figure_x k)]
theorem spec_FormatInt_Ok (k : Nat) : OkO (Ct Tryd.prog) (spec_FormatInt_O k) := okO_cons (spec_l01Figure_ok k) (okO_nil)
noncomputable def spec_FormatInt_A (n : Int) : Pk := ⟨[(.sc (.v (.int .i64 n)))], []⟩
noncomputable def spec_FormatInt_d : Rs → Option (ByteArray)
 | ⟨(.a (.sc (.v (.string r1)))), []⟩ => some r1
 | _ => none
theorem spec_FormatInt_i {r : Rs} {y : ByteArray} (h : spec_FormatInt_d r = some y) : r = ⟨(.a (.sc (.v (.string y)))), []⟩ := by
 unfold spec_FormatInt_d at h; split at h
 · cases h; rfl
 · cases h
noncomputable def spec_FormatInt_h0 (k m : Nat) (n : Int) (x0_0 : Int) (x0_1 : ByteArray) : Option (ByteArray) := hdAt env (spec_FormatInt_O k) spec_FormatInt_v Tryd.f16 0 (fun r => spec_FormatInt_d (r.fin 0 [])) [1, 1, 1, 1, 0, 0] k m ⟨tmF [0, 2, 3, 4] [(.a (.sc (.v (.int .i64 x0_0)))), (.a (.sc (.v (.string (ByteArray.mk #[]))))), (.a (.sc (.v (.bool (decide ((n : Int) < 0)))))), (.a (.sc (.v (.string x0_1))))], blF []⟩
theorem spec_FormatInt_z0 (k : Nat) (n : Int) (x0_0 : Int) (x0_1 : ByteArray) : spec_FormatInt_h0 k 0 n x0_0 x0_1 = spec_FormatInt_s0 k n (fun _ _ => none) x0_0 x0_1 := by kernel_rfl
theorem spec_FormatInt_g0 (k : Nat) (H : St → Option (ByteArray)) (n : Int) (x0_0 : Int) (x0_1 : ByteArray) : rnd env (spec_FormatInt_O k) spec_FormatInt_v Tryd.f16 0 (fun r => spec_FormatInt_d (r.fin 0 [])) [1, 1, 1, 1, 0, 0] k H ⟨tmF [0, 2, 3, 4] [(.a (.sc (.v (.int .i64 x0_0)))), (.a (.sc (.v (.string (ByteArray.mk #[]))))), (.a (.sc (.v (.bool (decide ((n : Int) < 0)))))), (.a (.sc (.v (.string x0_1))))], blF []⟩ = spec_FormatInt_s0 k n (fun x0_0 x0_1 => H ⟨tmF [0, 2, 3, 4] [(.a (.sc (.v (.int .i64 x0_0)))), (.a (.sc (.v (.string (ByteArray.mk #[]))))), (.a (.sc (.v (.bool (decide ((n : Int) < 0)))))), (.a (.sc (.v (.string x0_1))))], blF []⟩) x0_0 x0_1 := by kernel_rfl
theorem spec_FormatInt_n0 (k m : Nat) (n : Int) (x0_0 : Int) (x0_1 : ByteArray) : spec_FormatInt_h0 k (m + 1) n x0_0 x0_1 = spec_FormatInt_s0 k n (spec_FormatInt_h0 k m n) x0_0 x0_1 := (hdAt_succ _ _ _ _ _ _ _ _ _ _).trans (spec_FormatInt_g0 k _ n x0_0 x0_1)
theorem spec_FormatInt_q0 (k : Nat) : ∀ m, spec_FormatInt_h0 k m = spec_FormatInt_l0 k m := by
 intro m
 induction m with
 | zero => funext n x0_0 x0_1; rw [spec_FormatInt_z0]; rfl
 | succ m ih => funext n x0_0 x0_1; rw [spec_FormatInt_n0, ih]; rfl
theorem spec_FormatInt_e (k : Nat) (n : Int) : callF env (spec_FormatInt_O k) spec_FormatInt_v Tryd.f16 (k + 1) (spec_FormatInt_A n) (fun r => spec_FormatInt_d (r.fin 0 [])) = spec_FormatInt k n := by
 have e : ∀ H : St → Option (ByteArray), callE env (spec_FormatInt_O k) spec_FormatInt_v Tryd.f16 (k + 1) (spec_FormatInt_A n) [1, 1, 1, 1, 0, 0] (fun r => spec_FormatInt_d (r.fin 0 [])) H = spec_FormatInt_m k (fun n x0_0 x0_1 => H ⟨tmF [0, 2, 3, 4] [(.a (.sc (.v (.int .i64 x0_0)))), (.a (.sc (.v (.string (ByteArray.mk #[]))))), (.a (.sc (.v (.bool (decide ((n : Int) < 0)))))), (.a (.sc (.v (.string x0_1))))], blF []⟩) n := fun H => by kernel_rfl
 exact (callE_eq env (spec_FormatInt_O k) spec_FormatInt_v Tryd.f16 k (spec_FormatInt_A n) [1, 1, 1, 1, 0, 0] 0 (fun r => spec_FormatInt_d (r.fin 0 [])) rfl (by kernel_rfl)).trans ((e (hdAt env (spec_FormatInt_O k) spec_FormatInt_v Tryd.f16 0 (fun r => spec_FormatInt_d (r.fin 0 [])) [1, 1, 1, 1, 0, 0] k k)).trans (by
  show spec_FormatInt_m k (spec_FormatInt_h0 k k) n = _
  rw [spec_FormatInt_q0]; rfl))
noncomputable def spec_FormatInt_x (k : Nat) : Ent1 := fun A R Q => match A with
 | ⟨[(.sc (.v (.int .i64 a1)))], []⟩ => (spec_FormatInt k a1).bind fun y => Q ⟨(.a (.sc (.v (.string y)))), []⟩
 | _ => none
theorem spec_FormatInt_ok (k : Nat) : OkE Tryd.prog 16 (spec_FormatInt_x k) := by
 intro A R Q x h
 unfold spec_FormatInt_x at h
 split at h
 · obtain ⟨y, hy, hK⟩ := Option.bind_eq_some_iff.1 h
   obtain ⟨r, hr, hd⟩ := callF_ok envOk (spec_FormatInt_Ok k) follows Tryd.func16 (by kernel_rfl) ((spec_FormatInt_e k _).trans hy)
   exact ⟨_, spec_FormatInt_i hd ▸ hr.fin [], hK⟩
 · cases h
/-! ### spec.FormatAct: function 9 -/
noncomputable def spec_FormatAct_s0 (k : Nat)  (a : Deed) (J : ByteArray → Int → Option (ByteArray × Bool)) (x0_0 : ByteArray) (x0_1 : Int) : Option (ByteArray × Bool) :=
 cond (decide ((x0_1 : Int) < (([0, 1, 1, 1, 0, 2, 1]).getD (Int.toNat a.Kind) 0)))
 (if (x0_0).size + ((ByteArray.mk #[32])).size ≤ 9223372036854775807 then
  if 0 ≤ (x0_1 : Int) ∧ (x0_1 : Int) < (([a.A, a.B]).length : Int) then
   (spec_FormatInt k (([a.A, a.B]).getD (Int.toNat x0_1) 0)).bind fun y3 =>
    if ((x0_0 ++ (ByteArray.mk #[32]))).size + (y3).size ≤ 9223372036854775807 then
     J ((x0_0 ++ (ByteArray.mk #[32])) ++ y3) (wr (x0_1 + 1)) else none else none else none)
 (some (x0_0, true))
noncomputable def spec_FormatAct_l0 (k : Nat) : Nat → Deed → ByteArray → Int → Option (ByteArray × Bool)
 | 0, a, x0_0, x0_1 => spec_FormatAct_s0 k a (fun _ _ => none) x0_0 x0_1
 | m + 1, a, x0_0, x0_1 => spec_FormatAct_s0 k a (spec_FormatAct_l0 k m a) x0_0 x0_1
noncomputable def spec_FormatAct_m (k : Nat) (J0 : Deed → ByteArray → Int → Option (ByteArray × Bool)) (a : Deed) : Option (ByteArray × Bool) :=
 (spec_ActOk k a).bind fun y1 =>
 cond (!y1)
  (some ((ByteArray.mk #[]), false))
  (if 0 ≤ (a.Kind : Int) ∧ (a.Kind : Int) < (([(ByteArray.mk #[]), (ByteArray.mk #[98, 97, 107, 101]), (ByteArray.mk #[115, 101, 108, 108]), (ByteArray.mk #[99, 104, 101, 97, 112]), (ByteArray.mk #[109, 111, 114, 110, 105, 110, 103]), (ByteArray.mk #[98, 117, 121]), (ByteArray.mk #[102, 108, 111, 117, 114])]).length : Int) then
   if 0 ≤ (a.Kind : Int) ∧ (a.Kind : Int) < (([0, 1, 1, 1, 0, 2, 1]).length : Int) then
    J0 a (([(ByteArray.mk #[]), (ByteArray.mk #[98, 97, 107, 101]), (ByteArray.mk #[115, 101, 108, 108]), (ByteArray.mk #[99, 104, 101, 97, 112]), (ByteArray.mk #[109, 111, 114, 110, 105, 110, 103]), (ByteArray.mk #[98, 117, 121]), (ByteArray.mk #[102, 108, 111, 117, 114])]).getD (Int.toNat a.Kind) (ByteArray.mk #[])) 0 else none else none)
noncomputable def spec_FormatAct (k : Nat) (a : Deed) : Option (ByteArray × Bool) := spec_FormatAct_m k (spec_FormatAct_l0 k k) a
noncomputable def spec_FormatAct_v : Nat → List Nat := fun t => match t with | 7 => [2, 3, 4, 5, 6, 7] | _ => []
noncomputable def spec_FormatAct_O (k : Nat) : Oracle := ofL [(15, spec_ActOk_x k), (16, spec_FormatInt_x k)]
theorem spec_FormatAct_Ok (k : Nat) : OkO (Ct Tryd.prog) (spec_FormatAct_O k) := okO_cons (spec_ActOk_ok k) (okO_cons (spec_FormatInt_ok k) (okO_nil))
noncomputable def spec_FormatAct_A (a : Deed) : Pk := ⟨[(.ag [(.v (.int .i64 a.Kind)), (.v (.int .i64 a.A)), (.v (.int .i64 a.B))])], []⟩
noncomputable def spec_FormatAct_d : Rs → Option (ByteArray × Bool)
 | ⟨(.tp [(.sc (.v (.string r1))), (.sc (.v (.bool r2)))]), []⟩ => some (r1, r2)
 | _ => none
theorem spec_FormatAct_i {r : Rs} {y : ByteArray × Bool} (h : spec_FormatAct_d r = some y) : r = ⟨(.tp [(.sc (.v (.string y.1))), (.sc (.v (.bool y.2)))]), []⟩ := by
 unfold spec_FormatAct_d at h; split at h
 · cases h; rfl
 · cases h
noncomputable def spec_FormatAct_h0 (k m : Nat) (a : Deed) (x0_0 : ByteArray) (x0_1 : Int) : Option (ByteArray × Bool) := hdAt env (spec_FormatAct_O k) spec_FormatAct_v Tryd.f9 0 (fun r => spec_FormatAct_d (r.fin 0 [])) [1, 1, 1, 1, 1, 0, 1, 0] k m ⟨tmF [2, 3, 4, 5, 6, 7] [(.a (.sc (.v (.string (ByteArray.mk #[]))))), (.a (.sc (.v (.bool false)))), (.a (.sc (.v (.string x0_0)))), (.a (.sc (.v (.int .i64 (([0, 1, 1, 1, 0, 2, 1]).getD (Int.toNat a.Kind) 0))))), (.a (.sc (.sl 0))), (.a (.sc (.v (.int .i64 x0_1))))], blF [(.row true K.ki64 ([a.A, a.B]))]⟩
theorem spec_FormatAct_z0 (k : Nat) (a : Deed) (x0_0 : ByteArray) (x0_1 : Int) : spec_FormatAct_h0 k 0 a x0_0 x0_1 = spec_FormatAct_s0 k a (fun _ _ => none) x0_0 x0_1 := by kernel_rfl
theorem spec_FormatAct_g0 (k : Nat) (H : St → Option (ByteArray × Bool)) (a : Deed) (x0_0 : ByteArray) (x0_1 : Int) : rnd env (spec_FormatAct_O k) spec_FormatAct_v Tryd.f9 0 (fun r => spec_FormatAct_d (r.fin 0 [])) [1, 1, 1, 1, 1, 0, 1, 0] k H ⟨tmF [2, 3, 4, 5, 6, 7] [(.a (.sc (.v (.string (ByteArray.mk #[]))))), (.a (.sc (.v (.bool false)))), (.a (.sc (.v (.string x0_0)))), (.a (.sc (.v (.int .i64 (([0, 1, 1, 1, 0, 2, 1]).getD (Int.toNat a.Kind) 0))))), (.a (.sc (.sl 0))), (.a (.sc (.v (.int .i64 x0_1))))], blF [(.row true K.ki64 ([a.A, a.B]))]⟩ = spec_FormatAct_s0 k a (fun x0_0 x0_1 => H ⟨tmF [2, 3, 4, 5, 6, 7] [(.a (.sc (.v (.string (ByteArray.mk #[]))))), (.a (.sc (.v (.bool false)))), (.a (.sc (.v (.string x0_0)))), (.a (.sc (.v (.int .i64 (([0, 1, 1, 1, 0, 2, 1]).getD (Int.toNat a.Kind) 0))))), (.a (.sc (.sl 0))), (.a (.sc (.v (.int .i64 x0_1))))], blF [(.row true K.ki64 ([a.A, a.B]))]⟩) x0_0 x0_1 := by kernel_rfl
theorem spec_FormatAct_n0 (k m : Nat) (a : Deed) (x0_0 : ByteArray) (x0_1 : Int) : spec_FormatAct_h0 k (m + 1) a x0_0 x0_1 = spec_FormatAct_s0 k a (spec_FormatAct_h0 k m a) x0_0 x0_1 := (hdAt_succ _ _ _ _ _ _ _ _ _ _).trans (spec_FormatAct_g0 k _ a x0_0 x0_1)
theorem spec_FormatAct_q0 (k : Nat) : ∀ m, spec_FormatAct_h0 k m = spec_FormatAct_l0 k m := by
 intro m
 induction m with
 | zero => funext a x0_0 x0_1; rw [spec_FormatAct_z0]; rfl
 | succ m ih => funext a x0_0 x0_1; rw [spec_FormatAct_n0, ih]; rfl
theorem spec_FormatAct_e (k : Nat) (a : Deed) : callF env (spec_FormatAct_O k) spec_FormatAct_v Tryd.f9 (k + 1) (spec_FormatAct_A a) (fun r => spec_FormatAct_d (r.fin 0 [])) = spec_FormatAct k a := by
 have e : ∀ H : St → Option (ByteArray × Bool), callE env (spec_FormatAct_O k) spec_FormatAct_v Tryd.f9 (k + 1) (spec_FormatAct_A a) [1, 1, 1, 1, 1, 0, 1, 0] (fun r => spec_FormatAct_d (r.fin 0 [])) H = spec_FormatAct_m k (fun a x0_0 x0_1 => H ⟨tmF [2, 3, 4, 5, 6, 7] [(.a (.sc (.v (.string (ByteArray.mk #[]))))), (.a (.sc (.v (.bool false)))), (.a (.sc (.v (.string x0_0)))), (.a (.sc (.v (.int .i64 (([0, 1, 1, 1, 0, 2, 1]).getD (Int.toNat a.Kind) 0))))), (.a (.sc (.sl 0))), (.a (.sc (.v (.int .i64 x0_1))))], blF [(.row true K.ki64 ([a.A, a.B]))]⟩) a := fun H => by kernel_rfl
 exact (callE_eq env (spec_FormatAct_O k) spec_FormatAct_v Tryd.f9 k (spec_FormatAct_A a) [1, 1, 1, 1, 1, 0, 1, 0] 0 (fun r => spec_FormatAct_d (r.fin 0 [])) rfl (by kernel_rfl)).trans ((e (hdAt env (spec_FormatAct_O k) spec_FormatAct_v Tryd.f9 0 (fun r => spec_FormatAct_d (r.fin 0 [])) [1, 1, 1, 1, 1, 0, 1, 0] k k)).trans (by
  show spec_FormatAct_m k (spec_FormatAct_h0 k k) a = _
  rw [spec_FormatAct_q0]; rfl))
noncomputable def spec_FormatAct_x (k : Nat) : Ent1 := fun A R Q => match A with
 | ⟨[(.ag [(.v (.int .i64 a1)), (.v (.int .i64 a2)), (.v (.int .i64 a3))])], []⟩ => (spec_FormatAct k (⟨a1, a2, a3⟩ : Deed)).bind fun y => Q ⟨(.tp [(.sc (.v (.string y.1))), (.sc (.v (.bool y.2)))]), []⟩
 | _ => none
theorem spec_FormatAct_ok (k : Nat) : OkE Tryd.prog 9 (spec_FormatAct_x k) := by
 intro A R Q x h
 unfold spec_FormatAct_x at h
 split at h
 · obtain ⟨y, hy, hK⟩ := Option.bind_eq_some_iff.1 h
   obtain ⟨r, hr, hd⟩ := callF_ok envOk (spec_FormatAct_Ok k) follows Tryd.func9 (by kernel_rfl) ((spec_FormatAct_e k _).trans hy)
   exact ⟨_, spec_FormatAct_i hd ▸ hr.fin [], hK⟩
 · cases h
/-! ### spec.ScriptText: function 5 -/
noncomputable def spec_ScriptText_s0 (k : Nat)  (acts : (List Deed)) (J : Int → (List Int) → Option (ByteArray × Bool)) (x0_0 : Int) (x0_1 : (List Int)) : Option (ByteArray × Bool) :=
 cond (decide ((x0_0 : Int) < ((acts).length : Int)))
 (if 0 ≤ (x0_0 : Int) ∧ (x0_0 : Int) < ((acts).length : Int) then
  (spec_FormatAct k (acts.getD (Int.toNat x0_0) dk_impl_Act)).bind fun y2 =>
   cond (!y2.2)
    (some ((ByteArray.mk #[]), false))
    (cond (decide ((40 : Int) < ((acts).length : Int)))
     (some ((ByteArray.mk #[]), false))
     (if (y2.1).size + ((ByteArray.mk #[10])).size ≤ 9223372036854775807 then
      if (x0_1 : List Int).length + ((bytesOf (y2.1 ++ (ByteArray.mk #[10]))) : List Int).length ≤ maxRow then
       J (wr (x0_0 + 1)) (x0_1 ++ (bytesOf (y2.1 ++ (ByteArray.mk #[10])))) else none else none)) else none)
 (some ((strOf x0_1), true))
noncomputable def spec_ScriptText_l0 (k : Nat) : Nat → (List Deed) → Int → (List Int) → Option (ByteArray × Bool)
 | 0, acts, x0_0, x0_1 => spec_ScriptText_s0 k acts (fun _ _ => none) x0_0 x0_1
 | m + 1, acts, x0_0, x0_1 => spec_ScriptText_s0 k acts (spec_ScriptText_l0 k m acts) x0_0 x0_1
noncomputable def spec_ScriptText_m (k : Nat) (J0 : (List Deed) → Int → (List Int) → Option (ByteArray × Bool)) (acts : (List Deed)) : Option (ByteArray × Bool) :=
 J0 acts 0 ([])
noncomputable def spec_ScriptText (k : Nat) (acts : (List Deed)) : Option (ByteArray × Bool) := spec_ScriptText_m k (spec_ScriptText_l0 k k) acts
noncomputable def spec_ScriptText_v : Nat → List Nat := fun t => match t with | 3 => [0, 2, 3, 4, 5] | _ => []
noncomputable def spec_ScriptText_O (k : Nat) : Oracle := ofL [(9, spec_FormatAct_x k)]
theorem spec_ScriptText_Ok (k : Nat) : OkO (Ct Tryd.prog) (spec_ScriptText_O k) := okO_cons (spec_FormatAct_ok k) (okO_nil)
noncomputable def spec_ScriptText_A (acts : (List Deed)) : Pk := ⟨[(.sc (.sl 0))], [(.row false K.k_impl_Act acts)]⟩
noncomputable def spec_ScriptText_d : Rs → Option (ByteArray × Bool)
 | ⟨(.tp [(.sc (.v (.string r1))), (.sc (.v (.bool r2)))]), [.dead]⟩ => some (r1, r2)
 | _ => none
theorem spec_ScriptText_i {r : Rs} {y : ByteArray × Bool} (h : spec_ScriptText_d r = some y) : r = ⟨(.tp [(.sc (.v (.string y.1))), (.sc (.v (.bool y.2)))]), [.dead]⟩ := by
 unfold spec_ScriptText_d at h; split at h
 · cases h; rfl
 · cases h
noncomputable def spec_ScriptText_h0 (k m : Nat) (acts : (List Deed)) (x0_0 : Int) (x0_1 : (List Int)) : Option (ByteArray × Bool) := hdAt env (spec_ScriptText_O k) spec_ScriptText_v Tryd.f5 1 (fun r => spec_ScriptText_d (r.fin 1 [])) [1, 1, 0, 1, 0] k m ⟨tmF [0, 2, 3, 4, 5] [(.a (.sc (.sl 0))), (.a (.sc (.v (.string (ByteArray.mk #[]))))), (.a (.sc (.v (.bool false)))), (.a (.sc (.sl 1))), (.a (.sc (.v (.int .i64 x0_0))))], blF [(.row false K.k_impl_Act acts), (.row true K.ku8 x0_1)]⟩
theorem spec_ScriptText_z0 (k : Nat) (acts : (List Deed)) (x0_0 : Int) (x0_1 : (List Int)) : spec_ScriptText_h0 k 0 acts x0_0 x0_1 = spec_ScriptText_s0 k acts (fun _ _ => none) x0_0 x0_1 := by kernel_rfl
theorem spec_ScriptText_g0 (k : Nat) (H : St → Option (ByteArray × Bool)) (acts : (List Deed)) (x0_0 : Int) (x0_1 : (List Int)) : rnd env (spec_ScriptText_O k) spec_ScriptText_v Tryd.f5 1 (fun r => spec_ScriptText_d (r.fin 1 [])) [1, 1, 0, 1, 0] k H ⟨tmF [0, 2, 3, 4, 5] [(.a (.sc (.sl 0))), (.a (.sc (.v (.string (ByteArray.mk #[]))))), (.a (.sc (.v (.bool false)))), (.a (.sc (.sl 1))), (.a (.sc (.v (.int .i64 x0_0))))], blF [(.row false K.k_impl_Act acts), (.row true K.ku8 x0_1)]⟩ = spec_ScriptText_s0 k acts (fun x0_0 x0_1 => H ⟨tmF [0, 2, 3, 4, 5] [(.a (.sc (.sl 0))), (.a (.sc (.v (.string (ByteArray.mk #[]))))), (.a (.sc (.v (.bool false)))), (.a (.sc (.sl 1))), (.a (.sc (.v (.int .i64 x0_0))))], blF [(.row false K.k_impl_Act acts), (.row true K.ku8 x0_1)]⟩) x0_0 x0_1 := by kernel_rfl
theorem spec_ScriptText_n0 (k m : Nat) (acts : (List Deed)) (x0_0 : Int) (x0_1 : (List Int)) : spec_ScriptText_h0 k (m + 1) acts x0_0 x0_1 = spec_ScriptText_s0 k acts (spec_ScriptText_h0 k m acts) x0_0 x0_1 := (hdAt_succ _ _ _ _ _ _ _ _ _ _).trans (spec_ScriptText_g0 k _ acts x0_0 x0_1)
theorem spec_ScriptText_q0 (k : Nat) : ∀ m, spec_ScriptText_h0 k m = spec_ScriptText_l0 k m := by
 intro m
 induction m with
 | zero => funext acts x0_0 x0_1; rw [spec_ScriptText_z0]; rfl
 | succ m ih => funext acts x0_0 x0_1; rw [spec_ScriptText_n0, ih]; rfl
theorem spec_ScriptText_e (k : Nat) (acts : (List Deed)) : callF env (spec_ScriptText_O k) spec_ScriptText_v Tryd.f5 (k + 1) (spec_ScriptText_A acts) (fun r => spec_ScriptText_d (r.fin 1 [])) = spec_ScriptText k acts := by
 have e : ∀ H : St → Option (ByteArray × Bool), callE env (spec_ScriptText_O k) spec_ScriptText_v Tryd.f5 (k + 1) (spec_ScriptText_A acts) [1, 1, 0, 1, 0] (fun r => spec_ScriptText_d (r.fin 1 [])) H = spec_ScriptText_m k (fun acts x0_0 x0_1 => H ⟨tmF [0, 2, 3, 4, 5] [(.a (.sc (.sl 0))), (.a (.sc (.v (.string (ByteArray.mk #[]))))), (.a (.sc (.v (.bool false)))), (.a (.sc (.sl 1))), (.a (.sc (.v (.int .i64 x0_0))))], blF [(.row false K.k_impl_Act acts), (.row true K.ku8 x0_1)]⟩) acts := fun H => by kernel_rfl
 exact (callE_eq env (spec_ScriptText_O k) spec_ScriptText_v Tryd.f5 k (spec_ScriptText_A acts) [1, 1, 0, 1, 0] 1 (fun r => spec_ScriptText_d (r.fin 1 [])) rfl (by kernel_rfl)).trans ((e (hdAt env (spec_ScriptText_O k) spec_ScriptText_v Tryd.f5 1 (fun r => spec_ScriptText_d (r.fin 1 [])) [1, 1, 0, 1, 0] k k)).trans (by
  show spec_ScriptText_m k (spec_ScriptText_h0 k k) acts = _
  rw [spec_ScriptText_q0]; rfl))
noncomputable def spec_ScriptText_x (k : Nat) : Ent1 := fun A R Q => match A with
 | ⟨[(.sc (.sl 0))], [(.row false K.k_impl_Act a1)]⟩ => (spec_ScriptText k a1).bind fun y => Q ⟨(.tp [(.sc (.v (.string y.1))), (.sc (.v (.bool y.2)))]), [.dead]⟩
 | _ => none
theorem spec_ScriptText_ok (k : Nat) : OkE Tryd.prog 5 (spec_ScriptText_x k) := by
 intro A R Q x h
 unfold spec_ScriptText_x at h
 split at h
 · obtain ⟨y, hy, hK⟩ := Option.bind_eq_some_iff.1 h
   obtain ⟨r, hr, hd⟩ := callF_ok envOk (spec_ScriptText_Ok k) follows Tryd.func5 (by kernel_rfl) ((spec_ScriptText_e k _).trans hy)
   exact ⟨_, spec_ScriptText_i hd ▸ hr.fin [], hK⟩
 · cases h
/-! ### impl.in: function 24 -/
noncomputable def impl_in (k : Nat)  (n : Int) (low : Int) (high : Int) : Option (Bool) :=
 cond (decide ((low : Int) ≤ n))
 (some (decide ((n : Int) ≤ high)))
 (some false)
noncomputable def impl_in_v : Nat → List Nat := fun t => match t with | _ => []
noncomputable def impl_in_O (k : Nat) : Oracle := ofL []
theorem impl_in_Ok (k : Nat) : OkO (Ct Tryd.prog) (impl_in_O k) := okO_nil
noncomputable def impl_in_A (n : Int) (low : Int) (high : Int) : Pk := ⟨[(.sc (.v (.int .i64 n))), (.sc (.v (.int .i64 low))), (.sc (.v (.int .i64 high)))], []⟩
noncomputable def impl_in_d : Rs → Option (Bool)
 | ⟨(.a (.sc (.v (.bool r1)))), []⟩ => some r1
 | _ => none
theorem impl_in_i {r : Rs} {y : Bool} (h : impl_in_d r = some y) : r = ⟨(.a (.sc (.v (.bool y)))), []⟩ := by
 unfold impl_in_d at h; split at h
 · cases h; rfl
 · cases h
theorem impl_in_e (k : Nat) (n : Int) (low : Int) (high : Int) : callF env (impl_in_O k) impl_in_v Tryd.f24 (k + 1) (impl_in_A n low high) (fun r => impl_in_d (r.fin 0 [])) = impl_in k n low high := by kernel_rfl
noncomputable def impl_in_x (k : Nat) : Ent1 := fun A R Q => match A with
 | ⟨[(.sc (.v (.int .i64 a1))), (.sc (.v (.int .i64 a2))), (.sc (.v (.int .i64 a3)))], []⟩ => (impl_in k a1 a2 a3).bind fun y => Q ⟨(.a (.sc (.v (.bool y)))), []⟩
 | _ => none
theorem impl_in_ok (k : Nat) : OkE Tryd.prog 24 (impl_in_x k) := by
 intro A R Q x h
 unfold impl_in_x at h
 split at h
 · obtain ⟨y, hy, hK⟩ := Option.bind_eq_some_iff.1 h
   obtain ⟨r, hr, hd⟩ := callF_ok envOk (impl_in_Ok k) follows Tryd.func24 (by kernel_rfl) ((impl_in_e k _ _ _).trans hy)
   exact ⟨_, impl_in_i hd ▸ hr.fin [], hK⟩
 · cases h
/-! ### impl.ActOk: function 17 -/
noncomputable def impl_ActOk (k : Nat)  (a : Deed) : Option (Bool) :=
 cond (decide ((a.Kind : Int) = 1))
 (cond (decide ((a.Kind : Int) = 1))
  ((impl_in k a.A 0 1000).bind fun y1 =>
   cond y1
    (some (decide ((a.B : Int) = 0)))
    (some false))
  (cond (decide ((a.Kind : Int) = 4))
   (cond (decide ((a.A : Int) = 0))
    (some (decide ((a.B : Int) = 0)))
    (some false))
   (cond (decide ((a.Kind : Int) = 5))
    ((impl_in k a.A 0 3).bind fun y2 =>
     cond y2
      ((impl_in k a.B 0 100000).bind fun y3 =>
       some y3)
      (some false))
    (some false))))
 (cond (decide ((a.Kind : Int) = 2))
  (cond (decide ((a.Kind : Int) = 2))
   ((impl_in k a.A 0 1000).bind fun y4 =>
    cond y4
     (some (decide ((a.B : Int) = 0)))
     (some false))
   (cond (decide ((a.Kind : Int) = 4))
    (cond (decide ((a.A : Int) = 0))
     (some (decide ((a.B : Int) = 0)))
     (some false))
    (cond (decide ((a.Kind : Int) = 5))
     ((impl_in k a.A 0 3).bind fun y5 =>
      cond y5
       ((impl_in k a.B 0 100000).bind fun y6 =>
        some y6)
       (some false))
     (some false))))
  (cond (decide ((a.Kind : Int) = 3))
   (cond (decide ((a.Kind : Int) = 3))
    ((impl_in k a.A 0 1000).bind fun y7 =>
     cond y7
      (some (decide ((a.B : Int) = 0)))
      (some false))
    (cond (decide ((a.Kind : Int) = 4))
     (cond (decide ((a.A : Int) = 0))
      (some (decide ((a.B : Int) = 0)))
      (some false))
     (cond (decide ((a.Kind : Int) = 5))
      ((impl_in k a.A 0 3).bind fun y8 =>
       cond y8
        ((impl_in k a.B 0 100000).bind fun y9 =>
        some y9)
        (some false))
      (some false))))
   (cond (decide ((a.Kind : Int) = 6))
    ((impl_in k a.A 0 1000).bind fun y10 =>
     cond y10
      (some (decide ((a.B : Int) = 0)))
      (some false))
    (cond (decide ((a.Kind : Int) = 4))
     (cond (decide ((a.A : Int) = 0))
      (some (decide ((a.B : Int) = 0)))
      (some false))
     (cond (decide ((a.Kind : Int) = 5))
      ((impl_in k a.A 0 3).bind fun y11 =>
       cond y11
        ((impl_in k a.B 0 100000).bind fun y12 =>
        some y12)
        (some false))
      (some false))))))
noncomputable def impl_ActOk_v : Nat → List Nat := fun t => match t with | _ => []
noncomputable def impl_ActOk_O (k : Nat) : Oracle := ofL [(24, impl_in_x k)]
theorem impl_ActOk_Ok (k : Nat) : OkO (Ct Tryd.prog) (impl_ActOk_O k) := okO_cons (impl_in_ok k) (okO_nil)
noncomputable def impl_ActOk_A (a : Deed) : Pk := ⟨[(.ag [(.v (.int .i64 a.Kind)), (.v (.int .i64 a.A)), (.v (.int .i64 a.B))])], []⟩
noncomputable def impl_ActOk_d : Rs → Option (Bool)
 | ⟨(.a (.sc (.v (.bool r1)))), []⟩ => some r1
 | _ => none
theorem impl_ActOk_i {r : Rs} {y : Bool} (h : impl_ActOk_d r = some y) : r = ⟨(.a (.sc (.v (.bool y)))), []⟩ := by
 unfold impl_ActOk_d at h; split at h
 · cases h; rfl
 · cases h
theorem impl_ActOk_e (k : Nat) (a : Deed) : callF env (impl_ActOk_O k) impl_ActOk_v Tryd.f17 (k + 1) (impl_ActOk_A a) (fun r => impl_ActOk_d (r.fin 0 [])) = impl_ActOk k a := by kernel_rfl
noncomputable def impl_ActOk_x (k : Nat) : Ent1 := fun A R Q => match A with
 | ⟨[(.ag [(.v (.int .i64 a1)), (.v (.int .i64 a2)), (.v (.int .i64 a3))])], []⟩ => (impl_ActOk k (⟨a1, a2, a3⟩ : Deed)).bind fun y => Q ⟨(.a (.sc (.v (.bool y)))), []⟩
 | _ => none
theorem impl_ActOk_ok (k : Nat) : OkE Tryd.prog 17 (impl_ActOk_x k) := by
 intro A R Q x h
 unfold impl_ActOk_x at h
 split at h
 · obtain ⟨y, hy, hK⟩ := Option.bind_eq_some_iff.1 h
   obtain ⟨r, hr, hd⟩ := callF_ok envOk (impl_ActOk_Ok k) follows Tryd.func17 (by kernel_rfl) ((impl_ActOk_e k _).trans hy)
   exact ⟨_, impl_ActOk_i hd ▸ hr.fin [], hK⟩
 · cases h
/-! ### impl.actWords: function 19 -/
noncomputable def impl_actWords (k : Nat)  : Option ((List ByteArray)) :=
 some ([(ByteArray.mk #[98, 97, 107, 101]), (ByteArray.mk #[115, 101, 108, 108]), (ByteArray.mk #[99, 104, 101, 97, 112]), (ByteArray.mk #[109, 111, 114, 110, 105, 110, 103]), (ByteArray.mk #[98, 117, 121]), (ByteArray.mk #[102, 108, 111, 117, 114])])
noncomputable def impl_actWords_v : Nat → List Nat := fun t => match t with | _ => []
noncomputable def impl_actWords_O (k : Nat) : Oracle := ofL []
theorem impl_actWords_Ok (k : Nat) : OkO (Ct Tryd.prog) (impl_actWords_O k) := okO_nil
noncomputable def impl_actWords_A : Pk := ⟨[], []⟩
noncomputable def impl_actWords_d : Rs → Option ((List ByteArray))
 | ⟨(.a (.sc (.sl 0))), [(.row true K.kstr r1)]⟩ => some r1
 | _ => none
theorem impl_actWords_i {r : Rs} {y : (List ByteArray)} (h : impl_actWords_d r = some y) : r = ⟨(.a (.sc (.sl 0))), [(.row true K.kstr y)]⟩ := by
 unfold impl_actWords_d at h; split at h
 · cases h; rfl
 · cases h
theorem impl_actWords_e (k : Nat) : callF env (impl_actWords_O k) impl_actWords_v Tryd.f19 (k + 1) (impl_actWords_A) (fun r => impl_actWords_d (r.fin 0 [])) = impl_actWords k := by kernel_rfl
noncomputable def impl_actWords_x (k : Nat) : Ent1 := fun A R Q => match A with
 | ⟨[], []⟩ => (impl_actWords k).bind fun y => Q ⟨(.a (.sc (.sl 0))), [(.row true K.kstr y)]⟩
 | _ => none
theorem impl_actWords_ok (k : Nat) : OkE Tryd.prog 19 (impl_actWords_x k) := by
 intro A R Q x h
 unfold impl_actWords_x at h
 split at h
 · obtain ⟨y, hy, hK⟩ := Option.bind_eq_some_iff.1 h
   obtain ⟨r, hr, hd⟩ := callF_ok envOk (impl_actWords_Ok k) follows Tryd.func19 (by kernel_rfl) ((impl_actWords_e k).trans hy)
   exact ⟨_, impl_actWords_i hd ▸ hr.fin [], hK⟩
 · cases h
/-! ### impl.actNumbers: function 20 -/
noncomputable def impl_actNumbers (k : Nat)  : Option ((List Int)) :=
 some ([1, 1, 1, 0, 2, 1])
noncomputable def impl_actNumbers_v : Nat → List Nat := fun t => match t with | _ => []
noncomputable def impl_actNumbers_O (k : Nat) : Oracle := ofL []
theorem impl_actNumbers_Ok (k : Nat) : OkO (Ct Tryd.prog) (impl_actNumbers_O k) := okO_nil
noncomputable def impl_actNumbers_A : Pk := ⟨[], []⟩
noncomputable def impl_actNumbers_d : Rs → Option ((List Int))
 | ⟨(.a (.sc (.sl 0))), [(.row true K.ki64 r1)]⟩ => some r1
 | _ => none
theorem impl_actNumbers_i {r : Rs} {y : (List Int)} (h : impl_actNumbers_d r = some y) : r = ⟨(.a (.sc (.sl 0))), [(.row true K.ki64 y)]⟩ := by
 unfold impl_actNumbers_d at h; split at h
 · cases h; rfl
 · cases h
theorem impl_actNumbers_e (k : Nat) : callF env (impl_actNumbers_O k) impl_actNumbers_v Tryd.f20 (k + 1) (impl_actNumbers_A) (fun r => impl_actNumbers_d (r.fin 0 [])) = impl_actNumbers k := by kernel_rfl
noncomputable def impl_actNumbers_x (k : Nat) : Ent1 := fun A R Q => match A with
 | ⟨[], []⟩ => (impl_actNumbers k).bind fun y => Q ⟨(.a (.sc (.sl 0))), [(.row true K.ki64 y)]⟩
 | _ => none
theorem impl_actNumbers_ok (k : Nat) : OkE Tryd.prog 20 (impl_actNumbers_x k) := by
 intro A R Q x h
 unfold impl_actNumbers_x at h
 split at h
 · obtain ⟨y, hy, hK⟩ := Option.bind_eq_some_iff.1 h
   obtain ⟨r, hr, hd⟩ := callF_ok envOk (impl_actNumbers_Ok k) follows Tryd.func20 (by kernel_rfl) ((impl_actNumbers_e k).trans hy)
   exact ⟨_, impl_actNumbers_i hd ▸ hr.fin [], hK⟩
 · cases h
/-! ### impl.FormatInt: function 25 -/
noncomputable def impl_FormatInt (k : Nat)  (n : Int) : Option (ByteArray) :=
 (strconv_Itoa k n).bind fun y1 =>
 some y1
noncomputable def impl_FormatInt_v : Nat → List Nat := fun t => match t with | _ => []
noncomputable def impl_FormatInt_O (k : Nat) : Oracle := ofL [(28, strconv_Itoa_x k)]
theorem impl_FormatInt_Ok (k : Nat) : OkO (Ct Tryd.prog) (impl_FormatInt_O k) := okO_cons (strconv_Itoa_ok k) (okO_nil)
noncomputable def impl_FormatInt_A (n : Int) : Pk := ⟨[(.sc (.v (.int .i64 n)))], []⟩
noncomputable def impl_FormatInt_d : Rs → Option (ByteArray)
 | ⟨(.a (.sc (.v (.string r1)))), []⟩ => some r1
 | _ => none
theorem impl_FormatInt_i {r : Rs} {y : ByteArray} (h : impl_FormatInt_d r = some y) : r = ⟨(.a (.sc (.v (.string y)))), []⟩ := by
 unfold impl_FormatInt_d at h; split at h
 · cases h; rfl
 · cases h
theorem impl_FormatInt_e (k : Nat) (n : Int) : callF env (impl_FormatInt_O k) impl_FormatInt_v Tryd.f25 (k + 1) (impl_FormatInt_A n) (fun r => impl_FormatInt_d (r.fin 0 [])) = impl_FormatInt k n := by kernel_rfl
noncomputable def impl_FormatInt_x (k : Nat) : Ent1 := fun A R Q => match A with
 | ⟨[(.sc (.v (.int .i64 a1)))], []⟩ => (impl_FormatInt k a1).bind fun y => Q ⟨(.a (.sc (.v (.string y)))), []⟩
 | _ => none
theorem impl_FormatInt_ok (k : Nat) : OkE Tryd.prog 25 (impl_FormatInt_x k) := by
 intro A R Q x h
 unfold impl_FormatInt_x at h
 split at h
 · obtain ⟨y, hy, hK⟩ := Option.bind_eq_some_iff.1 h
   obtain ⟨r, hr, hd⟩ := callF_ok envOk (impl_FormatInt_Ok k) follows Tryd.func25 (by kernel_rfl) ((impl_FormatInt_e k _).trans hy)
   exact ⟨_, impl_FormatInt_i hd ▸ hr.fin [], hK⟩
 · cases h
/-! ### impl.told: function 18 -/
noncomputable def impl_told_s0 (k : Nat)  (numbers : (List Int)) (J : Int → (List ByteArray) → Option (ByteArray)) (x0_0 : Int) (x0_1 : (List ByteArray)) : Option (ByteArray) :=
 cond (decide ((x0_0 : Int) < ((numbers).length : Int)))
 (if 0 ≤ (x0_0 : Int) ∧ (x0_0 : Int) < ((numbers).length : Int) then
  (impl_FormatInt k (numbers.getD (Int.toNat x0_0) 0)).bind fun y3 =>
   if (x0_1 : List ByteArray).length + ([y3] : List ByteArray).length ≤ maxRow then
    J (wr (x0_0 + 1)) (x0_1 ++ [y3]) else none else none)
 ((strings_Join k x0_1 (ByteArray.mk #[32])).bind fun y4 =>
  some y4.1)
noncomputable def impl_told_l0 (k : Nat) : Nat → (List Int) → Int → (List ByteArray) → Option (ByteArray)
 | 0, numbers, x0_0, x0_1 => impl_told_s0 k numbers (fun _ _ => none) x0_0 x0_1
 | m + 1, numbers, x0_0, x0_1 => impl_told_s0 k numbers (impl_told_l0 k m numbers) x0_0 x0_1
noncomputable def impl_told_m (k : Nat) (J0 : (List Int) → Int → (List ByteArray) → Option (ByteArray)) (word : ByteArray) (numbers : (List Int)) : Option (ByteArray) :=
 J0 numbers 0 ([word])
noncomputable def impl_told (k : Nat) (word : ByteArray) (numbers : (List Int)) : Option (ByteArray) := impl_told_m k (impl_told_l0 k k) word numbers
noncomputable def impl_told_v : Nat → List Nat := fun t => match t with | 3 => [4, 5, 10, 11, 12] | _ => []
noncomputable def impl_told_O (k : Nat) : Oracle := ofL [(25, impl_FormatInt_x k), (26, strings_Join_x k)]
theorem impl_told_Ok (k : Nat) : OkO (Ct Tryd.prog) (impl_told_O k) := okO_cons (impl_FormatInt_ok k) (okO_cons (strings_Join_ok k) (okO_nil))
noncomputable def impl_told_A (word : ByteArray) (numbers : (List Int)) : Pk := ⟨[(.sc (.v (.string word))), (.sc (.sl 0))], [(.row false K.ki64 numbers)]⟩
noncomputable def impl_told_d : Rs → Option (ByteArray)
 | ⟨(.a (.sc (.v (.string r1)))), [.dead]⟩ => some r1
 | _ => none
theorem impl_told_i {r : Rs} {y : ByteArray} (h : impl_told_d r = some y) : r = ⟨(.a (.sc (.v (.string y)))), [.dead]⟩ := by
 unfold impl_told_d at h; split at h
 · cases h; rfl
 · cases h
noncomputable def impl_told_h0 (k m : Nat) (numbers : (List Int)) (x0_0 : Int) (x0_1 : (List ByteArray)) : Option (ByteArray) := hdAt env (impl_told_O k) impl_told_v Tryd.f18 1 (fun r => impl_told_d (r.fin 1 [])) [1, 1, 0, 1, 0] k m ⟨tmF [4, 5, 10, 11, 12] [(.a (.sc (.v (.string (ByteArray.mk #[]))))), (.a (.sc (.sl 1))), (.a (.sc (.sl 0))), (.a (.sc (.v (.int .i64 ((numbers).length : Int))))), (.a (.sc (.v (.int .i64 x0_0))))], blF [(.row false K.ki64 numbers), (.row true K.kstr x0_1)]⟩
theorem impl_told_z0 (k : Nat) (numbers : (List Int)) (x0_0 : Int) (x0_1 : (List ByteArray)) : impl_told_h0 k 0 numbers x0_0 x0_1 = impl_told_s0 k numbers (fun _ _ => none) x0_0 x0_1 := by kernel_rfl
theorem impl_told_g0 (k : Nat) (H : St → Option (ByteArray)) (numbers : (List Int)) (x0_0 : Int) (x0_1 : (List ByteArray)) : rnd env (impl_told_O k) impl_told_v Tryd.f18 1 (fun r => impl_told_d (r.fin 1 [])) [1, 1, 0, 1, 0] k H ⟨tmF [4, 5, 10, 11, 12] [(.a (.sc (.v (.string (ByteArray.mk #[]))))), (.a (.sc (.sl 1))), (.a (.sc (.sl 0))), (.a (.sc (.v (.int .i64 ((numbers).length : Int))))), (.a (.sc (.v (.int .i64 x0_0))))], blF [(.row false K.ki64 numbers), (.row true K.kstr x0_1)]⟩ = impl_told_s0 k numbers (fun x0_0 x0_1 => H ⟨tmF [4, 5, 10, 11, 12] [(.a (.sc (.v (.string (ByteArray.mk #[]))))), (.a (.sc (.sl 1))), (.a (.sc (.sl 0))), (.a (.sc (.v (.int .i64 ((numbers).length : Int))))), (.a (.sc (.v (.int .i64 x0_0))))], blF [(.row false K.ki64 numbers), (.row true K.kstr x0_1)]⟩) x0_0 x0_1 := by kernel_rfl
theorem impl_told_n0 (k m : Nat) (numbers : (List Int)) (x0_0 : Int) (x0_1 : (List ByteArray)) : impl_told_h0 k (m + 1) numbers x0_0 x0_1 = impl_told_s0 k numbers (impl_told_h0 k m numbers) x0_0 x0_1 := (hdAt_succ _ _ _ _ _ _ _ _ _ _).trans (impl_told_g0 k _ numbers x0_0 x0_1)
theorem impl_told_q0 (k : Nat) : ∀ m, impl_told_h0 k m = impl_told_l0 k m := by
 intro m
 induction m with
 | zero => funext numbers x0_0 x0_1; rw [impl_told_z0]; rfl
 | succ m ih => funext numbers x0_0 x0_1; rw [impl_told_n0, ih]; rfl
theorem impl_told_e (k : Nat) (word : ByteArray) (numbers : (List Int)) : callF env (impl_told_O k) impl_told_v Tryd.f18 (k + 1) (impl_told_A word numbers) (fun r => impl_told_d (r.fin 1 [])) = impl_told k word numbers := by
 have e : ∀ H : St → Option (ByteArray), callE env (impl_told_O k) impl_told_v Tryd.f18 (k + 1) (impl_told_A word numbers) [1, 1, 0, 1, 0] (fun r => impl_told_d (r.fin 1 [])) H = impl_told_m k (fun numbers x0_0 x0_1 => H ⟨tmF [4, 5, 10, 11, 12] [(.a (.sc (.v (.string (ByteArray.mk #[]))))), (.a (.sc (.sl 1))), (.a (.sc (.sl 0))), (.a (.sc (.v (.int .i64 ((numbers).length : Int))))), (.a (.sc (.v (.int .i64 x0_0))))], blF [(.row false K.ki64 numbers), (.row true K.kstr x0_1)]⟩) word numbers := fun H => by kernel_rfl
 exact (callE_eq env (impl_told_O k) impl_told_v Tryd.f18 k (impl_told_A word numbers) [1, 1, 0, 1, 0] 1 (fun r => impl_told_d (r.fin 1 [])) rfl (by kernel_rfl)).trans ((e (hdAt env (impl_told_O k) impl_told_v Tryd.f18 1 (fun r => impl_told_d (r.fin 1 [])) [1, 1, 0, 1, 0] k k)).trans (by
  show impl_told_m k (impl_told_h0 k k) word numbers = _
  rw [impl_told_q0]; rfl))
noncomputable def impl_told_x (k : Nat) : Ent1 := fun A R Q => match A with
 | ⟨[(.sc (.v (.string a1))), (.sc (.sl 0))], [(.row false K.ki64 a2)]⟩ => (impl_told k a1 a2).bind fun y => Q ⟨(.a (.sc (.v (.string y)))), [.dead]⟩
 | _ => none
theorem impl_told_ok (k : Nat) : OkE Tryd.prog 18 (impl_told_x k) := by
 intro A R Q x h
 unfold impl_told_x at h
 split at h
 · obtain ⟨y, hy, hK⟩ := Option.bind_eq_some_iff.1 h
   obtain ⟨r, hr, hd⟩ := callF_ok envOk (impl_told_Ok k) follows Tryd.func18 (by kernel_rfl) ((impl_told_e k _ _).trans hy)
   exact ⟨_, impl_told_i hd ▸ hr.fin [], hK⟩
 · cases h
/-! ### impl.FormatAct: function 11 -/
noncomputable def impl_FormatAct (k : Nat)  (a : Deed) : Option (ByteArray × Bool) :=
 (impl_ActOk k a).bind fun y1 =>
 cond (!y1)
  (some ((ByteArray.mk #[]), false))
  ((impl_actWords k).bind fun y2 =>
   if 0 ≤ ((wr (a.Kind - 1)) : Int) ∧ ((wr (a.Kind - 1)) : Int) < ((y2).length : Int) then
    (impl_actNumbers k).bind fun y3 =>
     if 0 ≤ ((wr (a.Kind - 1)) : Int) ∧ ((wr (a.Kind - 1)) : Int) < ((y3).length : Int) then
      if (0 : Int) ≤ 0 ∧ 0 ≤ (y3.getD (Int.toNat (wr (a.Kind - 1))) 0) ∧ (y3.getD (Int.toNat (wr (a.Kind - 1))) 0) ≤ (([a.A, a.B]).length : Int) then
       (impl_told k (y2.getD (Int.toNat (wr (a.Kind - 1))) (ByteArray.mk #[])) ((([a.A, a.B]).take (Int.toNat (y3.getD (Int.toNat (wr (a.Kind - 1))) 0))).drop 0)).bind fun y4 =>
        some (y4, true) else none else none else none)
noncomputable def impl_FormatAct_v : Nat → List Nat := fun t => match t with | _ => []
noncomputable def impl_FormatAct_O (k : Nat) : Oracle := ofL [(17, impl_ActOk_x k), (18, impl_told_x k), (19, impl_actWords_x k), (20, impl_actNumbers_x k)]
theorem impl_FormatAct_Ok (k : Nat) : OkO (Ct Tryd.prog) (impl_FormatAct_O k) := okO_cons (impl_ActOk_ok k) (okO_cons (impl_told_ok k) (okO_cons (impl_actWords_ok k) (okO_cons (impl_actNumbers_ok k) (okO_nil))))
noncomputable def impl_FormatAct_A (a : Deed) : Pk := ⟨[(.ag [(.v (.int .i64 a.Kind)), (.v (.int .i64 a.A)), (.v (.int .i64 a.B))])], []⟩
noncomputable def impl_FormatAct_d : Rs → Option (ByteArray × Bool)
 | ⟨(.tp [(.sc (.v (.string r1))), (.sc (.v (.bool r2)))]), []⟩ => some (r1, r2)
 | _ => none
theorem impl_FormatAct_i {r : Rs} {y : ByteArray × Bool} (h : impl_FormatAct_d r = some y) : r = ⟨(.tp [(.sc (.v (.string y.1))), (.sc (.v (.bool y.2)))]), []⟩ := by
 unfold impl_FormatAct_d at h; split at h
 · cases h; rfl
 · cases h
theorem impl_FormatAct_e (k : Nat) (a : Deed) : callD env (impl_FormatAct_O k) impl_FormatAct_v Tryd.f11 (k + 1) (impl_FormatAct_A a) (fun r => impl_FormatAct_d (r.fin 0 [])) = impl_FormatAct k a := by kernel_rfl
noncomputable def impl_FormatAct_x (k : Nat) : Ent1 := fun A R Q => match A with
 | ⟨[(.ag [(.v (.int .i64 a1)), (.v (.int .i64 a2)), (.v (.int .i64 a3))])], []⟩ => (impl_FormatAct k (⟨a1, a2, a3⟩ : Deed)).bind fun y => Q ⟨(.tp [(.sc (.v (.string y.1))), (.sc (.v (.bool y.2)))]), []⟩
 | _ => none
theorem impl_FormatAct_ok (k : Nat) : OkE Tryd.prog 11 (impl_FormatAct_x k) := by
 intro A R Q x h
 unfold impl_FormatAct_x at h
 split at h
 · obtain ⟨y, hy, hK⟩ := Option.bind_eq_some_iff.1 h
   obtain ⟨r, hr, hd⟩ := callD_ok envOk (impl_FormatAct_Ok k) follows Tryd.func11 (by kernel_rfl) ((impl_FormatAct_e k _).trans hy)
   exact ⟨_, impl_FormatAct_i hd ▸ hr.fin [], hK⟩
 · cases h
/-! ### loop.example/g03310/impl.ScriptText: function 7 -/
set_option maxHeartbeats 4000000
theorem bld_size : (Tryd.prog.info? 38).map (·.size) = some 2 := by kernel_rfl
theorem bld_lies : liesAt Tryd.prog Tryd.prog.depth 38 (2 / Tryd.prog.cellsOf 38) 0 38 1 = true := by kernel_rfl
theorem byte_info : (Tryd.prog.info? 5).map (fun i => (i.zero, i.size, i.bytes)) = some (some (.int .u8 0), 1, 1) := by kernel_rfl
/-- Where a builder lies and what its two cells hold. -/
theorem bld_open {B b : Nat} {p : Value} {bs : List Value} {w : World} (h : Lib.BuilderAt 38 5 B b p bs w) :
    ∃ ao m cap, w.heap[b]? = some (.cells #[p, .slice ao m cap] 38 (0, 0)) ∧ w.ownsRow B 5 1 (.slice ao m cap) bs.length bs ∧ (Value.slice ao m cap).ownBlock ≠ some b := by
  obtain ⟨_, v, h1, h2, h3⟩ := h
  rcases h2.2 with ⟨q, _⟩ | ⟨g, cap, cur, q, _⟩
  all_goals
    subst q
    exact ⟨_, _, _, h1, h2, h3⟩
/-- The check that a written builder still lies where it was written. -/
theorem copyCheck_calls (B b : Nat) (bs : List Value) (w : World) (h : Lib.IsBuilder 38 5 B b bs w) :
    Calls Tryd.prog 21 #[.pointer (some ⟨b, 0, none⟩)] w fun e w' => e = .returned (.tuple #[]) ∧ Lib.BuilderAt 38 5 B b (.pointer (some ⟨b, 0, none⟩)) bs w' ∧ Below B w w' := by
  obtain ⟨j, hj, hj2⟩ := Option.map_eq_some_iff.1 bld_size
  have hp : Tryd.prog.underlying 36 = some (.pointer 38) := by kernel_rfl
  have hu : Tryd.prog.underlying 56 = some .unsafePointer := by kernel_rfl
  rcases h with h | h
  · -- nothing was written yet: its own address goes into the first cell
    have k0 := h.cell0
    have k1 := h.frozen0
    have to := Lib.run_to_unsafe (P := Tryd.prog) w (⟨b, 0, none⟩ : Addr) hp hu hj (by omega) h.shape (show 0 < 2 by decide)
    have back := Lib.run_from_unsafe (P := Tryd.prog) w (⟨b, 0, none⟩ : Addr) hu hp hj h.shape bld_lies
    go_enter Tryd.func21, Tryd.ntmps21
    go_wp2
    rw [run_callFunc_extern Tryd.func27 (by kernel_rfl) (by kernel_rfl) (by kernel_rfl) (e := Extern.AbiNoEscape.same) (by kernel_rfl), Lib.run_noEscape]
    simp only [Result.andThen]
    rw [Oper.upon_value]
    go_wp2
    go_end0
    exact ⟨rfl, h.used _, (Below.refl B w).setCell (p := (⟨b, 0, none⟩ : Addr)) h.1 _⟩
  · -- it was written before: it holds its own address
    have k0 := h.cell0
    have same := Lib.run_neq_ptr_same (P := Tryd.prog) w (⟨b, 0, none⟩ : Addr) hp hj
    go_enter Tryd.func21, Tryd.ntmps21
    go_wp2
    go_end0
    exact ⟨rfl, h, Below.refl B w⟩
/-- A text goes in behind what the builder holds. -/
theorem writeString_calls (B b : Nat) (bs : List Value) (s : ByteArray) (w : World) (h : Lib.IsBuilder 38 5 B b bs w) (hlen : bs.length + s.size ≤ 140737488355328) (hBw : B ≤ w.heap.size) :
    Calls Tryd.prog 12 #[.pointer (some ⟨b, 0, none⟩), .string s] w fun e w' => e = .returned (.tuple #[.int .i64 s.size, .nilIface]) ∧ Lib.BuilderAt 38 5 B b (.pointer (some ⟨b, 0, none⟩)) (bs ++ Lib.strCells s) w' ∧ Below B w w' := by
  obtain ⟨i0, hi, z0, z1, z2⟩ := info_parts byte_info
  go_enter Tryd.func12, Tryd.ntmps12
  go_wp2_with (go_at_call 21; refine (copyCheck_calls B b bs _ h).mono ?_)
  rintro e w1 ⟨rfl, hat, below1⟩
  have hBb := hat.1
  obtain ⟨ao, m, cap, blk, own, away⟩ := bld_open hat
  have size1 := below1.size
  have cells1 := fun q => Lib.cell_of_heap (b := b) blk q
  have k0 := cells1 0
  have k1 := cells1 1
  simp only [List.getElem?_toArray, List.getElem?_cons_zero, List.getElem?_cons_succ] at k0 k1
  go_wp2_with (at_builtin; refine Lib.wpList_append_own_string _ rfl _ _ 30 9 rfl B 5 i0 (by kernel_rfl) (by kernel_rfl) hi z0 z1 z2 _ _ _ rfl own s rfl (by unfold maxLen; omega) hlen (by omega) ?_)
  intro v2 w2 own2 grew _
  have blk2 : w2.heap[b]? = some (.cells #[.pointer (some ⟨b, 0, none⟩), .slice ao m cap] 38 (0, 0)) := (grew.block b (Array.getElem?_eq_some_iff.1 blk).1 fun q => away q.symm).trans blk
  have k2 := Lib.cell_of_heap (b := b) blk2 0
  have k3 := Lib.cell_of_heap (b := b) blk2 1
  have k4 := Lib.frozen_of_heap (b := b) blk2 1
  simp only [List.getElem?_toArray, List.getElem?_cons_zero, List.getElem?_cons_succ] at k2 k3
  have put2 := Lib.BuilderAt.put (T := 38) (e := 5) hBb blk2 (bs' := bs ++ Lib.strCells s) (v' := v2) (by rw [List.length_append, Lib.strCells_length]; exact own2) (by decide)
  have below2 := (below1.grown grew (by omega) fun q hq => (own.lt q hq).1).setCell (p := (⟨b, 1, none⟩ : Addr)) hBb v2
  rcases own2.2 with ⟨q, _⟩ | ⟨g, cap2, cur, q, _⟩
  all_goals
    subst q
    go_wp2
    go_ret2
    exact ⟨rfl, put2, below2⟩
theorem string_calls (B b : Nat) (l : List UInt8) (w : World) (h : Lib.IsBuilder 38 5 B b (Lib.byteCells l) w) (hBw : B ≤ w.heap.size) :
    Calls Tryd.prog 13 #[.pointer (some ⟨b, 0, none⟩)] w fun e w' => e = .returned (.string ⟨l.toArray⟩) ∧ Below B w w' := Tryd.Builder_String_any B b l w h hBw
noncomputable def scrD (k : Nat) : List Deed → List UInt8 → Option (ByteArray × Bool)
  | [], acc => some (⟨acc.toArray⟩, true)
  | a :: r, acc => (impl_FormatAct k a).bind fun y => cond y.2 (if acc.length + y.1.size + 1 ≤ 1000000000 then scrD k r (acc ++ (y.1.data.toList ++ [10])) else none) (some (ByteArray.mk #[], false))
noncomputable def scrT (k : Nat) (acts : List Deed) : Option (ByteArray × Bool) := if (40 : Int) < (acts.length : Int) then some (ByteArray.mk #[], false) else scrD k acts []
theorem formatAct_calls (k : Nat) (a : Deed) (y : ByteArray × Bool) (hy : impl_FormatAct k a = some y) (w : World) (htb : TB (fun _ => none) w) :
    Calls Tryd.prog 11 #[.agg #[.int .i64 a.Kind, .int .i64 a.A, .int .i64 a.B]] w fun e w' => e = .returned (.tuple #[.string y.1, .bool y.2]) ∧ Below w.heap.size w w' := by
  obtain ⟨r, hr, he⟩ := impl_FormatAct_ok k ⟨[.ag [.v (.int .i64 a.Kind), .v (.int .i64 a.A), .v (.int .i64 a.B)]], []⟩ Rs some ⟨.tp [.sc (.v (.string y.1)), .sc (.v (.bool y.2))], []⟩ (by
    show (impl_FormatAct k a).bind _ = _
    rw [hy]; rfl)
  cases he
  refine (ct_calls hr htb (vs := #[.agg #[.int .i64 a.Kind, .int .i64 a.A, .int .i64 a.B]]) ⟨⟨_, rfl, rfl, rfl, rfl, trivial⟩, trivial⟩).mono ?_
  rintro e w' ⟨v, ρ', he, ⟨us, hu, h1⟩, hb⟩
  have e2 : us = #[.string y.1, .bool y.2] := two_v h1
  subst e2; subst hu
  exact ⟨he, hb⟩
theorem scriptText_calls (k : Nat) (acts : List Deed) (A : Option Addr) (cap : Nat) (y : ByteArray × Bool) (hy : scrT k acts = some y) (w : World) (htb : TB (fun _ => none) w) (hcap : acts.length ≤ cap) (hnil : A = none → acts = []) (hc : ∀ a, A = some a → ∀ j u, (flat K.k_impl_Act acts)[j]? = some u → w.cell? (a.add j) = some u) :
    Calls Tryd.prog 7 #[.slice A acts.length cap] w fun e w' => e = .returned (.tuple #[.string y.1, .bool y.2]) ∧ Below w.heap.size w w' := by
  unfold scrT at hy
  by_cases h40 : (40 : Int) < (acts.length : Int)
  · rw [if_pos h40] at hy; cases hy
    go_enter Tryd.func7, Tryd.ntmps7
    go_wp2
    go_ret2
    exact ⟨rfl, Below.refl _ _⟩
  · rw [if_neg h40] at hy
    go_enter Tryd.func7, Tryd.ntmps7
    go_wp2
    go_loopw [16] (fun i wr => ∃ (n : Nat) (acc : List UInt8), i = .int .i64 n ∧ n ≤ acts.length ∧ Lib.IsBuilder 38 5 w.heap.size w.heap.size (Lib.byteCells acc) wr ∧ Below w.heap.size w wr ∧ scrD k (acts.drop n) acc = some y) (fun i wr => acts.length - (intOf i).toNat)
    case atStart => exact ⟨0, [], rfl, Nat.zero_le _, Lib.fresh_isBuilder 38 5 w, (Below.refl _ w).alloc (Nat.le_refl _) _, hy⟩
    case round =>
      obtain ⟨n, acc, rfl, hn, hI, hbw, hs⟩ := hrel
      by_cases hlt : n < acts.length
      · have hdr : acts.drop n = acts[n] :: acts.drop (n + 1) := List.drop_eq_getElem_cons hlt
        rw [hdr] at hs
        obtain ⟨X, hX⟩ : ∃ X, A = some X := by
          cases A with
          | none => rw [hnil rfl] at hlt; simp at hlt
          | some X => exact ⟨X, rfl⟩
        subst hX
        have hget : acts[n]? = some acts[n] := List.getElem?_eq_getElem hlt
        have cw : ∀ (m : Nat) (u : Value), m < 3 → (enc K.k_impl_Act acts[n])[m]? = some u → wr.cell? ((X.add (n * 3)).add m) = some u := fun m u hm hu => by
          have h1 := hc X rfl (n * 3 + m) u (by rw [show n * 3 + m = n * sz K.k_impl_Act + m from rfl, flat_get K.k_impl_Act acts n m acts[n] hget hm]; exact hu)
          have hbl : (X.add (n * 3 + m)).block < w.heap.size := by
            unfold World.cell? at h1
            cases hh : w.heap[(X.add (n * 3 + m)).block]? with
            | none => rw [hh] at h1; cases h1
            | some o => exact (Array.getElem?_eq_some_iff.1 hh).1
          rw [Go.Deep.add_add, hbw.cell hbl]; exact h1
        have c0 := cw 0 (.int .i64 acts[n].Kind) (by decide) rfl
        have c1 := cw 1 (.int .i64 acts[n].A) (by decide) rfl
        have c2 := cw 2 (.int .i64 acts[n].B) (by decide) rfl
        have c0' : wr.cell? (X.add (n * 3)) = some (.int .i64 acts[n].Kind) := by rw [← c0, Go.Deep.add_add]; rfl
        have c1' : wr.cell? ⟨(X.add (n * 3)).block, (X.add (n * 3)).off + 1, none⟩ = some (.int .i64 acts[n].A) := c1
        have c2' : wr.cell? ⟨(X.add (n * 3)).block, (X.add (n * 3)).off + 2, none⟩ = some (.int .i64 acts[n].B) := c2
        clear cw c0 c1 c2
        rcases hF : impl_FormatAct k acts[n] with _ | y1
        · exfalso
          unfold scrD at hs
          rw [hF] at hs; cases hs
        unfold scrD at hs
        rw [hF, Option.bind_some] at hs
        go_wp2_with (go_at_call 11; refine (formatAct_calls k acts[n] y1 hF _ ?_).mono ?_)
        · exact htb.below (hbw.alloc hbw.size _)
        rintro e W1 ⟨rfl, b1⟩
        have hI1 := isBuilder_below (isBuilder_below hI ((Below.refl wr.heap.size wr).alloc (Nat.le_refl _) _)) b1
        have hbw1 := (hbw.alloc hbw.size _).trans (b1.mono (by simp; exact Nat.le_trans hbw.size (by omega)))
        obtain ⟨t1, o1⟩ := y1
        simp only at hs hF hI1 hbw1 b1 ⊢
        cases o1 with
        | false =>
          cases hs
          go_wp2
          go_ret2
          exact ⟨rfl, hbw1⟩
        | true =>
          rw [cond_true] at hs
          by_cases hsz : acc.length + t1.size + 1 ≤ 1000000000
          · rw [if_pos hsz] at hs
            have hsz2 : (t1 ++ (⟨#[10]⟩ : ByteArray)).size = t1.size + 1 := by rw [ByteArray.size_append]; rfl
            go_wp2_with (go_at_call 12; refine (writeString_calls w.heap.size w.heap.size _ _ _ hI1 ?_ ?_).mono ?_)
            · rw [hsz2, Lib.byteCells_length]; omega
            · exact hbw1.size
            rintro e W2 ⟨rfl, h2, b2⟩
            go_wp2
            go_roundw
            case rel =>
              refine ⟨n + 1, acc ++ (t1.data.toList ++ [10]), ?_, by omega, .inr ?_, hbw1.trans b2, hs⟩
              · go_num
              · have eb : Lib.byteCells (acc ++ (t1.data.toList ++ [10])) = Lib.byteCells acc ++ Lib.strCells (t1 ++ (⟨#[10]⟩ : ByteArray)) := by
                  rw [Lib.byteCells_append, Lib.strCells_eq]; simp
                rw [eb]; exact h2
            case measure => simp [intOf]; omega
          · rw [if_neg hsz] at hs; cases hs
      · have hne : n = acts.length := by omega
        subst hne
        rw [List.drop_length] at hs
        have hy2 : y = (⟨acc.toArray⟩, true) := by cases hs; rfl
        go_wp2_with (go_at_call 13; refine (string_calls w.heap.size w.heap.size acc _ hI hbw.size).mono ?_)
        rintro e W1 ⟨rfl, b1⟩
        go_wp2
        go_ret2
        rw [hy2]
        exact ⟨rfl, hbw.trans b1⟩
noncomputable def impl_ScriptText (k : Nat) (acts : (List Deed)) : Option (ByteArray × Bool × List Deed) := if (scrT k acts).isSome = true then some ((((scrT k acts).getD (ByteArray.mk #[], false)).1, ((scrT k acts).getD (ByteArray.mk #[], false)).2, acts)) else none
noncomputable def impl_ScriptText_x (k : Nat) : Ent1 := fun A R Q => match A with
 | ⟨[(.sc (.sl 0))], [(.row true K.k_impl_Act a1)]⟩ => (impl_ScriptText k a1).bind fun y => Q ⟨(.tp [(.sc (.v (.string y.1))), (.sc (.v (.bool y.2.1)))]), [(.row true K.k_impl_Act y.2.2)]⟩
 | _ => none
theorem impl_ScriptText_ok (k : Nat) : OkE Tryd.prog 7 (impl_ScriptText_x k) := by
 intro A R Q x h
 unfold impl_ScriptText_x at h
 split at h
 · rename_i a1
   obtain ⟨y, hy, hK⟩ := Option.bind_eq_some_iff.1 h
   unfold impl_ScriptText at hy; split at hy
   · rename_i hn; cases hy
     refine ⟨_, ct_plain (u := (.tuple #[(.string (((((scrT k a1).getD (ByteArray.mk #[], false)).1, ((scrT k a1).getD (ByteArray.mk #[], false)).2, a1) : ByteArray × Bool × List Deed).1)), (.bool (((((scrT k a1).getD (ByteArray.mk #[], false)).1, ((scrT k a1).getD (ByteArray.mk #[], false)).2, a1) : ByteArray × Bool × List Deed).2.1))])) Tryd.func7 (by kernel_rfl) (by kernel_rfl) (vv_two _ _) (fun w ρ ow vs htb hB hF => ?_), hK⟩
     rw [row1_v hF]
     exact by
       have hb : BlkOk _ w ρ ow 0 (.row true K.k_impl_Act a1) := hB 0
       obtain ⟨A', cap, e1, hcap, hnil, _⟩ := row_hdr hb
       rw [e1]
       obtain ⟨y0, hy0⟩ := Option.isSome_iff_exists.1 hn
       rw [hy0]
       exact scriptText_calls k a1 A' cap y0 hy0 w htb.plain hcap hnil (fun a ha j u hu => row_cell hb (by rw [e1, ha]) j u hu)
   · cases hy
 · cases h
end Go.Proofs.YtdgkohichikpdaaDoorX
