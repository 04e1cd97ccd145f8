/- What functions of the program compute, as functions of numbers and lists, and that they do. (The file is written by wip/x/vxp.py of this repository.) -/
import Derived.Test.YtdgkohichikpdaaDoorF0
import Derived.Test.YtdgkohichikpdaaDoorX20
import Derived.WalkKit
import Derived.BigCall
import Derived.Lib.UnsafeStr
import Derived.Test.YtdgkohichikpdaaDoorX18
namespace Go.Proofs.YtdgkohichikpdaaDoorX
open Go Go.Proofs Go.RowKit
set_option linter.unusedVariables false
set_option maxRecDepth 100000
/-! ### laws.eqAct: function 14 -/
noncomputable def laws_eqAct (k : Nat)  (a : Deed) (b : Deed) : Option (Bool) :=
 cond (!(decide ((a.Kind : Int) = b.Kind)))
 (some false)
 (cond (!(decide ((a.A : Int) = b.A)))
  (some false)
  (cond (!(decide ((a.B : Int) = b.B)))
   (some false)
   (some true)))
noncomputable def laws_eqAct_v : Nat → List Nat := fun t => match t with | _ => []
noncomputable def laws_eqAct_O (k : Nat) : Oracle := ofL []
theorem laws_eqAct_Ok (k : Nat) : OkO (Ct Tryd.prog) (laws_eqAct_O k) := okO_nil
noncomputable def laws_eqAct_A (a : Deed) (b : Deed) : Pk := ⟨[(.ag [(.v (.int .i64 a.Kind)), (.v (.int .i64 a.A)), (.v (.int .i64 a.B))]), (.ag [(.v (.int .i64 b.Kind)), (.v (.int .i64 b.A)), (.v (.int .i64 b.B))])], []⟩
noncomputable def laws_eqAct_d : Rs → Option (Bool)
 | ⟨(.a (.sc (.v (.bool r1)))), []⟩ => some r1
 | _ => none
theorem laws_eqAct_i {r : Rs} {y : Bool} (h : laws_eqAct_d r = some y) : r = ⟨(.a (.sc (.v (.bool y)))), []⟩ := by
 unfold laws_eqAct_d at h; split at h
 · cases h; rfl
 · cases h
theorem laws_eqAct_e (k : Nat) (a : Deed) (b : Deed) : callF env (laws_eqAct_O k) laws_eqAct_v Tryd.f14 (k + 1) (laws_eqAct_A a b) (fun r => laws_eqAct_d (r.fin 0 [])) = laws_eqAct k a b := by kernel_rfl
noncomputable def laws_eqAct_x (k : Nat) : Ent1 := fun A R Q => match A with
 | ⟨[(.ag [(.v (.int .i64 a1)), (.v (.int .i64 a2)), (.v (.int .i64 a3))]), (.ag [(.v (.int .i64 a4)), (.v (.int .i64 a5)), (.v (.int .i64 a6))])], []⟩ => (laws_eqAct k (⟨a1, a2, a3⟩ : Deed) (⟨a4, a5, a6⟩ : Deed)).bind fun y => Q ⟨(.a (.sc (.v (.bool y)))), []⟩
 | _ => none
theorem laws_eqAct_ok (k : Nat) : OkE Tryd.prog 14 (laws_eqAct_x k) := by
 intro A R Q x h
 unfold laws_eqAct_x at h
 split at h
 · obtain ⟨y, hy, hK⟩ := Option.bind_eq_some_iff.1 h
   obtain ⟨r, hr, hd⟩ := callF_ok envOk (laws_eqAct_Ok k) follows Tryd.func14 (by kernel_rfl) ((laws_eqAct_e k _ _).trans hy)
   exact ⟨_, laws_eqAct_i hd ▸ hr.fin [], hK⟩
 · cases h
/-! ### laws.eqActS: function 8 -/
noncomputable def laws_eqActS_s0 (k : Nat)  (a : (List Deed)) (b : (List Deed)) (J : Int → Option (Bool)) (x0_0 : Int) : Option (Bool) :=
 cond (decide ((x0_0 : Int) < ((a).length : Int)))
 (if 0 ≤ (x0_0 : Int) ∧ (x0_0 : Int) < ((a).length : Int) then
  if 0 ≤ (x0_0 : Int) ∧ (x0_0 : Int) < ((b).length : Int) then
   (laws_eqAct k (a.getD (Int.toNat x0_0) dk_impl_Act) (b.getD (Int.toNat x0_0) dk_impl_Act)).bind fun y2 =>
    cond (!y2)
     (some false)
     (J (wr (x0_0 + 1))) else none else none)
 (some true)
noncomputable def laws_eqActS_l0 (k : Nat) : Nat → (List Deed) → (List Deed) → Int → Option (Bool)
 | 0, a, b, x0_0 => laws_eqActS_s0 k a b (fun _ => none) x0_0
 | m + 1, a, b, x0_0 => laws_eqActS_s0 k a b (laws_eqActS_l0 k m a b) x0_0
noncomputable def laws_eqActS_m (k : Nat) (J0 : (List Deed) → (List Deed) → Int → Option (Bool)) (a : (List Deed)) (b : (List Deed)) : Option (Bool) :=
 cond (!(decide ((((a).length : Int) : Int) = ((b).length : Int))))
 (some false)
 (J0 a b 0)
noncomputable def laws_eqActS (k : Nat) (a : (List Deed)) (b : (List Deed)) : Option (Bool) := laws_eqActS_m k (laws_eqActS_l0 k k) a b
noncomputable def laws_eqActS_v : Nat → List Nat := fun t => match t with | 4 => [0, 1, 4, 5] | _ => []
noncomputable def laws_eqActS_O (k : Nat) : Oracle := ofL [(14, laws_eqAct_x k)]
theorem laws_eqActS_Ok (k : Nat) : OkO (Ct Tryd.prog) (laws_eqActS_O k) := okO_cons (laws_eqAct_ok k) (okO_nil)
noncomputable def laws_eqActS_A (a : (List Deed)) (b : (List Deed)) : Pk := ⟨[(.sc (.sl 0)), (.sc (.sl 1))], [(.row false K.k_impl_Act a), (.row false K.k_impl_Act b)]⟩
noncomputable def laws_eqActS_d : Rs → Option (Bool)
 | ⟨(.a (.sc (.v (.bool r1)))), [.dead, .dead]⟩ => some r1
 | _ => none
theorem laws_eqActS_i {r : Rs} {y : Bool} (h : laws_eqActS_d r = some y) : r = ⟨(.a (.sc (.v (.bool y)))), [.dead, .dead]⟩ := by
 unfold laws_eqActS_d at h; split at h
 · cases h; rfl
 · cases h
noncomputable def laws_eqActS_h0 (k m : Nat) (a : (List Deed)) (b : (List Deed)) (x0_0 : Int) : Option (Bool) := hdAt env (laws_eqActS_O k) laws_eqActS_v Tryd.f8 2 (fun r => laws_eqActS_d (r.fin 2 [])) [1, 1, 0, 1, 0] k m ⟨tmF [0, 1, 4, 5] [(.a (.sc (.sl 0))), (.a (.sc (.sl 1))), (.a (.sc (.v (.bool false)))), (.a (.sc (.v (.int .i64 x0_0))))], blF [(.row false K.k_impl_Act a), (.row false K.k_impl_Act b)]⟩
theorem laws_eqActS_z0 (k : Nat) (a : (List Deed)) (b : (List Deed)) (x0_0 : Int) : laws_eqActS_h0 k 0 a b x0_0 = laws_eqActS_s0 k a b (fun _ => none) x0_0 := by kernel_rfl
theorem laws_eqActS_g0 (k : Nat) (H : St → Option (Bool)) (a : (List Deed)) (b : (List Deed)) (x0_0 : Int) : rnd env (laws_eqActS_O k) laws_eqActS_v Tryd.f8 2 (fun r => laws_eqActS_d (r.fin 2 [])) [1, 1, 0, 1, 0] k H ⟨tmF [0, 1, 4, 5] [(.a (.sc (.sl 0))), (.a (.sc (.sl 1))), (.a (.sc (.v (.bool false)))), (.a (.sc (.v (.int .i64 x0_0))))], blF [(.row false K.k_impl_Act a), (.row false K.k_impl_Act b)]⟩ = laws_eqActS_s0 k a b (fun x0_0 => H ⟨tmF [0, 1, 4, 5] [(.a (.sc (.sl 0))), (.a (.sc (.sl 1))), (.a (.sc (.v (.bool false)))), (.a (.sc (.v (.int .i64 x0_0))))], blF [(.row false K.k_impl_Act a), (.row false K.k_impl_Act b)]⟩) x0_0 := by kernel_rfl
theorem laws_eqActS_n0 (k m : Nat) (a : (List Deed)) (b : (List Deed)) (x0_0 : Int) : laws_eqActS_h0 k (m + 1) a b x0_0 = laws_eqActS_s0 k a b (laws_eqActS_h0 k m a b) x0_0 := (hdAt_succ _ _ _ _ _ _ _ _ _ _).trans (laws_eqActS_g0 k _ a b x0_0)
theorem laws_eqActS_q0 (k : Nat) : ∀ m, laws_eqActS_h0 k m = laws_eqActS_l0 k m := by
 intro m
 induction m with
 | zero => funext a b x0_0; rw [laws_eqActS_z0]; rfl
 | succ m ih => funext a b x0_0; rw [laws_eqActS_n0, ih]; rfl
theorem laws_eqActS_e (k : Nat) (a : (List Deed)) (b : (List Deed)) : callF env (laws_eqActS_O k) laws_eqActS_v Tryd.f8 (k + 1) (laws_eqActS_A a b) (fun r => laws_eqActS_d (r.fin 2 [])) = laws_eqActS k a b := by
 have e : ∀ H : St → Option (Bool), callE env (laws_eqActS_O k) laws_eqActS_v Tryd.f8 (k + 1) (laws_eqActS_A a b) [1, 1, 0, 1, 0] (fun r => laws_eqActS_d (r.fin 2 [])) H = laws_eqActS_m k (fun a b x0_0 => H ⟨tmF [0, 1, 4, 5] [(.a (.sc (.sl 0))), (.a (.sc (.sl 1))), (.a (.sc (.v (.bool false)))), (.a (.sc (.v (.int .i64 x0_0))))], blF [(.row false K.k_impl_Act a), (.row false K.k_impl_Act b)]⟩) a b := fun H => by kernel_rfl
 exact (callE_eq env (laws_eqActS_O k) laws_eqActS_v Tryd.f8 k (laws_eqActS_A a b) [1, 1, 0, 1, 0] 2 (fun r => laws_eqActS_d (r.fin 2 [])) rfl (by kernel_rfl)).trans ((e (hdAt env (laws_eqActS_O k) laws_eqActS_v Tryd.f8 2 (fun r => laws_eqActS_d (r.fin 2 [])) [1, 1, 0, 1, 0] k k)).trans (by
  show laws_eqActS_m k (laws_eqActS_h0 k k) a b = _
  rw [laws_eqActS_q0]; rfl))
noncomputable def laws_eqActS_x (k : Nat) : Ent1 := fun A R Q => match A with
 | ⟨[(.sc (.sl 0)), (.sc (.sl 1))], [(.row false K.k_impl_Act a1), (.row false K.k_impl_Act a2)]⟩ => (laws_eqActS k a1 a2).bind fun y => Q ⟨(.a (.sc (.v (.bool y)))), [.dead, .dead]⟩
 | _ => none
theorem laws_eqActS_ok (k : Nat) : OkE Tryd.prog 8 (laws_eqActS_x k) := by
 intro A R Q x h
 unfold laws_eqActS_x at h
 split at h
 · obtain ⟨y, hy, hK⟩ := Option.bind_eq_some_iff.1 h
   obtain ⟨r, hr, hd⟩ := callF_ok envOk (laws_eqActS_Ok k) follows Tryd.func8 (by kernel_rfl) ((laws_eqActS_e k _ _).trans hy)
   exact ⟨_, laws_eqActS_i hd ▸ hr.fin [], hK⟩
 · cases h
/-! ### laws.FnExactScriptText: function 3 -/
noncomputable def laws_FnExactScriptText (k : Nat)  (aActs : (List Deed)) : Option (Bool) :=
 (laws_szActS k aActs 1048576).bind fun y1 =>
 cond (decide ((y1 : Int) < 0))
  (some true)
  ((laws_toActS k aActs).bind fun y2 =>
   (spec_ScriptText k y2).bind fun y3 =>
    (laws_toActS k aActs).bind fun y4 =>
     (impl_ScriptText k y4).bind fun y5 =>
      cond (!(decide ((y5.1 : ByteArray) = y3.1)))
       (some false)
       (cond (!(y5.2.1 == y3.2))
        (some false)
        ((laws_toActS k aActs).bind fun y6 =>
        (laws_eqActS k y5.2.2 y6).bind fun y7 =>
        cond (!y7)
        (some false)
        (some true))))
noncomputable def laws_FnExactScriptText_v : Nat → List Nat := fun t => match t with | _ => []
noncomputable def laws_FnExactScriptText_O (k : Nat) : Oracle := ofL [(4, laws_szActS_x k), (5, spec_ScriptText_x k), (6, laws_toActS_x k), (7, impl_ScriptText_x k), (8, laws_eqActS_x k)]
theorem laws_FnExactScriptText_Ok (k : Nat) : OkO (Ct Tryd.prog) (laws_FnExactScriptText_O k) := okO_cons (laws_szActS_ok k) (okO_cons (spec_ScriptText_ok k) (okO_cons (laws_toActS_ok k) (okO_cons (impl_ScriptText_ok k) (okO_cons (laws_eqActS_ok k) (okO_nil)))))
noncomputable def laws_FnExactScriptText_A (aActs : (List Deed)) : Pk := ⟨[(.sc (.sl 0))], [(.row false K.k_laws_Act aActs)]⟩
noncomputable def laws_FnExactScriptText_d : Rs → Option (Bool)
 | ⟨(.a (.sc (.v (.bool r1)))), [.dead]⟩ => some r1
 | _ => none
theorem laws_FnExactScriptText_i {r : Rs} {y : Bool} (h : laws_FnExactScriptText_d r = some y) : r = ⟨(.a (.sc (.v (.bool y)))), [.dead]⟩ := by
 unfold laws_FnExactScriptText_d at h; split at h
 · cases h; rfl
 · cases h
theorem laws_FnExactScriptText_e (k : Nat) (aActs : (List Deed)) : callF env (laws_FnExactScriptText_O k) laws_FnExactScriptText_v Tryd.f3 (k + 1) (laws_FnExactScriptText_A aActs) (fun r => laws_FnExactScriptText_d (r.fin 1 [])) = laws_FnExactScriptText k aActs := by kernel_rfl
noncomputable def laws_FnExactScriptText_x (k : Nat) : Ent1 := fun A R Q => match A with
 | ⟨[(.sc (.sl 0))], [(.row false K.k_laws_Act a1)]⟩ => (laws_FnExactScriptText k a1).bind fun y => Q ⟨(.a (.sc (.v (.bool y)))), [.dead]⟩
 | _ => none
theorem laws_FnExactScriptText_ok (k : Nat) : OkE Tryd.prog 3 (laws_FnExactScriptText_x k) := by
 intro A R Q x h
 unfold laws_FnExactScriptText_x at h
 split at h
 · obtain ⟨y, hy, hK⟩ := Option.bind_eq_some_iff.1 h
   obtain ⟨r, hr, hd⟩ := callF_ok envOk (laws_FnExactScriptText_Ok k) follows Tryd.func3 (by kernel_rfl) ((laws_FnExactScriptText_e k _).trans hy)
   exact ⟨_, laws_FnExactScriptText_i hd ▸ hr.fin [], hK⟩
 · cases h
end Go.Proofs.YtdgkohichikpdaaDoorX
