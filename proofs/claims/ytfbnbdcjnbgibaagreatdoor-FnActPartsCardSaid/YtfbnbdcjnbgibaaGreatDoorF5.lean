/- What functions of the program compute, as functions of numbers and lists, and that they do. (The file is written by wip/x/vxp.py of this repository.) -/
import Derived.Test.YtfbnbdcjnbgibaaGreatDoorF4
namespace Go.Proofs.YtfbnbdcjnbgibaaGreatDoorX
open Go Go.Proofs
set_option linter.unusedVariables false
set_option maxRecDepth 100000
/-! ### laws.sameInts: function 10 -/
noncomputable def laws_sameInts_s0 (k : Nat)  (a : (List Int)) (b : (List Int)) (J : Int → Option (Bool)) (x0_0 : Int) : Option (Bool) :=
 cond (decide ((x0_0 : Int) < ((a).length : Int)))
 (if 0 ≤ (x0_0 : Int) ∧ (x0_0 : Int) < ((a).length : Int) then
  if 0 ≤ (x0_0 : Int) ∧ (x0_0 : Int) < ((b).length : Int) then
   cond (!(decide (((a.getD (Int.toNat x0_0) 0) : Int) = (b.getD (Int.toNat x0_0) 0))))
    (some false)
    (J (wr (x0_0 + 1))) else none else none)
 (some true)
noncomputable def laws_sameInts_l0 (k : Nat) : Nat → (List Int) → (List Int) → Int → Option (Bool)
 | 0, a, b, x0_0 => laws_sameInts_s0 k a b (fun _ => none) x0_0
 | m + 1, a, b, x0_0 => laws_sameInts_s0 k a b (laws_sameInts_l0 k m a b) x0_0
noncomputable def laws_sameInts_m (k : Nat) (J0 : (List Int) → (List Int) → Int → Option (Bool)) (a : (List Int)) (b : (List Int)) : Option (Bool) :=
 cond (!(decide ((((a).length : Int) : Int) = ((b).length : Int))))
 (some false)
 (J0 a b 0)
noncomputable def laws_sameInts (k : Nat) (a : (List Int)) (b : (List Int)) : Option (Bool) := laws_sameInts_m k (laws_sameInts_l0 k k) a b
noncomputable def laws_sameInts_v : Nat → List Nat := fun t => match t with | 4 => [0, 1, 4, 5] | _ => []
noncomputable def laws_sameInts_O (k : Nat) : Oracle := ofL []
theorem laws_sameInts_Ok (k : Nat) : OkO (Ct Tryz.prog) (laws_sameInts_O k) := okO_nil
noncomputable def laws_sameInts_A (a : (List Int)) (b : (List Int)) : Pk := ⟨[(.sc (.sl 0)), (.sc (.sl 1))], [(.row false K.ki64 a), (.row false K.ki64 b)]⟩
noncomputable def laws_sameInts_d : Rs → Option (Bool)
 | ⟨(.a (.sc (.v (.bool r1)))), [.dead, .dead]⟩ => some r1
 | _ => none
theorem laws_sameInts_i {r : Rs} {y : Bool} (h : laws_sameInts_d r = some y) : r = ⟨(.a (.sc (.v (.bool y)))), [.dead, .dead]⟩ := by
 unfold laws_sameInts_d at h; split at h
 · cases h; rfl
 · cases h
noncomputable def laws_sameInts_h0 (k m : Nat) (a : (List Int)) (b : (List Int)) (x0_0 : Int) : Option (Bool) := hdAt env (laws_sameInts_O k) laws_sameInts_v Tryz.f10 2 (fun r => laws_sameInts_d (r.fin 2 [])) [1, 1, 0, 1, 0] k m ⟨tmF [0, 1, 4, 5] [(.a (.sc (.sl 0))), (.a (.sc (.sl 1))), (.a (.sc (.v (.bool false)))), (.a (.sc (.v (.int .i64 x0_0))))], blF [(.row false K.ki64 a), (.row false K.ki64 b)]⟩
theorem laws_sameInts_z0 (k : Nat) (a : (List Int)) (b : (List Int)) (x0_0 : Int) : laws_sameInts_h0 k 0 a b x0_0 = laws_sameInts_s0 k a b (fun _ => none) x0_0 := by kernel_rfl
theorem laws_sameInts_g0 (k : Nat) (H : St → Option (Bool)) (a : (List Int)) (b : (List Int)) (x0_0 : Int) : rnd env (laws_sameInts_O k) laws_sameInts_v Tryz.f10 2 (fun r => laws_sameInts_d (r.fin 2 [])) [1, 1, 0, 1, 0] k H ⟨tmF [0, 1, 4, 5] [(.a (.sc (.sl 0))), (.a (.sc (.sl 1))), (.a (.sc (.v (.bool false)))), (.a (.sc (.v (.int .i64 x0_0))))], blF [(.row false K.ki64 a), (.row false K.ki64 b)]⟩ = laws_sameInts_s0 k a b (fun x0_0 => H ⟨tmF [0, 1, 4, 5] [(.a (.sc (.sl 0))), (.a (.sc (.sl 1))), (.a (.sc (.v (.bool false)))), (.a (.sc (.v (.int .i64 x0_0))))], blF [(.row false K.ki64 a), (.row false K.ki64 b)]⟩) x0_0 := by kernel_rfl
theorem laws_sameInts_n0 (k m : Nat) (a : (List Int)) (b : (List Int)) (x0_0 : Int) : laws_sameInts_h0 k (m + 1) a b x0_0 = laws_sameInts_s0 k a b (laws_sameInts_h0 k m a b) x0_0 := (hdAt_succ _ _ _ _ _ _ _ _ _ _).trans (laws_sameInts_g0 k _ a b x0_0)
theorem laws_sameInts_q0 (k : Nat) : ∀ m, laws_sameInts_h0 k m = laws_sameInts_l0 k m := by
 intro m
 induction m with
 | zero => funext a b x0_0; rw [laws_sameInts_z0]; rfl
 | succ m ih => funext a b x0_0; rw [laws_sameInts_n0, ih]; rfl
theorem laws_sameInts_e (k : Nat) (a : (List Int)) (b : (List Int)) : callF env (laws_sameInts_O k) laws_sameInts_v Tryz.f10 (k + 1) (laws_sameInts_A a b) (fun r => laws_sameInts_d (r.fin 2 [])) = laws_sameInts k a b := by
 have e : callF env (laws_sameInts_O k) laws_sameInts_v Tryz.f10 (k + 1) (laws_sameInts_A a b) (fun r => laws_sameInts_d (r.fin 2 [])) = laws_sameInts_m k (laws_sameInts_h0 k k) a b := by kernel_rfl
 rw [e, laws_sameInts_q0]; rfl
noncomputable def laws_sameInts_x (k : Nat) : Ent1 := fun A R Q => match A with
 | ⟨[(.sc (.sl 0)), (.sc (.sl 1))], [(.row false K.ki64 a1), (.row false K.ki64 a2)]⟩ => (laws_sameInts k a1 a2).bind fun y => Q ⟨(.a (.sc (.v (.bool y)))), [.dead, .dead]⟩
 | _ => none
theorem laws_sameInts_ok (k : Nat) : OkE Tryz.prog 10 (laws_sameInts_x k) := by
 intro A R Q x h
 unfold laws_sameInts_x at h
 split at h
 · obtain ⟨y, hy, hK⟩ := Option.bind_eq_some_iff.1 h
   obtain ⟨r, hr, hd⟩ := callF_ok envOk (laws_sameInts_Ok k) follows Tryz.func10 (by kernel_rfl) ((laws_sameInts_e k _ _).trans hy)
   exact ⟨_, laws_sameInts_i hd ▸ hr.fin [], hK⟩
 · cases h
/-! ### laws.FnActParts: function 3 -/
noncomputable def laws_FnActParts (k : Nat)  (code : (List Int)) : Option (Bool) :=
 (laws_big k code).bind fun y1 =>
 cond y1
  (some true)
  ((spec_DrawActs k code).bind fun y2 =>
   (spec_DrawPlaces k code).bind fun y3 =>
    if 0 ≤ (0 : Int) ∧ (0 : Int) < ((y3).length : Int) then
     if ((wr (((y2.2).length : Int) + 1)) : Int) ≠ 0 then
      (impl_RunActs k y2.1 y2.2).bind fun y4 =>
       if (0 : Int) ≤ 0 ∧ 0 ≤ (Int.tmod (y3.getD 0 0) (wr (((y2.2).length : Int) + 1))) ∧ (Int.tmod (y3.getD 0 0) (wr (((y2.2).length : Int) + 1))) ≤ ((y2.2).length : Int) then
        (impl_RunActs k y2.1 ((y2.2.take (Int.toNat (Int.tmod (y3.getD 0 0) (wr (((y2.2).length : Int) + 1))))).drop 0)).bind fun y5 =>
        if (0 : Int) ≤ (Int.tmod (y3.getD 0 0) (wr (((y2.2).length : Int) + 1))) ∧ (Int.tmod (y3.getD 0 0) (wr (((y2.2).length : Int) + 1))) ≤ ((y2.2).length : Int) ∧ ((y2.2).length : Int) ≤ ((y2.2).length : Int) then
        (impl_RunActs k y5.1 ((y2.2.take (Int.toNat ((y2.2).length : Int))).drop (Int.toNat (Int.tmod (y3.getD 0 0) (wr (((y2.2).length : Int) + 1)))))).bind fun y6 =>
        (impl_FormatBakery k y4.1).bind fun y7 =>
        cond (decide ((0 : Int) < ((y7).length : Int)))
        ((impl_FormatBakery k y4.1).bind fun y8 =>
        (impl_FormatBakery k y6.1).bind fun y9 =>
        (laws_sameTexts k y8 y9).bind fun y10 =>
        cond y10
        (if ([] : List Int).length + (y5.2 : List Int).length ≤ maxRow then
        if (([] ++ y5.2) : List Int).length + (y6.2 : List Int).length ≤ maxRow then
        (laws_sameInts k y4.2 (([] ++ y5.2) ++ y6.2)).bind fun y11 =>
        some y11 else none else none)
        (some false))
        (some false) else none else none else none else none)
noncomputable def laws_FnActParts_v : Nat → List Nat := fun t => match t with | _ => []
noncomputable def laws_FnActParts_O (k : Nat) : Oracle := ofL [(10, laws_sameInts_x k), (4, laws_big_x k), (5, spec_DrawActs_x k), (6, spec_DrawPlaces_x k), (7, impl_RunActs_x k), (8, impl_FormatBakery_x k), (9, laws_sameTexts_x k)]
theorem laws_FnActParts_Ok (k : Nat) : OkO (Ct Tryz.prog) (laws_FnActParts_O k) := okO_cons (laws_sameInts_ok k) (okO_cons (laws_big_ok k) (okO_cons (spec_DrawActs_ok k) (okO_cons (spec_DrawPlaces_ok k) (okO_cons (impl_RunActs_ok k) (okO_cons (impl_FormatBakery_ok k) (okO_cons (laws_sameTexts_ok k) (okO_nil)))))))
noncomputable def laws_FnActParts_A (code : (List Int)) : Pk := ⟨[(.sc (.sl 0))], [(.row false K.ku8 code)]⟩
noncomputable def laws_FnActParts_d : Rs → Option (Bool)
 | ⟨(.a (.sc (.v (.bool r1)))), [.dead]⟩ => some r1
 | _ => none
theorem laws_FnActParts_i {r : Rs} {y : Bool} (h : laws_FnActParts_d r = some y) : r = ⟨(.a (.sc (.v (.bool y)))), [.dead]⟩ := by
 unfold laws_FnActParts_d at h; split at h
 · cases h; rfl
 · cases h
theorem laws_FnActParts_e (k : Nat) (code : (List Int)) : callF env (laws_FnActParts_O k) laws_FnActParts_v Tryz.f3 (k + 1) (laws_FnActParts_A code) (fun r => laws_FnActParts_d (r.fin 1 [])) = laws_FnActParts k code := by kernel_rfl
noncomputable def laws_FnActParts_x (k : Nat) : Ent1 := fun A R Q => match A with
 | ⟨[(.sc (.sl 0))], [(.row false K.ku8 a1)]⟩ => (laws_FnActParts k a1).bind fun y => Q ⟨(.a (.sc (.v (.bool y)))), [.dead]⟩
 | _ => none
theorem laws_FnActParts_ok (k : Nat) : OkE Tryz.prog 3 (laws_FnActParts_x k) := by
 intro A R Q x h
 unfold laws_FnActParts_x at h
 split at h
 · obtain ⟨y, hy, hK⟩ := Option.bind_eq_some_iff.1 h
   obtain ⟨r, hr, hd⟩ := callF_ok envOk (laws_FnActParts_Ok k) follows Tryz.func3 (by kernel_rfl) ((laws_FnActParts_e k _).trans hy)
   exact ⟨_, laws_FnActParts_i hd ▸ hr.fin [], hK⟩
 · cases h
end Go.Proofs.YtfbnbdcjnbgibaaGreatDoorX
