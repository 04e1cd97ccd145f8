/- What functions of the program compute, as functions of numbers and lists, and that they do. (The file is written by wip/x/vxp.py of this repository.) -/
import Derived.Test.YtldpjfacoaplhaaDoorF0
import Derived.Test.YtldpjfacoaplhaaDoorX18
namespace Go.Proofs.YtldpjfacoaplhaaDoorX
open Go Go.Proofs
set_option linter.unusedVariables false
set_option maxRecDepth 100000
/-! ### laws.at: function 12 -/
noncomputable def laws_at (k : Nat)  (code : (List Int)) (i : Int) : Option (Int) :=
 cond (decide ((((code).length : Int) : Int) = 0))
 (some 0)
 (if (((code).length : Int) : Int) ≠ 0 then
  if 0 ≤ ((Int.tmod (wr ((wr (i * 5)) + 1)) ((code).length : Int)) : Int) ∧ ((Int.tmod (wr ((wr (i * 5)) + 1)) ((code).length : Int)) : Int) < ((code).length : Int) then
   some (wr (code.getD (Int.toNat (Int.tmod (wr ((wr (i * 5)) + 1)) ((code).length : Int))) 0)) else none else none)
noncomputable def laws_at_v : Nat → List Nat := fun t => match t with | _ => []
noncomputable def laws_at_O (k : Nat) : Oracle := ofL []
theorem laws_at_Ok (k : Nat) : OkO (Ct Tryd.prog) (laws_at_O k) := okO_nil
noncomputable def laws_at_A (code : (List Int)) (i : Int) : Pk := ⟨[(.sc (.sl 0)), (.sc (.v (.int .i64 i)))], [(.row false K.ku8 code)]⟩
noncomputable def laws_at_d : Rs → Option (Int)
 | ⟨(.a (.sc (.v (.int .i64 r1)))), [.dead]⟩ => some r1
 | _ => none
theorem laws_at_i {r : Rs} {y : Int} (h : laws_at_d r = some y) : r = ⟨(.a (.sc (.v (.int .i64 y)))), [.dead]⟩ := by
 unfold laws_at_d at h; split at h
 · cases h; rfl
 · cases h
theorem laws_at_e (k : Nat) (code : (List Int)) (i : Int) : callF env (laws_at_O k) laws_at_v Tryd.f12 (k + 1) (laws_at_A code i) (fun r => laws_at_d (r.fin 1 [])) = laws_at k code i := by kernel_rfl
noncomputable def laws_at_x (k : Nat) : Ent1 := fun A R Q => match A with
 | ⟨[(.sc (.sl 0)), (.sc (.v (.int .i64 a2)))], [(.row false K.ku8 a1)]⟩ => (laws_at k a1 a2).bind fun y => Q ⟨(.a (.sc (.v (.int .i64 y)))), [.dead]⟩
 | _ => none
theorem laws_at_ok (k : Nat) : OkE Tryd.prog 12 (laws_at_x k) := by
 intro A R Q x h
 unfold laws_at_x at h
 split at h
 · obtain ⟨y, hy, hK⟩ := Option.bind_eq_some_iff.1 h
   obtain ⟨r, hr, hd⟩ := callF_ok envOk (laws_at_Ok k) follows Tryd.func12 (by kernel_rfl) ((laws_at_e k _ _).trans hy)
   exact ⟨_, laws_at_i hd ▸ hr.fin [], hK⟩
 · cases h
/-! ### impl.MinutesTo: function 15 -/
noncomputable def impl_MinutesTo (k : Nat)  (from_ : Int) (to_ : Int) : Option (Int) :=
 (impl_in k from_ 0 1439).bind fun y1 =>
 cond (!y1)
  (some (-1))
  ((impl_in k to_ 0 1439).bind fun y2 =>
   cond (!y2)
    (some (-1))
    (if (1440 : Int) ≠ 0 then
     some (Int.tmod (wr ((wr (to_ - from_)) + 1440)) 1440) else none))
noncomputable def impl_MinutesTo_v : Nat → List Nat := fun t => match t with | _ => []
noncomputable def impl_MinutesTo_O (k : Nat) : Oracle := ofL [(30, impl_in_x k)]
theorem impl_MinutesTo_Ok (k : Nat) : OkO (Ct Tryd.prog) (impl_MinutesTo_O k) := okO_cons (impl_in_ok k) (okO_nil)
noncomputable def impl_MinutesTo_A (from_ : Int) (to_ : Int) : Pk := ⟨[(.sc (.v (.int .i64 from_))), (.sc (.v (.int .i64 to_)))], []⟩
noncomputable def impl_MinutesTo_d : Rs → Option (Int)
 | ⟨(.a (.sc (.v (.int .i64 r1)))), []⟩ => some r1
 | _ => none
theorem impl_MinutesTo_i {r : Rs} {y : Int} (h : impl_MinutesTo_d r = some y) : r = ⟨(.a (.sc (.v (.int .i64 y)))), []⟩ := by
 unfold impl_MinutesTo_d at h; split at h
 · cases h; rfl
 · cases h
theorem impl_MinutesTo_e (k : Nat) (from_ : Int) (to_ : Int) : callF env (impl_MinutesTo_O k) impl_MinutesTo_v Tryd.f15 (k + 1) (impl_MinutesTo_A from_ to_) (fun r => impl_MinutesTo_d (r.fin 0 [])) = impl_MinutesTo k from_ to_ := by kernel_rfl
noncomputable def impl_MinutesTo_x (k : Nat) : Ent1 := fun A R Q => match A with
 | ⟨[(.sc (.v (.int .i64 a1))), (.sc (.v (.int .i64 a2)))], []⟩ => (impl_MinutesTo k a1 a2).bind fun y => Q ⟨(.a (.sc (.v (.int .i64 y)))), []⟩
 | _ => none
theorem impl_MinutesTo_ok (k : Nat) : OkE Tryd.prog 15 (impl_MinutesTo_x k) := by
 intro A R Q x h
 unfold impl_MinutesTo_x at h
 split at h
 · obtain ⟨y, hy, hK⟩ := Option.bind_eq_some_iff.1 h
   obtain ⟨r, hr, hd⟩ := callF_ok envOk (impl_MinutesTo_Ok k) follows Tryd.func15 (by kernel_rfl) ((impl_MinutesTo_e k _ _).trans hy)
   exact ⟨_, impl_MinutesTo_i hd ▸ hr.fin [], hK⟩
 · cases h
/-! ### impl.allIn$1: function 51 -/
noncomputable def impl_allIn_1 (k : Nat)  (n : Int) (p1 : Int) (p2 : Int) : Option (Bool) :=
 (impl_in k n p1 p2).bind fun y1 =>
 some (!y1)
noncomputable def impl_allIn_1_v : Nat → List Nat := fun t => match t with | _ => []
noncomputable def impl_allIn_1_O (k : Nat) : Oracle := ofL [(30, impl_in_x k)]
theorem impl_allIn_1_Ok (k : Nat) : OkO (Ct Tryd.prog) (impl_allIn_1_O k) := okO_cons (impl_in_ok k) (okO_nil)
noncomputable def impl_allIn_1_A (n : Int) (p1 : Int) (p2 : Int) : Pk := ⟨[(.sc (.v (.int .i64 n))), (.sc (.bp 0 0)), (.sc (.bp 1 0))], [(.box false [(.v (.int .i64 p1))]), (.box false [(.v (.int .i64 p2))])]⟩
noncomputable def impl_allIn_1_d : Rs → Option (Bool)
 | ⟨(.a (.sc (.v (.bool r1)))), [.dead, .dead]⟩ => some r1
 | _ => none
theorem impl_allIn_1_i {r : Rs} {y : Bool} (h : impl_allIn_1_d r = some y) : r = ⟨(.a (.sc (.v (.bool y)))), [.dead, .dead]⟩ := by
 unfold impl_allIn_1_d at h; split at h
 · cases h; rfl
 · cases h
theorem impl_allIn_1_e (k : Nat) (n : Int) (p1 : Int) (p2 : Int) : callF env (impl_allIn_1_O k) impl_allIn_1_v Tryd.f51 (k + 1) (impl_allIn_1_A n p1 p2) (fun r => impl_allIn_1_d (r.fin 2 [])) = impl_allIn_1 k n p1 p2 := by kernel_rfl
noncomputable def impl_allIn_1_x (k : Nat) : Ent1 := fun A R Q => match A with
 | ⟨[(.sc (.v (.int .i64 a1))), (.sc (.bp 0 0)), (.sc (.bp 1 0))], [(.box false [(.v (.int .i64 a2))]), (.box false [(.v (.int .i64 a3))])]⟩ => (impl_allIn_1 k a1 a2 a3).bind fun y => Q ⟨(.a (.sc (.v (.bool y)))), [.dead, .dead]⟩
 | _ => none
theorem impl_allIn_1_ok (k : Nat) : OkE Tryd.prog 51 (impl_allIn_1_x k) := by
 intro A R Q x h
 unfold impl_allIn_1_x at h
 split at h
 · obtain ⟨y, hy, hK⟩ := Option.bind_eq_some_iff.1 h
   obtain ⟨r, hr, hd⟩ := callF_ok envOk (impl_allIn_1_Ok k) follows Tryd.func51 (by kernel_rfl) ((impl_allIn_1_e k _ _ _).trans hy)
   exact ⟨_, impl_allIn_1_i hd ▸ hr.fin [], hK⟩
 · cases h
/-! ### slices.IndexFunc[[]int,int]: function 65 -/
noncomputable def slices_IndexFunc_int_int_51_s0 (k : Nat)  (s : (List Int)) (f_0 : Int) (f_1 : Int) (J : Int → Option (Int)) (x0_0 : Int) : Option (Int) :=
 cond (decide ((x0_0 : Int) < ((s).length : Int)))
 (if 0 ≤ (x0_0 : Int) ∧ (x0_0 : Int) < ((s).length : Int) then
  (impl_allIn_1 k (s.getD (Int.toNat x0_0) 0) f_0 f_1).bind fun y2 =>
   cond y2
    (some x0_0)
    (J (wr (x0_0 + 1))) else none)
 (some (-1))
noncomputable def slices_IndexFunc_int_int_51_l0 (k : Nat) : Nat → (List Int) → Int → Int → Int → Option (Int)
 | 0, s, f_0, f_1, x0_0 => slices_IndexFunc_int_int_51_s0 k s f_0 f_1 (fun _ => none) x0_0
 | m + 1, s, f_0, f_1, x0_0 => slices_IndexFunc_int_int_51_s0 k s f_0 f_1 (slices_IndexFunc_int_int_51_l0 k m s f_0 f_1) x0_0
noncomputable def slices_IndexFunc_int_int_51_m (k : Nat) (J0 : (List Int) → Int → Int → Int → Option (Int)) (s : (List Int)) (f_0 : Int) (f_1 : Int) : Option (Int) :=
 J0 s f_0 f_1 0
noncomputable def slices_IndexFunc_int_int_51 (k : Nat) (s : (List Int)) (f_0 : Int) (f_1 : Int) : Option (Int) := slices_IndexFunc_int_int_51_m k (slices_IndexFunc_int_int_51_l0 k k) s f_0 f_1
noncomputable def slices_IndexFunc_int_int_51_v : Nat → List Nat := fun t => match t with | 2 => [0, 1, 4, 7, 8] | _ => []
noncomputable def slices_IndexFunc_int_int_51_O (k : Nat) : Oracle := ofL [(51, impl_allIn_1_x k)]
theorem slices_IndexFunc_int_int_51_Ok (k : Nat) : OkO (Ct Tryd.prog) (slices_IndexFunc_int_int_51_O k) := okO_cons (impl_allIn_1_ok k) (okO_nil)
noncomputable def slices_IndexFunc_int_int_51_A (s : (List Int)) (f_0 : Int) (f_1 : Int) : Pk := ⟨[(.sc (.sl 0)), (.sc (.fn 51 [1, 2]))], [(.row false K.ki64 s), (.box false [(.v (.int .i64 f_0))]), (.box false [(.v (.int .i64 f_1))])]⟩
noncomputable def slices_IndexFunc_int_int_51_d : Rs → Option (Int)
 | ⟨(.a (.sc (.v (.int .i64 r1)))), [.dead, .dead, .dead]⟩ => some r1
 | _ => none
theorem slices_IndexFunc_int_int_51_i {r : Rs} {y : Int} (h : slices_IndexFunc_int_int_51_d r = some y) : r = ⟨(.a (.sc (.v (.int .i64 y)))), [.dead, .dead, .dead]⟩ := by
 unfold slices_IndexFunc_int_int_51_d at h; split at h
 · cases h; rfl
 · cases h
noncomputable def slices_IndexFunc_int_int_51_h0 (k m : Nat) (s : (List Int)) (f_0 : Int) (f_1 : Int) (x0_0 : Int) : Option (Int) := hdAt env (slices_IndexFunc_int_int_51_O k) slices_IndexFunc_int_int_51_v Tryd.f65 3 (fun r => slices_IndexFunc_int_int_51_d (r.fin 3 [])) [1, 0, 1, 0] k m ⟨tmF [0, 1, 4, 7, 8] [(.a (.sc (.sl 0))), (.a (.sc (.fn 51 [1, 2]))), (.a (.sc (.v (.int .i64 0)))), (.a (.sc (.v (.int .i64 ((s).length : Int))))), (.a (.sc (.v (.int .i64 x0_0))))], blF [(.row false K.ki64 s), (.box false [(.v (.int .i64 f_0))]), (.box false [(.v (.int .i64 f_1))])]⟩
theorem slices_IndexFunc_int_int_51_z0 (k : Nat) (s : (List Int)) (f_0 : Int) (f_1 : Int) (x0_0 : Int) : slices_IndexFunc_int_int_51_h0 k 0 s f_0 f_1 x0_0 = slices_IndexFunc_int_int_51_s0 k s f_0 f_1 (fun _ => none) x0_0 := by kernel_rfl
theorem slices_IndexFunc_int_int_51_g0 (k : Nat) (H : St → Option (Int)) (s : (List Int)) (f_0 : Int) (f_1 : Int) (x0_0 : Int) : rnd env (slices_IndexFunc_int_int_51_O k) slices_IndexFunc_int_int_51_v Tryd.f65 3 (fun r => slices_IndexFunc_int_int_51_d (r.fin 3 [])) [1, 0, 1, 0] k H ⟨tmF [0, 1, 4, 7, 8] [(.a (.sc (.sl 0))), (.a (.sc (.fn 51 [1, 2]))), (.a (.sc (.v (.int .i64 0)))), (.a (.sc (.v (.int .i64 ((s).length : Int))))), (.a (.sc (.v (.int .i64 x0_0))))], blF [(.row false K.ki64 s), (.box false [(.v (.int .i64 f_0))]), (.box false [(.v (.int .i64 f_1))])]⟩ = slices_IndexFunc_int_int_51_s0 k s f_0 f_1 (fun x0_0 => H ⟨tmF [0, 1, 4, 7, 8] [(.a (.sc (.sl 0))), (.a (.sc (.fn 51 [1, 2]))), (.a (.sc (.v (.int .i64 0)))), (.a (.sc (.v (.int .i64 ((s).length : Int))))), (.a (.sc (.v (.int .i64 x0_0))))], blF [(.row false K.ki64 s), (.box false [(.v (.int .i64 f_0))]), (.box false [(.v (.int .i64 f_1))])]⟩) x0_0 := by kernel_rfl
theorem slices_IndexFunc_int_int_51_n0 (k m : Nat) (s : (List Int)) (f_0 : Int) (f_1 : Int) (x0_0 : Int) : slices_IndexFunc_int_int_51_h0 k (m + 1) s f_0 f_1 x0_0 = slices_IndexFunc_int_int_51_s0 k s f_0 f_1 (slices_IndexFunc_int_int_51_h0 k m s f_0 f_1) x0_0 := (hdAt_succ _ _ _ _ _ _ _ _ _ _).trans (slices_IndexFunc_int_int_51_g0 k _ s f_0 f_1 x0_0)
theorem slices_IndexFunc_int_int_51_q0 (k : Nat) : ∀ m, slices_IndexFunc_int_int_51_h0 k m = slices_IndexFunc_int_int_51_l0 k m := by
 intro m
 induction m with
 | zero => funext s f_0 f_1 x0_0; rw [slices_IndexFunc_int_int_51_z0]; rfl
 | succ m ih => funext s f_0 f_1 x0_0; rw [slices_IndexFunc_int_int_51_n0, ih]; rfl
theorem slices_IndexFunc_int_int_51_e (k : Nat) (s : (List Int)) (f_0 : Int) (f_1 : Int) : callF env (slices_IndexFunc_int_int_51_O k) slices_IndexFunc_int_int_51_v Tryd.f65 (k + 1) (slices_IndexFunc_int_int_51_A s f_0 f_1) (fun r => slices_IndexFunc_int_int_51_d (r.fin 3 [])) = slices_IndexFunc_int_int_51 k s f_0 f_1 := by
 have e : ∀ H : St → Option (Int), callE env (slices_IndexFunc_int_int_51_O k) slices_IndexFunc_int_int_51_v Tryd.f65 (k + 1) (slices_IndexFunc_int_int_51_A s f_0 f_1) [1, 0, 1, 0] (fun r => slices_IndexFunc_int_int_51_d (r.fin 3 [])) H = slices_IndexFunc_int_int_51_m k (fun s f_0 f_1 x0_0 => H ⟨tmF [0, 1, 4, 7, 8] [(.a (.sc (.sl 0))), (.a (.sc (.fn 51 [1, 2]))), (.a (.sc (.v (.int .i64 0)))), (.a (.sc (.v (.int .i64 ((s).length : Int))))), (.a (.sc (.v (.int .i64 x0_0))))], blF [(.row false K.ki64 s), (.box false [(.v (.int .i64 f_0))]), (.box false [(.v (.int .i64 f_1))])]⟩) s f_0 f_1 := fun H => by kernel_rfl
 exact (callE_eq env (slices_IndexFunc_int_int_51_O k) slices_IndexFunc_int_int_51_v Tryd.f65 k (slices_IndexFunc_int_int_51_A s f_0 f_1) [1, 0, 1, 0] 3 (fun r => slices_IndexFunc_int_int_51_d (r.fin 3 [])) rfl (by kernel_rfl)).trans ((e (hdAt env (slices_IndexFunc_int_int_51_O k) slices_IndexFunc_int_int_51_v Tryd.f65 3 (fun r => slices_IndexFunc_int_int_51_d (r.fin 3 [])) [1, 0, 1, 0] k k)).trans (by
  show slices_IndexFunc_int_int_51_m k (slices_IndexFunc_int_int_51_h0 k k) s f_0 f_1 = _
  rw [slices_IndexFunc_int_int_51_q0]; rfl))
noncomputable def slices_IndexFunc_int_int_51_x (k : Nat) : Ent1 := fun A R Q => match A with
 | ⟨[(.sc (.sl 0)), (.sc (.fn 51 [1, 2]))], [(.row false K.ki64 a1), (.box false [(.v (.int .i64 a2))]), (.box false [(.v (.int .i64 a3))])]⟩ => (slices_IndexFunc_int_int_51 k a1 a2 a3).bind fun y => Q ⟨(.a (.sc (.v (.int .i64 y)))), [.dead, .dead, .dead]⟩
 | _ => none
theorem slices_IndexFunc_int_int_51_ok (k : Nat) : OkE Tryd.prog 65 (slices_IndexFunc_int_int_51_x k) := by
 intro A R Q x h
 unfold slices_IndexFunc_int_int_51_x at h
 split at h
 · obtain ⟨y, hy, hK⟩ := Option.bind_eq_some_iff.1 h
   obtain ⟨r, hr, hd⟩ := callF_ok envOk (slices_IndexFunc_int_int_51_Ok k) follows Tryd.func65 (by kernel_rfl) ((slices_IndexFunc_int_int_51_e k _ _ _).trans hy)
   exact ⟨_, slices_IndexFunc_int_int_51_i hd ▸ hr.fin [], hK⟩
 · cases h
/-! ### slices.ContainsFunc[[]int,int]: function 50 -/
noncomputable def slices_ContainsFunc_int_int_51 (k : Nat)  (s : (List Int)) (f_0 : Int) (f_1 : Int) : Option (Bool) :=
 (slices_IndexFunc_int_int_51 k s f_0 f_1).bind fun y1 =>
 some (decide ((0 : Int) ≤ y1))
noncomputable def slices_ContainsFunc_int_int_51_v : Nat → List Nat := fun t => match t with | _ => []
noncomputable def slices_ContainsFunc_int_int_51_O (k : Nat) : Oracle := ofL [(65, slices_IndexFunc_int_int_51_x k)]
theorem slices_ContainsFunc_int_int_51_Ok (k : Nat) : OkO (Ct Tryd.prog) (slices_ContainsFunc_int_int_51_O k) := okO_cons (slices_IndexFunc_int_int_51_ok k) (okO_nil)
noncomputable def slices_ContainsFunc_int_int_51_A (s : (List Int)) (f_0 : Int) (f_1 : Int) : Pk := ⟨[(.sc (.sl 0)), (.sc (.fn 51 [1, 2]))], [(.row false K.ki64 s), (.box false [(.v (.int .i64 f_0))]), (.box false [(.v (.int .i64 f_1))])]⟩
noncomputable def slices_ContainsFunc_int_int_51_d : Rs → Option (Bool)
 | ⟨(.a (.sc (.v (.bool r1)))), [.dead, .dead, .dead]⟩ => some r1
 | _ => none
theorem slices_ContainsFunc_int_int_51_i {r : Rs} {y : Bool} (h : slices_ContainsFunc_int_int_51_d r = some y) : r = ⟨(.a (.sc (.v (.bool y)))), [.dead, .dead, .dead]⟩ := by
 unfold slices_ContainsFunc_int_int_51_d at h; split at h
 · cases h; rfl
 · cases h
theorem slices_ContainsFunc_int_int_51_e (k : Nat) (s : (List Int)) (f_0 : Int) (f_1 : Int) : callF env (slices_ContainsFunc_int_int_51_O k) slices_ContainsFunc_int_int_51_v Tryd.f50 (k + 1) (slices_ContainsFunc_int_int_51_A s f_0 f_1) (fun r => slices_ContainsFunc_int_int_51_d (r.fin 3 [])) = slices_ContainsFunc_int_int_51 k s f_0 f_1 := by kernel_rfl
noncomputable def slices_ContainsFunc_int_int_51_x (k : Nat) : Ent1 := fun A R Q => match A with
 | ⟨[(.sc (.sl 0)), (.sc (.fn 51 [1, 2]))], [(.row false K.ki64 a1), (.box false [(.v (.int .i64 a2))]), (.box false [(.v (.int .i64 a3))])]⟩ => (slices_ContainsFunc_int_int_51 k a1 a2 a3).bind fun y => Q ⟨(.a (.sc (.v (.bool y)))), [.dead, .dead, .dead]⟩
 | _ => none
theorem slices_ContainsFunc_int_int_51_ok (k : Nat) : OkE Tryd.prog 50 (slices_ContainsFunc_int_int_51_x k) := by
 intro A R Q x h
 unfold slices_ContainsFunc_int_int_51_x at h
 split at h
 · obtain ⟨y, hy, hK⟩ := Option.bind_eq_some_iff.1 h
   obtain ⟨r, hr, hd⟩ := callF_ok envOk (slices_ContainsFunc_int_int_51_Ok k) follows Tryd.func50 (by kernel_rfl) ((slices_ContainsFunc_int_int_51_e k _ _ _).trans hy)
   exact ⟨_, slices_ContainsFunc_int_int_51_i hd ▸ hr.fin [], hK⟩
 · cases h
/-! ### impl.allIn: function 32 -/
noncomputable def impl_allIn (k : Nat)  (list : (List Int)) (low : Int) (high : Int) : Option (Bool) :=
 (slices_ContainsFunc_int_int_51 k list low high).bind fun y1 =>
 some (!y1)
noncomputable def impl_allIn_v : Nat → List Nat := fun t => match t with | _ => []
noncomputable def impl_allIn_O (k : Nat) : Oracle := ofL [(50, slices_ContainsFunc_int_int_51_x k)]
theorem impl_allIn_Ok (k : Nat) : OkO (Ct Tryd.prog) (impl_allIn_O k) := okO_cons (slices_ContainsFunc_int_int_51_ok k) (okO_nil)
noncomputable def impl_allIn_A (list : (List Int)) (low : Int) (high : Int) : Pk := ⟨[(.sc (.sl 0)), (.sc (.v (.int .i64 low))), (.sc (.v (.int .i64 high)))], [(.row false K.ki64 list)]⟩
noncomputable def impl_allIn_d : Rs → Option (Bool)
 | ⟨(.a (.sc (.v (.bool r1)))), [.dead]⟩ => some r1
 | _ => none
theorem impl_allIn_i {r : Rs} {y : Bool} (h : impl_allIn_d r = some y) : r = ⟨(.a (.sc (.v (.bool y)))), [.dead]⟩ := by
 unfold impl_allIn_d at h; split at h
 · cases h; rfl
 · cases h
theorem impl_allIn_e (k : Nat) (list : (List Int)) (low : Int) (high : Int) : callF env (impl_allIn_O k) impl_allIn_v Tryd.f32 (k + 1) (impl_allIn_A list low high) (fun r => impl_allIn_d (r.fin 1 [])) = impl_allIn k list low high := by kernel_rfl
noncomputable def impl_allIn_x (k : Nat) : Ent1 := fun A R Q => match A with
 | ⟨[(.sc (.sl 0)), (.sc (.v (.int .i64 a2))), (.sc (.v (.int .i64 a3)))], [(.row false K.ki64 a1)]⟩ => (impl_allIn k a1 a2 a3).bind fun y => Q ⟨(.a (.sc (.v (.bool y)))), [.dead]⟩
 | _ => none
theorem impl_allIn_ok (k : Nat) : OkE Tryd.prog 32 (impl_allIn_x k) := by
 intro A R Q x h
 unfold impl_allIn_x at h
 split at h
 · obtain ⟨y, hy, hK⟩ := Option.bind_eq_some_iff.1 h
   obtain ⟨r, hr, hd⟩ := callF_ok envOk (impl_allIn_Ok k) follows Tryd.func32 (by kernel_rfl) ((impl_allIn_e k _ _ _).trans hy)
   exact ⟨_, impl_allIn_i hd ▸ hr.fin [], hK⟩
 · cases h
/-! ### impl.IsBetween: function 16 -/
noncomputable def impl_IsBetween (k : Nat)  (minute : Int) (from_ : Int) (to_ : Int) : Option (Bool) :=
 (impl_allIn k ([minute, from_, to_]) 0 1439).bind fun y1 =>
 cond y1
  ((impl_MinutesTo k from_ minute).bind fun y2 =>
   (impl_MinutesTo k from_ to_).bind fun y3 =>
    some (decide ((y2 : Int) < y3)))
  (some false)
noncomputable def impl_IsBetween_v : Nat → List Nat := fun t => match t with | _ => []
noncomputable def impl_IsBetween_O (k : Nat) : Oracle := ofL [(15, impl_MinutesTo_x k), (32, impl_allIn_x k)]
theorem impl_IsBetween_Ok (k : Nat) : OkO (Ct Tryd.prog) (impl_IsBetween_O k) := okO_cons (impl_MinutesTo_ok k) (okO_cons (impl_allIn_ok k) (okO_nil))
noncomputable def impl_IsBetween_A (minute : Int) (from_ : Int) (to_ : Int) : Pk := ⟨[(.sc (.v (.int .i64 minute))), (.sc (.v (.int .i64 from_))), (.sc (.v (.int .i64 to_)))], []⟩
noncomputable def impl_IsBetween_d : Rs → Option (Bool)
 | ⟨(.a (.sc (.v (.bool r1)))), []⟩ => some r1
 | _ => none
theorem impl_IsBetween_i {r : Rs} {y : Bool} (h : impl_IsBetween_d r = some y) : r = ⟨(.a (.sc (.v (.bool y)))), []⟩ := by
 unfold impl_IsBetween_d at h; split at h
 · cases h; rfl
 · cases h
theorem impl_IsBetween_e (k : Nat) (minute : Int) (from_ : Int) (to_ : Int) : callF env (impl_IsBetween_O k) impl_IsBetween_v Tryd.f16 (k + 1) (impl_IsBetween_A minute from_ to_) (fun r => impl_IsBetween_d (r.fin 0 [])) = impl_IsBetween k minute from_ to_ := by kernel_rfl
noncomputable def impl_IsBetween_x (k : Nat) : Ent1 := fun A R Q => match A with
 | ⟨[(.sc (.v (.int .i64 a1))), (.sc (.v (.int .i64 a2))), (.sc (.v (.int .i64 a3)))], []⟩ => (impl_IsBetween k a1 a2 a3).bind fun y => Q ⟨(.a (.sc (.v (.bool y)))), []⟩
 | _ => none
theorem impl_IsBetween_ok (k : Nat) : OkE Tryd.prog 16 (impl_IsBetween_x k) := by
 intro A R Q x h
 unfold impl_IsBetween_x at h
 split at h
 · obtain ⟨y, hy, hK⟩ := Option.bind_eq_some_iff.1 h
   obtain ⟨r, hr, hd⟩ := callF_ok envOk (impl_IsBetween_Ok k) follows Tryd.func16 (by kernel_rfl) ((impl_IsBetween_e k _ _ _).trans hy)
   exact ⟨_, impl_IsBetween_i hd ▸ hr.fin [], hK⟩
 · cases h
/-! ### laws.FnClocks: function 5 -/
noncomputable def laws_FnClocks_j0 (k : Nat)  (y2 : Int) (y3 : Int) (y8 : Int) (y10 : Int × Bool) (y11 : Int × Bool) (y12 : Int) : Option (Bool) :=
 if (1440 : Int) ≠ 0 then
 cond (decide (((Int.tmod (wr ((wr (y2 * 5)) + y8)) 1440) : Int) = (wr (y3 * 5))))
  (cond (!y10.2)
   (cond (!y11.2)
    ((impl_IsBetween k (wr (y12 * 5)) (wr (y2 * 5)) (wr (y3 * 5))).bind fun y13 =>
     (impl_MinutesTo k (wr (y2 * 5)) (wr (y12 * 5))).bind fun y14 =>
      cond (y13 == (decide ((y14 : Int) < y8)))
       ((impl_IsBetween k (wr (y3 * 5)) (wr (y2 * 5)) (wr (y3 * 5))).bind fun y15 =>
        cond (!y15)
        ((impl_TimeText k 307).bind fun y16 =>
        cond (decide ((y16 : ByteArray) = (ByteArray.mk #[53, 58, 48, 55])))
        ((impl_LengthText k 125).bind fun y17 =>
        cond (decide ((y17 : ByteArray) = (ByteArray.mk #[50, 104, 32, 53, 109])))
        ((impl_LengthText k 0).bind fun y18 =>
        some (decide ((y18 : ByteArray) = (ByteArray.mk #[48, 109]))))
        (some false))
        (some false))
        (some false))
       (some false))
    (some false))
   (some false))
  (some false) else none
noncomputable def laws_FnClocks (k : Nat)  (code : (List Int)) : Option (Bool) :=
 (laws_big k code).bind fun y1 =>
 cond y1
  (some true)
  ((laws_at k code 0).bind fun y2 =>
   (laws_at k code 1).bind fun y3 =>
    (impl_TimeText k (wr (y2 * 5))).bind fun y4 =>
     (impl_ReadTime k y4).bind fun y5 =>
      (impl_LengthText k (wr ((wr (y2 * 5)) * 7))).bind fun y6 =>
       (impl_ReadLength k y6).bind fun y7 =>
        (impl_MinutesTo k (wr (y2 * 5)) (wr (y3 * 5))).bind fun y8 =>
        (impl_MinutesTo k (wr (y3 * 5)) (wr (y2 * 5))).bind fun y9 =>
        (impl_ReadTime k (ByteArray.mk #[55, 58, 53])).bind fun y10 =>
        (impl_ReadLength k (ByteArray.mk #[55, 48, 109])).bind fun y11 =>
        (laws_at k code 2).bind fun y12 =>
        cond y5.2
        (cond (decide ((y5.1 : Int) = (wr (y2 * 5))))
        (cond y7.2
        (cond (decide ((y7.1 : Int) = (wr ((wr (y2 * 5)) * 7))))
        (cond (decide ((0 : Int) ≤ y8))
        (cond (decide ((y8 : Int) < 1440))
        (cond (decide (((wr (y8 + y9)) : Int) = 1440))
        (laws_FnClocks_j0 k y2 y3 y8 y10 y11 y12)
        (cond (decide (((wr (y2 * 5)) : Int) = (wr (y3 * 5))))
        (cond (decide ((y8 : Int) = 0))
        (cond (decide ((y9 : Int) = 0))
        (laws_FnClocks_j0 k y2 y3 y8 y10 y11 y12)
        (some false))
        (some false))
        (some false)))
        (some false))
        (some false))
        (some false))
        (some false))
        (some false))
        (some false))
noncomputable def laws_FnClocks_v : Nat → List Nat := fun t => match t with | _ => []
noncomputable def laws_FnClocks_O (k : Nat) : Oracle := ofL [(10, impl_ReadLength_x k), (11, laws_big_x k), (12, laws_at_x k), (13, impl_TimeText_x k), (14, impl_LengthText_x k), (15, impl_MinutesTo_x k), (16, impl_IsBetween_x k), (8, impl_ReadTime_x k)]
theorem laws_FnClocks_Ok (k : Nat) : OkO (Ct Tryd.prog) (laws_FnClocks_O k) := okO_cons (impl_ReadLength_ok k) (okO_cons (laws_big_ok k) (okO_cons (laws_at_ok k) (okO_cons (impl_TimeText_ok k) (okO_cons (impl_LengthText_ok k) (okO_cons (impl_MinutesTo_ok k) (okO_cons (impl_IsBetween_ok k) (okO_cons (impl_ReadTime_ok k) (okO_nil))))))))
noncomputable def laws_FnClocks_A (code : (List Int)) : Pk := ⟨[(.sc (.sl 0))], [(.row false K.ku8 code)]⟩
noncomputable def laws_FnClocks_d : Rs → Option (Bool)
 | ⟨(.a (.sc (.v (.bool r1)))), [.dead]⟩ => some r1
 | _ => none
theorem laws_FnClocks_i {r : Rs} {y : Bool} (h : laws_FnClocks_d r = some y) : r = ⟨(.a (.sc (.v (.bool y)))), [.dead]⟩ := by
 unfold laws_FnClocks_d at h; split at h
 · cases h; rfl
 · cases h
theorem laws_FnClocks_e (k : Nat) (code : (List Int)) : callF env (laws_FnClocks_O k) laws_FnClocks_v Tryd.f5 (k + 1) (laws_FnClocks_A code) (fun r => laws_FnClocks_d (r.fin 1 [])) = laws_FnClocks k code := by kernel_rfl
noncomputable def laws_FnClocks_x (k : Nat) : Ent1 := fun A R Q => match A with
 | ⟨[(.sc (.sl 0))], [(.row false K.ku8 a1)]⟩ => (laws_FnClocks k a1).bind fun y => Q ⟨(.a (.sc (.v (.bool y)))), [.dead]⟩
 | _ => none
theorem laws_FnClocks_ok (k : Nat) : OkE Tryd.prog 5 (laws_FnClocks_x k) := by
 intro A R Q x h
 unfold laws_FnClocks_x at h
 split at h
 · obtain ⟨y, hy, hK⟩ := Option.bind_eq_some_iff.1 h
   obtain ⟨r, hr, hd⟩ := callF_ok envOk (laws_FnClocks_Ok k) follows Tryd.func5 (by kernel_rfl) ((laws_FnClocks_e k _).trans hy)
   exact ⟨_, laws_FnClocks_i hd ▸ hr.fin [], hK⟩
 · cases h
/-! ### spec.SplitFields: function 33 -/
noncomputable def spec_SplitFields_s0 (k : Nat)  (line : ByteArray) (J : Int → Int → (List ByteArray) → Option ((List ByteArray) × Bool)) (x0_0 : Int) (x0_1 : Int) (x0_2 : (List ByteArray)) : Option ((List ByteArray) × Bool) :=
 cond (decide ((x0_1 : Int) ≤ ((line).size : Int)))
 (cond (decide ((x0_1 : Int) < ((line).size : Int)))
  (if 0 ≤ (x0_1 : Int) ∧ (x0_1 : Int) < ((line).size : Int) then
   cond (decide (((byteAt line (Int.toNat x0_1)) : Int) < 32))
    (some ([], false))
    (if 0 ≤ (x0_1 : Int) ∧ (x0_1 : Int) < ((line).size : Int) then
     cond (decide ((126 : Int) < (byteAt line (Int.toNat x0_1))))
      (some ([], false))
      (cond (decide ((x0_1 : Int) < ((line).size : Int)))
       (if 0 ≤ (x0_1 : Int) ∧ (x0_1 : Int) < ((line).size : Int) then
        cond (!(decide (((byteAt line (Int.toNat x0_1)) : Int) = 32)))
        (J x0_0 (wr (x0_1 + 1)) x0_2)
        (cond (decide ((x0_0 : Int) < x0_1))
        (if (0 : Int) ≤ x0_0 ∧ x0_0 ≤ x0_1 ∧ x0_1 ≤ ((line).size : Int) then
        if (x0_2 : List ByteArray).length + ([(line.extract (Int.toNat x0_0) (Int.toNat x0_1))] : List ByteArray).length ≤ maxRow then
        J (wr (x0_1 + 1)) (wr (x0_1 + 1)) (x0_2 ++ [(line.extract (Int.toNat x0_0) (Int.toNat x0_1))]) else none else none)
        (J (wr (x0_1 + 1)) (wr (x0_1 + 1)) x0_2)) else none)
       (cond (decide ((x0_0 : Int) < x0_1))
        (if (0 : Int) ≤ x0_0 ∧ x0_0 ≤ x0_1 ∧ x0_1 ≤ ((line).size : Int) then
        if (x0_2 : List ByteArray).length + ([(line.extract (Int.toNat x0_0) (Int.toNat x0_1))] : List ByteArray).length ≤ maxRow then
        J (wr (x0_1 + 1)) (wr (x0_1 + 1)) (x0_2 ++ [(line.extract (Int.toNat x0_0) (Int.toNat x0_1))]) else none else none)
        (J (wr (x0_1 + 1)) (wr (x0_1 + 1)) x0_2))) else none) else none)
  (cond (decide ((x0_1 : Int) < ((line).size : Int)))
   (if 0 ≤ (x0_1 : Int) ∧ (x0_1 : Int) < ((line).size : Int) then
    cond (!(decide (((byteAt line (Int.toNat x0_1)) : Int) = 32)))
     (J x0_0 (wr (x0_1 + 1)) x0_2)
     (cond (decide ((x0_0 : Int) < x0_1))
      (if (0 : Int) ≤ x0_0 ∧ x0_0 ≤ x0_1 ∧ x0_1 ≤ ((line).size : Int) then
       if (x0_2 : List ByteArray).length + ([(line.extract (Int.toNat x0_0) (Int.toNat x0_1))] : List ByteArray).length ≤ maxRow then
        J (wr (x0_1 + 1)) (wr (x0_1 + 1)) (x0_2 ++ [(line.extract (Int.toNat x0_0) (Int.toNat x0_1))]) else none else none)
      (J (wr (x0_1 + 1)) (wr (x0_1 + 1)) x0_2)) else none)
   (cond (decide ((x0_0 : Int) < x0_1))
    (if (0 : Int) ≤ x0_0 ∧ x0_0 ≤ x0_1 ∧ x0_1 ≤ ((line).size : Int) then
     if (x0_2 : List ByteArray).length + ([(line.extract (Int.toNat x0_0) (Int.toNat x0_1))] : List ByteArray).length ≤ maxRow then
      J (wr (x0_1 + 1)) (wr (x0_1 + 1)) (x0_2 ++ [(line.extract (Int.toNat x0_0) (Int.toNat x0_1))]) else none else none)
    (J (wr (x0_1 + 1)) (wr (x0_1 + 1)) x0_2))))
 (cond (decide ((24 : Int) < ((x0_2).length : Int)))
  (some ([], false))
  (some (x0_2, true)))
noncomputable def spec_SplitFields_l0 (k : Nat) : Nat → ByteArray → Int → Int → (List ByteArray) → Option ((List ByteArray) × Bool)
 | 0, line, x0_0, x0_1, x0_2 => spec_SplitFields_s0 k line (fun _ _ _ => none) x0_0 x0_1 x0_2
 | m + 1, line, x0_0, x0_1, x0_2 => spec_SplitFields_s0 k line (spec_SplitFields_l0 k m line) x0_0 x0_1 x0_2
noncomputable def spec_SplitFields_m (k : Nat) (J0 : ByteArray → Int → Int → (List ByteArray) → Option ((List ByteArray) × Bool)) (line : ByteArray) : Option ((List ByteArray) × Bool) :=
 cond (decide ((600 : Int) < ((line).size : Int)))
 (some ([], false))
 (J0 line 0 0 ([]))
noncomputable def spec_SplitFields (k : Nat) (line : ByteArray) : Option ((List ByteArray) × Bool) := spec_SplitFields_m k (spec_SplitFields_l0 k k) line
noncomputable def spec_SplitFields_v : Nat → List Nat := fun t => match t with | 6 => [0, 2, 3, 4, 5, 6] | _ => []
noncomputable def spec_SplitFields_O (k : Nat) : Oracle := ofL []
theorem spec_SplitFields_Ok (k : Nat) : OkO (Ct Tryd.prog) (spec_SplitFields_O k) := okO_nil
noncomputable def spec_SplitFields_A (line : ByteArray) : Pk := ⟨[(.sc (.v (.string line)))], []⟩
noncomputable def spec_SplitFields_d : Rs → Option ((List ByteArray) × Bool)
 | ⟨(.tp [(.sc (.sl 0)), (.sc (.v (.bool r2)))]), [(.row true K.kstr r1)]⟩ => some (r1, r2)
 | _ => none
theorem spec_SplitFields_i {r : Rs} {y : (List ByteArray) × Bool} (h : spec_SplitFields_d r = some y) : r = ⟨(.tp [(.sc (.sl 0)), (.sc (.v (.bool y.2)))]), [(.row true K.kstr y.1)]⟩ := by
 unfold spec_SplitFields_d at h; split at h
 · cases h; rfl
 · cases h
noncomputable def spec_SplitFields_h0 (k m : Nat) (line : ByteArray) (x0_0 : Int) (x0_1 : Int) (x0_2 : (List ByteArray)) : Option ((List ByteArray) × Bool) := hdAt env (spec_SplitFields_O k) spec_SplitFields_v Tryd.f33 0 (fun r => spec_SplitFields_d (r.fin 0 [])) [1, 1, 1, 1, 0, 1, 0] k m ⟨tmF [0, 2, 3, 4, 5, 6] [(.a (.sc (.v (.string line)))), (.a (.sc .nl)), (.a (.sc (.v (.bool false)))), (.a (.sc (.sl 0))), (.a (.sc (.v (.int .i64 x0_0)))), (.a (.sc (.v (.int .i64 x0_1))))], blF [(.row true K.kstr x0_2)]⟩
theorem spec_SplitFields_z0 (k : Nat) (line : ByteArray) (x0_0 : Int) (x0_1 : Int) (x0_2 : (List ByteArray)) : spec_SplitFields_h0 k 0 line x0_0 x0_1 x0_2 = spec_SplitFields_s0 k line (fun _ _ _ => none) x0_0 x0_1 x0_2 := by kernel_rfl
theorem spec_SplitFields_g0 (k : Nat) (H : St → Option ((List ByteArray) × Bool)) (line : ByteArray) (x0_0 : Int) (x0_1 : Int) (x0_2 : (List ByteArray)) : rnd env (spec_SplitFields_O k) spec_SplitFields_v Tryd.f33 0 (fun r => spec_SplitFields_d (r.fin 0 [])) [1, 1, 1, 1, 0, 1, 0] k H ⟨tmF [0, 2, 3, 4, 5, 6] [(.a (.sc (.v (.string line)))), (.a (.sc .nl)), (.a (.sc (.v (.bool false)))), (.a (.sc (.sl 0))), (.a (.sc (.v (.int .i64 x0_0)))), (.a (.sc (.v (.int .i64 x0_1))))], blF [(.row true K.kstr x0_2)]⟩ = spec_SplitFields_s0 k line (fun x0_0 x0_1 x0_2 => H ⟨tmF [0, 2, 3, 4, 5, 6] [(.a (.sc (.v (.string line)))), (.a (.sc .nl)), (.a (.sc (.v (.bool false)))), (.a (.sc (.sl 0))), (.a (.sc (.v (.int .i64 x0_0)))), (.a (.sc (.v (.int .i64 x0_1))))], blF [(.row true K.kstr x0_2)]⟩) x0_0 x0_1 x0_2 := by kernel_rfl
theorem spec_SplitFields_n0 (k m : Nat) (line : ByteArray) (x0_0 : Int) (x0_1 : Int) (x0_2 : (List ByteArray)) : spec_SplitFields_h0 k (m + 1) line x0_0 x0_1 x0_2 = spec_SplitFields_s0 k line (spec_SplitFields_h0 k m line) x0_0 x0_1 x0_2 := (hdAt_succ _ _ _ _ _ _ _ _ _ _).trans (spec_SplitFields_g0 k _ line x0_0 x0_1 x0_2)
theorem spec_SplitFields_q0 (k : Nat) : ∀ m, spec_SplitFields_h0 k m = spec_SplitFields_l0 k m := by
 intro m
 induction m with
 | zero => funext line x0_0 x0_1 x0_2; rw [spec_SplitFields_z0]; rfl
 | succ m ih => funext line x0_0 x0_1 x0_2; rw [spec_SplitFields_n0, ih]; rfl
theorem spec_SplitFields_e (k : Nat) (line : ByteArray) : callF env (spec_SplitFields_O k) spec_SplitFields_v Tryd.f33 (k + 1) (spec_SplitFields_A line) (fun r => spec_SplitFields_d (r.fin 0 [])) = spec_SplitFields k line := by
 have e : ∀ H : St → Option ((List ByteArray) × Bool), callE env (spec_SplitFields_O k) spec_SplitFields_v Tryd.f33 (k + 1) (spec_SplitFields_A line) [1, 1, 1, 1, 0, 1, 0] (fun r => spec_SplitFields_d (r.fin 0 [])) H = spec_SplitFields_m k (fun line x0_0 x0_1 x0_2 => H ⟨tmF [0, 2, 3, 4, 5, 6] [(.a (.sc (.v (.string line)))), (.a (.sc .nl)), (.a (.sc (.v (.bool false)))), (.a (.sc (.sl 0))), (.a (.sc (.v (.int .i64 x0_0)))), (.a (.sc (.v (.int .i64 x0_1))))], blF [(.row true K.kstr x0_2)]⟩) line := fun H => by kernel_rfl
 exact (callE_eq env (spec_SplitFields_O k) spec_SplitFields_v Tryd.f33 k (spec_SplitFields_A line) [1, 1, 1, 1, 0, 1, 0] 0 (fun r => spec_SplitFields_d (r.fin 0 [])) rfl (by kernel_rfl)).trans ((e (hdAt env (spec_SplitFields_O k) spec_SplitFields_v Tryd.f33 0 (fun r => spec_SplitFields_d (r.fin 0 [])) [1, 1, 1, 1, 0, 1, 0] k k)).trans (by
  show spec_SplitFields_m k (spec_SplitFields_h0 k k) line = _
  rw [spec_SplitFields_q0]; rfl))
noncomputable def spec_SplitFields_x (k : Nat) : Ent1 := fun A R Q => match A with
 | ⟨[(.sc (.v (.string a1)))], []⟩ => (spec_SplitFields k a1).bind fun y => Q ⟨(.tp [(.sc (.sl 0)), (.sc (.v (.bool y.2)))]), [(.row true K.kstr y.1)]⟩
 | _ => none
theorem spec_SplitFields_ok (k : Nat) : OkE Tryd.prog 33 (spec_SplitFields_x k) := by
 intro A R Q x h
 unfold spec_SplitFields_x at h
 split at h
 · obtain ⟨y, hy, hK⟩ := Option.bind_eq_some_iff.1 h
   obtain ⟨r, hr, hd⟩ := callF_ok envOk (spec_SplitFields_Ok k) follows Tryd.func33 (by kernel_rfl) ((spec_SplitFields_e k _).trans hy)
   exact ⟨_, spec_SplitFields_i hd ▸ hr.fin [], hK⟩
 · cases h
/-! ### spec.l40Number: function 34 -/
noncomputable def spec_l40Number (k : Nat)  (s : ByteArray) : Option (Int) :=
 cond (decide ((1 : Int) < ((s).size : Int)))
 (if 0 ≤ (0 : Int) ∧ (0 : Int) < ((s).size : Int) then
  cond (decide (((byteAt s 0) : Int) = 45))
   (if (0 : Int) ≤ 1 ∧ 1 ≤ ((s).size : Int) ∧ ((s).size : Int) ≤ ((s).size : Int) then
    (spec_ParseUint k (s.extract 1 (Int.toNat ((s).size : Int)))).bind fun y1 =>
     some (wr (0 - y1.1)) else none)
   ((spec_ParseUint k s).bind fun y2 =>
    some y2.1) else none)
 ((spec_ParseUint k s).bind fun y3 =>
  some y3.1)
noncomputable def spec_l40Number_v : Nat → List Nat := fun t => match t with | _ => []
noncomputable def spec_l40Number_O (k : Nat) : Oracle := ofL [(21, spec_ParseUint_x k)]
theorem spec_l40Number_Ok (k : Nat) : OkO (Ct Tryd.prog) (spec_l40Number_O k) := okO_cons (spec_ParseUint_ok k) (okO_nil)
noncomputable def spec_l40Number_A (s : ByteArray) : Pk := ⟨[(.sc (.v (.string s)))], []⟩
noncomputable def spec_l40Number_d : Rs → Option (Int)
 | ⟨(.a (.sc (.v (.int .i64 r1)))), []⟩ => some r1
 | _ => none
theorem spec_l40Number_i {r : Rs} {y : Int} (h : spec_l40Number_d r = some y) : r = ⟨(.a (.sc (.v (.int .i64 y)))), []⟩ := by
 unfold spec_l40Number_d at h; split at h
 · cases h; rfl
 · cases h
theorem spec_l40Number_e (k : Nat) (s : ByteArray) : callF env (spec_l40Number_O k) spec_l40Number_v Tryd.f34 (k + 1) (spec_l40Number_A s) (fun r => spec_l40Number_d (r.fin 0 [])) = spec_l40Number k s := by kernel_rfl
noncomputable def spec_l40Number_x (k : Nat) : Ent1 := fun A R Q => match A with
 | ⟨[(.sc (.v (.string a1)))], []⟩ => (spec_l40Number k a1).bind fun y => Q ⟨(.a (.sc (.v (.int .i64 y)))), []⟩
 | _ => none
theorem spec_l40Number_ok (k : Nat) : OkE Tryd.prog 34 (spec_l40Number_x k) := by
 intro A R Q x h
 unfold spec_l40Number_x at h
 split at h
 · obtain ⟨y, hy, hK⟩ := Option.bind_eq_some_iff.1 h
   obtain ⟨r, hr, hd⟩ := callF_ok envOk (spec_l40Number_Ok k) follows Tryd.func34 (by kernel_rfl) ((spec_l40Number_e k _).trans hy)
   exact ⟨_, spec_l40Number_i hd ▸ hr.fin [], hK⟩
 · cases h
/-! ### spec.ActOk: function 52 -/
noncomputable def spec_ActOk (k : Nat)  (a : Deed) : Option (Bool) :=
 cond (decide ((a.Kind : Int) = 1))
 (cond (decide ((a.Kind : Int) = 1))
  ((spec_l01In k a.A 0 1000).bind fun y1 =>
   cond y1
    (some (decide ((a.B : Int) = 0)))
    (some false))
  (cond (decide ((a.Kind : Int) = 5))
   ((spec_l01In k a.A 0 3).bind fun y2 =>
    cond y2
     ((spec_l01In k a.B 0 100000).bind fun y3 =>
      some y3)
     (some false))
   (cond (decide ((a.Kind : Int) = 4))
    (cond (decide ((a.A : Int) = 0))
     (some (decide ((a.B : Int) = 0)))
     (some false))
    (some false))))
 (cond (decide ((a.Kind : Int) = 2))
  (cond (decide ((a.Kind : Int) = 2))
   ((spec_l01In k a.A 0 1000).bind fun y4 =>
    cond y4
     (some (decide ((a.B : Int) = 0)))
     (some false))
   (cond (decide ((a.Kind : Int) = 5))
    ((spec_l01In k a.A 0 3).bind fun y5 =>
     cond y5
      ((spec_l01In k a.B 0 100000).bind fun y6 =>
       some y6)
      (some false))
    (cond (decide ((a.Kind : Int) = 4))
     (cond (decide ((a.A : Int) = 0))
      (some (decide ((a.B : Int) = 0)))
      (some false))
     (some false))))
  (cond (decide ((a.Kind : Int) = 3))
   (cond (decide ((a.Kind : Int) = 3))
    ((spec_l01In k a.A 0 1000).bind fun y7 =>
     cond y7
      (some (decide ((a.B : Int) = 0)))
      (some false))
    (cond (decide ((a.Kind : Int) = 5))
     ((spec_l01In k a.A 0 3).bind fun y8 =>
      cond y8
       ((spec_l01In k a.B 0 100000).bind fun y9 =>
        some y9)
       (some false))
     (cond (decide ((a.Kind : Int) = 4))
      (cond (decide ((a.A : Int) = 0))
       (some (decide ((a.B : Int) = 0)))
       (some false))
      (some false))))
   (cond (decide ((a.Kind : Int) = 6))
    ((spec_l01In k a.A 0 1000).bind fun y10 =>
     cond y10
      (some (decide ((a.B : Int) = 0)))
      (some false))
    (cond (decide ((a.Kind : Int) = 5))
     ((spec_l01In k a.A 0 3).bind fun y11 =>
      cond y11
       ((spec_l01In k a.B 0 100000).bind fun y12 =>
        some y12)
       (some false))
     (cond (decide ((a.Kind : Int) = 4))
      (cond (decide ((a.A : Int) = 0))
       (some (decide ((a.B : Int) = 0)))
       (some false))
      (some false))))))
noncomputable def spec_ActOk_v : Nat → List Nat := fun t => match t with | _ => []
noncomputable def spec_ActOk_O (k : Nat) : Oracle := ofL [(20, spec_l01In_x k)]
theorem spec_ActOk_Ok (k : Nat) : OkO (Ct Tryd.prog) (spec_ActOk_O k) := okO_cons (spec_l01In_ok k) (okO_nil)
noncomputable def spec_ActOk_A (a : Deed) : Pk := ⟨[(.ag [(.v (.int .i64 a.Kind)), (.v (.int .i64 a.A)), (.v (.int .i64 a.B))])], []⟩
noncomputable def spec_ActOk_d : Rs → Option (Bool)
 | ⟨(.a (.sc (.v (.bool r1)))), []⟩ => some r1
 | _ => none
theorem spec_ActOk_i {r : Rs} {y : Bool} (h : spec_ActOk_d r = some y) : r = ⟨(.a (.sc (.v (.bool y)))), []⟩ := by
 unfold spec_ActOk_d at h; split at h
 · cases h; rfl
 · cases h
theorem spec_ActOk_e (k : Nat) (a : Deed) : callF env (spec_ActOk_O k) spec_ActOk_v Tryd.f52 (k + 1) (spec_ActOk_A a) (fun r => spec_ActOk_d (r.fin 0 [])) = spec_ActOk k a := by kernel_rfl
noncomputable def spec_ActOk_x (k : Nat) : Ent1 := fun A R Q => match A with
 | ⟨[(.ag [(.v (.int .i64 a1)), (.v (.int .i64 a2)), (.v (.int .i64 a3))])], []⟩ => (spec_ActOk k (⟨a1, a2, a3⟩ : Deed)).bind fun y => Q ⟨(.a (.sc (.v (.bool y)))), []⟩
 | _ => none
theorem spec_ActOk_ok (k : Nat) : OkE Tryd.prog 52 (spec_ActOk_x k) := by
 intro A R Q x h
 unfold spec_ActOk_x at h
 split at h
 · obtain ⟨y, hy, hK⟩ := Option.bind_eq_some_iff.1 h
   obtain ⟨r, hr, hd⟩ := callF_ok envOk (spec_ActOk_Ok k) follows Tryd.func52 (by kernel_rfl) ((spec_ActOk_e k _).trans hy)
   exact ⟨_, spec_ActOk_i hd ▸ hr.fin [], hK⟩
 · cases h
/-! ### spec.FormatAct: function 35 -/
noncomputable def spec_FormatAct_s0 (k : Nat)  (a : Deed) (J : ByteArray → Int → Option (ByteArray × Bool)) (x0_0 : ByteArray) (x0_1 : Int) : Option (ByteArray × Bool) :=
 cond (decide ((x0_1 : Int) < (([0, 1, 1, 1, 0, 2, 1]).getD (Int.toNat a.Kind) 0)))
 (if (x0_0).size + ((ByteArray.mk #[32])).size ≤ 9223372036854775807 then
  if 0 ≤ (x0_1 : Int) ∧ (x0_1 : Int) < (([a.A, a.B]).length : Int) then
   (spec_FormatInt k (([a.A, a.B]).getD (Int.toNat x0_1) 0)).bind fun y3 =>
    if ((x0_0 ++ (ByteArray.mk #[32]))).size + (y3).size ≤ 9223372036854775807 then
     J ((x0_0 ++ (ByteArray.mk #[32])) ++ y3) (wr (x0_1 + 1)) else none else none else none)
 (some (x0_0, true))
noncomputable def spec_FormatAct_l0 (k : Nat) : Nat → Deed → ByteArray → Int → Option (ByteArray × Bool)
 | 0, a, x0_0, x0_1 => spec_FormatAct_s0 k a (fun _ _ => none) x0_0 x0_1
 | m + 1, a, x0_0, x0_1 => spec_FormatAct_s0 k a (spec_FormatAct_l0 k m a) x0_0 x0_1
noncomputable def spec_FormatAct_m (k : Nat) (J0 : Deed → ByteArray → Int → Option (ByteArray × Bool)) (a : Deed) : Option (ByteArray × Bool) :=
 (spec_ActOk k a).bind fun y1 =>
 cond (!y1)
  (some ((ByteArray.mk #[]), false))
  (if 0 ≤ (a.Kind : Int) ∧ (a.Kind : Int) < (([(ByteArray.mk #[]), (ByteArray.mk #[98, 97, 107, 101]), (ByteArray.mk #[115, 101, 108, 108]), (ByteArray.mk #[99, 104, 101, 97, 112]), (ByteArray.mk #[109, 111, 114, 110, 105, 110, 103]), (ByteArray.mk #[98, 117, 121]), (ByteArray.mk #[102, 108, 111, 117, 114])]).length : Int) then
   if 0 ≤ (a.Kind : Int) ∧ (a.Kind : Int) < (([0, 1, 1, 1, 0, 2, 1]).length : Int) then
    J0 a (([(ByteArray.mk #[]), (ByteArray.mk #[98, 97, 107, 101]), (ByteArray.mk #[115, 101, 108, 108]), (ByteArray.mk #[99, 104, 101, 97, 112]), (ByteArray.mk #[109, 111, 114, 110, 105, 110, 103]), (ByteArray.mk #[98, 117, 121]), (ByteArray.mk #[102, 108, 111, 117, 114])]).getD (Int.toNat a.Kind) (ByteArray.mk #[])) 0 else none else none)
noncomputable def spec_FormatAct (k : Nat) (a : Deed) : Option (ByteArray × Bool) := spec_FormatAct_m k (spec_FormatAct_l0 k k) a
noncomputable def spec_FormatAct_v : Nat → List Nat := fun t => match t with | 7 => [2, 3, 4, 5, 6, 7] | _ => []
noncomputable def spec_FormatAct_O (k : Nat) : Oracle := ofL [(41, spec_FormatInt_x k), (52, spec_ActOk_x k)]
theorem spec_FormatAct_Ok (k : Nat) : OkO (Ct Tryd.prog) (spec_FormatAct_O k) := okO_cons (spec_FormatInt_ok k) (okO_cons (spec_ActOk_ok k) (okO_nil))
noncomputable def spec_FormatAct_A (a : Deed) : Pk := ⟨[(.ag [(.v (.int .i64 a.Kind)), (.v (.int .i64 a.A)), (.v (.int .i64 a.B))])], []⟩
noncomputable def spec_FormatAct_d : Rs → Option (ByteArray × Bool)
 | ⟨(.tp [(.sc (.v (.string r1))), (.sc (.v (.bool r2)))]), []⟩ => some (r1, r2)
 | _ => none
theorem spec_FormatAct_i {r : Rs} {y : ByteArray × Bool} (h : spec_FormatAct_d r = some y) : r = ⟨(.tp [(.sc (.v (.string y.1))), (.sc (.v (.bool y.2)))]), []⟩ := by
 unfold spec_FormatAct_d at h; split at h
 · cases h; rfl
 · cases h
noncomputable def spec_FormatAct_h0 (k m : Nat) (a : Deed) (x0_0 : ByteArray) (x0_1 : Int) : Option (ByteArray × Bool) := hdAt env (spec_FormatAct_O k) spec_FormatAct_v Tryd.f35 0 (fun r => spec_FormatAct_d (r.fin 0 [])) [1, 1, 1, 1, 1, 0, 1, 0] k m ⟨tmF [2, 3, 4, 5, 6, 7] [(.a (.sc (.v (.string (ByteArray.mk #[]))))), (.a (.sc (.v (.bool false)))), (.a (.sc (.v (.string x0_0)))), (.a (.sc (.v (.int .i64 (([0, 1, 1, 1, 0, 2, 1]).getD (Int.toNat a.Kind) 0))))), (.a (.sc (.sl 0))), (.a (.sc (.v (.int .i64 x0_1))))], blF [(.row true K.ki64 ([a.A, a.B]))]⟩
theorem spec_FormatAct_z0 (k : Nat) (a : Deed) (x0_0 : ByteArray) (x0_1 : Int) : spec_FormatAct_h0 k 0 a x0_0 x0_1 = spec_FormatAct_s0 k a (fun _ _ => none) x0_0 x0_1 := by kernel_rfl
theorem spec_FormatAct_g0 (k : Nat) (H : St → Option (ByteArray × Bool)) (a : Deed) (x0_0 : ByteArray) (x0_1 : Int) : rnd env (spec_FormatAct_O k) spec_FormatAct_v Tryd.f35 0 (fun r => spec_FormatAct_d (r.fin 0 [])) [1, 1, 1, 1, 1, 0, 1, 0] k H ⟨tmF [2, 3, 4, 5, 6, 7] [(.a (.sc (.v (.string (ByteArray.mk #[]))))), (.a (.sc (.v (.bool false)))), (.a (.sc (.v (.string x0_0)))), (.a (.sc (.v (.int .i64 (([0, 1, 1, 1, 0, 2, 1]).getD (Int.toNat a.Kind) 0))))), (.a (.sc (.sl 0))), (.a (.sc (.v (.int .i64 x0_1))))], blF [(.row true K.ki64 ([a.A, a.B]))]⟩ = spec_FormatAct_s0 k a (fun x0_0 x0_1 => H ⟨tmF [2, 3, 4, 5, 6, 7] [(.a (.sc (.v (.string (ByteArray.mk #[]))))), (.a (.sc (.v (.bool false)))), (.a (.sc (.v (.string x0_0)))), (.a (.sc (.v (.int .i64 (([0, 1, 1, 1, 0, 2, 1]).getD (Int.toNat a.Kind) 0))))), (.a (.sc (.sl 0))), (.a (.sc (.v (.int .i64 x0_1))))], blF [(.row true K.ki64 ([a.A, a.B]))]⟩) x0_0 x0_1 := by kernel_rfl
theorem spec_FormatAct_n0 (k m : Nat) (a : Deed) (x0_0 : ByteArray) (x0_1 : Int) : spec_FormatAct_h0 k (m + 1) a x0_0 x0_1 = spec_FormatAct_s0 k a (spec_FormatAct_h0 k m a) x0_0 x0_1 := (hdAt_succ _ _ _ _ _ _ _ _ _ _).trans (spec_FormatAct_g0 k _ a x0_0 x0_1)
theorem spec_FormatAct_q0 (k : Nat) : ∀ m, spec_FormatAct_h0 k m = spec_FormatAct_l0 k m := by
 intro m
 induction m with
 | zero => funext a x0_0 x0_1; rw [spec_FormatAct_z0]; rfl
 | succ m ih => funext a x0_0 x0_1; rw [spec_FormatAct_n0, ih]; rfl
theorem spec_FormatAct_e (k : Nat) (a : Deed) : callF env (spec_FormatAct_O k) spec_FormatAct_v Tryd.f35 (k + 1) (spec_FormatAct_A a) (fun r => spec_FormatAct_d (r.fin 0 [])) = spec_FormatAct k a := by
 have e : ∀ H : St → Option (ByteArray × Bool), callE env (spec_FormatAct_O k) spec_FormatAct_v Tryd.f35 (k + 1) (spec_FormatAct_A a) [1, 1, 1, 1, 1, 0, 1, 0] (fun r => spec_FormatAct_d (r.fin 0 [])) H = spec_FormatAct_m k (fun a x0_0 x0_1 => H ⟨tmF [2, 3, 4, 5, 6, 7] [(.a (.sc (.v (.string (ByteArray.mk #[]))))), (.a (.sc (.v (.bool false)))), (.a (.sc (.v (.string x0_0)))), (.a (.sc (.v (.int .i64 (([0, 1, 1, 1, 0, 2, 1]).getD (Int.toNat a.Kind) 0))))), (.a (.sc (.sl 0))), (.a (.sc (.v (.int .i64 x0_1))))], blF [(.row true K.ki64 ([a.A, a.B]))]⟩) a := fun H => by kernel_rfl
 exact (callE_eq env (spec_FormatAct_O k) spec_FormatAct_v Tryd.f35 k (spec_FormatAct_A a) [1, 1, 1, 1, 1, 0, 1, 0] 0 (fun r => spec_FormatAct_d (r.fin 0 [])) rfl (by kernel_rfl)).trans ((e (hdAt env (spec_FormatAct_O k) spec_FormatAct_v Tryd.f35 0 (fun r => spec_FormatAct_d (r.fin 0 [])) [1, 1, 1, 1, 1, 0, 1, 0] k k)).trans (by
  show spec_FormatAct_m k (spec_FormatAct_h0 k k) a = _
  rw [spec_FormatAct_q0]; rfl))
noncomputable def spec_FormatAct_x (k : Nat) : Ent1 := fun A R Q => match A with
 | ⟨[(.ag [(.v (.int .i64 a1)), (.v (.int .i64 a2)), (.v (.int .i64 a3))])], []⟩ => (spec_FormatAct k (⟨a1, a2, a3⟩ : Deed)).bind fun y => Q ⟨(.tp [(.sc (.v (.string y.1))), (.sc (.v (.bool y.2)))]), []⟩
 | _ => none
theorem spec_FormatAct_ok (k : Nat) : OkE Tryd.prog 35 (spec_FormatAct_x k) := by
 intro A R Q x h
 unfold spec_FormatAct_x at h
 split at h
 · obtain ⟨y, hy, hK⟩ := Option.bind_eq_some_iff.1 h
   obtain ⟨r, hr, hd⟩ := callF_ok envOk (spec_FormatAct_Ok k) follows Tryd.func35 (by kernel_rfl) ((spec_FormatAct_e k _).trans hy)
   exact ⟨_, spec_FormatAct_i hd ▸ hr.fin [], hK⟩
 · cases h
/-! ### spec.ParseAct: function 17 -/
noncomputable def spec_ParseAct_s1 (k : Nat)  (x0_0 : ByteArray) (x0_2 : (List Int)) (J : Int → Option (Deed × Bool)) (x1_0 : Int) : Option (Deed × Bool) :=
 cond (decide ((x1_0 : Int) ≤ 6))
 (if 0 ≤ (0 : Int) ∧ (0 : Int) < (((x0_2 ++ [0, 0])).length : Int) then
  if 0 ≤ (1 : Int) ∧ (1 : Int) < (((x0_2 ++ [0, 0])).length : Int) then
   (spec_FormatAct k (⟨x1_0, ((x0_2 ++ [0, 0]).getD 0 0), ((x0_2 ++ [0, 0]).getD 1 0)⟩ : Deed)).bind fun y8 =>
    cond y8.2
     (cond (decide ((y8.1 : ByteArray) = x0_0))
      (some ((⟨x1_0, ((x0_2 ++ [0, 0]).getD 0 0), ((x0_2 ++ [0, 0]).getD 1 0)⟩ : Deed), true))
      (J (wr (x1_0 + 1))))
     (J (wr (x1_0 + 1))) else none else none)
 (some ((⟨0, 0, 0⟩ : Deed), false))
noncomputable def spec_ParseAct_l1 (k : Nat) : Nat → ByteArray → (List Int) → Int → Option (Deed × Bool)
 | 0, x0_0, x0_2, x1_0 => spec_ParseAct_s1 k x0_0 x0_2 (fun _ => none) x1_0
 | m + 1, x0_0, x0_2, x1_0 => spec_ParseAct_s1 k x0_0 x0_2 (spec_ParseAct_l1 k m x0_0 x0_2) x1_0
noncomputable def spec_ParseAct_s0 (k : Nat) (J1 : ByteArray → (List Int) → Int → Option (Deed × Bool)) (y1 : (List ByteArray) × Bool) (J : ByteArray → Int → (List Int) → Option (Deed × Bool)) (x0_0 : ByteArray) (x0_1 : Int) (x0_2 : (List Int)) : Option (Deed × Bool) :=
 cond (decide ((x0_1 : Int) < ((y1.1).length : Int)))
 (if (x0_0).size + ((ByteArray.mk #[32])).size ≤ 9223372036854775807 then
  if 0 ≤ (x0_1 : Int) ∧ (x0_1 : Int) < ((y1.1).length : Int) then
   if ((x0_0 ++ (ByteArray.mk #[32]))).size + ((y1.1.getD (Int.toNat x0_1) (ByteArray.mk #[]))).size ≤ 9223372036854775807 then
    if 0 ≤ (x0_1 : Int) ∧ (x0_1 : Int) < ((y1.1).length : Int) then
     (spec_l40Number k (y1.1.getD (Int.toNat x0_1) (ByteArray.mk #[]))).bind fun y6 =>
      if (x0_2 : List Int).length + ([y6] : List Int).length ≤ maxRow then
       J ((x0_0 ++ (ByteArray.mk #[32])) ++ (y1.1.getD (Int.toNat x0_1) (ByteArray.mk #[]))) (wr (x0_1 + 1)) (x0_2 ++ [y6]) else none else none else none else none else none)
 (if (x0_2 : List Int).length + ([0, 0] : List Int).length ≤ maxRow then
  J1 x0_0 x0_2 1 else none)
noncomputable def spec_ParseAct_l0 (k : Nat) : Nat → (List ByteArray) × Bool → ByteArray → Int → (List Int) → Option (Deed × Bool)
 | 0, y1, x0_0, x0_1, x0_2 => spec_ParseAct_s0 k (spec_ParseAct_l1 k k) y1 (fun _ _ _ => none) x0_0 x0_1 x0_2
 | m + 1, y1, x0_0, x0_1, x0_2 => spec_ParseAct_s0 k (spec_ParseAct_l1 k k) y1 (spec_ParseAct_l0 k m y1) x0_0 x0_1 x0_2
noncomputable def spec_ParseAct_m (k : Nat) (J0 : (List ByteArray) × Bool → ByteArray → Int → (List Int) → Option (Deed × Bool)) (line : ByteArray) : Option (Deed × Bool) :=
 (spec_SplitFields k line).bind fun y1 =>
 cond (!y1.2)
  (some ((⟨0, 0, 0⟩ : Deed), false))
  ((spec_l01In k ((y1.1).length : Int) 1 3).bind fun y2 =>
   cond (!y2)
    (some ((⟨0, 0, 0⟩ : Deed), false))
    (if 0 ≤ (0 : Int) ∧ (0 : Int) < ((y1.1).length : Int) then
     J0 y1 (y1.1.getD 0 (ByteArray.mk #[])) 1 ([]) else none))
noncomputable def spec_ParseAct (k : Nat) (line : ByteArray) : Option (Deed × Bool) := spec_ParseAct_m k (spec_ParseAct_l0 k k) line
noncomputable def spec_ParseAct_v : Nat → List Nat := fun t => match t with | 7 => [2, 3, 4, 6, 7, 8] | 13 => [2, 3, 6, 7, 9] | _ => []
noncomputable def spec_ParseAct_O (k : Nat) : Oracle := ofL [(20, spec_l01In_x k), (33, spec_SplitFields_x k), (34, spec_l40Number_x k), (35, spec_FormatAct_x k)]
theorem spec_ParseAct_Ok (k : Nat) : OkO (Ct Tryd.prog) (spec_ParseAct_O k) := okO_cons (spec_l01In_ok k) (okO_cons (spec_SplitFields_ok k) (okO_cons (spec_l40Number_ok k) (okO_cons (spec_FormatAct_ok k) (okO_nil))))
noncomputable def spec_ParseAct_A (line : ByteArray) : Pk := ⟨[(.sc (.v (.string line)))], []⟩
noncomputable def spec_ParseAct_d : Rs → Option (Deed × Bool)
 | ⟨(.tp [(.ag [(.v (.int .i64 r1)), (.v (.int .i64 r2)), (.v (.int .i64 r3))]), (.sc (.v (.bool r4)))]), []⟩ => some ((⟨r1, r2, r3⟩ : Deed), r4)
 | _ => none
theorem spec_ParseAct_i {r : Rs} {y : Deed × Bool} (h : spec_ParseAct_d r = some y) : r = ⟨(.tp [(.ag [(.v (.int .i64 y.1.Kind)), (.v (.int .i64 y.1.A)), (.v (.int .i64 y.1.B))]), (.sc (.v (.bool y.2)))]), []⟩ := by
 unfold spec_ParseAct_d at h; split at h
 · cases h; rfl
 · cases h
noncomputable def spec_ParseAct_h1 (k m : Nat) (x0_0 : ByteArray) (x0_2 : (List Int)) (x1_0 : Int) : Option (Deed × Bool) := hdAt env (spec_ParseAct_O k) spec_ParseAct_v Tryd.f17 0 (fun r => spec_ParseAct_d (r.fin 0 [])) [1, 1, 1, 1, 1, 1, 1, 0, 1, 0] k m ⟨tmF [2, 3, 6, 7, 9] [(.a (.sc (.bp 0 0))), (.a (.sc (.v (.bool false)))), (.a (.sc (.v (.string x0_0)))), (.a (.sc (.sl 1))), (.a (.sc (.v (.int .i64 x1_0))))], blF [(.box true [(.v (.int .i64 0)), (.v (.int .i64 0)), (.v (.int .i64 0))]), (.row true K.ki64 (x0_2 ++ [0, 0]))]⟩
theorem spec_ParseAct_z1 (k : Nat) (x0_0 : ByteArray) (x0_2 : (List Int)) (x1_0 : Int) : spec_ParseAct_h1 k 0 x0_0 x0_2 x1_0 = spec_ParseAct_s1 k x0_0 x0_2 (fun _ => none) x1_0 := by kernel_rfl
theorem spec_ParseAct_g1 (k : Nat) (H : St → Option (Deed × Bool)) (x0_0 : ByteArray) (x0_2 : (List Int)) (x1_0 : Int) : rnd env (spec_ParseAct_O k) spec_ParseAct_v Tryd.f17 0 (fun r => spec_ParseAct_d (r.fin 0 [])) [1, 1, 1, 1, 1, 1, 1, 0, 1, 0] k H ⟨tmF [2, 3, 6, 7, 9] [(.a (.sc (.bp 0 0))), (.a (.sc (.v (.bool false)))), (.a (.sc (.v (.string x0_0)))), (.a (.sc (.sl 1))), (.a (.sc (.v (.int .i64 x1_0))))], blF [(.box true [(.v (.int .i64 0)), (.v (.int .i64 0)), (.v (.int .i64 0))]), (.row true K.ki64 (x0_2 ++ [0, 0]))]⟩ = spec_ParseAct_s1 k x0_0 x0_2 (fun x1_0 => H ⟨tmF [2, 3, 6, 7, 9] [(.a (.sc (.bp 0 0))), (.a (.sc (.v (.bool false)))), (.a (.sc (.v (.string x0_0)))), (.a (.sc (.sl 1))), (.a (.sc (.v (.int .i64 x1_0))))], blF [(.box true [(.v (.int .i64 0)), (.v (.int .i64 0)), (.v (.int .i64 0))]), (.row true K.ki64 (x0_2 ++ [0, 0]))]⟩) x1_0 := by kernel_rfl
theorem spec_ParseAct_n1 (k m : Nat) (x0_0 : ByteArray) (x0_2 : (List Int)) (x1_0 : Int) : spec_ParseAct_h1 k (m + 1) x0_0 x0_2 x1_0 = spec_ParseAct_s1 k x0_0 x0_2 (spec_ParseAct_h1 k m x0_0 x0_2) x1_0 := (hdAt_succ _ _ _ _ _ _ _ _ _ _).trans (spec_ParseAct_g1 k _ x0_0 x0_2 x1_0)
theorem spec_ParseAct_q1 (k : Nat) : ∀ m, spec_ParseAct_h1 k m = spec_ParseAct_l1 k m := by
 intro m
 induction m with
 | zero => funext x0_0 x0_2 x1_0; rw [spec_ParseAct_z1]; rfl
 | succ m ih => funext x0_0 x0_2 x1_0; rw [spec_ParseAct_n1, ih]; rfl
noncomputable def spec_ParseAct_h0 (k m : Nat) (y1 : (List ByteArray) × Bool) (x0_0 : ByteArray) (x0_1 : Int) (x0_2 : (List Int)) : Option (Deed × Bool) := hdAt env (spec_ParseAct_O k) spec_ParseAct_v Tryd.f17 0 (fun r => spec_ParseAct_d (r.fin 0 [])) [1, 1, 1, 1, 1, 0, 1, 0] k m ⟨tmF [2, 3, 4, 6, 7, 8] [(.a (.sc (.bp 0 0))), (.a (.sc (.v (.bool false)))), (.a (.sc (.sl 1))), (.a (.sc (.v (.string x0_0)))), (.a (.sc (.sl 2))), (.a (.sc (.v (.int .i64 x0_1))))], blF [(.box true [(.v (.int .i64 0)), (.v (.int .i64 0)), (.v (.int .i64 0))]), (.row true K.kstr y1.1), (.row true K.ki64 x0_2)]⟩
theorem spec_ParseAct_z0 (k : Nat) (y1 : (List ByteArray) × Bool) (x0_0 : ByteArray) (x0_1 : Int) (x0_2 : (List Int)) : spec_ParseAct_h0 k 0 y1 x0_0 x0_1 x0_2 = spec_ParseAct_s0 k (spec_ParseAct_h1 k k) y1 (fun _ _ _ => none) x0_0 x0_1 x0_2 := by kernel_rfl
theorem spec_ParseAct_g0 (k : Nat) (H : St → Option (Deed × Bool)) (y1 : (List ByteArray) × Bool) (x0_0 : ByteArray) (x0_1 : Int) (x0_2 : (List Int)) : rnd env (spec_ParseAct_O k) spec_ParseAct_v Tryd.f17 0 (fun r => spec_ParseAct_d (r.fin 0 [])) [1, 1, 1, 1, 1, 0, 1, 0] k H ⟨tmF [2, 3, 4, 6, 7, 8] [(.a (.sc (.bp 0 0))), (.a (.sc (.v (.bool false)))), (.a (.sc (.sl 1))), (.a (.sc (.v (.string x0_0)))), (.a (.sc (.sl 2))), (.a (.sc (.v (.int .i64 x0_1))))], blF [(.box true [(.v (.int .i64 0)), (.v (.int .i64 0)), (.v (.int .i64 0))]), (.row true K.kstr y1.1), (.row true K.ki64 x0_2)]⟩ = spec_ParseAct_s0 k (spec_ParseAct_h1 k k) y1 (fun x0_0 x0_1 x0_2 => H ⟨tmF [2, 3, 4, 6, 7, 8] [(.a (.sc (.bp 0 0))), (.a (.sc (.v (.bool false)))), (.a (.sc (.sl 1))), (.a (.sc (.v (.string x0_0)))), (.a (.sc (.sl 2))), (.a (.sc (.v (.int .i64 x0_1))))], blF [(.box true [(.v (.int .i64 0)), (.v (.int .i64 0)), (.v (.int .i64 0))]), (.row true K.kstr y1.1), (.row true K.ki64 x0_2)]⟩) x0_0 x0_1 x0_2 := by kernel_rfl
theorem spec_ParseAct_n0 (k m : Nat) (y1 : (List ByteArray) × Bool) (x0_0 : ByteArray) (x0_1 : Int) (x0_2 : (List Int)) : spec_ParseAct_h0 k (m + 1) y1 x0_0 x0_1 x0_2 = spec_ParseAct_s0 k (spec_ParseAct_h1 k k) y1 (spec_ParseAct_h0 k m y1) x0_0 x0_1 x0_2 := (hdAt_succ _ _ _ _ _ _ _ _ _ _).trans (spec_ParseAct_g0 k _ y1 x0_0 x0_1 x0_2)
theorem spec_ParseAct_q0 (k : Nat) : ∀ m, spec_ParseAct_h0 k m = spec_ParseAct_l0 k m := by
 intro m
 induction m with
 | zero => funext y1 x0_0 x0_1 x0_2; rw [spec_ParseAct_z0, spec_ParseAct_q1]; rfl
 | succ m ih => funext y1 x0_0 x0_1 x0_2; rw [spec_ParseAct_n0, ih, spec_ParseAct_q1]; rfl
theorem spec_ParseAct_e (k : Nat) (line : ByteArray) : callF env (spec_ParseAct_O k) spec_ParseAct_v Tryd.f17 (k + 1) (spec_ParseAct_A line) (fun r => spec_ParseAct_d (r.fin 0 [])) = spec_ParseAct k line := by
 have e : ∀ H : St → Option (Deed × Bool), callE env (spec_ParseAct_O k) spec_ParseAct_v Tryd.f17 (k + 1) (spec_ParseAct_A line) [1, 1, 1, 1, 1, 0, 1, 0] (fun r => spec_ParseAct_d (r.fin 0 [])) H = spec_ParseAct_m k (fun y1 x0_0 x0_1 x0_2 => H ⟨tmF [2, 3, 4, 6, 7, 8] [(.a (.sc (.bp 0 0))), (.a (.sc (.v (.bool false)))), (.a (.sc (.sl 1))), (.a (.sc (.v (.string x0_0)))), (.a (.sc (.sl 2))), (.a (.sc (.v (.int .i64 x0_1))))], blF [(.box true [(.v (.int .i64 0)), (.v (.int .i64 0)), (.v (.int .i64 0))]), (.row true K.kstr y1.1), (.row true K.ki64 x0_2)]⟩) line := fun H => by kernel_rfl
 exact (callE_eq env (spec_ParseAct_O k) spec_ParseAct_v Tryd.f17 k (spec_ParseAct_A line) [1, 1, 1, 1, 1, 0, 1, 0] 0 (fun r => spec_ParseAct_d (r.fin 0 [])) rfl (by kernel_rfl)).trans ((e (hdAt env (spec_ParseAct_O k) spec_ParseAct_v Tryd.f17 0 (fun r => spec_ParseAct_d (r.fin 0 [])) [1, 1, 1, 1, 1, 0, 1, 0] k k)).trans (by
  show spec_ParseAct_m k (spec_ParseAct_h0 k k) line = _
  rw [spec_ParseAct_q0]; rfl))
noncomputable def spec_ParseAct_x (k : Nat) : Ent1 := fun A R Q => match A with
 | ⟨[(.sc (.v (.string a1)))], []⟩ => (spec_ParseAct k a1).bind fun y => Q ⟨(.tp [(.ag [(.v (.int .i64 y.1.Kind)), (.v (.int .i64 y.1.A)), (.v (.int .i64 y.1.B))]), (.sc (.v (.bool y.2)))]), []⟩
 | _ => none
theorem spec_ParseAct_ok (k : Nat) : OkE Tryd.prog 17 (spec_ParseAct_x k) := by
 intro A R Q x h
 unfold spec_ParseAct_x at h
 split at h
 · obtain ⟨y, hy, hK⟩ := Option.bind_eq_some_iff.1 h
   obtain ⟨r, hr, hd⟩ := callF_ok envOk (spec_ParseAct_Ok k) follows Tryd.func17 (by kernel_rfl) ((spec_ParseAct_e k _).trans hy)
   exact ⟨_, spec_ParseAct_i hd ▸ hr.fin [], hK⟩
 · cases h
/-! ### impl.SplitFields: function 36 -/
noncomputable def impl_SplitFields_s0 (k : Nat)  (line : ByteArray) (J : Int → Option ((List ByteArray) × Bool)) (x0_0 : Int) : Option ((List ByteArray) × Bool) :=
 cond (decide ((x0_0 : Int) < ((line).size : Int)))
 (if 0 ≤ (x0_0 : Int) ∧ (x0_0 : Int) < ((line).size : Int) then
  cond (decide (((byteAt line (Int.toNat x0_0)) : Int) < 32))
   (some ([], false))
   (if 0 ≤ (x0_0 : Int) ∧ (x0_0 : Int) < ((line).size : Int) then
    cond (decide ((126 : Int) < (byteAt line (Int.toNat x0_0))))
     (some ([], false))
     (J (wr (x0_0 + 1))) else none) else none)
 ((strings_FieldsFunc k line).bind fun y2 =>
  cond (decide ((24 : Int) < ((y2).length : Int)))
   (some ([], false))
   (some (y2, true)))
noncomputable def impl_SplitFields_l0 (k : Nat) : Nat → ByteArray → Int → Option ((List ByteArray) × Bool)
 | 0, line, x0_0 => impl_SplitFields_s0 k line (fun _ => none) x0_0
 | m + 1, line, x0_0 => impl_SplitFields_s0 k line (impl_SplitFields_l0 k m line) x0_0
noncomputable def impl_SplitFields_m (k : Nat) (J0 : ByteArray → Int → Option ((List ByteArray) × Bool)) (line : ByteArray) : Option ((List ByteArray) × Bool) :=
 cond (decide ((600 : Int) < ((line).size : Int)))
 (some ([], false))
 (J0 line 0)
noncomputable def impl_SplitFields (k : Nat) (line : ByteArray) : Option ((List ByteArray) × Bool) := impl_SplitFields_m k (impl_SplitFields_l0 k k) line
noncomputable def impl_SplitFields_v : Nat → List Nat := fun t => match t with | 4 => [0, 2, 3, 10, 11] | _ => []
noncomputable def impl_SplitFields_O (k : Nat) : Oracle := ofL [(53, strings_FieldsFunc_x k)]
theorem impl_SplitFields_Ok (k : Nat) : OkO (Ct Tryd.prog) (impl_SplitFields_O k) := okO_cons (strings_FieldsFunc_ok k) (okO_nil)
noncomputable def impl_SplitFields_A (line : ByteArray) : Pk := ⟨[(.sc (.v (.string line)))], []⟩
noncomputable def impl_SplitFields_d : Rs → Option ((List ByteArray) × Bool)
 | ⟨(.tp [(.sc (.sl 0)), (.sc (.v (.bool r2)))]), [(.row true K.kstr r1)]⟩ => some (r1, r2)
 | _ => none
theorem impl_SplitFields_i {r : Rs} {y : (List ByteArray) × Bool} (h : impl_SplitFields_d r = some y) : r = ⟨(.tp [(.sc (.sl 0)), (.sc (.v (.bool y.2)))]), [(.row true K.kstr y.1)]⟩ := by
 unfold impl_SplitFields_d at h; split at h
 · cases h; rfl
 · cases h
noncomputable def impl_SplitFields_h0 (k m : Nat) (line : ByteArray) (x0_0 : Int) : Option ((List ByteArray) × Bool) := hdAt env (impl_SplitFields_O k) impl_SplitFields_v Tryd.f36 0 (fun r => impl_SplitFields_d (r.fin 0 [K.kstr])) [1, 1, 0, 1, 0] k m ⟨tmF [0, 2, 3, 10, 11] [(.a (.sc (.v (.string line)))), (.a (.sc .nl)), (.a (.sc (.v (.bool false)))), (.a (.sc (.v (.int .i64 ((line).size : Int))))), (.a (.sc (.v (.int .i64 x0_0))))], blF []⟩
theorem impl_SplitFields_z0 (k : Nat) (line : ByteArray) (x0_0 : Int) : impl_SplitFields_h0 k 0 line x0_0 = impl_SplitFields_s0 k line (fun _ => none) x0_0 := by kernel_rfl
theorem impl_SplitFields_g0 (k : Nat) (H : St → Option ((List ByteArray) × Bool)) (line : ByteArray) (x0_0 : Int) : rnd env (impl_SplitFields_O k) impl_SplitFields_v Tryd.f36 0 (fun r => impl_SplitFields_d (r.fin 0 [K.kstr])) [1, 1, 0, 1, 0] k H ⟨tmF [0, 2, 3, 10, 11] [(.a (.sc (.v (.string line)))), (.a (.sc .nl)), (.a (.sc (.v (.bool false)))), (.a (.sc (.v (.int .i64 ((line).size : Int))))), (.a (.sc (.v (.int .i64 x0_0))))], blF []⟩ = impl_SplitFields_s0 k line (fun x0_0 => H ⟨tmF [0, 2, 3, 10, 11] [(.a (.sc (.v (.string line)))), (.a (.sc .nl)), (.a (.sc (.v (.bool false)))), (.a (.sc (.v (.int .i64 ((line).size : Int))))), (.a (.sc (.v (.int .i64 x0_0))))], blF []⟩) x0_0 := by kernel_rfl
theorem impl_SplitFields_n0 (k m : Nat) (line : ByteArray) (x0_0 : Int) : impl_SplitFields_h0 k (m + 1) line x0_0 = impl_SplitFields_s0 k line (impl_SplitFields_h0 k m line) x0_0 := (hdAt_succ _ _ _ _ _ _ _ _ _ _).trans (impl_SplitFields_g0 k _ line x0_0)
theorem impl_SplitFields_q0 (k : Nat) : ∀ m, impl_SplitFields_h0 k m = impl_SplitFields_l0 k m := by
 intro m
 induction m with
 | zero => funext line x0_0; rw [impl_SplitFields_z0]; rfl
 | succ m ih => funext line x0_0; rw [impl_SplitFields_n0, ih]; rfl
theorem impl_SplitFields_e (k : Nat) (line : ByteArray) : callF env (impl_SplitFields_O k) impl_SplitFields_v Tryd.f36 (k + 1) (impl_SplitFields_A line) (fun r => impl_SplitFields_d (r.fin 0 [K.kstr])) = impl_SplitFields k line := by
 have e : ∀ H : St → Option ((List ByteArray) × Bool), callE env (impl_SplitFields_O k) impl_SplitFields_v Tryd.f36 (k + 1) (impl_SplitFields_A line) [1, 1, 0, 1, 0] (fun r => impl_SplitFields_d (r.fin 0 [K.kstr])) H = impl_SplitFields_m k (fun line x0_0 => H ⟨tmF [0, 2, 3, 10, 11] [(.a (.sc (.v (.string line)))), (.a (.sc .nl)), (.a (.sc (.v (.bool false)))), (.a (.sc (.v (.int .i64 ((line).size : Int))))), (.a (.sc (.v (.int .i64 x0_0))))], blF []⟩) line := fun H => by kernel_rfl
 exact (callE_eq env (impl_SplitFields_O k) impl_SplitFields_v Tryd.f36 k (impl_SplitFields_A line) [1, 1, 0, 1, 0] 0 (fun r => impl_SplitFields_d (r.fin 0 [K.kstr])) rfl (by kernel_rfl)).trans ((e (hdAt env (impl_SplitFields_O k) impl_SplitFields_v Tryd.f36 0 (fun r => impl_SplitFields_d (r.fin 0 [K.kstr])) [1, 1, 0, 1, 0] k k)).trans (by
  show impl_SplitFields_m k (impl_SplitFields_h0 k k) line = _
  rw [impl_SplitFields_q0]; rfl))
noncomputable def impl_SplitFields_x (k : Nat) : Ent1 := fun A R Q => match A with
 | ⟨[(.sc (.v (.string a1)))], []⟩ => (impl_SplitFields k a1).bind fun y => Q ⟨(.tp [(.sc (.sl 0)), (.sc (.v (.bool y.2)))]), [(.row true K.kstr y.1)]⟩
 | _ => none
theorem impl_SplitFields_ok (k : Nat) : OkE Tryd.prog 36 (impl_SplitFields_x k) := by
 intro A R Q x h
 unfold impl_SplitFields_x at h
 split at h
 · obtain ⟨y, hy, hK⟩ := Option.bind_eq_some_iff.1 h
   obtain ⟨r, hr, hd⟩ := callF_ok envOk (impl_SplitFields_Ok k) follows Tryd.func36 (by kernel_rfl) ((impl_SplitFields_e k _).trans hy)
   exact ⟨_, impl_SplitFields_i hd ▸ hr.fin [K.kstr], hK⟩
 · cases h
end Go.Proofs.YtldpjfacoaplhaaDoorX
