/- What functions of the program compute, as functions of numbers and lists, and that they do. (The file is written by wip/x/vxp.py of this repository.) -/
import Derived.Test.YtlenacakmmikiaaGreatDoorF6
import Derived.Test.YtlenacakmmikiaaGreatDoorX18
namespace Go.Proofs.YtlenacakmmikiaaGreatDoorX
open Go Go.Proofs
set_option linter.unusedVariables false
set_option maxRecDepth 100000
/-! ### laws.eqStringS: function 7 -/
noncomputable def laws_eqStringS_s0 (k : Nat)  (a : (List ByteArray)) (b : (List ByteArray)) (J : Int → Option (Bool)) (x0_0 : Int) : Option (Bool) :=
 cond (decide ((x0_0 : Int) < ((a).length : Int)))
 (if 0 ≤ (x0_0 : Int) ∧ (x0_0 : Int) < ((a).length : Int) then
  if 0 ≤ (x0_0 : Int) ∧ (x0_0 : Int) < ((b).length : Int) then
   cond (!(decide (((a.getD (Int.toNat x0_0) (ByteArray.mk #[])) : ByteArray) = (b.getD (Int.toNat x0_0) (ByteArray.mk #[])))))
    (some false)
    (J (wr (x0_0 + 1))) else none else none)
 (some true)
noncomputable def laws_eqStringS_l0 (k : Nat) : Nat → (List ByteArray) → (List ByteArray) → Int → Option (Bool)
 | 0, a, b, x0_0 => laws_eqStringS_s0 k a b (fun _ => none) x0_0
 | m + 1, a, b, x0_0 => laws_eqStringS_s0 k a b (laws_eqStringS_l0 k m a b) x0_0
noncomputable def laws_eqStringS_m (k : Nat) (J0 : (List ByteArray) → (List ByteArray) → Int → Option (Bool)) (a : (List ByteArray)) (b : (List ByteArray)) : Option (Bool) :=
 cond (!(decide ((((a).length : Int) : Int) = ((b).length : Int))))
 (some false)
 (J0 a b 0)
noncomputable def laws_eqStringS (k : Nat) (a : (List ByteArray)) (b : (List ByteArray)) : Option (Bool) := laws_eqStringS_m k (laws_eqStringS_l0 k k) a b
noncomputable def laws_eqStringS_v : Nat → List Nat := fun t => match t with | 4 => [0, 1, 4, 5] | _ => []
noncomputable def laws_eqStringS_O (k : Nat) : Oracle := ofL []
theorem laws_eqStringS_Ok (k : Nat) : OkO (Ct Tryz.prog) (laws_eqStringS_O k) := okO_nil
noncomputable def laws_eqStringS_A (a : (List ByteArray)) (b : (List ByteArray)) : Pk := ⟨[(.sc (.sl 0)), (.sc (.sl 1))], [(.row false K.kstr a), (.row false K.kstr b)]⟩
noncomputable def laws_eqStringS_d : Rs → Option (Bool)
 | ⟨(.a (.sc (.v (.bool r1)))), [.dead, .dead]⟩ => some r1
 | _ => none
theorem laws_eqStringS_i {r : Rs} {y : Bool} (h : laws_eqStringS_d r = some y) : r = ⟨(.a (.sc (.v (.bool y)))), [.dead, .dead]⟩ := by
 unfold laws_eqStringS_d at h; split at h
 · cases h; rfl
 · cases h
noncomputable def laws_eqStringS_h0 (k m : Nat) (a : (List ByteArray)) (b : (List ByteArray)) (x0_0 : Int) : Option (Bool) := hdAt env (laws_eqStringS_O k) laws_eqStringS_v Tryz.f7 2 (fun r => laws_eqStringS_d (r.fin 2 [])) [1, 1, 0, 1, 0] k m ⟨tmF [0, 1, 4, 5] [(.a (.sc (.sl 0))), (.a (.sc (.sl 1))), (.a (.sc (.v (.bool false)))), (.a (.sc (.v (.int .i64 x0_0))))], blF [(.row false K.kstr a), (.row false K.kstr b)]⟩
theorem laws_eqStringS_z0 (k : Nat) (a : (List ByteArray)) (b : (List ByteArray)) (x0_0 : Int) : laws_eqStringS_h0 k 0 a b x0_0 = laws_eqStringS_s0 k a b (fun _ => none) x0_0 := by kernel_rfl
theorem laws_eqStringS_g0 (k : Nat) (H : St → Option (Bool)) (a : (List ByteArray)) (b : (List ByteArray)) (x0_0 : Int) : rnd env (laws_eqStringS_O k) laws_eqStringS_v Tryz.f7 2 (fun r => laws_eqStringS_d (r.fin 2 [])) [1, 1, 0, 1, 0] k H ⟨tmF [0, 1, 4, 5] [(.a (.sc (.sl 0))), (.a (.sc (.sl 1))), (.a (.sc (.v (.bool false)))), (.a (.sc (.v (.int .i64 x0_0))))], blF [(.row false K.kstr a), (.row false K.kstr b)]⟩ = laws_eqStringS_s0 k a b (fun x0_0 => H ⟨tmF [0, 1, 4, 5] [(.a (.sc (.sl 0))), (.a (.sc (.sl 1))), (.a (.sc (.v (.bool false)))), (.a (.sc (.v (.int .i64 x0_0))))], blF [(.row false K.kstr a), (.row false K.kstr b)]⟩) x0_0 := by kernel_rfl
theorem laws_eqStringS_n0 (k m : Nat) (a : (List ByteArray)) (b : (List ByteArray)) (x0_0 : Int) : laws_eqStringS_h0 k (m + 1) a b x0_0 = laws_eqStringS_s0 k a b (laws_eqStringS_h0 k m a b) x0_0 := (hdAt_succ _ _ _ _ _ _ _ _ _ _).trans (laws_eqStringS_g0 k _ a b x0_0)
theorem laws_eqStringS_q0 (k : Nat) : ∀ m, laws_eqStringS_h0 k m = laws_eqStringS_l0 k m := by
 intro m
 induction m with
 | zero => funext a b x0_0; rw [laws_eqStringS_z0]; rfl
 | succ m ih => funext a b x0_0; rw [laws_eqStringS_n0, ih]; rfl
theorem laws_eqStringS_e (k : Nat) (a : (List ByteArray)) (b : (List ByteArray)) : callF env (laws_eqStringS_O k) laws_eqStringS_v Tryz.f7 (k + 1) (laws_eqStringS_A a b) (fun r => laws_eqStringS_d (r.fin 2 [])) = laws_eqStringS k a b := by
 have e : ∀ H : St → Option (Bool), callE env (laws_eqStringS_O k) laws_eqStringS_v Tryz.f7 (k + 1) (laws_eqStringS_A a b) [1, 1, 0, 1, 0] (fun r => laws_eqStringS_d (r.fin 2 [])) H = laws_eqStringS_m k (fun a b x0_0 => H ⟨tmF [0, 1, 4, 5] [(.a (.sc (.sl 0))), (.a (.sc (.sl 1))), (.a (.sc (.v (.bool false)))), (.a (.sc (.v (.int .i64 x0_0))))], blF [(.row false K.kstr a), (.row false K.kstr b)]⟩) a b := fun H => by kernel_rfl
 exact (callE_eq env (laws_eqStringS_O k) laws_eqStringS_v Tryz.f7 k (laws_eqStringS_A a b) [1, 1, 0, 1, 0] 2 (fun r => laws_eqStringS_d (r.fin 2 [])) rfl (by kernel_rfl)).trans ((e (hdAt env (laws_eqStringS_O k) laws_eqStringS_v Tryz.f7 2 (fun r => laws_eqStringS_d (r.fin 2 [])) [1, 1, 0, 1, 0] k k)).trans (by
  show laws_eqStringS_m k (laws_eqStringS_h0 k k) a b = _
  rw [laws_eqStringS_q0]; rfl))
noncomputable def laws_eqStringS_x (k : Nat) : Ent1 := fun A R Q => match A with
 | ⟨[(.sc (.sl 0)), (.sc (.sl 1))], [(.row false K.kstr a1), (.row false K.kstr a2)]⟩ => (laws_eqStringS k a1 a2).bind fun y => Q ⟨(.a (.sc (.v (.bool y)))), [.dead, .dead]⟩
 | _ => none
theorem laws_eqStringS_ok (k : Nat) : OkE Tryz.prog 7 (laws_eqStringS_x k) := by
 intro A R Q x h
 unfold laws_eqStringS_x at h
 split at h
 · obtain ⟨y, hy, hK⟩ := Option.bind_eq_some_iff.1 h
   obtain ⟨r, hr, hd⟩ := callF_ok envOk (laws_eqStringS_Ok k) follows Tryz.func7 (by kernel_rfl) ((laws_eqStringS_e k _ _).trans hy)
   exact ⟨_, laws_eqStringS_i hd ▸ hr.fin [], hK⟩
 · cases h
/-! ### laws.markText: function 27 -/
noncomputable def laws_markText_s0 (k : Nat)  (J : Int → ByteArray → Option (ByteArray)) (x0_0 : Int) (x0_1 : ByteArray) : Option (ByteArray) :=
 cond (decide ((0 : Int) < x0_0))
 (if (10 : Int) ≠ 0 then
  if ((strOf ([(IntKind.u8.wrap ((wr ((48 : Int) + (Int.tmod x0_0 10)))))]))).size + (x0_1).size ≤ 9223372036854775807 then
   if (10 : Int) ≠ 0 then
    J (wr (Int.tdiv x0_0 10)) ((strOf ([(IntKind.u8.wrap ((wr ((48 : Int) + (Int.tmod x0_0 10)))))])) ++ x0_1) else none else none else none)
 (if ((ByteArray.mk #[109])).size + (x0_1).size ≤ 9223372036854775807 then
  some ((ByteArray.mk #[109]) ++ x0_1) else none)
noncomputable def laws_markText_l0 (k : Nat) : Nat → Int → ByteArray → Option (ByteArray)
 | 0, x0_0, x0_1 => laws_markText_s0 k (fun _ _ => none) x0_0 x0_1
 | m + 1, x0_0, x0_1 => laws_markText_s0 k (laws_markText_l0 k m) x0_0 x0_1
noncomputable def laws_markText_m (k : Nat) (J0 : Int → ByteArray → Option (ByteArray)) (k_ : Int) : Option (ByteArray) :=
 cond (decide ((k_ : Int) ≤ 0))
 (some (ByteArray.mk #[109, 48]))
 (J0 k_ (ByteArray.mk #[]))
noncomputable def laws_markText (k : Nat) (k_ : Int) : Option (ByteArray) := laws_markText_m k (laws_markText_l0 k k) k_
noncomputable def laws_markText_v : Nat → List Nat := fun t => match t with | 4 => [0, 2, 3] | _ => []
noncomputable def laws_markText_O (k : Nat) : Oracle := ofL []
theorem laws_markText_Ok (k : Nat) : OkO (Ct Tryz.prog) (laws_markText_O k) := okO_nil
noncomputable def laws_markText_A (k_ : Int) : Pk := ⟨[(.sc (.v (.int .i64 k_)))], []⟩
noncomputable def laws_markText_d : Rs → Option (ByteArray)
 | ⟨(.a (.sc (.v (.string r1)))), []⟩ => some r1
 | _ => none
theorem laws_markText_i {r : Rs} {y : ByteArray} (h : laws_markText_d r = some y) : r = ⟨(.a (.sc (.v (.string y)))), []⟩ := by
 unfold laws_markText_d at h; split at h
 · cases h; rfl
 · cases h
noncomputable def laws_markText_h0 (k m : Nat) (x0_0 : Int) (x0_1 : ByteArray) : Option (ByteArray) := hdAt env (laws_markText_O k) laws_markText_v Tryz.f27 0 (fun r => laws_markText_d (r.fin 0 [])) [1, 1, 1, 0, 0] k m ⟨tmF [0, 2, 3] [(.a (.sc (.v (.int .i64 x0_0)))), (.a (.sc (.v (.string (ByteArray.mk #[]))))), (.a (.sc (.v (.string x0_1))))], blF []⟩
theorem laws_markText_z0 (k : Nat) (x0_0 : Int) (x0_1 : ByteArray) : laws_markText_h0 k 0 x0_0 x0_1 = laws_markText_s0 k (fun _ _ => none) x0_0 x0_1 := by kernel_rfl
theorem laws_markText_g0 (k : Nat) (H : St → Option (ByteArray)) (x0_0 : Int) (x0_1 : ByteArray) : rnd env (laws_markText_O k) laws_markText_v Tryz.f27 0 (fun r => laws_markText_d (r.fin 0 [])) [1, 1, 1, 0, 0] k H ⟨tmF [0, 2, 3] [(.a (.sc (.v (.int .i64 x0_0)))), (.a (.sc (.v (.string (ByteArray.mk #[]))))), (.a (.sc (.v (.string x0_1))))], blF []⟩ = laws_markText_s0 k (fun x0_0 x0_1 => H ⟨tmF [0, 2, 3] [(.a (.sc (.v (.int .i64 x0_0)))), (.a (.sc (.v (.string (ByteArray.mk #[]))))), (.a (.sc (.v (.string x0_1))))], blF []⟩) x0_0 x0_1 := by kernel_rfl
theorem laws_markText_n0 (k m : Nat) (x0_0 : Int) (x0_1 : ByteArray) : laws_markText_h0 k (m + 1) x0_0 x0_1 = laws_markText_s0 k (laws_markText_h0 k m) x0_0 x0_1 := (hdAt_succ _ _ _ _ _ _ _ _ _ _).trans (laws_markText_g0 k _ x0_0 x0_1)
theorem laws_markText_q0 (k : Nat) : ∀ m, laws_markText_h0 k m = laws_markText_l0 k m := by
 intro m
 induction m with
 | zero => funext x0_0 x0_1; rw [laws_markText_z0]; rfl
 | succ m ih => funext x0_0 x0_1; rw [laws_markText_n0, ih]; rfl
theorem laws_markText_e (k : Nat) (k_ : Int) : callF env (laws_markText_O k) laws_markText_v Tryz.f27 (k + 1) (laws_markText_A k_) (fun r => laws_markText_d (r.fin 0 [])) = laws_markText k k_ := by
 have e : ∀ H : St → Option (ByteArray), callE env (laws_markText_O k) laws_markText_v Tryz.f27 (k + 1) (laws_markText_A k_) [1, 1, 1, 0, 0] (fun r => laws_markText_d (r.fin 0 [])) H = laws_markText_m k (fun x0_0 x0_1 => H ⟨tmF [0, 2, 3] [(.a (.sc (.v (.int .i64 x0_0)))), (.a (.sc (.v (.string (ByteArray.mk #[]))))), (.a (.sc (.v (.string x0_1))))], blF []⟩) k_ := fun H => by kernel_rfl
 exact (callE_eq env (laws_markText_O k) laws_markText_v Tryz.f27 k (laws_markText_A k_) [1, 1, 1, 0, 0] 0 (fun r => laws_markText_d (r.fin 0 [])) rfl (by kernel_rfl)).trans ((e (hdAt env (laws_markText_O k) laws_markText_v Tryz.f27 0 (fun r => laws_markText_d (r.fin 0 [])) [1, 1, 1, 0, 0] k k)).trans (by
  show laws_markText_m k (laws_markText_h0 k k) k_ = _
  rw [laws_markText_q0]; rfl))
noncomputable def laws_markText_x (k : Nat) : Ent1 := fun A R Q => match A with
 | ⟨[(.sc (.v (.int .i64 a1)))], []⟩ => (laws_markText k a1).bind fun y => Q ⟨(.a (.sc (.v (.string y)))), []⟩
 | _ => none
theorem laws_markText_ok (k : Nat) : OkE Tryz.prog 27 (laws_markText_x k) := by
 intro A R Q x h
 unfold laws_markText_x at h
 split at h
 · obtain ⟨y, hy, hK⟩ := Option.bind_eq_some_iff.1 h
   obtain ⟨r, hr, hd⟩ := callF_ok envOk (laws_markText_Ok k) follows Tryz.func27 (by kernel_rfl) ((laws_markText_e k _).trans hy)
   exact ⟨_, laws_markText_i hd ▸ hr.fin [], hK⟩
 · cases h
/-! ### laws.markStringS: function 8 -/
noncomputable def laws_markStringS_s0 (k : Nat)  (J : Int → Int → (List ByteArray) → Option (Int × (List ByteArray))) (x0_0 : Int) (x0_1 : Int) (x0_2 : (List ByteArray)) : Option (Int × (List ByteArray)) :=
 cond (decide ((x0_1 : Int) < ((x0_2).length : Int)))
 ((laws_markText k x0_0).bind fun y2 =>
  if 0 ≤ (x0_1 : Int) ∧ (x0_1 : Int) < ((x0_2).length : Int) then
   J (wr (x0_0 + 1)) (wr (x0_1 + 1)) (x0_2.set (Int.toNat x0_1) y2) else none)
 (some (x0_0, x0_2))
noncomputable def laws_markStringS_l0 (k : Nat) : Nat → Int → Int → (List ByteArray) → Option (Int × (List ByteArray))
 | 0, x0_0, x0_1, x0_2 => laws_markStringS_s0 k (fun _ _ _ => none) x0_0 x0_1 x0_2
 | m + 1, x0_0, x0_1, x0_2 => laws_markStringS_s0 k (laws_markStringS_l0 k m) x0_0 x0_1 x0_2
noncomputable def laws_markStringS_m (k : Nat) (J0 : Int → Int → (List ByteArray) → Option (Int × (List ByteArray))) (a : (List ByteArray)) (k_ : Int) : Option (Int × (List ByteArray)) :=
 J0 k_ 0 a
noncomputable def laws_markStringS (k : Nat) (a : (List ByteArray)) (k_ : Int) : Option (Int × (List ByteArray)) := laws_markStringS_m k (laws_markStringS_l0 k k) a k_
noncomputable def laws_markStringS_v : Nat → List Nat := fun t => match t with | 2 => [0, 1, 4, 5] | _ => []
noncomputable def laws_markStringS_O (k : Nat) : Oracle := ofL [(27, laws_markText_x k)]
theorem laws_markStringS_Ok (k : Nat) : OkO (Ct Tryz.prog) (laws_markStringS_O k) := okO_cons (laws_markText_ok k) (okO_nil)
noncomputable def laws_markStringS_A (a : (List ByteArray)) (k_ : Int) : Pk := ⟨[(.sc (.sl 0)), (.sc (.v (.int .i64 k_)))], [(.row true K.kstr a)]⟩
noncomputable def laws_markStringS_d : Rs → Option (Int × (List ByteArray))
 | ⟨(.a (.sc (.v (.int .i64 r1)))), [(.row true K.kstr r2)]⟩ => some (r1, r2)
 | _ => none
theorem laws_markStringS_i {r : Rs} {y : Int × (List ByteArray)} (h : laws_markStringS_d r = some y) : r = ⟨(.a (.sc (.v (.int .i64 y.1)))), [(.row true K.kstr y.2)]⟩ := by
 unfold laws_markStringS_d at h; split at h
 · cases h; rfl
 · cases h
noncomputable def laws_markStringS_h0 (k m : Nat) (x0_0 : Int) (x0_1 : Int) (x0_2 : (List ByteArray)) : Option (Int × (List ByteArray)) := hdAt env (laws_markStringS_O k) laws_markStringS_v Tryz.f8 1 (fun r => laws_markStringS_d (r.fin 1 [])) [1, 0, 1, 0] k m ⟨tmF [0, 1, 4, 5] [(.a (.sc (.sl 0))), (.a (.sc (.v (.int .i64 x0_0)))), (.a (.sc (.v (.int .i64 0)))), (.a (.sc (.v (.int .i64 x0_1))))], blF [(.row true K.kstr x0_2)]⟩
theorem laws_markStringS_z0 (k : Nat) (x0_0 : Int) (x0_1 : Int) (x0_2 : (List ByteArray)) : laws_markStringS_h0 k 0 x0_0 x0_1 x0_2 = laws_markStringS_s0 k (fun _ _ _ => none) x0_0 x0_1 x0_2 := by kernel_rfl
theorem laws_markStringS_g0 (k : Nat) (H : St → Option (Int × (List ByteArray))) (x0_0 : Int) (x0_1 : Int) (x0_2 : (List ByteArray)) : rnd env (laws_markStringS_O k) laws_markStringS_v Tryz.f8 1 (fun r => laws_markStringS_d (r.fin 1 [])) [1, 0, 1, 0] k H ⟨tmF [0, 1, 4, 5] [(.a (.sc (.sl 0))), (.a (.sc (.v (.int .i64 x0_0)))), (.a (.sc (.v (.int .i64 0)))), (.a (.sc (.v (.int .i64 x0_1))))], blF [(.row true K.kstr x0_2)]⟩ = laws_markStringS_s0 k (fun x0_0 x0_1 x0_2 => H ⟨tmF [0, 1, 4, 5] [(.a (.sc (.sl 0))), (.a (.sc (.v (.int .i64 x0_0)))), (.a (.sc (.v (.int .i64 0)))), (.a (.sc (.v (.int .i64 x0_1))))], blF [(.row true K.kstr x0_2)]⟩) x0_0 x0_1 x0_2 := by kernel_rfl
theorem laws_markStringS_n0 (k m : Nat) (x0_0 : Int) (x0_1 : Int) (x0_2 : (List ByteArray)) : laws_markStringS_h0 k (m + 1) x0_0 x0_1 x0_2 = laws_markStringS_s0 k (laws_markStringS_h0 k m) x0_0 x0_1 x0_2 := (hdAt_succ _ _ _ _ _ _ _ _ _ _).trans (laws_markStringS_g0 k _ x0_0 x0_1 x0_2)
theorem laws_markStringS_q0 (k : Nat) : ∀ m, laws_markStringS_h0 k m = laws_markStringS_l0 k m := by
 intro m
 induction m with
 | zero => funext x0_0 x0_1 x0_2; rw [laws_markStringS_z0]; rfl
 | succ m ih => funext x0_0 x0_1 x0_2; rw [laws_markStringS_n0, ih]; rfl
theorem laws_markStringS_e (k : Nat) (a : (List ByteArray)) (k_ : Int) : callF env (laws_markStringS_O k) laws_markStringS_v Tryz.f8 (k + 1) (laws_markStringS_A a k_) (fun r => laws_markStringS_d (r.fin 1 [])) = laws_markStringS k a k_ := by
 have e : ∀ H : St → Option (Int × (List ByteArray)), callE env (laws_markStringS_O k) laws_markStringS_v Tryz.f8 (k + 1) (laws_markStringS_A a k_) [1, 0, 1, 0] (fun r => laws_markStringS_d (r.fin 1 [])) H = laws_markStringS_m k (fun x0_0 x0_1 x0_2 => H ⟨tmF [0, 1, 4, 5] [(.a (.sc (.sl 0))), (.a (.sc (.v (.int .i64 x0_0)))), (.a (.sc (.v (.int .i64 0)))), (.a (.sc (.v (.int .i64 x0_1))))], blF [(.row true K.kstr x0_2)]⟩) a k_ := fun H => by kernel_rfl
 exact (callE_eq env (laws_markStringS_O k) laws_markStringS_v Tryz.f8 k (laws_markStringS_A a k_) [1, 0, 1, 0] 1 (fun r => laws_markStringS_d (r.fin 1 [])) rfl (by kernel_rfl)).trans ((e (hdAt env (laws_markStringS_O k) laws_markStringS_v Tryz.f8 1 (fun r => laws_markStringS_d (r.fin 1 [])) [1, 0, 1, 0] k k)).trans (by
  show laws_markStringS_m k (laws_markStringS_h0 k k) a k_ = _
  rw [laws_markStringS_q0]; rfl))
noncomputable def laws_markStringS_x (k : Nat) : Ent1 := fun A R Q => match A with
 | ⟨[(.sc (.sl 0)), (.sc (.v (.int .i64 a2)))], [(.row true K.kstr a1)]⟩ => (laws_markStringS k a1 a2).bind fun y => Q ⟨(.a (.sc (.v (.int .i64 y.1)))), [(.row true K.kstr y.2)]⟩
 | _ => none
theorem laws_markStringS_ok (k : Nat) : OkE Tryz.prog 8 (laws_markStringS_x k) := by
 intro A R Q x h
 unfold laws_markStringS_x at h
 split at h
 · obtain ⟨y, hy, hK⟩ := Option.bind_eq_some_iff.1 h
   obtain ⟨r, hr, hd⟩ := callF_ok envOk (laws_markStringS_Ok k) follows Tryz.func8 (by kernel_rfl) ((laws_markStringS_e k _ _).trans hy)
   exact ⟨_, laws_markStringS_i hd ▸ hr.fin [], hK⟩
 · cases h
/-! ### laws.heldStringS: function 9 -/
noncomputable def laws_heldStringS_s0 (k : Nat)  (a : (List ByteArray)) (J : Int → Int → Option (Int)) (x0_0 : Int) (x0_1 : Int) : Option (Int) :=
 cond (decide ((x0_1 : Int) < ((a).length : Int)))
 (if 0 ≤ (x0_1 : Int) ∧ (x0_1 : Int) < ((a).length : Int) then
  (laws_markText k x0_0).bind fun y2 =>
   cond (!(decide (((a.getD (Int.toNat x0_1) (ByteArray.mk #[])) : ByteArray) = y2)))
    (some (-1))
    (J (wr (x0_0 + 1)) (wr (x0_1 + 1))) else none)
 (some x0_0)
noncomputable def laws_heldStringS_l0 (k : Nat) : Nat → (List ByteArray) → Int → Int → Option (Int)
 | 0, a, x0_0, x0_1 => laws_heldStringS_s0 k a (fun _ _ => none) x0_0 x0_1
 | m + 1, a, x0_0, x0_1 => laws_heldStringS_s0 k a (laws_heldStringS_l0 k m a) x0_0 x0_1
noncomputable def laws_heldStringS_m (k : Nat) (J0 : (List ByteArray) → Int → Int → Option (Int)) (a : (List ByteArray)) (k_ : Int) : Option (Int) :=
 J0 a k_ 0
noncomputable def laws_heldStringS (k : Nat) (a : (List ByteArray)) (k_ : Int) : Option (Int) := laws_heldStringS_m k (laws_heldStringS_l0 k k) a k_
noncomputable def laws_heldStringS_v : Nat → List Nat := fun t => match t with | 2 => [0, 1, 4, 5] | _ => []
noncomputable def laws_heldStringS_O (k : Nat) : Oracle := ofL [(27, laws_markText_x k)]
theorem laws_heldStringS_Ok (k : Nat) : OkO (Ct Tryz.prog) (laws_heldStringS_O k) := okO_cons (laws_markText_ok k) (okO_nil)
noncomputable def laws_heldStringS_A (a : (List ByteArray)) (k_ : Int) : Pk := ⟨[(.sc (.sl 0)), (.sc (.v (.int .i64 k_)))], [(.row false K.kstr a)]⟩
noncomputable def laws_heldStringS_d : Rs → Option (Int)
 | ⟨(.a (.sc (.v (.int .i64 r1)))), [.dead]⟩ => some r1
 | _ => none
theorem laws_heldStringS_i {r : Rs} {y : Int} (h : laws_heldStringS_d r = some y) : r = ⟨(.a (.sc (.v (.int .i64 y)))), [.dead]⟩ := by
 unfold laws_heldStringS_d at h; split at h
 · cases h; rfl
 · cases h
noncomputable def laws_heldStringS_h0 (k m : Nat) (a : (List ByteArray)) (x0_0 : Int) (x0_1 : Int) : Option (Int) := hdAt env (laws_heldStringS_O k) laws_heldStringS_v Tryz.f9 1 (fun r => laws_heldStringS_d (r.fin 1 [])) [1, 0, 1, 0] k m ⟨tmF [0, 1, 4, 5] [(.a (.sc (.sl 0))), (.a (.sc (.v (.int .i64 x0_0)))), (.a (.sc (.v (.int .i64 0)))), (.a (.sc (.v (.int .i64 x0_1))))], blF [(.row false K.kstr a)]⟩
theorem laws_heldStringS_z0 (k : Nat) (a : (List ByteArray)) (x0_0 : Int) (x0_1 : Int) : laws_heldStringS_h0 k 0 a x0_0 x0_1 = laws_heldStringS_s0 k a (fun _ _ => none) x0_0 x0_1 := by kernel_rfl
theorem laws_heldStringS_g0 (k : Nat) (H : St → Option (Int)) (a : (List ByteArray)) (x0_0 : Int) (x0_1 : Int) : rnd env (laws_heldStringS_O k) laws_heldStringS_v Tryz.f9 1 (fun r => laws_heldStringS_d (r.fin 1 [])) [1, 0, 1, 0] k H ⟨tmF [0, 1, 4, 5] [(.a (.sc (.sl 0))), (.a (.sc (.v (.int .i64 x0_0)))), (.a (.sc (.v (.int .i64 0)))), (.a (.sc (.v (.int .i64 x0_1))))], blF [(.row false K.kstr a)]⟩ = laws_heldStringS_s0 k a (fun x0_0 x0_1 => H ⟨tmF [0, 1, 4, 5] [(.a (.sc (.sl 0))), (.a (.sc (.v (.int .i64 x0_0)))), (.a (.sc (.v (.int .i64 0)))), (.a (.sc (.v (.int .i64 x0_1))))], blF [(.row false K.kstr a)]⟩) x0_0 x0_1 := by kernel_rfl
theorem laws_heldStringS_n0 (k m : Nat) (a : (List ByteArray)) (x0_0 : Int) (x0_1 : Int) : laws_heldStringS_h0 k (m + 1) a x0_0 x0_1 = laws_heldStringS_s0 k a (laws_heldStringS_h0 k m a) x0_0 x0_1 := (hdAt_succ _ _ _ _ _ _ _ _ _ _).trans (laws_heldStringS_g0 k _ a x0_0 x0_1)
theorem laws_heldStringS_q0 (k : Nat) : ∀ m, laws_heldStringS_h0 k m = laws_heldStringS_l0 k m := by
 intro m
 induction m with
 | zero => funext a x0_0 x0_1; rw [laws_heldStringS_z0]; rfl
 | succ m ih => funext a x0_0 x0_1; rw [laws_heldStringS_n0, ih]; rfl
theorem laws_heldStringS_e (k : Nat) (a : (List ByteArray)) (k_ : Int) : callF env (laws_heldStringS_O k) laws_heldStringS_v Tryz.f9 (k + 1) (laws_heldStringS_A a k_) (fun r => laws_heldStringS_d (r.fin 1 [])) = laws_heldStringS k a k_ := by
 have e : ∀ H : St → Option (Int), callE env (laws_heldStringS_O k) laws_heldStringS_v Tryz.f9 (k + 1) (laws_heldStringS_A a k_) [1, 0, 1, 0] (fun r => laws_heldStringS_d (r.fin 1 [])) H = laws_heldStringS_m k (fun a x0_0 x0_1 => H ⟨tmF [0, 1, 4, 5] [(.a (.sc (.sl 0))), (.a (.sc (.v (.int .i64 x0_0)))), (.a (.sc (.v (.int .i64 0)))), (.a (.sc (.v (.int .i64 x0_1))))], blF [(.row false K.kstr a)]⟩) a k_ := fun H => by kernel_rfl
 exact (callE_eq env (laws_heldStringS_O k) laws_heldStringS_v Tryz.f9 k (laws_heldStringS_A a k_) [1, 0, 1, 0] 1 (fun r => laws_heldStringS_d (r.fin 1 [])) rfl (by kernel_rfl)).trans ((e (hdAt env (laws_heldStringS_O k) laws_heldStringS_v Tryz.f9 1 (fun r => laws_heldStringS_d (r.fin 1 [])) [1, 0, 1, 0] k k)).trans (by
  show laws_heldStringS_m k (laws_heldStringS_h0 k k) a k_ = _
  rw [laws_heldStringS_q0]; rfl))
noncomputable def laws_heldStringS_x (k : Nat) : Ent1 := fun A R Q => match A with
 | ⟨[(.sc (.sl 0)), (.sc (.v (.int .i64 a2)))], [(.row false K.kstr a1)]⟩ => (laws_heldStringS k a1 a2).bind fun y => Q ⟨(.a (.sc (.v (.int .i64 y)))), [.dead]⟩
 | _ => none
theorem laws_heldStringS_ok (k : Nat) : OkE Tryz.prog 9 (laws_heldStringS_x k) := by
 intro A R Q x h
 unfold laws_heldStringS_x at h
 split at h
 · obtain ⟨y, hy, hK⟩ := Option.bind_eq_some_iff.1 h
   obtain ⟨r, hr, hd⟩ := callF_ok envOk (laws_heldStringS_Ok k) follows Tryz.func9 (by kernel_rfl) ((laws_heldStringS_e k _ _).trans hy)
   exact ⟨_, laws_heldStringS_i hd ▸ hr.fin [], hK⟩
 · cases h
/-! ### laws.FnExactRunScript: function 3 -/
noncomputable def laws_FnExactRunScript (k : Nat)  (aText : ByteArray) : Option (Bool) :=
 cond (decide ((1048576 : Int) < ((aText).size : Int)))
 (some true)
 ((spec_RunScript k aText).bind fun y1 =>
  (impl_RunScript k aText).bind fun y2 =>
   (laws_eqStringS k y2.1 y1.1).bind fun y3 =>
    cond (!y3)
     (some false)
     (cond (!(y2.2 == y1.2))
      (some false)
      ((laws_markStringS k y2.1 1).bind fun y4 =>
       (laws_heldStringS k y4.2 1).bind fun y5 =>
        cond (decide ((y5 : Int) < 0))
        (some false)
        (cond (!(decide ((y5 : Int) = y4.1)))
        (some false)
        ((impl_RunScript k aText).bind fun y6 =>
        (laws_eqStringS k y6.1 y1.1).bind fun y7 =>
        cond (!y7)
        (some false)
        (cond (!(y6.2 == y1.2))
        (some false)
        ((laws_heldStringS k y4.2 1).bind fun y8 =>
        cond (decide ((y8 : Int) < 0))
        (some false)
        (cond (!(decide ((y8 : Int) = y4.1)))
        (some false)
        (some true)))))))))
noncomputable def laws_FnExactRunScript_v : Nat → List Nat := fun t => match t with | _ => []
noncomputable def laws_FnExactRunScript_O (k : Nat) : Oracle := ofL [(5, spec_RunScript_x k), (6, impl_RunScript_x k), (7, laws_eqStringS_x k), (8, laws_markStringS_x k), (9, laws_heldStringS_x k)]
theorem laws_FnExactRunScript_Ok (k : Nat) : OkO (Ct Tryz.prog) (laws_FnExactRunScript_O k) := okO_cons (spec_RunScript_ok k) (okO_cons (impl_RunScript_ok k) (okO_cons (laws_eqStringS_ok k) (okO_cons (laws_markStringS_ok k) (okO_cons (laws_heldStringS_ok k) (okO_nil)))))
noncomputable def laws_FnExactRunScript_A (aText : ByteArray) : Pk := ⟨[(.sc (.v (.string aText)))], []⟩
noncomputable def laws_FnExactRunScript_d : Rs → Option (Bool)
 | ⟨(.a (.sc (.v (.bool r1)))), []⟩ => some r1
 | _ => none
theorem laws_FnExactRunScript_i {r : Rs} {y : Bool} (h : laws_FnExactRunScript_d r = some y) : r = ⟨(.a (.sc (.v (.bool y)))), []⟩ := by
 unfold laws_FnExactRunScript_d at h; split at h
 · cases h; rfl
 · cases h
theorem laws_FnExactRunScript_e (k : Nat) (aText : ByteArray) : callF env (laws_FnExactRunScript_O k) laws_FnExactRunScript_v Tryz.f3 (k + 1) (laws_FnExactRunScript_A aText) (fun r => laws_FnExactRunScript_d (r.fin 0 [])) = laws_FnExactRunScript k aText := by kernel_rfl
noncomputable def laws_FnExactRunScript_x (k : Nat) : Ent1 := fun A R Q => match A with
 | ⟨[(.sc (.v (.string a1)))], []⟩ => (laws_FnExactRunScript k a1).bind fun y => Q ⟨(.a (.sc (.v (.bool y)))), []⟩
 | _ => none
theorem laws_FnExactRunScript_ok (k : Nat) : OkE Tryz.prog 3 (laws_FnExactRunScript_x k) := by
 intro A R Q x h
 unfold laws_FnExactRunScript_x at h
 split at h
 · obtain ⟨y, hy, hK⟩ := Option.bind_eq_some_iff.1 h
   obtain ⟨r, hr, hd⟩ := callF_ok envOk (laws_FnExactRunScript_Ok k) follows Tryz.func3 (by kernel_rfl) ((laws_FnExactRunScript_e k _).trans hy)
   exact ⟨_, laws_FnExactRunScript_i hd ▸ hr.fin [], hK⟩
 · cases h
end Go.Proofs.YtlenacakmmikiaaGreatDoorX
