/- What functions of the program compute, as functions of numbers and lists, and that they do. (The file is written by wip/x/vxp.py of this repository.) -/
import Derived.Test.YtldpjfacoaplhaaDoorLib
import Derived.Test.YtldpjfacoaplhaaDoorX18
namespace Go.Proofs.YtldpjfacoaplhaaDoorX
open Go Go.Proofs
set_option linter.unusedVariables false
set_option maxRecDepth 100000
/-! ### spec.l01In: function 20 -/
noncomputable def spec_l01In (k : Nat)  (x : Int) (least : Int) (most : Int) : Option (Bool) :=
 cond (decide ((least : Int) ≤ x))
 (some (decide ((x : Int) ≤ most)))
 (some false)
noncomputable def spec_l01In_v : Nat → List Nat := fun t => match t with | _ => []
noncomputable def spec_l01In_O (k : Nat) : Oracle := ofL []
theorem spec_l01In_Ok (k : Nat) : OkO (Ct Tryd.prog) (spec_l01In_O k) := okO_nil
noncomputable def spec_l01In_A (x : Int) (least : Int) (most : Int) : Pk := ⟨[(.sc (.v (.int .i64 x))), (.sc (.v (.int .i64 least))), (.sc (.v (.int .i64 most)))], []⟩
noncomputable def spec_l01In_d : Rs → Option (Bool)
 | ⟨(.a (.sc (.v (.bool r1)))), []⟩ => some r1
 | _ => none
theorem spec_l01In_i {r : Rs} {y : Bool} (h : spec_l01In_d r = some y) : r = ⟨(.a (.sc (.v (.bool y)))), []⟩ := by
 unfold spec_l01In_d at h; split at h
 · cases h; rfl
 · cases h
theorem spec_l01In_e (k : Nat) (x : Int) (least : Int) (most : Int) : callF env (spec_l01In_O k) spec_l01In_v Tryd.f20 (k + 1) (spec_l01In_A x least most) (fun r => spec_l01In_d (r.fin 0 [])) = spec_l01In k x least most := by kernel_rfl
noncomputable def spec_l01In_x (k : Nat) : Ent1 := fun A R Q => match A with
 | ⟨[(.sc (.v (.int .i64 a1))), (.sc (.v (.int .i64 a2))), (.sc (.v (.int .i64 a3)))], []⟩ => (spec_l01In k a1 a2 a3).bind fun y => Q ⟨(.a (.sc (.v (.bool y)))), []⟩
 | _ => none
theorem spec_l01In_ok (k : Nat) : OkE Tryd.prog 20 (spec_l01In_x k) := by
 intro A R Q x h
 unfold spec_l01In_x at h
 split at h
 · obtain ⟨y, hy, hK⟩ := Option.bind_eq_some_iff.1 h
   obtain ⟨r, hr, hd⟩ := callF_ok envOk (spec_l01In_Ok k) follows Tryd.func20 (by kernel_rfl) ((spec_l01In_e k _ _ _).trans hy)
   exact ⟨_, spec_l01In_i hd ▸ hr.fin [], hK⟩
 · cases h
/-! ### spec.l01Figure: function 55 -/
noncomputable def spec_l01Figure (k : Nat)  (x : Int) : Option (Int) :=
 cond (decide ((x : Int) < 10))
 (some (IntKind.u8.wrap ((wr ((48 : Int) + x)))))
 (some (IntKind.u8.wrap ((wr ((wr ((97 : Int) + x)) - 10)))))
noncomputable def spec_l01Figure_v : Nat → List Nat := fun t => match t with | _ => []
noncomputable def spec_l01Figure_O (k : Nat) : Oracle := ofL []
theorem spec_l01Figure_Ok (k : Nat) : OkO (Ct Tryd.prog) (spec_l01Figure_O k) := okO_nil
noncomputable def spec_l01Figure_A (x : Int) : Pk := ⟨[(.sc (.v (.int .i64 x)))], []⟩
noncomputable def spec_l01Figure_d : Rs → Option (Int)
 | ⟨(.a (.sc (.v (.int .u8 r1)))), []⟩ => some r1
 | _ => none
theorem spec_l01Figure_i {r : Rs} {y : Int} (h : spec_l01Figure_d r = some y) : r = ⟨(.a (.sc (.v (.int .u8 y)))), []⟩ := by
 unfold spec_l01Figure_d at h; split at h
 · cases h; rfl
 · cases h
theorem spec_l01Figure_e (k : Nat) (x : Int) : callF env (spec_l01Figure_O k) spec_l01Figure_v Tryd.f55 (k + 1) (spec_l01Figure_A x) (fun r => spec_l01Figure_d (r.fin 0 [])) = spec_l01Figure k x := by kernel_rfl
noncomputable def spec_l01Figure_x (k : Nat) : Ent1 := fun A R Q => match A with
 | ⟨[(.sc (.v (.int .i64 a1)))], []⟩ => (spec_l01Figure k a1).bind fun y => Q ⟨(.a (.sc (.v (.int .u8 y)))), []⟩
 | _ => none
theorem spec_l01Figure_ok (k : Nat) : OkE Tryd.prog 55 (spec_l01Figure_x k) := by
 intro A R Q x h
 unfold spec_l01Figure_x at h
 split at h
 · obtain ⟨y, hy, hK⟩ := Option.bind_eq_some_iff.1 h
   obtain ⟨r, hr, hd⟩ := callF_ok envOk (spec_l01Figure_Ok k) follows Tryd.func55 (by kernel_rfl) ((spec_l01Figure_e k _).trans hy)
   exact ⟨_, spec_l01Figure_i hd ▸ hr.fin [], hK⟩
 · cases h
/-! ### spec.FormatInt: function 41 -/
noncomputable def spec_FormatInt_s0 (k : Nat)  (n : Int) (J : Int → ByteArray → Option (ByteArray)) (x0_0 : Int) (x0_1 : ByteArray) : Option (ByteArray) :=
 cond (!(decide ((x0_0 : Int) = 0)))
 (if (10 : Int) ≠ 0 then
  cond (decide (((Int.tmod x0_0 10) : Int) < 0))
   ((spec_l01Figure k (wr (0 - (Int.tmod x0_0 10)))).bind fun y3 =>
    if ((strOf ([y3]))).size + (x0_1).size ≤ 9223372036854775807 then
     if (10 : Int) ≠ 0 then
      J (wr (Int.tdiv x0_0 10)) ((strOf ([y3])) ++ x0_1) else none else none)
   ((spec_l01Figure k (Int.tmod x0_0 10)).bind fun y4 =>
    if ((strOf ([y4]))).size + (x0_1).size ≤ 9223372036854775807 then
     if (10 : Int) ≠ 0 then
      J (wr (Int.tdiv x0_0 10)) ((strOf ([y4])) ++ x0_1) else none else none) else none)
 (cond (decide ((n : Int) < 0))
  (if ((ByteArray.mk #[45])).size + (x0_1).size ≤ 9223372036854775807 then
   some ((ByteArray.mk #[45]) ++ x0_1) else none)
  (some x0_1))
noncomputable def spec_FormatInt_l0 (k : Nat) : Nat → Int → Int → ByteArray → Option (ByteArray)
 | 0, n, x0_0, x0_1 => spec_FormatInt_s0 k n (fun _ _ => none) x0_0 x0_1
 | m + 1, n, x0_0, x0_1 => spec_FormatInt_s0 k n (spec_FormatInt_l0 k m n) x0_0 x0_1
noncomputable def spec_FormatInt_m (k : Nat) (J0 : Int → Int → ByteArray → Option (ByteArray)) (n : Int) : Option (ByteArray) :=
 cond (decide ((n : Int) = 0))
 (some (ByteArray.mk #[48]))
 (J0 n n (ByteArray.mk #[]))
noncomputable def spec_FormatInt (k : Nat) (n : Int) : Option (ByteArray) := spec_FormatInt_m k (spec_FormatInt_l0 k k) n
noncomputable def spec_FormatInt_v : Nat → List Nat := fun t => match t with | 5 => [0, 2, 3, 4] | _ => []
noncomputable def spec_FormatInt_O (k : Nat) : Oracle := ofL [(55, spec_l01Figure_x k)]
theorem spec_FormatInt_Ok (k : Nat) : OkO (Ct Tryd.prog) (spec_FormatInt_O k) := okO_cons (spec_l01Figure_ok k) (okO_nil)
noncomputable def spec_FormatInt_A (n : Int) : Pk := ⟨[(.sc (.v (.int .i64 n)))], []⟩
noncomputable def spec_FormatInt_d : Rs → Option (ByteArray)
 | ⟨(.a (.sc (.v (.string r1)))), []⟩ => some r1
 | _ => none
theorem spec_FormatInt_i {r : Rs} {y : ByteArray} (h : spec_FormatInt_d r = some y) : r = ⟨(.a (.sc (.v (.string y)))), []⟩ := by
 unfold spec_FormatInt_d at h; split at h
 · cases h; rfl
 · cases h
noncomputable def spec_FormatInt_h0 (k m : Nat) (n : Int) (x0_0 : Int) (x0_1 : ByteArray) : Option (ByteArray) := hdAt env (spec_FormatInt_O k) spec_FormatInt_v Tryd.f41 0 (fun r => spec_FormatInt_d (r.fin 0 [])) [1, 1, 1, 1, 0, 0] k m ⟨tmF [0, 2, 3, 4] [(.a (.sc (.v (.int .i64 x0_0)))), (.a (.sc (.v (.string (ByteArray.mk #[]))))), (.a (.sc (.v (.bool (decide ((n : Int) < 0)))))), (.a (.sc (.v (.string x0_1))))], blF []⟩
theorem spec_FormatInt_z0 (k : Nat) (n : Int) (x0_0 : Int) (x0_1 : ByteArray) : spec_FormatInt_h0 k 0 n x0_0 x0_1 = spec_FormatInt_s0 k n (fun _ _ => none) x0_0 x0_1 := by kernel_rfl
theorem spec_FormatInt_g0 (k : Nat) (H : St → Option (ByteArray)) (n : Int) (x0_0 : Int) (x0_1 : ByteArray) : rnd env (spec_FormatInt_O k) spec_FormatInt_v Tryd.f41 0 (fun r => spec_FormatInt_d (r.fin 0 [])) [1, 1, 1, 1, 0, 0] k H ⟨tmF [0, 2, 3, 4] [(.a (.sc (.v (.int .i64 x0_0)))), (.a (.sc (.v (.string (ByteArray.mk #[]))))), (.a (.sc (.v (.bool (decide ((n : Int) < 0)))))), (.a (.sc (.v (.string x0_1))))], blF []⟩ = spec_FormatInt_s0 k n (fun x0_0 x0_1 => H ⟨tmF [0, 2, 3, 4] [(.a (.sc (.v (.int .i64 x0_0)))), (.a (.sc (.v (.string (ByteArray.mk #[]))))), (.a (.sc (.v (.bool (decide ((n : Int) < 0)))))), (.a (.sc (.v (.string x0_1))))], blF []⟩) x0_0 x0_1 := by kernel_rfl
theorem spec_FormatInt_n0 (k m : Nat) (n : Int) (x0_0 : Int) (x0_1 : ByteArray) : spec_FormatInt_h0 k (m + 1) n x0_0 x0_1 = spec_FormatInt_s0 k n (spec_FormatInt_h0 k m n) x0_0 x0_1 := (hdAt_succ _ _ _ _ _ _ _ _ _ _).trans (spec_FormatInt_g0 k _ n x0_0 x0_1)
theorem spec_FormatInt_q0 (k : Nat) : ∀ m, spec_FormatInt_h0 k m = spec_FormatInt_l0 k m := by
 intro m
 induction m with
 | zero => funext n x0_0 x0_1; rw [spec_FormatInt_z0]; rfl
 | succ m ih => funext n x0_0 x0_1; rw [spec_FormatInt_n0, ih]; rfl
theorem spec_FormatInt_e (k : Nat) (n : Int) : callF env (spec_FormatInt_O k) spec_FormatInt_v Tryd.f41 (k + 1) (spec_FormatInt_A n) (fun r => spec_FormatInt_d (r.fin 0 [])) = spec_FormatInt k n := by
 have e : ∀ H : St → Option (ByteArray), callE env (spec_FormatInt_O k) spec_FormatInt_v Tryd.f41 (k + 1) (spec_FormatInt_A n) [1, 1, 1, 1, 0, 0] (fun r => spec_FormatInt_d (r.fin 0 [])) H = spec_FormatInt_m k (fun n x0_0 x0_1 => H ⟨tmF [0, 2, 3, 4] [(.a (.sc (.v (.int .i64 x0_0)))), (.a (.sc (.v (.string (ByteArray.mk #[]))))), (.a (.sc (.v (.bool (decide ((n : Int) < 0)))))), (.a (.sc (.v (.string x0_1))))], blF []⟩) n := fun H => by kernel_rfl
 exact (callE_eq env (spec_FormatInt_O k) spec_FormatInt_v Tryd.f41 k (spec_FormatInt_A n) [1, 1, 1, 1, 0, 0] 0 (fun r => spec_FormatInt_d (r.fin 0 [])) rfl (by kernel_rfl)).trans ((e (hdAt env (spec_FormatInt_O k) spec_FormatInt_v Tryd.f41 0 (fun r => spec_FormatInt_d (r.fin 0 [])) [1, 1, 1, 1, 0, 0] k k)).trans (by
  show spec_FormatInt_m k (spec_FormatInt_h0 k k) n = _
  rw [spec_FormatInt_q0]; rfl))
noncomputable def spec_FormatInt_x (k : Nat) : Ent1 := fun A R Q => match A with
 | ⟨[(.sc (.v (.int .i64 a1)))], []⟩ => (spec_FormatInt k a1).bind fun y => Q ⟨(.a (.sc (.v (.string y)))), []⟩
 | _ => none
theorem spec_FormatInt_ok (k : Nat) : OkE Tryd.prog 41 (spec_FormatInt_x k) := by
 intro A R Q x h
 unfold spec_FormatInt_x at h
 split at h
 · obtain ⟨y, hy, hK⟩ := Option.bind_eq_some_iff.1 h
   obtain ⟨r, hr, hd⟩ := callF_ok envOk (spec_FormatInt_Ok k) follows Tryd.func41 (by kernel_rfl) ((spec_FormatInt_e k _).trans hy)
   exact ⟨_, spec_FormatInt_i hd ▸ hr.fin [], hK⟩
 · cases h
/-! ### spec.ParseUint: function 21 -/
noncomputable def spec_ParseUint_s0 (k : Nat)  (text : ByteArray) (J : Int → Int → Option (Int × Bool)) (x0_0 : Int) (x0_1 : Int) : Option (Int × Bool) :=
 cond (decide ((x0_1 : Int) < ((text).size : Int)))
 (if 0 ≤ (x0_1 : Int) ∧ (x0_1 : Int) < ((text).size : Int) then
  cond (decide (((byteAt text (Int.toNat x0_1)) : Int) < 48))
   (some (0, false))
   (if 0 ≤ (x0_1 : Int) ∧ (x0_1 : Int) < ((text).size : Int) then
    cond (decide ((57 : Int) < (byteAt text (Int.toNat x0_1))))
     (some (0, false))
     (if 0 ≤ (x0_1 : Int) ∧ (x0_1 : Int) < ((text).size : Int) then
      J (wr ((wr ((wr ((10 : Int) * x0_0)) + (wr (byteAt text (Int.toNat x0_1))))) - 48)) (wr (x0_1 + 1)) else none) else none) else none)
 (cond (decide ((1000000000 : Int) < x0_0))
  (some (0, false))
  ((spec_FormatInt k x0_0).bind fun y2 =>
   cond (!(decide ((y2 : ByteArray) = text)))
    (some (0, false))
    (some (x0_0, true))))
noncomputable def spec_ParseUint_l0 (k : Nat) : Nat → ByteArray → Int → Int → Option (Int × Bool)
 | 0, text, x0_0, x0_1 => spec_ParseUint_s0 k text (fun _ _ => none) x0_0 x0_1
 | m + 1, text, x0_0, x0_1 => spec_ParseUint_s0 k text (spec_ParseUint_l0 k m text) x0_0 x0_1
noncomputable def spec_ParseUint_m (k : Nat) (J0 : ByteArray → Int → Int → Option (Int × Bool)) (text : ByteArray) : Option (Int × Bool) :=
 cond (decide ((10 : Int) < ((text).size : Int)))
 (some (0, false))
 (J0 text 0 0)
noncomputable def spec_ParseUint (k : Nat) (text : ByteArray) : Option (Int × Bool) := spec_ParseUint_m k (spec_ParseUint_l0 k k) text
noncomputable def spec_ParseUint_v : Nat → List Nat := fun t => match t with | 5 => [0, 2, 3, 4, 5] | _ => []
noncomputable def spec_ParseUint_O (k : Nat) : Oracle := ofL [(41, spec_FormatInt_x k)]
theorem spec_ParseUint_Ok (k : Nat) : OkO (Ct Tryd.prog) (spec_ParseUint_O k) := okO_cons (spec_FormatInt_ok k) (okO_nil)
noncomputable def spec_ParseUint_A (text : ByteArray) : Pk := ⟨[(.sc (.v (.string text)))], []⟩
noncomputable def spec_ParseUint_d : Rs → Option (Int × Bool)
 | ⟨(.tp [(.sc (.v (.int .i64 r1))), (.sc (.v (.bool r2)))]), []⟩ => some (r1, r2)
 | _ => none
theorem spec_ParseUint_i {r : Rs} {y : Int × Bool} (h : spec_ParseUint_d r = some y) : r = ⟨(.tp [(.sc (.v (.int .i64 y.1))), (.sc (.v (.bool y.2)))]), []⟩ := by
 unfold spec_ParseUint_d at h; split at h
 · cases h; rfl
 · cases h
noncomputable def spec_ParseUint_h0 (k m : Nat) (text : ByteArray) (x0_0 : Int) (x0_1 : Int) : Option (Int × Bool) := hdAt env (spec_ParseUint_O k) spec_ParseUint_v Tryd.f21 0 (fun r => spec_ParseUint_d (r.fin 0 [])) [1, 1, 1, 0, 1, 0] k m ⟨tmF [0, 2, 3, 4, 5] [(.a (.sc (.v (.string text)))), (.a (.sc (.v (.int .i64 0)))), (.a (.sc (.v (.bool false)))), (.a (.sc (.v (.int .i64 x0_0)))), (.a (.sc (.v (.int .i64 x0_1))))], blF []⟩
theorem spec_ParseUint_z0 (k : Nat) (text : ByteArray) (x0_0 : Int) (x0_1 : Int) : spec_ParseUint_h0 k 0 text x0_0 x0_1 = spec_ParseUint_s0 k text (fun _ _ => none) x0_0 x0_1 := by kernel_rfl
theorem spec_ParseUint_g0 (k : Nat) (H : St → Option (Int × Bool)) (text : ByteArray) (x0_0 : Int) (x0_1 : Int) : rnd env (spec_ParseUint_O k) spec_ParseUint_v Tryd.f21 0 (fun r => spec_ParseUint_d (r.fin 0 [])) [1, 1, 1, 0, 1, 0] k H ⟨tmF [0, 2, 3, 4, 5] [(.a (.sc (.v (.string text)))), (.a (.sc (.v (.int .i64 0)))), (.a (.sc (.v (.bool false)))), (.a (.sc (.v (.int .i64 x0_0)))), (.a (.sc (.v (.int .i64 x0_1))))], blF []⟩ = spec_ParseUint_s0 k text (fun x0_0 x0_1 => H ⟨tmF [0, 2, 3, 4, 5] [(.a (.sc (.v (.string text)))), (.a (.sc (.v (.int .i64 0)))), (.a (.sc (.v (.bool false)))), (.a (.sc (.v (.int .i64 x0_0)))), (.a (.sc (.v (.int .i64 x0_1))))], blF []⟩) x0_0 x0_1 := by kernel_rfl
theorem spec_ParseUint_n0 (k m : Nat) (text : ByteArray) (x0_0 : Int) (x0_1 : Int) : spec_ParseUint_h0 k (m + 1) text x0_0 x0_1 = spec_ParseUint_s0 k text (spec_ParseUint_h0 k m text) x0_0 x0_1 := (hdAt_succ _ _ _ _ _ _ _ _ _ _).trans (spec_ParseUint_g0 k _ text x0_0 x0_1)
theorem spec_ParseUint_q0 (k : Nat) : ∀ m, spec_ParseUint_h0 k m = spec_ParseUint_l0 k m := by
 intro m
 induction m with
 | zero => funext text x0_0 x0_1; rw [spec_ParseUint_z0]; rfl
 | succ m ih => funext text x0_0 x0_1; rw [spec_ParseUint_n0, ih]; rfl
theorem spec_ParseUint_e (k : Nat) (text : ByteArray) : callF env (spec_ParseUint_O k) spec_ParseUint_v Tryd.f21 (k + 1) (spec_ParseUint_A text) (fun r => spec_ParseUint_d (r.fin 0 [])) = spec_ParseUint k text := by
 have e : ∀ H : St → Option (Int × Bool), callE env (spec_ParseUint_O k) spec_ParseUint_v Tryd.f21 (k + 1) (spec_ParseUint_A text) [1, 1, 1, 0, 1, 0] (fun r => spec_ParseUint_d (r.fin 0 [])) H = spec_ParseUint_m k (fun text x0_0 x0_1 => H ⟨tmF [0, 2, 3, 4, 5] [(.a (.sc (.v (.string text)))), (.a (.sc (.v (.int .i64 0)))), (.a (.sc (.v (.bool false)))), (.a (.sc (.v (.int .i64 x0_0)))), (.a (.sc (.v (.int .i64 x0_1))))], blF []⟩) text := fun H => by kernel_rfl
 exact (callE_eq env (spec_ParseUint_O k) spec_ParseUint_v Tryd.f21 k (spec_ParseUint_A text) [1, 1, 1, 0, 1, 0] 0 (fun r => spec_ParseUint_d (r.fin 0 [])) rfl (by kernel_rfl)).trans ((e (hdAt env (spec_ParseUint_O k) spec_ParseUint_v Tryd.f21 0 (fun r => spec_ParseUint_d (r.fin 0 [])) [1, 1, 1, 0, 1, 0] k k)).trans (by
  show spec_ParseUint_m k (spec_ParseUint_h0 k k) text = _
  rw [spec_ParseUint_q0]; rfl))
noncomputable def spec_ParseUint_x (k : Nat) : Ent1 := fun A R Q => match A with
 | ⟨[(.sc (.v (.string a1)))], []⟩ => (spec_ParseUint k a1).bind fun y => Q ⟨(.tp [(.sc (.v (.int .i64 y.1))), (.sc (.v (.bool y.2)))]), []⟩
 | _ => none
theorem spec_ParseUint_ok (k : Nat) : OkE Tryd.prog 21 (spec_ParseUint_x k) := by
 intro A R Q x h
 unfold spec_ParseUint_x at h
 split at h
 · obtain ⟨y, hy, hK⟩ := Option.bind_eq_some_iff.1 h
   obtain ⟨r, hr, hd⟩ := callF_ok envOk (spec_ParseUint_Ok k) follows Tryd.func21 (by kernel_rfl) ((spec_ParseUint_e k _).trans hy)
   exact ⟨_, spec_ParseUint_i hd ▸ hr.fin [], hK⟩
 · cases h
/-! ### spec.l34Ok: function 42 -/
noncomputable def spec_l34Ok (k : Nat)  (minute : Int) : Option (Bool) :=
 (spec_l01In k minute 0 1439).bind fun y1 =>
 some y1
noncomputable def spec_l34Ok_v : Nat → List Nat := fun t => match t with | _ => []
noncomputable def spec_l34Ok_O (k : Nat) : Oracle := ofL [(20, spec_l01In_x k)]
theorem spec_l34Ok_Ok (k : Nat) : OkO (Ct Tryd.prog) (spec_l34Ok_O k) := okO_cons (spec_l01In_ok k) (okO_nil)
noncomputable def spec_l34Ok_A (minute : Int) : Pk := ⟨[(.sc (.v (.int .i64 minute)))], []⟩
noncomputable def spec_l34Ok_d : Rs → Option (Bool)
 | ⟨(.a (.sc (.v (.bool r1)))), []⟩ => some r1
 | _ => none
theorem spec_l34Ok_i {r : Rs} {y : Bool} (h : spec_l34Ok_d r = some y) : r = ⟨(.a (.sc (.v (.bool y)))), []⟩ := by
 unfold spec_l34Ok_d at h; split at h
 · cases h; rfl
 · cases h
theorem spec_l34Ok_e (k : Nat) (minute : Int) : callF env (spec_l34Ok_O k) spec_l34Ok_v Tryd.f42 (k + 1) (spec_l34Ok_A minute) (fun r => spec_l34Ok_d (r.fin 0 [])) = spec_l34Ok k minute := by kernel_rfl
noncomputable def spec_l34Ok_x (k : Nat) : Ent1 := fun A R Q => match A with
 | ⟨[(.sc (.v (.int .i64 a1)))], []⟩ => (spec_l34Ok k a1).bind fun y => Q ⟨(.a (.sc (.v (.bool y)))), []⟩
 | _ => none
theorem spec_l34Ok_ok (k : Nat) : OkE Tryd.prog 42 (spec_l34Ok_x k) := by
 intro A R Q x h
 unfold spec_l34Ok_x at h
 split at h
 · obtain ⟨y, hy, hK⟩ := Option.bind_eq_some_iff.1 h
   obtain ⟨r, hr, hd⟩ := callF_ok envOk (spec_l34Ok_Ok k) follows Tryd.func42 (by kernel_rfl) ((spec_l34Ok_e k _).trans hy)
   exact ⟨_, spec_l34Ok_i hd ▸ hr.fin [], hK⟩
 · cases h
/-! ### spec.TimeText: function 22 -/
noncomputable def spec_TimeText (k : Nat)  (minute : Int) : Option (ByteArray) :=
 (spec_l34Ok k minute).bind fun y1 =>
 cond (!y1)
  (some (ByteArray.mk #[]))
  (if (60 : Int) ≠ 0 then
   (spec_FormatInt k (Int.tmod minute 60)).bind fun y2 =>
    cond (decide ((((y2).size : Int) : Int) = 1))
     (if ((ByteArray.mk #[48])).size + (y2).size ≤ 9223372036854775807 then
      if (60 : Int) ≠ 0 then
       (spec_FormatInt k (wr (Int.tdiv minute 60))).bind fun y3 =>
        if (y3).size + ((ByteArray.mk #[58])).size ≤ 9223372036854775807 then
        if ((y3 ++ (ByteArray.mk #[58]))).size + (((ByteArray.mk #[48]) ++ y2)).size ≤ 9223372036854775807 then
        some ((y3 ++ (ByteArray.mk #[58])) ++ ((ByteArray.mk #[48]) ++ y2)) else none else none else none else none)
     (if (60 : Int) ≠ 0 then
      (spec_FormatInt k (wr (Int.tdiv minute 60))).bind fun y4 =>
       if (y4).size + ((ByteArray.mk #[58])).size ≤ 9223372036854775807 then
        if ((y4 ++ (ByteArray.mk #[58]))).size + (y2).size ≤ 9223372036854775807 then
        some ((y4 ++ (ByteArray.mk #[58])) ++ y2) else none else none else none) else none)
noncomputable def spec_TimeText_v : Nat → List Nat := fun t => match t with | _ => []
noncomputable def spec_TimeText_O (k : Nat) : Oracle := ofL [(41, spec_FormatInt_x k), (42, spec_l34Ok_x k)]
theorem spec_TimeText_Ok (k : Nat) : OkO (Ct Tryd.prog) (spec_TimeText_O k) := okO_cons (spec_FormatInt_ok k) (okO_cons (spec_l34Ok_ok k) (okO_nil))
noncomputable def spec_TimeText_A (minute : Int) : Pk := ⟨[(.sc (.v (.int .i64 minute)))], []⟩
noncomputable def spec_TimeText_d : Rs → Option (ByteArray)
 | ⟨(.a (.sc (.v (.string r1)))), []⟩ => some r1
 | _ => none
theorem spec_TimeText_i {r : Rs} {y : ByteArray} (h : spec_TimeText_d r = some y) : r = ⟨(.a (.sc (.v (.string y)))), []⟩ := by
 unfold spec_TimeText_d at h; split at h
 · cases h; rfl
 · cases h
theorem spec_TimeText_e (k : Nat) (minute : Int) : callF env (spec_TimeText_O k) spec_TimeText_v Tryd.f22 (k + 1) (spec_TimeText_A minute) (fun r => spec_TimeText_d (r.fin 0 [])) = spec_TimeText k minute := by kernel_rfl
noncomputable def spec_TimeText_x (k : Nat) : Ent1 := fun A R Q => match A with
 | ⟨[(.sc (.v (.int .i64 a1)))], []⟩ => (spec_TimeText k a1).bind fun y => Q ⟨(.a (.sc (.v (.string y)))), []⟩
 | _ => none
theorem spec_TimeText_ok (k : Nat) : OkE Tryd.prog 22 (spec_TimeText_x k) := by
 intro A R Q x h
 unfold spec_TimeText_x at h
 split at h
 · obtain ⟨y, hy, hK⟩ := Option.bind_eq_some_iff.1 h
   obtain ⟨r, hr, hd⟩ := callF_ok envOk (spec_TimeText_Ok k) follows Tryd.func22 (by kernel_rfl) ((spec_TimeText_e k _).trans hy)
   exact ⟨_, spec_TimeText_i hd ▸ hr.fin [], hK⟩
 · cases h
/-! ### spec.ReadTime: function 7 -/
noncomputable def spec_ReadTime_s0 (k : Nat)  (text : ByteArray) (y2 : Int × Bool) (J : Int → Int → Option (Int × Bool)) (x0_0 : Int) (x0_1 : Int) : Option (Int × Bool) :=
 cond (decide ((x0_1 : Int) < ((text).size : Int)))
 (if 0 ≤ (x0_1 : Int) ∧ (x0_1 : Int) < ((text).size : Int) then
  cond (decide (((byteAt text (Int.toNat x0_1)) : Int) < 48))
   (some (0, false))
   (if 0 ≤ (x0_1 : Int) ∧ (x0_1 : Int) < ((text).size : Int) then
    cond (decide ((57 : Int) < (byteAt text (Int.toNat x0_1))))
     (some (0, false))
     (if 0 ≤ (x0_1 : Int) ∧ (x0_1 : Int) < ((text).size : Int) then
      J (wr ((wr ((10 : Int) * x0_0)) + (wr (IntKind.u8.wrap ((byteAt text (Int.toNat x0_1)) - 48))))) (wr (x0_1 + 1)) else none) else none) else none)
 (cond (!y2.2)
  (some (0, false))
  (cond (decide ((23 : Int) < y2.1))
   (some (0, false))
   (cond (decide ((59 : Int) < x0_0))
    (some (0, false))
    ((spec_TimeText k (wr ((wr ((60 : Int) * y2.1)) + x0_0))).bind fun y4 =>
     cond (!(decide ((y4 : ByteArray) = text)))
      (some (0, false))
      (some ((wr ((wr ((60 : Int) * y2.1)) + x0_0)), true))))))
noncomputable def spec_ReadTime_l0 (k : Nat) : Nat → ByteArray → Int × Bool → Int → Int → Option (Int × Bool)
 | 0, text, y2, x0_0, x0_1 => spec_ReadTime_s0 k text y2 (fun _ _ => none) x0_0 x0_1
 | m + 1, text, y2, x0_0, x0_1 => spec_ReadTime_s0 k text y2 (spec_ReadTime_l0 k m text y2) x0_0 x0_1
noncomputable def spec_ReadTime_m (k : Nat) (J0 : ByteArray → Int × Bool → Int → Int → Option (Int × Bool)) (text : ByteArray) : Option (Int × Bool) :=
 (spec_l01In k ((text).size : Int) 4 5).bind fun y1 =>
 cond (!y1)
  (some (0, false))
  (if (0 : Int) ≤ 0 ∧ 0 ≤ (wr (((text).size : Int) - 3)) ∧ (wr (((text).size : Int) - 3)) ≤ ((text).size : Int) then
   (spec_ParseUint k (text.extract 0 (Int.toNat (wr (((text).size : Int) - 3))))).bind fun y2 =>
    J0 text y2 0 (wr (((text).size : Int) - 2)) else none)
noncomputable def spec_ReadTime (k : Nat) (text : ByteArray) : Option (Int × Bool) := spec_ReadTime_m k (spec_ReadTime_l0 k k) text
noncomputable def spec_ReadTime_v : Nat → List Nat := fun t => match t with | 7 => [0, 2, 3, 4, 5, 6, 7, 8] | _ => []
noncomputable def spec_ReadTime_O (k : Nat) : Oracle := ofL [(20, spec_l01In_x k), (21, spec_ParseUint_x k), (22, spec_TimeText_x k)]
theorem spec_ReadTime_Ok (k : Nat) : OkO (Ct Tryd.prog) (spec_ReadTime_O k) := okO_cons (spec_l01In_ok k) (okO_cons (spec_ParseUint_ok k) (okO_cons (spec_TimeText_ok k) (okO_nil)))
noncomputable def spec_ReadTime_A (text : ByteArray) : Pk := ⟨[(.sc (.v (.string text)))], []⟩
noncomputable def spec_ReadTime_d : Rs → Option (Int × Bool)
 | ⟨(.tp [(.sc (.v (.int .i64 r1))), (.sc (.v (.bool r2)))]), []⟩ => some (r1, r2)
 | _ => none
theorem spec_ReadTime_i {r : Rs} {y : Int × Bool} (h : spec_ReadTime_d r = some y) : r = ⟨(.tp [(.sc (.v (.int .i64 y.1))), (.sc (.v (.bool y.2)))]), []⟩ := by
 unfold spec_ReadTime_d at h; split at h
 · cases h; rfl
 · cases h
noncomputable def spec_ReadTime_h0 (k m : Nat) (text : ByteArray) (y2 : Int × Bool) (x0_0 : Int) (x0_1 : Int) : Option (Int × Bool) := hdAt env (spec_ReadTime_O k) spec_ReadTime_v Tryd.f7 0 (fun r => spec_ReadTime_d (r.fin 0 [])) [1, 1, 1, 1, 1, 0, 1, 0] k m ⟨tmF [0, 2, 3, 4, 5, 6, 7, 8] [(.a (.sc (.v (.string text)))), (.a (.sc (.v (.int .i64 0)))), (.a (.sc (.v (.bool false)))), (.a (.sc (.v (.int .i64 ((text).size : Int))))), (.a (.sc (.v (.int .i64 y2.1)))), (.a (.sc (.v (.bool y2.2)))), (.a (.sc (.v (.int .i64 x0_0)))), (.a (.sc (.v (.int .i64 x0_1))))], blF []⟩
theorem spec_ReadTime_z0 (k : Nat) (text : ByteArray) (y2 : Int × Bool) (x0_0 : Int) (x0_1 : Int) : spec_ReadTime_h0 k 0 text y2 x0_0 x0_1 = spec_ReadTime_s0 k text y2 (fun _ _ => none) x0_0 x0_1 := by kernel_rfl
theorem spec_ReadTime_g0 (k : Nat) (H : St → Option (Int × Bool)) (text : ByteArray) (y2 : Int × Bool) (x0_0 : Int) (x0_1 : Int) : rnd env (spec_ReadTime_O k) spec_ReadTime_v Tryd.f7 0 (fun r => spec_ReadTime_d (r.fin 0 [])) [1, 1, 1, 1, 1, 0, 1, 0] k H ⟨tmF [0, 2, 3, 4, 5, 6, 7, 8] [(.a (.sc (.v (.string text)))), (.a (.sc (.v (.int .i64 0)))), (.a (.sc (.v (.bool false)))), (.a (.sc (.v (.int .i64 ((text).size : Int))))), (.a (.sc (.v (.int .i64 y2.1)))), (.a (.sc (.v (.bool y2.2)))), (.a (.sc (.v (.int .i64 x0_0)))), (.a (.sc (.v (.int .i64 x0_1))))], blF []⟩ = spec_ReadTime_s0 k text y2 (fun x0_0 x0_1 => H ⟨tmF [0, 2, 3, 4, 5, 6, 7, 8] [(.a (.sc (.v (.string text)))), (.a (.sc (.v (.int .i64 0)))), (.a (.sc (.v (.bool false)))), (.a (.sc (.v (.int .i64 ((text).size : Int))))), (.a (.sc (.v (.int .i64 y2.1)))), (.a (.sc (.v (.bool y2.2)))), (.a (.sc (.v (.int .i64 x0_0)))), (.a (.sc (.v (.int .i64 x0_1))))], blF []⟩) x0_0 x0_1 := by kernel_rfl
theorem spec_ReadTime_n0 (k m : Nat) (text : ByteArray) (y2 : Int × Bool) (x0_0 : Int) (x0_1 : Int) : spec_ReadTime_h0 k (m + 1) text y2 x0_0 x0_1 = spec_ReadTime_s0 k text y2 (spec_ReadTime_h0 k m text y2) x0_0 x0_1 := (hdAt_succ _ _ _ _ _ _ _ _ _ _).trans (spec_ReadTime_g0 k _ text y2 x0_0 x0_1)
theorem spec_ReadTime_q0 (k : Nat) : ∀ m, spec_ReadTime_h0 k m = spec_ReadTime_l0 k m := by
 intro m
 induction m with
 | zero => funext text y2 x0_0 x0_1; rw [spec_ReadTime_z0]; rfl
 | succ m ih => funext text y2 x0_0 x0_1; rw [spec_ReadTime_n0, ih]; rfl
theorem spec_ReadTime_e (k : Nat) (text : ByteArray) : callF env (spec_ReadTime_O k) spec_ReadTime_v Tryd.f7 (k + 1) (spec_ReadTime_A text) (fun r => spec_ReadTime_d (r.fin 0 [])) = spec_ReadTime k text := by
 have e : ∀ H : St → Option (Int × Bool), callE env (spec_ReadTime_O k) spec_ReadTime_v Tryd.f7 (k + 1) (spec_ReadTime_A text) [1, 1, 1, 1, 1, 0, 1, 0] (fun r => spec_ReadTime_d (r.fin 0 [])) H = spec_ReadTime_m k (fun text y2 x0_0 x0_1 => H ⟨tmF [0, 2, 3, 4, 5, 6, 7, 8] [(.a (.sc (.v (.string text)))), (.a (.sc (.v (.int .i64 0)))), (.a (.sc (.v (.bool false)))), (.a (.sc (.v (.int .i64 ((text).size : Int))))), (.a (.sc (.v (.int .i64 y2.1)))), (.a (.sc (.v (.bool y2.2)))), (.a (.sc (.v (.int .i64 x0_0)))), (.a (.sc (.v (.int .i64 x0_1))))], blF []⟩) text := fun H => by kernel_rfl
 exact (callE_eq env (spec_ReadTime_O k) spec_ReadTime_v Tryd.f7 k (spec_ReadTime_A text) [1, 1, 1, 1, 1, 0, 1, 0] 0 (fun r => spec_ReadTime_d (r.fin 0 [])) rfl (by kernel_rfl)).trans ((e (hdAt env (spec_ReadTime_O k) spec_ReadTime_v Tryd.f7 0 (fun r => spec_ReadTime_d (r.fin 0 [])) [1, 1, 1, 1, 1, 0, 1, 0] k k)).trans (by
  show spec_ReadTime_m k (spec_ReadTime_h0 k k) text = _
  rw [spec_ReadTime_q0]; rfl))
noncomputable def spec_ReadTime_x (k : Nat) : Ent1 := fun A R Q => match A with
 | ⟨[(.sc (.v (.string a1)))], []⟩ => (spec_ReadTime k a1).bind fun y => Q ⟨(.tp [(.sc (.v (.int .i64 y.1))), (.sc (.v (.bool y.2)))]), []⟩
 | _ => none
theorem spec_ReadTime_ok (k : Nat) : OkE Tryd.prog 7 (spec_ReadTime_x k) := by
 intro A R Q x h
 unfold spec_ReadTime_x at h
 split at h
 · obtain ⟨y, hy, hK⟩ := Option.bind_eq_some_iff.1 h
   obtain ⟨r, hr, hd⟩ := callF_ok envOk (spec_ReadTime_Ok k) follows Tryd.func7 (by kernel_rfl) ((spec_ReadTime_e k _).trans hy)
   exact ⟨_, spec_ReadTime_i hd ▸ hr.fin [], hK⟩
 · cases h
/-! ### impl.in: function 30 -/
noncomputable def impl_in (k : Nat)  (n : Int) (low : Int) (high : Int) : Option (Bool) :=
 cond (decide ((low : Int) ≤ n))
 (some (decide ((n : Int) ≤ high)))
 (some false)
noncomputable def impl_in_v : Nat → List Nat := fun t => match t with | _ => []
noncomputable def impl_in_O (k : Nat) : Oracle := ofL []
theorem impl_in_Ok (k : Nat) : OkO (Ct Tryd.prog) (impl_in_O k) := okO_nil
noncomputable def impl_in_A (n : Int) (low : Int) (high : Int) : Pk := ⟨[(.sc (.v (.int .i64 n))), (.sc (.v (.int .i64 low))), (.sc (.v (.int .i64 high)))], []⟩
noncomputable def impl_in_d : Rs → Option (Bool)
 | ⟨(.a (.sc (.v (.bool r1)))), []⟩ => some r1
 | _ => none
theorem impl_in_i {r : Rs} {y : Bool} (h : impl_in_d r = some y) : r = ⟨(.a (.sc (.v (.bool y)))), []⟩ := by
 unfold impl_in_d at h; split at h
 · cases h; rfl
 · cases h
theorem impl_in_e (k : Nat) (n : Int) (low : Int) (high : Int) : callF env (impl_in_O k) impl_in_v Tryd.f30 (k + 1) (impl_in_A n low high) (fun r => impl_in_d (r.fin 0 [])) = impl_in k n low high := by kernel_rfl
noncomputable def impl_in_x (k : Nat) : Ent1 := fun A R Q => match A with
 | ⟨[(.sc (.v (.int .i64 a1))), (.sc (.v (.int .i64 a2))), (.sc (.v (.int .i64 a3)))], []⟩ => (impl_in k a1 a2 a3).bind fun y => Q ⟨(.a (.sc (.v (.bool y)))), []⟩
 | _ => none
theorem impl_in_ok (k : Nat) : OkE Tryd.prog 30 (impl_in_x k) := by
 intro A R Q x h
 unfold impl_in_x at h
 split at h
 · obtain ⟨y, hy, hK⟩ := Option.bind_eq_some_iff.1 h
   obtain ⟨r, hr, hd⟩ := callF_ok envOk (impl_in_Ok k) follows Tryd.func30 (by kernel_rfl) ((impl_in_e k _ _ _).trans hy)
   exact ⟨_, impl_in_i hd ▸ hr.fin [], hK⟩
 · cases h
/-! ### impl.FormatInt: function 31 -/
noncomputable def impl_FormatInt (k : Nat)  (n : Int) : Option (ByteArray) :=
 (strconv_Itoa k n).bind fun y1 =>
 some y1
noncomputable def impl_FormatInt_v : Nat → List Nat := fun t => match t with | _ => []
noncomputable def impl_FormatInt_O (k : Nat) : Oracle := ofL [(49, strconv_Itoa_x k)]
theorem impl_FormatInt_Ok (k : Nat) : OkO (Ct Tryd.prog) (impl_FormatInt_O k) := okO_cons (strconv_Itoa_ok k) (okO_nil)
noncomputable def impl_FormatInt_A (n : Int) : Pk := ⟨[(.sc (.v (.int .i64 n)))], []⟩
noncomputable def impl_FormatInt_d : Rs → Option (ByteArray)
 | ⟨(.a (.sc (.v (.string r1)))), []⟩ => some r1
 | _ => none
theorem impl_FormatInt_i {r : Rs} {y : ByteArray} (h : impl_FormatInt_d r = some y) : r = ⟨(.a (.sc (.v (.string y)))), []⟩ := by
 unfold impl_FormatInt_d at h; split at h
 · cases h; rfl
 · cases h
theorem impl_FormatInt_e (k : Nat) (n : Int) : callF env (impl_FormatInt_O k) impl_FormatInt_v Tryd.f31 (k + 1) (impl_FormatInt_A n) (fun r => impl_FormatInt_d (r.fin 0 [])) = impl_FormatInt k n := by kernel_rfl
noncomputable def impl_FormatInt_x (k : Nat) : Ent1 := fun A R Q => match A with
 | ⟨[(.sc (.v (.int .i64 a1)))], []⟩ => (impl_FormatInt k a1).bind fun y => Q ⟨(.a (.sc (.v (.string y)))), []⟩
 | _ => none
theorem impl_FormatInt_ok (k : Nat) : OkE Tryd.prog 31 (impl_FormatInt_x k) := by
 intro A R Q x h
 unfold impl_FormatInt_x at h
 split at h
 · obtain ⟨y, hy, hK⟩ := Option.bind_eq_some_iff.1 h
   obtain ⟨r, hr, hd⟩ := callF_ok envOk (impl_FormatInt_Ok k) follows Tryd.func31 (by kernel_rfl) ((impl_FormatInt_e k _).trans hy)
   exact ⟨_, impl_FormatInt_i hd ▸ hr.fin [], hK⟩
 · cases h
/-! ### impl.TimeText: function 13 -/
noncomputable def impl_TimeText (k : Nat)  (minute : Int) : Option (ByteArray) :=
 (impl_in k minute 0 1439).bind fun y1 =>
 cond (!y1)
  (some (ByteArray.mk #[]))
  (if (60 : Int) ≠ 0 then
   (impl_FormatInt k (Int.tmod minute 60)).bind fun y2 =>
    cond (decide ((((y2).size : Int) : Int) = 1))
     (if ((ByteArray.mk #[48])).size + (y2).size ≤ 9223372036854775807 then
      if (60 : Int) ≠ 0 then
       (impl_FormatInt k (wr (Int.tdiv minute 60))).bind fun y3 =>
        if (y3).size + ((ByteArray.mk #[58])).size ≤ 9223372036854775807 then
        if ((y3 ++ (ByteArray.mk #[58]))).size + (((ByteArray.mk #[48]) ++ y2)).size ≤ 9223372036854775807 then
        some ((y3 ++ (ByteArray.mk #[58])) ++ ((ByteArray.mk #[48]) ++ y2)) else none else none else none else none)
     (if (60 : Int) ≠ 0 then
      (impl_FormatInt k (wr (Int.tdiv minute 60))).bind fun y4 =>
       if (y4).size + ((ByteArray.mk #[58])).size ≤ 9223372036854775807 then
        if ((y4 ++ (ByteArray.mk #[58]))).size + (y2).size ≤ 9223372036854775807 then
        some ((y4 ++ (ByteArray.mk #[58])) ++ y2) else none else none else none) else none)
noncomputable def impl_TimeText_v : Nat → List Nat := fun t => match t with | _ => []
noncomputable def impl_TimeText_O (k : Nat) : Oracle := ofL [(30, impl_in_x k), (31, impl_FormatInt_x k)]
theorem impl_TimeText_Ok (k : Nat) : OkO (Ct Tryd.prog) (impl_TimeText_O k) := okO_cons (impl_in_ok k) (okO_cons (impl_FormatInt_ok k) (okO_nil))
noncomputable def impl_TimeText_A (minute : Int) : Pk := ⟨[(.sc (.v (.int .i64 minute)))], []⟩
noncomputable def impl_TimeText_d : Rs → Option (ByteArray)
 | ⟨(.a (.sc (.v (.string r1)))), []⟩ => some r1
 | _ => none
theorem impl_TimeText_i {r : Rs} {y : ByteArray} (h : impl_TimeText_d r = some y) : r = ⟨(.a (.sc (.v (.string y)))), []⟩ := by
 unfold impl_TimeText_d at h; split at h
 · cases h; rfl
 · cases h
theorem impl_TimeText_e (k : Nat) (minute : Int) : callF env (impl_TimeText_O k) impl_TimeText_v Tryd.f13 (k + 1) (impl_TimeText_A minute) (fun r => impl_TimeText_d (r.fin 0 [])) = impl_TimeText k minute := by kernel_rfl
noncomputable def impl_TimeText_x (k : Nat) : Ent1 := fun A R Q => match A with
 | ⟨[(.sc (.v (.int .i64 a1)))], []⟩ => (impl_TimeText k a1).bind fun y => Q ⟨(.a (.sc (.v (.string y)))), []⟩
 | _ => none
theorem impl_TimeText_ok (k : Nat) : OkE Tryd.prog 13 (impl_TimeText_x k) := by
 intro A R Q x h
 unfold impl_TimeText_x at h
 split at h
 · obtain ⟨y, hy, hK⟩ := Option.bind_eq_some_iff.1 h
   obtain ⟨r, hr, hd⟩ := callF_ok envOk (impl_TimeText_Ok k) follows Tryd.func13 (by kernel_rfl) ((impl_TimeText_e k _).trans hy)
   exact ⟨_, impl_TimeText_i hd ▸ hr.fin [], hK⟩
 · cases h
/-! ### impl.ReadTime: function 8 -/
noncomputable def impl_ReadTime (k : Nat)  (text : ByteArray) : Option (Int × Bool) :=
 (strings_Cut k text (ByteArray.mk #[58])).bind fun y1 =>
 (impl_ParseUint k y1.1).bind fun y2 =>
  (strings_TrimPrefix k y1.2.1 (ByteArray.mk #[48])).bind fun y3 =>
   (impl_ParseUint k y3).bind fun y4 =>
    cond (!(decide ((text : ByteArray) = (ByteArray.mk #[]))))
     ((impl_TimeText k (wr ((wr ((60 : Int) * y2.1)) + y4.1))).bind fun y5 =>
      cond (decide ((y5 : ByteArray) = text))
       (some ((wr ((wr ((60 : Int) * y2.1)) + y4.1)), true))
       (some (0, false)))
     (some (0, false))
noncomputable def impl_ReadTime_v : Nat → List Nat := fun t => match t with | _ => []
noncomputable def impl_ReadTime_O (k : Nat) : Oracle := ofL [(13, impl_TimeText_x k), (23, strings_Cut_x k), (24, impl_ParseUint_x k), (25, strings_TrimPrefix_x k)]
theorem impl_ReadTime_Ok (k : Nat) : OkO (Ct Tryd.prog) (impl_ReadTime_O k) := okO_cons (impl_TimeText_ok k) (okO_cons (strings_Cut_ok k) (okO_cons (impl_ParseUint_ok k) (okO_cons (strings_TrimPrefix_ok k) (okO_nil))))
noncomputable def impl_ReadTime_A (text : ByteArray) : Pk := ⟨[(.sc (.v (.string text)))], []⟩
noncomputable def impl_ReadTime_d : Rs → Option (Int × Bool)
 | ⟨(.tp [(.sc (.v (.int .i64 r1))), (.sc (.v (.bool r2)))]), []⟩ => some (r1, r2)
 | _ => none
theorem impl_ReadTime_i {r : Rs} {y : Int × Bool} (h : impl_ReadTime_d r = some y) : r = ⟨(.tp [(.sc (.v (.int .i64 y.1))), (.sc (.v (.bool y.2)))]), []⟩ := by
 unfold impl_ReadTime_d at h; split at h
 · cases h; rfl
 · cases h
theorem impl_ReadTime_e (k : Nat) (text : ByteArray) : callF env (impl_ReadTime_O k) impl_ReadTime_v Tryd.f8 (k + 1) (impl_ReadTime_A text) (fun r => impl_ReadTime_d (r.fin 0 [])) = impl_ReadTime k text := by kernel_rfl
noncomputable def impl_ReadTime_x (k : Nat) : Ent1 := fun A R Q => match A with
 | ⟨[(.sc (.v (.string a1)))], []⟩ => (impl_ReadTime k a1).bind fun y => Q ⟨(.tp [(.sc (.v (.int .i64 y.1))), (.sc (.v (.bool y.2)))]), []⟩
 | _ => none
theorem impl_ReadTime_ok (k : Nat) : OkE Tryd.prog 8 (impl_ReadTime_x k) := by
 intro A R Q x h
 unfold impl_ReadTime_x at h
 split at h
 · obtain ⟨y, hy, hK⟩ := Option.bind_eq_some_iff.1 h
   obtain ⟨r, hr, hd⟩ := callF_ok envOk (impl_ReadTime_Ok k) follows Tryd.func8 (by kernel_rfl) ((impl_ReadTime_e k _).trans hy)
   exact ⟨_, impl_ReadTime_i hd ▸ hr.fin [], hK⟩
 · cases h
/-! ### laws.FnExactReadTime: function 3 -/
noncomputable def laws_FnExactReadTime (k : Nat)  (aText : ByteArray) : Option (Bool) :=
 cond (decide ((1048576 : Int) < ((aText).size : Int)))
 (some true)
 ((spec_ReadTime k aText).bind fun y1 =>
  (impl_ReadTime k aText).bind fun y2 =>
   cond (!(decide ((y2.1 : Int) = y1.1)))
    (some false)
    (cond (!(y2.2 == y1.2))
     (some false)
     (some true)))
noncomputable def laws_FnExactReadTime_v : Nat → List Nat := fun t => match t with | _ => []
noncomputable def laws_FnExactReadTime_O (k : Nat) : Oracle := ofL [(7, spec_ReadTime_x k), (8, impl_ReadTime_x k)]
theorem laws_FnExactReadTime_Ok (k : Nat) : OkO (Ct Tryd.prog) (laws_FnExactReadTime_O k) := okO_cons (spec_ReadTime_ok k) (okO_cons (impl_ReadTime_ok k) (okO_nil))
noncomputable def laws_FnExactReadTime_A (aText : ByteArray) : Pk := ⟨[(.sc (.v (.string aText)))], []⟩
noncomputable def laws_FnExactReadTime_d : Rs → Option (Bool)
 | ⟨(.a (.sc (.v (.bool r1)))), []⟩ => some r1
 | _ => none
theorem laws_FnExactReadTime_i {r : Rs} {y : Bool} (h : laws_FnExactReadTime_d r = some y) : r = ⟨(.a (.sc (.v (.bool y)))), []⟩ := by
 unfold laws_FnExactReadTime_d at h; split at h
 · cases h; rfl
 · cases h
theorem laws_FnExactReadTime_e (k : Nat) (aText : ByteArray) : callF env (laws_FnExactReadTime_O k) laws_FnExactReadTime_v Tryd.f3 (k + 1) (laws_FnExactReadTime_A aText) (fun r => laws_FnExactReadTime_d (r.fin 0 [])) = laws_FnExactReadTime k aText := by kernel_rfl
noncomputable def laws_FnExactReadTime_x (k : Nat) : Ent1 := fun A R Q => match A with
 | ⟨[(.sc (.v (.string a1)))], []⟩ => (laws_FnExactReadTime k a1).bind fun y => Q ⟨(.a (.sc (.v (.bool y)))), []⟩
 | _ => none
theorem laws_FnExactReadTime_ok (k : Nat) : OkE Tryd.prog 3 (laws_FnExactReadTime_x k) := by
 intro A R Q x h
 unfold laws_FnExactReadTime_x at h
 split at h
 · obtain ⟨y, hy, hK⟩ := Option.bind_eq_some_iff.1 h
   obtain ⟨r, hr, hd⟩ := callF_ok envOk (laws_FnExactReadTime_Ok k) follows Tryd.func3 (by kernel_rfl) ((laws_FnExactReadTime_e k _).trans hy)
   exact ⟨_, laws_FnExactReadTime_i hd ▸ hr.fin [], hK⟩
 · cases h
/-! ### spec.LengthText: function 26 -/
noncomputable def spec_LengthText (k : Nat)  (minutes : Int) : Option (ByteArray) :=
 (spec_l01In k minutes 0 100000).bind fun y1 =>
 cond (!y1)
  (some (ByteArray.mk #[]))
  (if (60 : Int) ≠ 0 then
   (spec_FormatInt k (wr (Int.tdiv minutes 60))).bind fun y2 =>
    if (y2).size + ((ByteArray.mk #[104])).size ≤ 9223372036854775807 then
     if (60 : Int) ≠ 0 then
      (spec_FormatInt k (Int.tmod minutes 60)).bind fun y3 =>
       if (y3).size + ((ByteArray.mk #[109])).size ≤ 9223372036854775807 then
        cond (decide ((minutes : Int) < 60))
        (some (y3 ++ (ByteArray.mk #[109])))
        (if (60 : Int) ≠ 0 then
        cond (decide (((Int.tmod minutes 60) : Int) = 0))
        (some (y2 ++ (ByteArray.mk #[104])))
        (if ((y2 ++ (ByteArray.mk #[104]))).size + ((ByteArray.mk #[32])).size ≤ 9223372036854775807 then
        if (((y2 ++ (ByteArray.mk #[104])) ++ (ByteArray.mk #[32]))).size + ((y3 ++ (ByteArray.mk #[109]))).size ≤ 9223372036854775807 then
        some (((y2 ++ (ByteArray.mk #[104])) ++ (ByteArray.mk #[32])) ++ (y3 ++ (ByteArray.mk #[109]))) else none else none) else none) else none else none else none else none)
noncomputable def spec_LengthText_v : Nat → List Nat := fun t => match t with | _ => []
noncomputable def spec_LengthText_O (k : Nat) : Oracle := ofL [(20, spec_l01In_x k), (41, spec_FormatInt_x k)]
theorem spec_LengthText_Ok (k : Nat) : OkO (Ct Tryd.prog) (spec_LengthText_O k) := okO_cons (spec_l01In_ok k) (okO_cons (spec_FormatInt_ok k) (okO_nil))
noncomputable def spec_LengthText_A (minutes : Int) : Pk := ⟨[(.sc (.v (.int .i64 minutes)))], []⟩
noncomputable def spec_LengthText_d : Rs → Option (ByteArray)
 | ⟨(.a (.sc (.v (.string r1)))), []⟩ => some r1
 | _ => none
theorem spec_LengthText_i {r : Rs} {y : ByteArray} (h : spec_LengthText_d r = some y) : r = ⟨(.a (.sc (.v (.string y)))), []⟩ := by
 unfold spec_LengthText_d at h; split at h
 · cases h; rfl
 · cases h
theorem spec_LengthText_e (k : Nat) (minutes : Int) : callF env (spec_LengthText_O k) spec_LengthText_v Tryd.f26 (k + 1) (spec_LengthText_A minutes) (fun r => spec_LengthText_d (r.fin 0 [])) = spec_LengthText k minutes := by kernel_rfl
noncomputable def spec_LengthText_x (k : Nat) : Ent1 := fun A R Q => match A with
 | ⟨[(.sc (.v (.int .i64 a1)))], []⟩ => (spec_LengthText k a1).bind fun y => Q ⟨(.a (.sc (.v (.string y)))), []⟩
 | _ => none
theorem spec_LengthText_ok (k : Nat) : OkE Tryd.prog 26 (spec_LengthText_x k) := by
 intro A R Q x h
 unfold spec_LengthText_x at h
 split at h
 · obtain ⟨y, hy, hK⟩ := Option.bind_eq_some_iff.1 h
   obtain ⟨r, hr, hd⟩ := callF_ok envOk (spec_LengthText_Ok k) follows Tryd.func26 (by kernel_rfl) ((spec_LengthText_e k _).trans hy)
   exact ⟨_, spec_LengthText_i hd ▸ hr.fin [], hK⟩
 · cases h
/-! ### spec.ReadLength: function 9 -/
noncomputable def spec_ReadLength_s0 (k : Nat)  (text : ByteArray) (J : Int → Int → Int → Option (Int × Bool)) (x0_0 : Int) (x0_1 : Int) (x0_2 : Int) : Option (Int × Bool) :=
 cond (decide ((x0_2 : Int) < ((text).size : Int)))
 (if 0 ≤ (x0_2 : Int) ∧ (x0_2 : Int) < ((text).size : Int) then
  cond (decide ((48 : Int) ≤ (byteAt text (Int.toNat x0_2))))
   (if 0 ≤ (x0_2 : Int) ∧ (x0_2 : Int) < ((text).size : Int) then
    cond (decide (((byteAt text (Int.toNat x0_2)) : Int) ≤ 57))
     (if 0 ≤ (x0_2 : Int) ∧ (x0_2 : Int) < ((text).size : Int) then
      J x0_0 (wr ((wr ((10 : Int) * x0_1)) + (wr (IntKind.u8.wrap ((byteAt text (Int.toNat x0_2)) - 48))))) (wr (x0_2 + 1)) else none)
     (if 0 ≤ (x0_2 : Int) ∧ (x0_2 : Int) < ((text).size : Int) then
      cond (decide (((byteAt text (Int.toNat x0_2)) : Int) = 104))
       (J (wr (x0_0 + (wr ((60 : Int) * x0_1)))) 0 (wr (x0_2 + 1)))
       (if 0 ≤ (x0_2 : Int) ∧ (x0_2 : Int) < ((text).size : Int) then
        cond (decide (((byteAt text (Int.toNat x0_2)) : Int) = 109))
        (J (wr (x0_0 + x0_1)) 0 (wr (x0_2 + 1)))
        (J x0_0 x0_1 (wr (x0_2 + 1))) else none) else none) else none)
   (if 0 ≤ (x0_2 : Int) ∧ (x0_2 : Int) < ((text).size : Int) then
    cond (decide (((byteAt text (Int.toNat x0_2)) : Int) = 104))
     (J (wr (x0_0 + (wr ((60 : Int) * x0_1)))) 0 (wr (x0_2 + 1)))
     (if 0 ≤ (x0_2 : Int) ∧ (x0_2 : Int) < ((text).size : Int) then
      cond (decide (((byteAt text (Int.toNat x0_2)) : Int) = 109))
       (J (wr (x0_0 + x0_1)) 0 (wr (x0_2 + 1)))
       (J x0_0 x0_1 (wr (x0_2 + 1))) else none) else none) else none)
 (cond (decide ((text : ByteArray) = (ByteArray.mk #[])))
  (some (0, false))
  ((spec_LengthText k x0_0).bind fun y2 =>
   cond (!(decide ((y2 : ByteArray) = text)))
    (some (0, false))
    (some (x0_0, true))))
noncomputable def spec_ReadLength_l0 (k : Nat) : Nat → ByteArray → Int → Int → Int → Option (Int × Bool)
 | 0, text, x0_0, x0_1, x0_2 => spec_ReadLength_s0 k text (fun _ _ _ => none) x0_0 x0_1 x0_2
 | m + 1, text, x0_0, x0_1, x0_2 => spec_ReadLength_s0 k text (spec_ReadLength_l0 k m text) x0_0 x0_1 x0_2
noncomputable def spec_ReadLength_m (k : Nat) (J0 : ByteArray → Int → Int → Int → Option (Int × Bool)) (text : ByteArray) : Option (Int × Bool) :=
 cond (decide ((9 : Int) < ((text).size : Int)))
 (some (0, false))
 (J0 text 0 0 0)
noncomputable def spec_ReadLength (k : Nat) (text : ByteArray) : Option (Int × Bool) := spec_ReadLength_m k (spec_ReadLength_l0 k k) text
noncomputable def spec_ReadLength_v : Nat → List Nat := fun t => match t with | 6 => [0, 2, 3, 4, 5, 6] | _ => []
noncomputable def spec_ReadLength_O (k : Nat) : Oracle := ofL [(26, spec_LengthText_x k)]
theorem spec_ReadLength_Ok (k : Nat) : OkO (Ct Tryd.prog) (spec_ReadLength_O k) := okO_cons (spec_LengthText_ok k) (okO_nil)
noncomputable def spec_ReadLength_A (text : ByteArray) : Pk := ⟨[(.sc (.v (.string text)))], []⟩
noncomputable def spec_ReadLength_d : Rs → Option (Int × Bool)
 | ⟨(.tp [(.sc (.v (.int .i64 r1))), (.sc (.v (.bool r2)))]), []⟩ => some (r1, r2)
 | _ => none
theorem spec_ReadLength_i {r : Rs} {y : Int × Bool} (h : spec_ReadLength_d r = some y) : r = ⟨(.tp [(.sc (.v (.int .i64 y.1))), (.sc (.v (.bool y.2)))]), []⟩ := by
 unfold spec_ReadLength_d at h; split at h
 · cases h; rfl
 · cases h
noncomputable def spec_ReadLength_h0 (k m : Nat) (text : ByteArray) (x0_0 : Int) (x0_1 : Int) (x0_2 : Int) : Option (Int × Bool) := hdAt env (spec_ReadLength_O k) spec_ReadLength_v Tryd.f9 0 (fun r => spec_ReadLength_d (r.fin 0 [])) [1, 1, 1, 1, 0, 1, 0] k m ⟨tmF [0, 2, 3, 4, 5, 6] [(.a (.sc (.v (.string text)))), (.a (.sc (.v (.int .i64 0)))), (.a (.sc (.v (.bool false)))), (.a (.sc (.v (.int .i64 x0_0)))), (.a (.sc (.v (.int .i64 x0_1)))), (.a (.sc (.v (.int .i64 x0_2))))], blF []⟩
theorem spec_ReadLength_z0 (k : Nat) (text : ByteArray) (x0_0 : Int) (x0_1 : Int) (x0_2 : Int) : spec_ReadLength_h0 k 0 text x0_0 x0_1 x0_2 = spec_ReadLength_s0 k text (fun _ _ _ => none) x0_0 x0_1 x0_2 := by kernel_rfl
theorem spec_ReadLength_g0 (k : Nat) (H : St → Option (Int × Bool)) (text : ByteArray) (x0_0 : Int) (x0_1 : Int) (x0_2 : Int) : rnd env (spec_ReadLength_O k) spec_ReadLength_v Tryd.f9 0 (fun r => spec_ReadLength_d (r.fin 0 [])) [1, 1, 1, 1, 0, 1, 0] k H ⟨tmF [0, 2, 3, 4, 5, 6] [(.a (.sc (.v (.string text)))), (.a (.sc (.v (.int .i64 0)))), (.a (.sc (.v (.bool false)))), (.a (.sc (.v (.int .i64 x0_0)))), (.a (.sc (.v (.int .i64 x0_1)))), (.a (.sc (.v (.int .i64 x0_2))))], blF []⟩ = spec_ReadLength_s0 k text (fun x0_0 x0_1 x0_2 => H ⟨tmF [0, 2, 3, 4, 5, 6] [(.a (.sc (.v (.string text)))), (.a (.sc (.v (.int .i64 0)))), (.a (.sc (.v (.bool false)))), (.a (.sc (.v (.int .i64 x0_0)))), (.a (.sc (.v (.int .i64 x0_1)))), (.a (.sc (.v (.int .i64 x0_2))))], blF []⟩) x0_0 x0_1 x0_2 := by kernel_rfl
theorem spec_ReadLength_n0 (k m : Nat) (text : ByteArray) (x0_0 : Int) (x0_1 : Int) (x0_2 : Int) : spec_ReadLength_h0 k (m + 1) text x0_0 x0_1 x0_2 = spec_ReadLength_s0 k text (spec_ReadLength_h0 k m text) x0_0 x0_1 x0_2 := (hdAt_succ _ _ _ _ _ _ _ _ _ _).trans (spec_ReadLength_g0 k _ text x0_0 x0_1 x0_2)
theorem spec_ReadLength_q0 (k : Nat) : ∀ m, spec_ReadLength_h0 k m = spec_ReadLength_l0 k m := by
 intro m
 induction m with
 | zero => funext text x0_0 x0_1 x0_2; rw [spec_ReadLength_z0]; rfl
 | succ m ih => funext text x0_0 x0_1 x0_2; rw [spec_ReadLength_n0, ih]; rfl
theorem spec_ReadLength_e (k : Nat) (text : ByteArray) : callF env (spec_ReadLength_O k) spec_ReadLength_v Tryd.f9 (k + 1) (spec_ReadLength_A text) (fun r => spec_ReadLength_d (r.fin 0 [])) = spec_ReadLength k text := by
 have e : ∀ H : St → Option (Int × Bool), callE env (spec_ReadLength_O k) spec_ReadLength_v Tryd.f9 (k + 1) (spec_ReadLength_A text) [1, 1, 1, 1, 0, 1, 0] (fun r => spec_ReadLength_d (r.fin 0 [])) H = spec_ReadLength_m k (fun text x0_0 x0_1 x0_2 => H ⟨tmF [0, 2, 3, 4, 5, 6] [(.a (.sc (.v (.string text)))), (.a (.sc (.v (.int .i64 0)))), (.a (.sc (.v (.bool false)))), (.a (.sc (.v (.int .i64 x0_0)))), (.a (.sc (.v (.int .i64 x0_1)))), (.a (.sc (.v (.int .i64 x0_2))))], blF []⟩) text := fun H => by kernel_rfl
 exact (callE_eq env (spec_ReadLength_O k) spec_ReadLength_v Tryd.f9 k (spec_ReadLength_A text) [1, 1, 1, 1, 0, 1, 0] 0 (fun r => spec_ReadLength_d (r.fin 0 [])) rfl (by kernel_rfl)).trans ((e (hdAt env (spec_ReadLength_O k) spec_ReadLength_v Tryd.f9 0 (fun r => spec_ReadLength_d (r.fin 0 [])) [1, 1, 1, 1, 0, 1, 0] k k)).trans (by
  show spec_ReadLength_m k (spec_ReadLength_h0 k k) text = _
  rw [spec_ReadLength_q0]; rfl))
noncomputable def spec_ReadLength_x (k : Nat) : Ent1 := fun A R Q => match A with
 | ⟨[(.sc (.v (.string a1)))], []⟩ => (spec_ReadLength k a1).bind fun y => Q ⟨(.tp [(.sc (.v (.int .i64 y.1))), (.sc (.v (.bool y.2)))]), []⟩
 | _ => none
theorem spec_ReadLength_ok (k : Nat) : OkE Tryd.prog 9 (spec_ReadLength_x k) := by
 intro A R Q x h
 unfold spec_ReadLength_x at h
 split at h
 · obtain ⟨y, hy, hK⟩ := Option.bind_eq_some_iff.1 h
   obtain ⟨r, hr, hd⟩ := callF_ok envOk (spec_ReadLength_Ok k) follows Tryd.func9 (by kernel_rfl) ((spec_ReadLength_e k _).trans hy)
   exact ⟨_, spec_ReadLength_i hd ▸ hr.fin [], hK⟩
 · cases h
/-! ### impl.LengthText: function 14 -/
noncomputable def impl_LengthText (k : Nat)  (minutes : Int) : Option (ByteArray) :=
 (impl_in k minutes 0 100000).bind fun y1 =>
 cond (!y1)
  (some (ByteArray.mk #[]))
  (if (60 : Int) ≠ 0 then
   if (60 : Int) ≠ 0 then
    cond (decide (((wr (Int.tdiv minutes 60)) : Int) = 0))
     ((impl_FormatInt k (Int.tmod minutes 60)).bind fun y2 =>
      if (y2).size + ((ByteArray.mk #[109])).size ≤ 9223372036854775807 then
       some (y2 ++ (ByteArray.mk #[109])) else none)
     (cond (decide (((Int.tmod minutes 60) : Int) = 0))
      ((impl_FormatInt k (wr (Int.tdiv minutes 60))).bind fun y3 =>
       if (y3).size + ((ByteArray.mk #[104])).size ≤ 9223372036854775807 then
        some (y3 ++ (ByteArray.mk #[104])) else none)
      ((impl_FormatInt k (wr (Int.tdiv minutes 60))).bind fun y4 =>
       if (y4).size + ((ByteArray.mk #[104, 32])).size ≤ 9223372036854775807 then
        (impl_FormatInt k (Int.tmod minutes 60)).bind fun y5 =>
        if ((y4 ++ (ByteArray.mk #[104, 32]))).size + (y5).size ≤ 9223372036854775807 then
        if (((y4 ++ (ByteArray.mk #[104, 32])) ++ y5)).size + ((ByteArray.mk #[109])).size ≤ 9223372036854775807 then
        some (((y4 ++ (ByteArray.mk #[104, 32])) ++ y5) ++ (ByteArray.mk #[109])) else none else none else none)) else none else none)
noncomputable def impl_LengthText_v : Nat → List Nat := fun t => match t with | _ => []
noncomputable def impl_LengthText_O (k : Nat) : Oracle := ofL [(30, impl_in_x k), (31, impl_FormatInt_x k)]
theorem impl_LengthText_Ok (k : Nat) : OkO (Ct Tryd.prog) (impl_LengthText_O k) := okO_cons (impl_in_ok k) (okO_cons (impl_FormatInt_ok k) (okO_nil))
noncomputable def impl_LengthText_A (minutes : Int) : Pk := ⟨[(.sc (.v (.int .i64 minutes)))], []⟩
noncomputable def impl_LengthText_d : Rs → Option (ByteArray)
 | ⟨(.a (.sc (.v (.string r1)))), []⟩ => some r1
 | _ => none
theorem impl_LengthText_i {r : Rs} {y : ByteArray} (h : impl_LengthText_d r = some y) : r = ⟨(.a (.sc (.v (.string y)))), []⟩ := by
 unfold impl_LengthText_d at h; split at h
 · cases h; rfl
 · cases h
theorem impl_LengthText_e (k : Nat) (minutes : Int) : callF env (impl_LengthText_O k) impl_LengthText_v Tryd.f14 (k + 1) (impl_LengthText_A minutes) (fun r => impl_LengthText_d (r.fin 0 [])) = impl_LengthText k minutes := by kernel_rfl
noncomputable def impl_LengthText_x (k : Nat) : Ent1 := fun A R Q => match A with
 | ⟨[(.sc (.v (.int .i64 a1)))], []⟩ => (impl_LengthText k a1).bind fun y => Q ⟨(.a (.sc (.v (.string y)))), []⟩
 | _ => none
theorem impl_LengthText_ok (k : Nat) : OkE Tryd.prog 14 (impl_LengthText_x k) := by
 intro A R Q x h
 unfold impl_LengthText_x at h
 split at h
 · obtain ⟨y, hy, hK⟩ := Option.bind_eq_some_iff.1 h
   obtain ⟨r, hr, hd⟩ := callF_ok envOk (impl_LengthText_Ok k) follows Tryd.func14 (by kernel_rfl) ((impl_LengthText_e k _).trans hy)
   exact ⟨_, impl_LengthText_i hd ▸ hr.fin [], hK⟩
 · cases h
/-! ### impl.ReadLength: function 10 -/
noncomputable def impl_ReadLength_s0 (k : Nat)  (text : ByteArray) (y1 : (List ByteArray)) (J : Int → Int → Option (Int × Bool)) (x0_0 : Int) (x0_1 : Int) : Option (Int × Bool) :=
 cond (decide ((x0_1 : Int) < ((y1).length : Int)))
 (if 0 ≤ (x0_1 : Int) ∧ (x0_1 : Int) < ((y1).length : Int) then
  (strings_CutSuffix k (y1.getD (Int.toNat x0_1) (ByteArray.mk #[])) (ByteArray.mk #[104])).bind fun y7 =>
   cond y7.2
    ((impl_ParseUint k y7.1).bind fun y8 =>
     J (wr (x0_0 + (wr ((60 : Int) * y8.1)))) (wr (x0_1 + 1)))
    ((strings_TrimSuffix k (y1.getD (Int.toNat x0_1) (ByteArray.mk #[])) (ByteArray.mk #[109])).bind fun y9 =>
     (impl_ParseUint k y9).bind fun y10 =>
      J (wr (x0_0 + y10.1)) (wr (x0_1 + 1))) else none)
 (cond (!(decide ((text : ByteArray) = (ByteArray.mk #[]))))
  ((impl_LengthText k x0_0).bind fun y11 =>
   cond (decide ((y11 : ByteArray) = text))
    (some (x0_0, true))
    (some (0, false)))
  (some (0, false)))
noncomputable def impl_ReadLength_l0 (k : Nat) : Nat → ByteArray → (List ByteArray) → Int → Int → Option (Int × Bool)
 | 0, text, y1, x0_0, x0_1 => impl_ReadLength_s0 k text y1 (fun _ _ => none) x0_0 x0_1
 | m + 1, text, y1, x0_0, x0_1 => impl_ReadLength_s0 k text y1 (impl_ReadLength_l0 k m text y1) x0_0 x0_1
noncomputable def impl_ReadLength_m (k : Nat) (J0 : ByteArray → (List ByteArray) → Int → Int → Option (Int × Bool)) (text : ByteArray) : Option (Int × Bool) :=
 (strings_Split k text (ByteArray.mk #[32])).bind fun y1 =>
 J0 text y1 0 0
noncomputable def impl_ReadLength (k : Nat) (text : ByteArray) : Option (Int × Bool) := impl_ReadLength_m k (impl_ReadLength_l0 k k) text
noncomputable def impl_ReadLength_v : Nat → List Nat := fun t => match t with | 3 => [0, 2, 3, 4, 14, 15, 16] | _ => []
noncomputable def impl_ReadLength_O (k : Nat) : Oracle := ofL [(14, impl_LengthText_x k), (24, impl_ParseUint_x k), (27, strings_Split_x k), (28, strings_CutSuffix_x k), (29, strings_TrimSuffix_x k)]
theorem impl_ReadLength_Ok (k : Nat) : OkO (Ct Tryd.prog) (impl_ReadLength_O k) := okO_cons (impl_LengthText_ok k) (okO_cons (impl_ParseUint_ok k) (okO_cons (strings_Split_ok k) (okO_cons (strings_CutSuffix_ok k) (okO_cons (strings_TrimSuffix_ok k) (okO_nil)))))
noncomputable def impl_ReadLength_A (text : ByteArray) : Pk := ⟨[(.sc (.v (.string text)))], []⟩
noncomputable def impl_ReadLength_d : Rs → Option (Int × Bool)
 | ⟨(.tp [(.sc (.v (.int .i64 r1))), (.sc (.v (.bool r2)))]), []⟩ => some (r1, r2)
 | _ => none
theorem impl_ReadLength_i {r : Rs} {y : Int × Bool} (h : impl_ReadLength_d r = some y) : r = ⟨(.tp [(.sc (.v (.int .i64 y.1))), (.sc (.v (.bool y.2)))]), []⟩ := by
 unfold impl_ReadLength_d at h; split at h
 · cases h; rfl
 · cases h
noncomputable def impl_ReadLength_h0 (k m : Nat) (text : ByteArray) (y1 : (List ByteArray)) (x0_0 : Int) (x0_1 : Int) : Option (Int × Bool) := hdAt env (impl_ReadLength_O k) impl_ReadLength_v Tryd.f10 0 (fun r => impl_ReadLength_d (r.fin 0 [])) [1, 1, 0, 1, 0] k m ⟨tmF [0, 2, 3, 4, 14, 15, 16] [(.a (.sc (.v (.string text)))), (.a (.sc (.v (.int .i64 0)))), (.a (.sc (.v (.bool false)))), (.a (.sc (.v (.int .i64 x0_0)))), (.a (.sc (.sl 0))), (.a (.sc (.v (.int .i64 ((y1).length : Int))))), (.a (.sc (.v (.int .i64 x0_1))))], blF [(.row true K.kstr y1)]⟩
theorem impl_ReadLength_z0 (k : Nat) (text : ByteArray) (y1 : (List ByteArray)) (x0_0 : Int) (x0_1 : Int) : impl_ReadLength_h0 k 0 text y1 x0_0 x0_1 = impl_ReadLength_s0 k text y1 (fun _ _ => none) x0_0 x0_1 := by kernel_rfl
theorem impl_ReadLength_g0 (k : Nat) (H : St → Option (Int × Bool)) (text : ByteArray) (y1 : (List ByteArray)) (x0_0 : Int) (x0_1 : Int) : rnd env (impl_ReadLength_O k) impl_ReadLength_v Tryd.f10 0 (fun r => impl_ReadLength_d (r.fin 0 [])) [1, 1, 0, 1, 0] k H ⟨tmF [0, 2, 3, 4, 14, 15, 16] [(.a (.sc (.v (.string text)))), (.a (.sc (.v (.int .i64 0)))), (.a (.sc (.v (.bool false)))), (.a (.sc (.v (.int .i64 x0_0)))), (.a (.sc (.sl 0))), (.a (.sc (.v (.int .i64 ((y1).length : Int))))), (.a (.sc (.v (.int .i64 x0_1))))], blF [(.row true K.kstr y1)]⟩ = impl_ReadLength_s0 k text y1 (fun x0_0 x0_1 => H ⟨tmF [0, 2, 3, 4, 14, 15, 16] [(.a (.sc (.v (.string text)))), (.a (.sc (.v (.int .i64 0)))), (.a (.sc (.v (.bool false)))), (.a (.sc (.v (.int .i64 x0_0)))), (.a (.sc (.sl 0))), (.a (.sc (.v (.int .i64 ((y1).length : Int))))), (.a (.sc (.v (.int .i64 x0_1))))], blF [(.row true K.kstr y1)]⟩) x0_0 x0_1 := by kernel_rfl
theorem impl_ReadLength_n0 (k m : Nat) (text : ByteArray) (y1 : (List ByteArray)) (x0_0 : Int) (x0_1 : Int) : impl_ReadLength_h0 k (m + 1) text y1 x0_0 x0_1 = impl_ReadLength_s0 k text y1 (impl_ReadLength_h0 k m text y1) x0_0 x0_1 := (hdAt_succ _ _ _ _ _ _ _ _ _ _).trans (impl_ReadLength_g0 k _ text y1 x0_0 x0_1)
theorem impl_ReadLength_q0 (k : Nat) : ∀ m, impl_ReadLength_h0 k m = impl_ReadLength_l0 k m := by
 intro m
 induction m with
 | zero => funext text y1 x0_0 x0_1; rw [impl_ReadLength_z0]; rfl
 | succ m ih => funext text y1 x0_0 x0_1; rw [impl_ReadLength_n0, ih]; rfl
theorem impl_ReadLength_e (k : Nat) (text : ByteArray) : callF env (impl_ReadLength_O k) impl_ReadLength_v Tryd.f10 (k + 1) (impl_ReadLength_A text) (fun r => impl_ReadLength_d (r.fin 0 [])) = impl_ReadLength k text := by
 have e : ∀ H : St → Option (Int × Bool), callE env (impl_ReadLength_O k) impl_ReadLength_v Tryd.f10 (k + 1) (impl_ReadLength_A text) [1, 1, 0, 1, 0] (fun r => impl_ReadLength_d (r.fin 0 [])) H = impl_ReadLength_m k (fun text y1 x0_0 x0_1 => H ⟨tmF [0, 2, 3, 4, 14, 15, 16] [(.a (.sc (.v (.string text)))), (.a (.sc (.v (.int .i64 0)))), (.a (.sc (.v (.bool false)))), (.a (.sc (.v (.int .i64 x0_0)))), (.a (.sc (.sl 0))), (.a (.sc (.v (.int .i64 ((y1).length : Int))))), (.a (.sc (.v (.int .i64 x0_1))))], blF [(.row true K.kstr y1)]⟩) text := fun H => by kernel_rfl
 exact (callE_eq env (impl_ReadLength_O k) impl_ReadLength_v Tryd.f10 k (impl_ReadLength_A text) [1, 1, 0, 1, 0] 0 (fun r => impl_ReadLength_d (r.fin 0 [])) rfl (by kernel_rfl)).trans ((e (hdAt env (impl_ReadLength_O k) impl_ReadLength_v Tryd.f10 0 (fun r => impl_ReadLength_d (r.fin 0 [])) [1, 1, 0, 1, 0] k k)).trans (by
  show impl_ReadLength_m k (impl_ReadLength_h0 k k) text = _
  rw [impl_ReadLength_q0]; rfl))
noncomputable def impl_ReadLength_x (k : Nat) : Ent1 := fun A R Q => match A with
 | ⟨[(.sc (.v (.string a1)))], []⟩ => (impl_ReadLength k a1).bind fun y => Q ⟨(.tp [(.sc (.v (.int .i64 y.1))), (.sc (.v (.bool y.2)))]), []⟩
 | _ => none
theorem impl_ReadLength_ok (k : Nat) : OkE Tryd.prog 10 (impl_ReadLength_x k) := by
 intro A R Q x h
 unfold impl_ReadLength_x at h
 split at h
 · obtain ⟨y, hy, hK⟩ := Option.bind_eq_some_iff.1 h
   obtain ⟨r, hr, hd⟩ := callF_ok envOk (impl_ReadLength_Ok k) follows Tryd.func10 (by kernel_rfl) ((impl_ReadLength_e k _).trans hy)
   exact ⟨_, impl_ReadLength_i hd ▸ hr.fin [], hK⟩
 · cases h
/-! ### laws.FnExactReadLength: function 4 -/
noncomputable def laws_FnExactReadLength (k : Nat)  (aText : ByteArray) : Option (Bool) :=
 cond (decide ((1048576 : Int) < ((aText).size : Int)))
 (some true)
 ((spec_ReadLength k aText).bind fun y1 =>
  (impl_ReadLength k aText).bind fun y2 =>
   cond (!(decide ((y2.1 : Int) = y1.1)))
    (some false)
    (cond (!(y2.2 == y1.2))
     (some false)
     (some true)))
noncomputable def laws_FnExactReadLength_v : Nat → List Nat := fun t => match t with | _ => []
noncomputable def laws_FnExactReadLength_O (k : Nat) : Oracle := ofL [(10, impl_ReadLength_x k), (9, spec_ReadLength_x k)]
theorem laws_FnExactReadLength_Ok (k : Nat) : OkO (Ct Tryd.prog) (laws_FnExactReadLength_O k) := okO_cons (impl_ReadLength_ok k) (okO_cons (spec_ReadLength_ok k) (okO_nil))
noncomputable def laws_FnExactReadLength_A (aText : ByteArray) : Pk := ⟨[(.sc (.v (.string aText)))], []⟩
noncomputable def laws_FnExactReadLength_d : Rs → Option (Bool)
 | ⟨(.a (.sc (.v (.bool r1)))), []⟩ => some r1
 | _ => none
theorem laws_FnExactReadLength_i {r : Rs} {y : Bool} (h : laws_FnExactReadLength_d r = some y) : r = ⟨(.a (.sc (.v (.bool y)))), []⟩ := by
 unfold laws_FnExactReadLength_d at h; split at h
 · cases h; rfl
 · cases h
theorem laws_FnExactReadLength_e (k : Nat) (aText : ByteArray) : callF env (laws_FnExactReadLength_O k) laws_FnExactReadLength_v Tryd.f4 (k + 1) (laws_FnExactReadLength_A aText) (fun r => laws_FnExactReadLength_d (r.fin 0 [])) = laws_FnExactReadLength k aText := by kernel_rfl
noncomputable def laws_FnExactReadLength_x (k : Nat) : Ent1 := fun A R Q => match A with
 | ⟨[(.sc (.v (.string a1)))], []⟩ => (laws_FnExactReadLength k a1).bind fun y => Q ⟨(.a (.sc (.v (.bool y)))), []⟩
 | _ => none
theorem laws_FnExactReadLength_ok (k : Nat) : OkE Tryd.prog 4 (laws_FnExactReadLength_x k) := by
 intro A R Q x h
 unfold laws_FnExactReadLength_x at h
 split at h
 · obtain ⟨y, hy, hK⟩ := Option.bind_eq_some_iff.1 h
   obtain ⟨r, hr, hd⟩ := callF_ok envOk (laws_FnExactReadLength_Ok k) follows Tryd.func4 (by kernel_rfl) ((laws_FnExactReadLength_e k _).trans hy)
   exact ⟨_, laws_FnExactReadLength_i hd ▸ hr.fin [], hK⟩
 · cases h
/-! ### laws.big: function 11 -/
noncomputable def laws_big (k : Nat)  (code : (List Int)) : Option (Bool) :=
 some (decide ((1048576 : Int) < ((code).length : Int)))
noncomputable def laws_big_v : Nat → List Nat := fun t => match t with | _ => []
noncomputable def laws_big_O (k : Nat) : Oracle := ofL []
theorem laws_big_Ok (k : Nat) : OkO (Ct Tryd.prog) (laws_big_O k) := okO_nil
noncomputable def laws_big_A (code : (List Int)) : Pk := ⟨[(.sc (.sl 0))], [(.row false K.ku8 code)]⟩
noncomputable def laws_big_d : Rs → Option (Bool)
 | ⟨(.a (.sc (.v (.bool r1)))), [.dead]⟩ => some r1
 | _ => none
theorem laws_big_i {r : Rs} {y : Bool} (h : laws_big_d r = some y) : r = ⟨(.a (.sc (.v (.bool y)))), [.dead]⟩ := by
 unfold laws_big_d at h; split at h
 · cases h; rfl
 · cases h
theorem laws_big_e (k : Nat) (code : (List Int)) : callF env (laws_big_O k) laws_big_v Tryd.f11 (k + 1) (laws_big_A code) (fun r => laws_big_d (r.fin 1 [])) = laws_big k code := by kernel_rfl
noncomputable def laws_big_x (k : Nat) : Ent1 := fun A R Q => match A with
 | ⟨[(.sc (.sl 0))], [(.row false K.ku8 a1)]⟩ => (laws_big k a1).bind fun y => Q ⟨(.a (.sc (.v (.bool y)))), [.dead]⟩
 | _ => none
theorem laws_big_ok (k : Nat) : OkE Tryd.prog 11 (laws_big_x k) := by
 intro A R Q x h
 unfold laws_big_x at h
 split at h
 · obtain ⟨y, hy, hK⟩ := Option.bind_eq_some_iff.1 h
   obtain ⟨r, hr, hd⟩ := callF_ok envOk (laws_big_Ok k) follows Tryd.func11 (by kernel_rfl) ((laws_big_e k _).trans hy)
   exact ⟨_, laws_big_i hd ▸ hr.fin [], hK⟩
 · cases h
end Go.Proofs.YtldpjfacoaplhaaDoorX
