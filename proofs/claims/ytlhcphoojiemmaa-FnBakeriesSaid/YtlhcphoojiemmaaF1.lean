/- What functions of the program compute, as functions of numbers and lists, and that they do. (The file is written by wip/x/vxp.py of this repository.) -/
import Derived.Test.YtlhcphoojiemmaaF0
namespace Go.Proofs.YtlhcphoojiemmaaX
open Go Go.Proofs
set_option linter.unusedVariables false
set_option maxRecDepth 100000
/-! ### slices.IndexFunc[[]int,int]: function 111 -/
noncomputable def slices_IndexFunc_int_int_108_s0 (k : Nat)  (s : (List Int)) (f_0 : Int) (f_1 : Int) (J : Int → Option (Int)) (x0_0 : Int) : Option (Int) :=
 cond (decide ((x0_0 : Int) < ((s).length : Int)))
 (if 0 ≤ (x0_0 : Int) ∧ (x0_0 : Int) < ((s).length : Int) then
  (impl_allIn_1 k (s.getD (Int.toNat x0_0) 0) f_0 f_1).bind fun y2 =>
   cond y2
    (some x0_0)
    (J (wr (x0_0 + 1))) else none)
 (some (-1))
noncomputable def slices_IndexFunc_int_int_108_l0 (k : Nat) : Nat → (List Int) → Int → Int → Int → Option (Int)
 | 0, s, f_0, f_1, x0_0 => slices_IndexFunc_int_int_108_s0 k s f_0 f_1 (fun _ => none) x0_0
 | m + 1, s, f_0, f_1, x0_0 => slices_IndexFunc_int_int_108_s0 k s f_0 f_1 (slices_IndexFunc_int_int_108_l0 k m s f_0 f_1) x0_0
noncomputable def slices_IndexFunc_int_int_108_m (k : Nat) (J0 : (List Int) → Int → Int → Int → Option (Int)) (s : (List Int)) (f_0 : Int) (f_1 : Int) : Option (Int) :=
 J0 s f_0 f_1 0
noncomputable def slices_IndexFunc_int_int_108 (k : Nat) (s : (List Int)) (f_0 : Int) (f_1 : Int) : Option (Int) := slices_IndexFunc_int_int_108_m k (slices_IndexFunc_int_int_108_l0 k k) s f_0 f_1
noncomputable def slices_IndexFunc_int_int_108_v : Nat → List Nat := fun t => match t with | 2 => [0, 1, 4, 7, 8] | _ => []
noncomputable def slices_IndexFunc_int_int_108_O (k : Nat) : Oracle := ofL [(108, impl_allIn_1_x k)]
theorem slices_IndexFunc_int_int_108_Ok (k : Nat) : OkO (Ct Try.prog) (slices_IndexFunc_int_int_108_O k) := okO_cons (impl_allIn_1_ok k) (okO_nil)
noncomputable def slices_IndexFunc_int_int_108_A (s : (List Int)) (f_0 : Int) (f_1 : Int) : Pk := ⟨[(.sc (.sl 0)), (.sc (.fn 108 [1, 2]))], [(.row false K.ki64 s), (.box false [(.v (.int .i64 f_0))]), (.box false [(.v (.int .i64 f_1))])]⟩
noncomputable def slices_IndexFunc_int_int_108_d : Rs → Option (Int)
 | ⟨(.a (.sc (.v (.int .i64 r1)))), [.dead, .dead, .dead]⟩ => some r1
 | _ => none
theorem slices_IndexFunc_int_int_108_i {r : Rs} {y : Int} (h : slices_IndexFunc_int_int_108_d r = some y) : r = ⟨(.a (.sc (.v (.int .i64 y)))), [.dead, .dead, .dead]⟩ := by
 unfold slices_IndexFunc_int_int_108_d at h; split at h
 · cases h; rfl
 · cases h
noncomputable def slices_IndexFunc_int_int_108_h0 (k m : Nat) (s : (List Int)) (f_0 : Int) (f_1 : Int) (x0_0 : Int) : Option (Int) := hdAt env (slices_IndexFunc_int_int_108_O k) slices_IndexFunc_int_int_108_v Try.f111 3 (fun r => slices_IndexFunc_int_int_108_d (r.fin 3 [])) [1, 0, 1, 0] k m ⟨tmF [0, 1, 4, 7, 8] [(.a (.sc (.sl 0))), (.a (.sc (.fn 108 [1, 2]))), (.a (.sc (.v (.int .i64 0)))), (.a (.sc (.v (.int .i64 ((s).length : Int))))), (.a (.sc (.v (.int .i64 x0_0))))], blF [(.row false K.ki64 s), (.box false [(.v (.int .i64 f_0))]), (.box false [(.v (.int .i64 f_1))])]⟩
theorem slices_IndexFunc_int_int_108_z0 (k : Nat) (s : (List Int)) (f_0 : Int) (f_1 : Int) (x0_0 : Int) : slices_IndexFunc_int_int_108_h0 k 0 s f_0 f_1 x0_0 = slices_IndexFunc_int_int_108_s0 k s f_0 f_1 (fun _ => none) x0_0 := by kernel_rfl
theorem slices_IndexFunc_int_int_108_g0 (k : Nat) (H : St → Option (Int)) (s : (List Int)) (f_0 : Int) (f_1 : Int) (x0_0 : Int) : rnd env (slices_IndexFunc_int_int_108_O k) slices_IndexFunc_int_int_108_v Try.f111 3 (fun r => slices_IndexFunc_int_int_108_d (r.fin 3 [])) [1, 0, 1, 0] k H ⟨tmF [0, 1, 4, 7, 8] [(.a (.sc (.sl 0))), (.a (.sc (.fn 108 [1, 2]))), (.a (.sc (.v (.int .i64 0)))), (.a (.sc (.v (.int .i64 ((s).length : Int))))), (.a (.sc (.v (.int .i64 x0_0))))], blF [(.row false K.ki64 s), (.box false [(.v (.int .i64 f_0))]), (.box false [(.v (.int .i64 f_1))])]⟩ = slices_IndexFunc_int_int_108_s0 k s f_0 f_1 (fun x0_0 => H ⟨tmF [0, 1, 4, 7, 8] [(.a (.sc (.sl 0))), (.a (.sc (.fn 108 [1, 2]))), (.a (.sc (.v (.int .i64 0)))), (.a (.sc (.v (.int .i64 ((s).length : Int))))), (.a (.sc (.v (.int .i64 x0_0))))], blF [(.row false K.ki64 s), (.box false [(.v (.int .i64 f_0))]), (.box false [(.v (.int .i64 f_1))])]⟩) x0_0 := by kernel_rfl
theorem slices_IndexFunc_int_int_108_n0 (k m : Nat) (s : (List Int)) (f_0 : Int) (f_1 : Int) (x0_0 : Int) : slices_IndexFunc_int_int_108_h0 k (m + 1) s f_0 f_1 x0_0 = slices_IndexFunc_int_int_108_s0 k s f_0 f_1 (slices_IndexFunc_int_int_108_h0 k m s f_0 f_1) x0_0 := (hdAt_succ _ _ _ _ _ _ _ _ _ _).trans (slices_IndexFunc_int_int_108_g0 k _ s f_0 f_1 x0_0)
theorem slices_IndexFunc_int_int_108_q0 (k : Nat) : ∀ m, slices_IndexFunc_int_int_108_h0 k m = slices_IndexFunc_int_int_108_l0 k m := by
 intro m
 induction m with
 | zero => funext s f_0 f_1 x0_0; rw [slices_IndexFunc_int_int_108_z0]; rfl
 | succ m ih => funext s f_0 f_1 x0_0; rw [slices_IndexFunc_int_int_108_n0, ih]; rfl
theorem slices_IndexFunc_int_int_108_e (k : Nat) (s : (List Int)) (f_0 : Int) (f_1 : Int) : callF env (slices_IndexFunc_int_int_108_O k) slices_IndexFunc_int_int_108_v Try.f111 (k + 1) (slices_IndexFunc_int_int_108_A s f_0 f_1) (fun r => slices_IndexFunc_int_int_108_d (r.fin 3 [])) = slices_IndexFunc_int_int_108 k s f_0 f_1 := by
 have e : callF env (slices_IndexFunc_int_int_108_O k) slices_IndexFunc_int_int_108_v Try.f111 (k + 1) (slices_IndexFunc_int_int_108_A s f_0 f_1) (fun r => slices_IndexFunc_int_int_108_d (r.fin 3 [])) = slices_IndexFunc_int_int_108_m k (slices_IndexFunc_int_int_108_h0 k k) s f_0 f_1 := by kernel_rfl
 rw [e, slices_IndexFunc_int_int_108_q0]; rfl
noncomputable def slices_IndexFunc_int_int_108_x (k : Nat) : Ent1 := fun A R Q => match A with
 | ⟨[(.sc (.sl 0)), (.sc (.fn 108 [1, 2]))], [(.row false K.ki64 a1), (.box false [(.v (.int .i64 a2))]), (.box false [(.v (.int .i64 a3))])]⟩ => (slices_IndexFunc_int_int_108 k a1 a2 a3).bind fun y => Q ⟨(.a (.sc (.v (.int .i64 y)))), [.dead, .dead, .dead]⟩
 | _ => none
theorem slices_IndexFunc_int_int_108_ok (k : Nat) : OkE Try.prog 111 (slices_IndexFunc_int_int_108_x k) := by
 intro A R Q x h
 unfold slices_IndexFunc_int_int_108_x at h
 split at h
 · obtain ⟨y, hy, hK⟩ := Option.bind_eq_some_iff.1 h
   obtain ⟨r, hr, hd⟩ := callF_ok envOk (slices_IndexFunc_int_int_108_Ok k) follows Try.func111 (by kernel_rfl) ((slices_IndexFunc_int_int_108_e k _ _ _).trans hy)
   exact ⟨_, slices_IndexFunc_int_int_108_i hd ▸ hr.fin [], hK⟩
 · cases h
/-! ### slices.ContainsFunc[[]int,int]: function 107 -/
noncomputable def slices_ContainsFunc_int_int_108 (k : Nat)  (s : (List Int)) (f_0 : Int) (f_1 : Int) : Option (Bool) :=
 (slices_IndexFunc_int_int_108 k s f_0 f_1).bind fun y1 =>
 some (decide ((0 : Int) ≤ y1))
noncomputable def slices_ContainsFunc_int_int_108_v : Nat → List Nat := fun t => match t with | _ => []
noncomputable def slices_ContainsFunc_int_int_108_O (k : Nat) : Oracle := ofL [(111, slices_IndexFunc_int_int_108_x k)]
theorem slices_ContainsFunc_int_int_108_Ok (k : Nat) : OkO (Ct Try.prog) (slices_ContainsFunc_int_int_108_O k) := okO_cons (slices_IndexFunc_int_int_108_ok k) (okO_nil)
noncomputable def slices_ContainsFunc_int_int_108_A (s : (List Int)) (f_0 : Int) (f_1 : Int) : Pk := ⟨[(.sc (.sl 0)), (.sc (.fn 108 [1, 2]))], [(.row false K.ki64 s), (.box false [(.v (.int .i64 f_0))]), (.box false [(.v (.int .i64 f_1))])]⟩
noncomputable def slices_ContainsFunc_int_int_108_d : Rs → Option (Bool)
 | ⟨(.a (.sc (.v (.bool r1)))), [.dead, .dead, .dead]⟩ => some r1
 | _ => none
theorem slices_ContainsFunc_int_int_108_i {r : Rs} {y : Bool} (h : slices_ContainsFunc_int_int_108_d r = some y) : r = ⟨(.a (.sc (.v (.bool y)))), [.dead, .dead, .dead]⟩ := by
 unfold slices_ContainsFunc_int_int_108_d at h; split at h
 · cases h; rfl
 · cases h
theorem slices_ContainsFunc_int_int_108_e (k : Nat) (s : (List Int)) (f_0 : Int) (f_1 : Int) : callF env (slices_ContainsFunc_int_int_108_O k) slices_ContainsFunc_int_int_108_v Try.f107 (k + 1) (slices_ContainsFunc_int_int_108_A s f_0 f_1) (fun r => slices_ContainsFunc_int_int_108_d (r.fin 3 [])) = slices_ContainsFunc_int_int_108 k s f_0 f_1 := by kernel_rfl
noncomputable def slices_ContainsFunc_int_int_108_x (k : Nat) : Ent1 := fun A R Q => match A with
 | ⟨[(.sc (.sl 0)), (.sc (.fn 108 [1, 2]))], [(.row false K.ki64 a1), (.box false [(.v (.int .i64 a2))]), (.box false [(.v (.int .i64 a3))])]⟩ => (slices_ContainsFunc_int_int_108 k a1 a2 a3).bind fun y => Q ⟨(.a (.sc (.v (.bool y)))), [.dead, .dead, .dead]⟩
 | _ => none
theorem slices_ContainsFunc_int_int_108_ok (k : Nat) : OkE Try.prog 107 (slices_ContainsFunc_int_int_108_x k) := by
 intro A R Q x h
 unfold slices_ContainsFunc_int_int_108_x at h
 split at h
 · obtain ⟨y, hy, hK⟩ := Option.bind_eq_some_iff.1 h
   obtain ⟨r, hr, hd⟩ := callF_ok envOk (slices_ContainsFunc_int_int_108_Ok k) follows Try.func107 (by kernel_rfl) ((slices_ContainsFunc_int_int_108_e k _ _ _).trans hy)
   exact ⟨_, slices_ContainsFunc_int_int_108_i hd ▸ hr.fin [], hK⟩
 · cases h
/-! ### impl.allIn: function 92 -/
noncomputable def impl_allIn (k : Nat)  (list : (List Int)) (low : Int) (high : Int) : Option (Bool) :=
 (slices_ContainsFunc_int_int_108 k list low high).bind fun y1 =>
 some (!y1)
noncomputable def impl_allIn_v : Nat → List Nat := fun t => match t with | _ => []
noncomputable def impl_allIn_O (k : Nat) : Oracle := ofL [(107, slices_ContainsFunc_int_int_108_x k)]
theorem impl_allIn_Ok (k : Nat) : OkO (Ct Try.prog) (impl_allIn_O k) := okO_cons (slices_ContainsFunc_int_int_108_ok k) (okO_nil)
noncomputable def impl_allIn_A (list : (List Int)) (low : Int) (high : Int) : Pk := ⟨[(.sc (.sl 0)), (.sc (.v (.int .i64 low))), (.sc (.v (.int .i64 high)))], [(.row false K.ki64 list)]⟩
noncomputable def impl_allIn_d : Rs → Option (Bool)
 | ⟨(.a (.sc (.v (.bool r1)))), [.dead]⟩ => some r1
 | _ => none
theorem impl_allIn_i {r : Rs} {y : Bool} (h : impl_allIn_d r = some y) : r = ⟨(.a (.sc (.v (.bool y)))), [.dead]⟩ := by
 unfold impl_allIn_d at h; split at h
 · cases h; rfl
 · cases h
theorem impl_allIn_e (k : Nat) (list : (List Int)) (low : Int) (high : Int) : callF env (impl_allIn_O k) impl_allIn_v Try.f92 (k + 1) (impl_allIn_A list low high) (fun r => impl_allIn_d (r.fin 1 [])) = impl_allIn k list low high := by kernel_rfl
noncomputable def impl_allIn_x (k : Nat) : Ent1 := fun A R Q => match A with
 | ⟨[(.sc (.sl 0)), (.sc (.v (.int .i64 a2))), (.sc (.v (.int .i64 a3)))], [(.row false K.ki64 a1)]⟩ => (impl_allIn k a1 a2 a3).bind fun y => Q ⟨(.a (.sc (.v (.bool y)))), [.dead]⟩
 | _ => none
theorem impl_allIn_ok (k : Nat) : OkE Try.prog 92 (impl_allIn_x k) := by
 intro A R Q x h
 unfold impl_allIn_x at h
 split at h
 · obtain ⟨y, hy, hK⟩ := Option.bind_eq_some_iff.1 h
   obtain ⟨r, hr, hd⟩ := callF_ok envOk (impl_allIn_Ok k) follows Try.func92 (by kernel_rfl) ((impl_allIn_e k _ _ _).trans hy)
   exact ⟨_, impl_allIn_i hd ▸ hr.fin [], hK⟩
 · cases h
/-! ### impl.RackOk: function 76 -/
noncomputable def impl_RackOk (k : Nat)  (r : Rack) : Option (Bool) :=
 (impl_allIn k ([r.Fresh, r.Day, r.Old]) 0 10000).bind fun y1 =>
 some y1
noncomputable def impl_RackOk_v : Nat → List Nat := fun t => match t with | _ => []
noncomputable def impl_RackOk_O (k : Nat) : Oracle := ofL [(92, impl_allIn_x k)]
theorem impl_RackOk_Ok (k : Nat) : OkO (Ct Try.prog) (impl_RackOk_O k) := okO_cons (impl_allIn_ok k) (okO_nil)
noncomputable def impl_RackOk_A (r : Rack) : Pk := ⟨[(.ag [(.v (.int .i64 r.Fresh)), (.v (.int .i64 r.Day)), (.v (.int .i64 r.Old))])], []⟩
noncomputable def impl_RackOk_d : Rs → Option (Bool)
 | ⟨(.a (.sc (.v (.bool r1)))), []⟩ => some r1
 | _ => none
theorem impl_RackOk_i {r : Rs} {y : Bool} (h : impl_RackOk_d r = some y) : r = ⟨(.a (.sc (.v (.bool y)))), []⟩ := by
 unfold impl_RackOk_d at h; split at h
 · cases h; rfl
 · cases h
theorem impl_RackOk_e (k : Nat) (r : Rack) : callF env (impl_RackOk_O k) impl_RackOk_v Try.f76 (k + 1) (impl_RackOk_A r) (fun r => impl_RackOk_d (r.fin 0 [])) = impl_RackOk k r := by kernel_rfl
noncomputable def impl_RackOk_x (k : Nat) : Ent1 := fun A R Q => match A with
 | ⟨[(.ag [(.v (.int .i64 a1)), (.v (.int .i64 a2)), (.v (.int .i64 a3))])], []⟩ => (impl_RackOk k (⟨a1, a2, a3⟩ : Rack)).bind fun y => Q ⟨(.a (.sc (.v (.bool y)))), []⟩
 | _ => none
theorem impl_RackOk_ok (k : Nat) : OkE Try.prog 76 (impl_RackOk_x k) := by
 intro A R Q x h
 unfold impl_RackOk_x at h
 split at h
 · obtain ⟨y, hy, hK⟩ := Option.bind_eq_some_iff.1 h
   obtain ⟨r, hr, hd⟩ := callF_ok envOk (impl_RackOk_Ok k) follows Try.func76 (by kernel_rfl) ((impl_RackOk_e k _).trans hy)
   exact ⟨_, impl_RackOk_i hd ▸ hr.fin [], hK⟩
 · cases h
/-! ### impl.taken: function 104 -/
noncomputable def impl_taken (k : Nat)  (first : Int) (second : Int) (n : Int) : Option (Int × Int × Int) :=
 some ((wr (first - (mn first n))), (wr (second - (mn second (wr (n - (mn first n)))))), (wr ((mn first n) + (mn second (wr (n - (mn first n)))))))
noncomputable def impl_taken_v : Nat → List Nat := fun t => match t with | _ => []
noncomputable def impl_taken_O (k : Nat) : Oracle := ofL []
theorem impl_taken_Ok (k : Nat) : OkO (Ct Try.prog) (impl_taken_O k) := okO_nil
noncomputable def impl_taken_A (first : Int) (second : Int) (n : Int) : Pk := ⟨[(.sc (.v (.int .i64 first))), (.sc (.v (.int .i64 second))), (.sc (.v (.int .i64 n)))], []⟩
noncomputable def impl_taken_d : Rs → Option (Int × Int × Int)
 | ⟨(.tp [(.sc (.v (.int .i64 r1))), (.sc (.v (.int .i64 r2))), (.sc (.v (.int .i64 r3)))]), []⟩ => some (r1, r2, r3)
 | _ => none
theorem impl_taken_i {r : Rs} {y : Int × Int × Int} (h : impl_taken_d r = some y) : r = ⟨(.tp [(.sc (.v (.int .i64 y.1))), (.sc (.v (.int .i64 y.2.1))), (.sc (.v (.int .i64 y.2.2)))]), []⟩ := by
 unfold impl_taken_d at h; split at h
 · cases h; rfl
 · cases h
theorem impl_taken_e (k : Nat) (first : Int) (second : Int) (n : Int) : callF env (impl_taken_O k) impl_taken_v Try.f104 (k + 1) (impl_taken_A first second n) (fun r => impl_taken_d (r.fin 0 [])) = impl_taken k first second n := by kernel_rfl
noncomputable def impl_taken_x (k : Nat) : Ent1 := fun A R Q => match A with
 | ⟨[(.sc (.v (.int .i64 a1))), (.sc (.v (.int .i64 a2))), (.sc (.v (.int .i64 a3)))], []⟩ => (impl_taken k a1 a2 a3).bind fun y => Q ⟨(.tp [(.sc (.v (.int .i64 y.1))), (.sc (.v (.int .i64 y.2.1))), (.sc (.v (.int .i64 y.2.2)))]), []⟩
 | _ => none
theorem impl_taken_ok (k : Nat) : OkE Try.prog 104 (impl_taken_x k) := by
 intro A R Q x h
 unfold impl_taken_x at h
 split at h
 · obtain ⟨y, hy, hK⟩ := Option.bind_eq_some_iff.1 h
   obtain ⟨r, hr, hd⟩ := callF_ok envOk (impl_taken_Ok k) follows Try.func104 (by kernel_rfl) ((impl_taken_e k _ _ _).trans hy)
   exact ⟨_, impl_taken_i hd ▸ hr.fin [], hK⟩
 · cases h
/-! ### impl.SellFresh: function 77 -/
noncomputable def impl_SellFresh (k : Nat)  (r : Rack) (n : Int) : Option (Rack × Int) :=
 (impl_RackOk k r).bind fun y1 =>
 cond (!y1)
  (some (r, (-1)))
  ((impl_in k n 0 10000).bind fun y2 =>
   cond (!y2)
    (some (r, (-1)))
    ((impl_taken k r.Fresh r.Day n).bind fun y3 =>
     some ((⟨y3.1, y3.2.1, r.Old⟩ : Rack), y3.2.2)))
noncomputable def impl_SellFresh_v : Nat → List Nat := fun t => match t with | _ => []
noncomputable def impl_SellFresh_O (k : Nat) : Oracle := ofL [(104, impl_taken_x k), (53, impl_in_x k), (76, impl_RackOk_x k)]
theorem impl_SellFresh_Ok (k : Nat) : OkO (Ct Try.prog) (impl_SellFresh_O k) := okO_cons (impl_taken_ok k) (okO_cons (impl_in_ok k) (okO_cons (impl_RackOk_ok k) (okO_nil)))
noncomputable def impl_SellFresh_A (r : Rack) (n : Int) : Pk := ⟨[(.ag [(.v (.int .i64 r.Fresh)), (.v (.int .i64 r.Day)), (.v (.int .i64 r.Old))]), (.sc (.v (.int .i64 n)))], []⟩
noncomputable def impl_SellFresh_d : Rs → Option (Rack × Int)
 | ⟨(.tp [(.ag [(.v (.int .i64 r1)), (.v (.int .i64 r2)), (.v (.int .i64 r3))]), (.sc (.v (.int .i64 r4)))]), []⟩ => some ((⟨r1, r2, r3⟩ : Rack), r4)
 | _ => none
theorem impl_SellFresh_i {r : Rs} {y : Rack × Int} (h : impl_SellFresh_d r = some y) : r = ⟨(.tp [(.ag [(.v (.int .i64 y.1.Fresh)), (.v (.int .i64 y.1.Day)), (.v (.int .i64 y.1.Old))]), (.sc (.v (.int .i64 y.2)))]), []⟩ := by
 unfold impl_SellFresh_d at h; split at h
 · cases h; rfl
 · cases h
theorem impl_SellFresh_e (k : Nat) (r : Rack) (n : Int) : callF env (impl_SellFresh_O k) impl_SellFresh_v Try.f77 (k + 1) (impl_SellFresh_A r n) (fun r => impl_SellFresh_d (r.fin 0 [])) = impl_SellFresh k r n := by kernel_rfl
noncomputable def impl_SellFresh_x (k : Nat) : Ent1 := fun A R Q => match A with
 | ⟨[(.ag [(.v (.int .i64 a1)), (.v (.int .i64 a2)), (.v (.int .i64 a3))]), (.sc (.v (.int .i64 a4)))], []⟩ => (impl_SellFresh k (⟨a1, a2, a3⟩ : Rack) a4).bind fun y => Q ⟨(.tp [(.ag [(.v (.int .i64 y.1.Fresh)), (.v (.int .i64 y.1.Day)), (.v (.int .i64 y.1.Old))]), (.sc (.v (.int .i64 y.2)))]), []⟩
 | _ => none
theorem impl_SellFresh_ok (k : Nat) : OkE Try.prog 77 (impl_SellFresh_x k) := by
 intro A R Q x h
 unfold impl_SellFresh_x at h
 split at h
 · obtain ⟨y, hy, hK⟩ := Option.bind_eq_some_iff.1 h
   obtain ⟨r, hr, hd⟩ := callF_ok envOk (impl_SellFresh_Ok k) follows Try.func77 (by kernel_rfl) ((impl_SellFresh_e k _ _).trans hy)
   exact ⟨_, impl_SellFresh_i hd ▸ hr.fin [], hK⟩
 · cases h
/-! ### impl.SellCheap: function 78 -/
noncomputable def impl_SellCheap (k : Nat)  (r : Rack) (n : Int) : Option (Rack × Int) :=
 (impl_RackOk k r).bind fun y1 =>
 cond (!y1)
  (some (r, (-1)))
  ((impl_in k n 0 10000).bind fun y2 =>
   cond (!y2)
    (some (r, (-1)))
    ((impl_taken k r.Old r.Day n).bind fun y3 =>
     some ((⟨r.Fresh, y3.2.1, y3.1⟩ : Rack), y3.2.2)))
noncomputable def impl_SellCheap_v : Nat → List Nat := fun t => match t with | _ => []
noncomputable def impl_SellCheap_O (k : Nat) : Oracle := ofL [(104, impl_taken_x k), (53, impl_in_x k), (76, impl_RackOk_x k)]
theorem impl_SellCheap_Ok (k : Nat) : OkO (Ct Try.prog) (impl_SellCheap_O k) := okO_cons (impl_taken_ok k) (okO_cons (impl_in_ok k) (okO_cons (impl_RackOk_ok k) (okO_nil)))
noncomputable def impl_SellCheap_A (r : Rack) (n : Int) : Pk := ⟨[(.ag [(.v (.int .i64 r.Fresh)), (.v (.int .i64 r.Day)), (.v (.int .i64 r.Old))]), (.sc (.v (.int .i64 n)))], []⟩
noncomputable def impl_SellCheap_d : Rs → Option (Rack × Int)
 | ⟨(.tp [(.ag [(.v (.int .i64 r1)), (.v (.int .i64 r2)), (.v (.int .i64 r3))]), (.sc (.v (.int .i64 r4)))]), []⟩ => some ((⟨r1, r2, r3⟩ : Rack), r4)
 | _ => none
theorem impl_SellCheap_i {r : Rs} {y : Rack × Int} (h : impl_SellCheap_d r = some y) : r = ⟨(.tp [(.ag [(.v (.int .i64 y.1.Fresh)), (.v (.int .i64 y.1.Day)), (.v (.int .i64 y.1.Old))]), (.sc (.v (.int .i64 y.2)))]), []⟩ := by
 unfold impl_SellCheap_d at h; split at h
 · cases h; rfl
 · cases h
theorem impl_SellCheap_e (k : Nat) (r : Rack) (n : Int) : callF env (impl_SellCheap_O k) impl_SellCheap_v Try.f78 (k + 1) (impl_SellCheap_A r n) (fun r => impl_SellCheap_d (r.fin 0 [])) = impl_SellCheap k r n := by kernel_rfl
noncomputable def impl_SellCheap_x (k : Nat) : Ent1 := fun A R Q => match A with
 | ⟨[(.ag [(.v (.int .i64 a1)), (.v (.int .i64 a2)), (.v (.int .i64 a3))]), (.sc (.v (.int .i64 a4)))], []⟩ => (impl_SellCheap k (⟨a1, a2, a3⟩ : Rack) a4).bind fun y => Q ⟨(.tp [(.ag [(.v (.int .i64 y.1.Fresh)), (.v (.int .i64 y.1.Day)), (.v (.int .i64 y.1.Old))]), (.sc (.v (.int .i64 y.2)))]), []⟩
 | _ => none
theorem impl_SellCheap_ok (k : Nat) : OkE Try.prog 78 (impl_SellCheap_x k) := by
 intro A R Q x h
 unfold impl_SellCheap_x at h
 split at h
 · obtain ⟨y, hy, hK⟩ := Option.bind_eq_some_iff.1 h
   obtain ⟨r, hr, hd⟩ := callF_ok envOk (impl_SellCheap_Ok k) follows Try.func78 (by kernel_rfl) ((impl_SellCheap_e k _ _).trans hy)
   exact ⟨_, impl_SellCheap_i hd ▸ hr.fin [], hK⟩
 · cases h
/-! ### impl.NextMorning: function 79 -/
noncomputable def impl_NextMorning (k : Nat)  (r : Rack) (baked : Int) : Option (Rack × Int) :=
 (impl_RackOk k r).bind fun y1 =>
 cond (!y1)
  (some (r, (-1)))
  ((impl_in k baked 0 10000).bind fun y2 =>
   cond (!y2)
    (some (r, (-1)))
    (some ((⟨baked, r.Fresh, r.Day⟩ : Rack), r.Old)))
noncomputable def impl_NextMorning_v : Nat → List Nat := fun t => match t with | _ => []
noncomputable def impl_NextMorning_O (k : Nat) : Oracle := ofL [(53, impl_in_x k), (76, impl_RackOk_x k)]
theorem impl_NextMorning_Ok (k : Nat) : OkO (Ct Try.prog) (impl_NextMorning_O k) := okO_cons (impl_in_ok k) (okO_cons (impl_RackOk_ok k) (okO_nil))
noncomputable def impl_NextMorning_A (r : Rack) (baked : Int) : Pk := ⟨[(.ag [(.v (.int .i64 r.Fresh)), (.v (.int .i64 r.Day)), (.v (.int .i64 r.Old))]), (.sc (.v (.int .i64 baked)))], []⟩
noncomputable def impl_NextMorning_d : Rs → Option (Rack × Int)
 | ⟨(.tp [(.ag [(.v (.int .i64 r1)), (.v (.int .i64 r2)), (.v (.int .i64 r3))]), (.sc (.v (.int .i64 r4)))]), []⟩ => some ((⟨r1, r2, r3⟩ : Rack), r4)
 | _ => none
theorem impl_NextMorning_i {r : Rs} {y : Rack × Int} (h : impl_NextMorning_d r = some y) : r = ⟨(.tp [(.ag [(.v (.int .i64 y.1.Fresh)), (.v (.int .i64 y.1.Day)), (.v (.int .i64 y.1.Old))]), (.sc (.v (.int .i64 y.2)))]), []⟩ := by
 unfold impl_NextMorning_d at h; split at h
 · cases h; rfl
 · cases h
theorem impl_NextMorning_e (k : Nat) (r : Rack) (baked : Int) : callF env (impl_NextMorning_O k) impl_NextMorning_v Try.f79 (k + 1) (impl_NextMorning_A r baked) (fun r => impl_NextMorning_d (r.fin 0 [])) = impl_NextMorning k r baked := by kernel_rfl
noncomputable def impl_NextMorning_x (k : Nat) : Ent1 := fun A R Q => match A with
 | ⟨[(.ag [(.v (.int .i64 a1)), (.v (.int .i64 a2)), (.v (.int .i64 a3))]), (.sc (.v (.int .i64 a4)))], []⟩ => (impl_NextMorning k (⟨a1, a2, a3⟩ : Rack) a4).bind fun y => Q ⟨(.tp [(.ag [(.v (.int .i64 y.1.Fresh)), (.v (.int .i64 y.1.Day)), (.v (.int .i64 y.1.Old))]), (.sc (.v (.int .i64 y.2)))]), []⟩
 | _ => none
theorem impl_NextMorning_ok (k : Nat) : OkE Try.prog 79 (impl_NextMorning_x k) := by
 intro A R Q x h
 unfold impl_NextMorning_x at h
 split at h
 · obtain ⟨y, hy, hK⟩ := Option.bind_eq_some_iff.1 h
   obtain ⟨r, hr, hd⟩ := callF_ok envOk (impl_NextMorning_Ok k) follows Try.func79 (by kernel_rfl) ((impl_NextMorning_e k _ _).trans hy)
   exact ⟨_, impl_NextMorning_i hd ▸ hr.fin [], hK⟩
 · cases h
/-! ### impl.EventOn: function 31 -/
noncomputable def impl_EventOn (k : Nat)  (r : Rack) (e : Event) : Option (Rack × Int × Int × Int × Bool) :=
 (impl_RackOk k r).bind fun y1 =>
 cond (!y1)
  (some (r, 0, 0, 0, false))
  ((impl_in k e.Loaves 0 1000).bind fun y2 =>
   cond (!y2)
    (some (r, 0, 0, 0, false))
    (cond (decide ((e.Kind : Int) = 1))
     ((impl_RackOk k (⟨(wr (r.Fresh + e.Loaves)), r.Day, r.Old⟩ : Rack)).bind fun y3 =>
      cond (!y3)
       (some (r, 0, 0, 0, false))
       (some ((⟨(wr (r.Fresh + e.Loaves)), r.Day, r.Old⟩ : Rack), e.Loaves, 0, 0, true)))
     (cond (decide ((e.Kind : Int) = 2))
      ((impl_SellFresh k r e.Loaves).bind fun y4 =>
       cond (!(decide ((y4.2 : Int) = e.Loaves)))
        (some (r, 0, 0, 0, false))
        ((impl_RackOk k y4.1).bind fun y5 =>
        cond (!y5)
        (some (r, 0, 0, 0, false))
        (some (y4.1, 0, y4.2, 0, true))))
      (cond (decide ((e.Kind : Int) = 3))
       ((impl_SellCheap k r e.Loaves).bind fun y6 =>
        cond (!(decide ((y6.2 : Int) = e.Loaves)))
        (some (r, 0, 0, 0, false))
        ((impl_RackOk k y6.1).bind fun y7 =>
        cond (!y7)
        (some (r, 0, 0, 0, false))
        (some (y6.1, 0, y6.2, 0, true))))
       (cond (decide ((e.Kind : Int) = 4))
        ((impl_NextMorning k r 0).bind fun y8 =>
        cond (!(decide ((e.Loaves : Int) = 0)))
        (some (r, 0, 0, 0, false))
        ((impl_RackOk k y8.1).bind fun y9 =>
        cond (!y9)
        (some (r, 0, 0, 0, false))
        (some (y8.1, 0, 0, y8.2, true))))
        (some (r, 0, 0, 0, false)))))))
noncomputable def impl_EventOn_v : Nat → List Nat := fun t => match t with | _ => []
noncomputable def impl_EventOn_O (k : Nat) : Oracle := ofL [(53, impl_in_x k), (76, impl_RackOk_x k), (77, impl_SellFresh_x k), (78, impl_SellCheap_x k), (79, impl_NextMorning_x k)]
theorem impl_EventOn_Ok (k : Nat) : OkO (Ct Try.prog) (impl_EventOn_O k) := okO_cons (impl_in_ok k) (okO_cons (impl_RackOk_ok k) (okO_cons (impl_SellFresh_ok k) (okO_cons (impl_SellCheap_ok k) (okO_cons (impl_NextMorning_ok k) (okO_nil)))))
noncomputable def impl_EventOn_A (r : Rack) (e : Event) : Pk := ⟨[(.ag [(.v (.int .i64 r.Fresh)), (.v (.int .i64 r.Day)), (.v (.int .i64 r.Old))]), (.ag [(.v (.int .i64 e.Kind)), (.v (.int .i64 e.Loaves))])], []⟩
noncomputable def impl_EventOn_d : Rs → Option (Rack × Int × Int × Int × Bool)
 | ⟨(.tp [(.ag [(.v (.int .i64 r1)), (.v (.int .i64 r2)), (.v (.int .i64 r3))]), (.sc (.v (.int .i64 r4))), (.sc (.v (.int .i64 r5))), (.sc (.v (.int .i64 r6))), (.sc (.v (.bool r7)))]), []⟩ => some ((⟨r1, r2, r3⟩ : Rack), r4, r5, r6, r7)
 | _ => none
theorem impl_EventOn_i {r : Rs} {y : Rack × Int × Int × Int × Bool} (h : impl_EventOn_d r = some y) : r = ⟨(.tp [(.ag [(.v (.int .i64 y.1.Fresh)), (.v (.int .i64 y.1.Day)), (.v (.int .i64 y.1.Old))]), (.sc (.v (.int .i64 y.2.1))), (.sc (.v (.int .i64 y.2.2.1))), (.sc (.v (.int .i64 y.2.2.2.1))), (.sc (.v (.bool y.2.2.2.2)))]), []⟩ := by
 unfold impl_EventOn_d at h; split at h
 · cases h; rfl
 · cases h
theorem impl_EventOn_e (k : Nat) (r : Rack) (e : Event) : callF env (impl_EventOn_O k) impl_EventOn_v Try.f31 (k + 1) (impl_EventOn_A r e) (fun r => impl_EventOn_d (r.fin 0 [])) = impl_EventOn k r e := by kernel_rfl
noncomputable def impl_EventOn_x (k : Nat) : Ent1 := fun A R Q => match A with
 | ⟨[(.ag [(.v (.int .i64 a1)), (.v (.int .i64 a2)), (.v (.int .i64 a3))]), (.ag [(.v (.int .i64 a4)), (.v (.int .i64 a5))])], []⟩ => (impl_EventOn k (⟨a1, a2, a3⟩ : Rack) (⟨a4, a5⟩ : Event)).bind fun y => Q ⟨(.tp [(.ag [(.v (.int .i64 y.1.Fresh)), (.v (.int .i64 y.1.Day)), (.v (.int .i64 y.1.Old))]), (.sc (.v (.int .i64 y.2.1))), (.sc (.v (.int .i64 y.2.2.1))), (.sc (.v (.int .i64 y.2.2.2.1))), (.sc (.v (.bool y.2.2.2.2)))]), []⟩
 | _ => none
theorem impl_EventOn_ok (k : Nat) : OkE Try.prog 31 (impl_EventOn_x k) := by
 intro A R Q x h
 unfold impl_EventOn_x at h
 split at h
 · obtain ⟨y, hy, hK⟩ := Option.bind_eq_some_iff.1 h
   obtain ⟨r, hr, hd⟩ := callF_ok envOk (impl_EventOn_Ok k) follows Try.func31 (by kernel_rfl) ((impl_EventOn_e k _ _).trans hy)
   exact ⟨_, impl_EventOn_i hd ▸ hr.fin [], hK⟩
 · cases h
/-! ### impl.counted: function 54 -/
noncomputable def impl_counted_s0 (k : Nat)  (events : (List Event)) (J : Int → Int → Int → Int → Int → Int → Int → Option (Book × Bool)) (x0_0 : Int) (x0_1 : Int) (x0_2 : Int) (x0_3 : Int) (x0_4 : Int) (x0_5 : Int) (x0_6 : Int) : Option (Book × Bool) :=
 cond (decide ((x0_0 : Int) < ((events).length : Int)))
 (if 0 ≤ (x0_0 : Int) ∧ (x0_0 : Int) < ((events).length : Int) then
  (impl_EventOn k (⟨x0_1, x0_2, x0_3⟩ : Rack) (events.getD (Int.toNat x0_0) dk_impl_Event)).bind fun y2 =>
   cond (!y2.2.2.2.2)
    (some ((⟨[], (⟨0, 0, 0⟩ : Rack), 0, 0, 0⟩ : Book), false))
    (J (wr (x0_0 + 1)) y2.1.Fresh y2.1.Day y2.1.Old (wr (x0_4 + y2.2.1)) (wr (x0_5 + y2.2.2.1)) (wr (x0_6 + y2.2.2.2.1))) else none)
 (some ((⟨([] ++ events), (⟨x0_1, x0_2, x0_3⟩ : Rack), x0_4, x0_5, x0_6⟩ : Book), (decide ((((events).length : Int) : Int) ≤ 40))))
noncomputable def impl_counted_l0 (k : Nat) : Nat → (List Event) → Int → Int → Int → Int → Int → Int → Int → Option (Book × Bool)
 | 0, events, x0_0, x0_1, x0_2, x0_3, x0_4, x0_5, x0_6 => impl_counted_s0 k events (fun _ _ _ _ _ _ _ => none) x0_0 x0_1 x0_2 x0_3 x0_4 x0_5 x0_6
 | m + 1, events, x0_0, x0_1, x0_2, x0_3, x0_4, x0_5, x0_6 => impl_counted_s0 k events (impl_counted_l0 k m events) x0_0 x0_1 x0_2 x0_3 x0_4 x0_5 x0_6
noncomputable def impl_counted_m (k : Nat) (J0 : (List Event) → Int → Int → Int → Int → Int → Int → Int → Option (Book × Bool)) (events : (List Event)) : Option (Book × Bool) :=
 if ([] : List Event).length + (events : List Event).length ≤ maxRow then
 J0 events 0 0 0 0 0 0 0 else none
noncomputable def impl_counted (k : Nat) (events : (List Event)) : Option (Book × Bool) := impl_counted_m k (impl_counted_l0 k k) events
noncomputable def impl_counted_v : Nat → List Nat := fun t => match t with | 3 => [0, 2, 3, 4, 16, 17, 18] | _ => []
noncomputable def impl_counted_O (k : Nat) : Oracle := ofL [(31, impl_EventOn_x k)]
theorem impl_counted_Ok (k : Nat) : OkO (Ct Try.prog) (impl_counted_O k) := okO_cons (impl_EventOn_ok k) (okO_nil)
noncomputable def impl_counted_A (events : (List Event)) : Pk := ⟨[(.sc (.sl 0))], [(.row false K.k_impl_Event events)]⟩
noncomputable def impl_counted_d : Rs → Option (Book × Bool)
 | ⟨(.tp [(.ag [(.sl 1), (.v (.int .i64 r2)), (.v (.int .i64 r3)), (.v (.int .i64 r4)), (.v (.int .i64 r5)), (.v (.int .i64 r6)), (.v (.int .i64 r7))]), (.sc (.v (.bool r8)))]), [.dead, (.row true K.k_impl_Event r1)]⟩ => some ((⟨r1, (⟨r2, r3, r4⟩ : Rack), r5, r6, r7⟩ : Book), r8)
 | _ => none
theorem impl_counted_i {r : Rs} {y : Book × Bool} (h : impl_counted_d r = some y) : r = ⟨(.tp [(.ag [(.sl 1), (.v (.int .i64 y.1.Rack.Fresh)), (.v (.int .i64 y.1.Rack.Day)), (.v (.int .i64 y.1.Rack.Old)), (.v (.int .i64 y.1.Baked)), (.v (.int .i64 y.1.Sold)), (.v (.int .i64 y.1.Thrown))]), (.sc (.v (.bool y.2)))]), [.dead, (.row true K.k_impl_Event y.1.Events)]⟩ := by
 unfold impl_counted_d at h; split at h
 · cases h; rfl
 · cases h
noncomputable def impl_counted_h0 (k m : Nat) (events : (List Event)) (x0_0 : Int) (x0_1 : Int) (x0_2 : Int) (x0_3 : Int) (x0_4 : Int) (x0_5 : Int) (x0_6 : Int) : Option (Book × Bool) := hdAt env (impl_counted_O k) impl_counted_v Try.f54 1 (fun r => impl_counted_d (r.fin 1 [])) [1, 1, 0, 1, 0] k m ⟨tmF [0, 2, 3, 4, 16, 17, 18] [(.a (.sc (.sl 0))), (.a (.sc (.bp 2 0))), (.a (.sc (.v (.bool false)))), (.a (.sc (.bp 4 0))), (.a (.sc (.sl 0))), (.a (.sc (.v (.int .i64 ((events).length : Int))))), (.a (.sc (.v (.int .i64 x0_0))))], blF [(.row false K.k_impl_Event events), (.row true K.k_impl_Event []), (.box true [(.sl 1), (.v (.int .i64 0)), (.v (.int .i64 0)), (.v (.int .i64 0)), (.v (.int .i64 0)), (.v (.int .i64 0)), (.v (.int .i64 0))]), (.row true K.k_impl_Event ([] ++ events)), (.box true [(.sl 3), (.v (.int .i64 x0_1)), (.v (.int .i64 x0_2)), (.v (.int .i64 x0_3)), (.v (.int .i64 x0_4)), (.v (.int .i64 x0_5)), (.v (.int .i64 x0_6))])]⟩
theorem impl_counted_z0 (k : Nat) (events : (List Event)) (x0_0 : Int) (x0_1 : Int) (x0_2 : Int) (x0_3 : Int) (x0_4 : Int) (x0_5 : Int) (x0_6 : Int) : impl_counted_h0 k 0 events x0_0 x0_1 x0_2 x0_3 x0_4 x0_5 x0_6 = impl_counted_s0 k events (fun _ _ _ _ _ _ _ => none) x0_0 x0_1 x0_2 x0_3 x0_4 x0_5 x0_6 := by kernel_rfl
theorem impl_counted_g0 (k : Nat) (H : St → Option (Book × Bool)) (events : (List Event)) (x0_0 : Int) (x0_1 : Int) (x0_2 : Int) (x0_3 : Int) (x0_4 : Int) (x0_5 : Int) (x0_6 : Int) : rnd env (impl_counted_O k) impl_counted_v Try.f54 1 (fun r => impl_counted_d (r.fin 1 [])) [1, 1, 0, 1, 0] k H ⟨tmF [0, 2, 3, 4, 16, 17, 18] [(.a (.sc (.sl 0))), (.a (.sc (.bp 2 0))), (.a (.sc (.v (.bool false)))), (.a (.sc (.bp 4 0))), (.a (.sc (.sl 0))), (.a (.sc (.v (.int .i64 ((events).length : Int))))), (.a (.sc (.v (.int .i64 x0_0))))], blF [(.row false K.k_impl_Event events), (.row true K.k_impl_Event []), (.box true [(.sl 1), (.v (.int .i64 0)), (.v (.int .i64 0)), (.v (.int .i64 0)), (.v (.int .i64 0)), (.v (.int .i64 0)), (.v (.int .i64 0))]), (.row true K.k_impl_Event ([] ++ events)), (.box true [(.sl 3), (.v (.int .i64 x0_1)), (.v (.int .i64 x0_2)), (.v (.int .i64 x0_3)), (.v (.int .i64 x0_4)), (.v (.int .i64 x0_5)), (.v (.int .i64 x0_6))])]⟩ = impl_counted_s0 k events (fun x0_0 x0_1 x0_2 x0_3 x0_4 x0_5 x0_6 => H ⟨tmF [0, 2, 3, 4, 16, 17, 18] [(.a (.sc (.sl 0))), (.a (.sc (.bp 2 0))), (.a (.sc (.v (.bool false)))), (.a (.sc (.bp 4 0))), (.a (.sc (.sl 0))), (.a (.sc (.v (.int .i64 ((events).length : Int))))), (.a (.sc (.v (.int .i64 x0_0))))], blF [(.row false K.k_impl_Event events), (.row true K.k_impl_Event []), (.box true [(.sl 1), (.v (.int .i64 0)), (.v (.int .i64 0)), (.v (.int .i64 0)), (.v (.int .i64 0)), (.v (.int .i64 0)), (.v (.int .i64 0))]), (.row true K.k_impl_Event ([] ++ events)), (.box true [(.sl 3), (.v (.int .i64 x0_1)), (.v (.int .i64 x0_2)), (.v (.int .i64 x0_3)), (.v (.int .i64 x0_4)), (.v (.int .i64 x0_5)), (.v (.int .i64 x0_6))])]⟩) x0_0 x0_1 x0_2 x0_3 x0_4 x0_5 x0_6 := by kernel_rfl
theorem impl_counted_n0 (k m : Nat) (events : (List Event)) (x0_0 : Int) (x0_1 : Int) (x0_2 : Int) (x0_3 : Int) (x0_4 : Int) (x0_5 : Int) (x0_6 : Int) : impl_counted_h0 k (m + 1) events x0_0 x0_1 x0_2 x0_3 x0_4 x0_5 x0_6 = impl_counted_s0 k events (impl_counted_h0 k m events) x0_0 x0_1 x0_2 x0_3 x0_4 x0_5 x0_6 := (hdAt_succ _ _ _ _ _ _ _ _ _ _).trans (impl_counted_g0 k _ events x0_0 x0_1 x0_2 x0_3 x0_4 x0_5 x0_6)
theorem impl_counted_q0 (k : Nat) : ∀ m, impl_counted_h0 k m = impl_counted_l0 k m := by
 intro m
 induction m with
 | zero => funext events x0_0 x0_1 x0_2 x0_3 x0_4 x0_5 x0_6; rw [impl_counted_z0]; rfl
 | succ m ih => funext events x0_0 x0_1 x0_2 x0_3 x0_4 x0_5 x0_6; rw [impl_counted_n0, ih]; rfl
theorem impl_counted_e (k : Nat) (events : (List Event)) : callF env (impl_counted_O k) impl_counted_v Try.f54 (k + 1) (impl_counted_A events) (fun r => impl_counted_d (r.fin 1 [])) = impl_counted k events := by
 have e : callF env (impl_counted_O k) impl_counted_v Try.f54 (k + 1) (impl_counted_A events) (fun r => impl_counted_d (r.fin 1 [])) = impl_counted_m k (impl_counted_h0 k k) events := by kernel_rfl
 rw [e, impl_counted_q0]; rfl
noncomputable def impl_counted_x (k : Nat) : Ent1 := fun A R Q => match A with
 | ⟨[(.sc (.sl 0))], [(.row false K.k_impl_Event a1)]⟩ => (impl_counted k a1).bind fun y => Q ⟨(.tp [(.ag [(.sl 1), (.v (.int .i64 y.1.Rack.Fresh)), (.v (.int .i64 y.1.Rack.Day)), (.v (.int .i64 y.1.Rack.Old)), (.v (.int .i64 y.1.Baked)), (.v (.int .i64 y.1.Sold)), (.v (.int .i64 y.1.Thrown))]), (.sc (.v (.bool y.2)))]), [.dead, (.row true K.k_impl_Event y.1.Events)]⟩
 | _ => none
theorem impl_counted_ok (k : Nat) : OkE Try.prog 54 (impl_counted_x k) := by
 intro A R Q x h
 unfold impl_counted_x at h
 split at h
 · obtain ⟨y, hy, hK⟩ := Option.bind_eq_some_iff.1 h
   obtain ⟨r, hr, hd⟩ := callF_ok envOk (impl_counted_Ok k) follows Try.func54 (by kernel_rfl) ((impl_counted_e k _).trans hy)
   exact ⟨_, impl_counted_i hd ▸ hr.fin [], hK⟩
 · cases h
/-! ### impl.BookOk: function 15 -/
noncomputable def impl_BookOk (k : Nat)  (b : Book) : Option (Bool) :=
 (impl_counted k b.Events).bind fun y1 =>
 cond y1.2
  (cond (decide ((y1.1.Rack.Fresh : Int) = b.Rack.Fresh) && (decide ((y1.1.Rack.Day : Int) = b.Rack.Day) && decide ((y1.1.Rack.Old : Int) = b.Rack.Old)))
   (cond (decide ((y1.1.Baked : Int) = b.Baked))
    (cond (decide ((y1.1.Sold : Int) = b.Sold))
     (some (decide ((y1.1.Thrown : Int) = b.Thrown)))
     (some false))
    (some false))
   (some false))
  (some false)
noncomputable def impl_BookOk_v : Nat → List Nat := fun t => match t with | _ => []
noncomputable def impl_BookOk_O (k : Nat) : Oracle := ofL [(54, impl_counted_x k)]
theorem impl_BookOk_Ok (k : Nat) : OkO (Ct Try.prog) (impl_BookOk_O k) := okO_cons (impl_counted_ok k) (okO_nil)
noncomputable def impl_BookOk_A (b : Book) : Pk := ⟨[(.ag [(.sl 0), (.v (.int .i64 b.Rack.Fresh)), (.v (.int .i64 b.Rack.Day)), (.v (.int .i64 b.Rack.Old)), (.v (.int .i64 b.Baked)), (.v (.int .i64 b.Sold)), (.v (.int .i64 b.Thrown))])], [(.row false K.k_impl_Event b.Events)]⟩
noncomputable def impl_BookOk_d : Rs → Option (Bool)
 | ⟨(.a (.sc (.v (.bool r1)))), [.dead]⟩ => some r1
 | _ => none
theorem impl_BookOk_i {r : Rs} {y : Bool} (h : impl_BookOk_d r = some y) : r = ⟨(.a (.sc (.v (.bool y)))), [.dead]⟩ := by
 unfold impl_BookOk_d at h; split at h
 · cases h; rfl
 · cases h
theorem impl_BookOk_e (k : Nat) (b : Book) : callF env (impl_BookOk_O k) impl_BookOk_v Try.f15 (k + 1) (impl_BookOk_A b) (fun r => impl_BookOk_d (r.fin 1 [])) = impl_BookOk k b := by kernel_rfl
noncomputable def impl_BookOk_x (k : Nat) : Ent1 := fun A R Q => match A with
 | ⟨[(.ag [(.sl 0), (.v (.int .i64 a2)), (.v (.int .i64 a3)), (.v (.int .i64 a4)), (.v (.int .i64 a5)), (.v (.int .i64 a6)), (.v (.int .i64 a7))])], [(.row false K.k_impl_Event a1)]⟩ => (impl_BookOk k (⟨a1, (⟨a2, a3, a4⟩ : Rack), a5, a6, a7⟩ : Book)).bind fun y => Q ⟨(.a (.sc (.v (.bool y)))), [.dead]⟩
 | _ => none
theorem impl_BookOk_ok (k : Nat) : OkE Try.prog 15 (impl_BookOk_x k) := by
 intro A R Q x h
 unfold impl_BookOk_x at h
 split at h
 · obtain ⟨y, hy, hK⟩ := Option.bind_eq_some_iff.1 h
   obtain ⟨r, hr, hd⟩ := callF_ok envOk (impl_BookOk_Ok k) follows Try.func15 (by kernel_rfl) ((impl_BookOk_e k _).trans hy)
   exact ⟨_, impl_BookOk_i hd ▸ hr.fin [], hK⟩
 · cases h
/-! ### laws.at: function 17 -/
noncomputable def laws_at (k : Nat)  (code : (List Int)) (i : Int) : Option (Int) :=
 cond (decide ((((code).length : Int) : Int) = 0))
 (some 0)
 (if (((code).length : Int) : Int) ≠ 0 then
  if 0 ≤ ((Int.tmod (wr ((wr (i * 5)) + 1)) ((code).length : Int)) : Int) ∧ ((Int.tmod (wr ((wr (i * 5)) + 1)) ((code).length : Int)) : Int) < ((code).length : Int) then
   some (wr (code.getD (Int.toNat (Int.tmod (wr ((wr (i * 5)) + 1)) ((code).length : Int))) 0)) else none else none)
noncomputable def laws_at_v : Nat → List Nat := fun t => match t with | _ => []
noncomputable def laws_at_O (k : Nat) : Oracle := ofL []
theorem laws_at_Ok (k : Nat) : OkO (Ct Try.prog) (laws_at_O k) := okO_nil
noncomputable def laws_at_A (code : (List Int)) (i : Int) : Pk := ⟨[(.sc (.sl 0)), (.sc (.v (.int .i64 i)))], [(.row false K.ku8 code)]⟩
noncomputable def laws_at_d : Rs → Option (Int)
 | ⟨(.a (.sc (.v (.int .i64 r1)))), [.dead]⟩ => some r1
 | _ => none
theorem laws_at_i {r : Rs} {y : Int} (h : laws_at_d r = some y) : r = ⟨(.a (.sc (.v (.int .i64 y)))), [.dead]⟩ := by
 unfold laws_at_d at h; split at h
 · cases h; rfl
 · cases h
theorem laws_at_e (k : Nat) (code : (List Int)) (i : Int) : callF env (laws_at_O k) laws_at_v Try.f17 (k + 1) (laws_at_A code i) (fun r => laws_at_d (r.fin 1 [])) = laws_at k code i := by kernel_rfl
noncomputable def laws_at_x (k : Nat) : Ent1 := fun A R Q => match A with
 | ⟨[(.sc (.sl 0)), (.sc (.v (.int .i64 a2)))], [(.row false K.ku8 a1)]⟩ => (laws_at k a1 a2).bind fun y => Q ⟨(.a (.sc (.v (.int .i64 y)))), [.dead]⟩
 | _ => none
theorem laws_at_ok (k : Nat) : OkE Try.prog 17 (laws_at_x k) := by
 intro A R Q x h
 unfold laws_at_x at h
 split at h
 · obtain ⟨y, hy, hK⟩ := Option.bind_eq_some_iff.1 h
   obtain ⟨r, hr, hd⟩ := callF_ok envOk (laws_at_Ok k) follows Try.func17 (by kernel_rfl) ((laws_at_e k _ _).trans hy)
   exact ⟨_, laws_at_i hd ▸ hr.fin [], hK⟩
 · cases h
/-! ### impl.bookCopy: function 75 -/
noncomputable def impl_bookCopy (k : Nat)  (b : Book) : Option (Book) :=
 if ([] : List Event).length + (b.Events : List Event).length ≤ maxRow then
 some (⟨([] ++ b.Events), b.Rack, b.Baked, b.Sold, b.Thrown⟩ : Book) else none
noncomputable def impl_bookCopy_v : Nat → List Nat := fun t => match t with | _ => []
noncomputable def impl_bookCopy_O (k : Nat) : Oracle := ofL []
theorem impl_bookCopy_Ok (k : Nat) : OkO (Ct Try.prog) (impl_bookCopy_O k) := okO_nil
noncomputable def impl_bookCopy_A (b : Book) : Pk := ⟨[(.ag [(.sl 0), (.v (.int .i64 b.Rack.Fresh)), (.v (.int .i64 b.Rack.Day)), (.v (.int .i64 b.Rack.Old)), (.v (.int .i64 b.Baked)), (.v (.int .i64 b.Sold)), (.v (.int .i64 b.Thrown))])], [(.row false K.k_impl_Event b.Events)]⟩
noncomputable def impl_bookCopy_d : Rs → Option (Book)
 | ⟨(.a (.ag [(.sl 1), (.v (.int .i64 r2)), (.v (.int .i64 r3)), (.v (.int .i64 r4)), (.v (.int .i64 r5)), (.v (.int .i64 r6)), (.v (.int .i64 r7))])), [.dead, (.row true K.k_impl_Event r1)]⟩ => some (⟨r1, (⟨r2, r3, r4⟩ : Rack), r5, r6, r7⟩ : Book)
 | _ => none
theorem impl_bookCopy_i {r : Rs} {y : Book} (h : impl_bookCopy_d r = some y) : r = ⟨(.a (.ag [(.sl 1), (.v (.int .i64 y.Rack.Fresh)), (.v (.int .i64 y.Rack.Day)), (.v (.int .i64 y.Rack.Old)), (.v (.int .i64 y.Baked)), (.v (.int .i64 y.Sold)), (.v (.int .i64 y.Thrown))])), [.dead, (.row true K.k_impl_Event y.Events)]⟩ := by
 unfold impl_bookCopy_d at h; split at h
 · cases h; rfl
 · cases h
theorem impl_bookCopy_e (k : Nat) (b : Book) : callF env (impl_bookCopy_O k) impl_bookCopy_v Try.f75 (k + 1) (impl_bookCopy_A b) (fun r => impl_bookCopy_d (r.fin 1 [])) = impl_bookCopy k b := by kernel_rfl
noncomputable def impl_bookCopy_x (k : Nat) : Ent1 := fun A R Q => match A with
 | ⟨[(.ag [(.sl 0), (.v (.int .i64 a2)), (.v (.int .i64 a3)), (.v (.int .i64 a4)), (.v (.int .i64 a5)), (.v (.int .i64 a6)), (.v (.int .i64 a7))])], [(.row false K.k_impl_Event a1)]⟩ => (impl_bookCopy k (⟨a1, (⟨a2, a3, a4⟩ : Rack), a5, a6, a7⟩ : Book)).bind fun y => Q ⟨(.a (.ag [(.sl 1), (.v (.int .i64 y.Rack.Fresh)), (.v (.int .i64 y.Rack.Day)), (.v (.int .i64 y.Rack.Old)), (.v (.int .i64 y.Baked)), (.v (.int .i64 y.Sold)), (.v (.int .i64 y.Thrown))])), [.dead, (.row true K.k_impl_Event y.Events)]⟩
 | _ => none
theorem impl_bookCopy_ok (k : Nat) : OkE Try.prog 75 (impl_bookCopy_x k) := by
 intro A R Q x h
 unfold impl_bookCopy_x at h
 split at h
 · obtain ⟨y, hy, hK⟩ := Option.bind_eq_some_iff.1 h
   obtain ⟨r, hr, hd⟩ := callF_ok envOk (impl_bookCopy_Ok k) follows Try.func75 (by kernel_rfl) ((impl_bookCopy_e k _).trans hy)
   exact ⟨_, impl_bookCopy_i hd ▸ hr.fin [], hK⟩
 · cases h
/-! ### impl.Enter: function 29 -/
noncomputable def impl_Enter (k : Nat)  (b : Book) (e : Event) : Option (Book × Bool) :=
 (impl_BookOk k b).bind fun y1 =>
 cond (!y1)
  ((impl_bookCopy k b).bind fun y2 =>
   some (y2, false))
  ((impl_bookCopy k b).bind fun y3 =>
   if (y3.Events : List Event).length + ([e] : List Event).length ≤ maxRow then
    (impl_counted k (y3.Events ++ [e])).bind fun y4 =>
     cond (!y4.2)
      ((impl_bookCopy k b).bind fun y5 =>
       some (y5, false))
      (some (y4.1, true)) else none)
noncomputable def impl_Enter_v : Nat → List Nat := fun t => match t with | _ => []
noncomputable def impl_Enter_O (k : Nat) : Oracle := ofL [(15, impl_BookOk_x k), (54, impl_counted_x k), (75, impl_bookCopy_x k)]
theorem impl_Enter_Ok (k : Nat) : OkO (Ct Try.prog) (impl_Enter_O k) := okO_cons (impl_BookOk_ok k) (okO_cons (impl_counted_ok k) (okO_cons (impl_bookCopy_ok k) (okO_nil)))
noncomputable def impl_Enter_A (b : Book) (e : Event) : Pk := ⟨[(.ag [(.sl 0), (.v (.int .i64 b.Rack.Fresh)), (.v (.int .i64 b.Rack.Day)), (.v (.int .i64 b.Rack.Old)), (.v (.int .i64 b.Baked)), (.v (.int .i64 b.Sold)), (.v (.int .i64 b.Thrown))]), (.ag [(.v (.int .i64 e.Kind)), (.v (.int .i64 e.Loaves))])], [(.row false K.k_impl_Event b.Events)]⟩
noncomputable def impl_Enter_d : Rs → Option (Book × Bool)
 | ⟨(.tp [(.ag [(.sl 1), (.v (.int .i64 r2)), (.v (.int .i64 r3)), (.v (.int .i64 r4)), (.v (.int .i64 r5)), (.v (.int .i64 r6)), (.v (.int .i64 r7))]), (.sc (.v (.bool r8)))]), [.dead, (.row true K.k_impl_Event r1)]⟩ => some ((⟨r1, (⟨r2, r3, r4⟩ : Rack), r5, r6, r7⟩ : Book), r8)
 | _ => none
theorem impl_Enter_i {r : Rs} {y : Book × Bool} (h : impl_Enter_d r = some y) : r = ⟨(.tp [(.ag [(.sl 1), (.v (.int .i64 y.1.Rack.Fresh)), (.v (.int .i64 y.1.Rack.Day)), (.v (.int .i64 y.1.Rack.Old)), (.v (.int .i64 y.1.Baked)), (.v (.int .i64 y.1.Sold)), (.v (.int .i64 y.1.Thrown))]), (.sc (.v (.bool y.2)))]), [.dead, (.row true K.k_impl_Event y.1.Events)]⟩ := by
 unfold impl_Enter_d at h; split at h
 · cases h; rfl
 · cases h
theorem impl_Enter_e (k : Nat) (b : Book) (e : Event) : callF env (impl_Enter_O k) impl_Enter_v Try.f29 (k + 1) (impl_Enter_A b e) (fun r => impl_Enter_d (r.fin 1 [])) = impl_Enter k b e := by kernel_rfl
noncomputable def impl_Enter_x (k : Nat) : Ent1 := fun A R Q => match A with
 | ⟨[(.ag [(.sl 0), (.v (.int .i64 a2)), (.v (.int .i64 a3)), (.v (.int .i64 a4)), (.v (.int .i64 a5)), (.v (.int .i64 a6)), (.v (.int .i64 a7))]), (.ag [(.v (.int .i64 a8)), (.v (.int .i64 a9))])], [(.row false K.k_impl_Event a1)]⟩ => (impl_Enter k (⟨a1, (⟨a2, a3, a4⟩ : Rack), a5, a6, a7⟩ : Book) (⟨a8, a9⟩ : Event)).bind fun y => Q ⟨(.tp [(.ag [(.sl 1), (.v (.int .i64 y.1.Rack.Fresh)), (.v (.int .i64 y.1.Rack.Day)), (.v (.int .i64 y.1.Rack.Old)), (.v (.int .i64 y.1.Baked)), (.v (.int .i64 y.1.Sold)), (.v (.int .i64 y.1.Thrown))]), (.sc (.v (.bool y.2)))]), [.dead, (.row true K.k_impl_Event y.1.Events)]⟩
 | _ => none
theorem impl_Enter_ok (k : Nat) : OkE Try.prog 29 (impl_Enter_x k) := by
 intro A R Q x h
 unfold impl_Enter_x at h
 split at h
 · obtain ⟨y, hy, hK⟩ := Option.bind_eq_some_iff.1 h
   obtain ⟨r, hr, hd⟩ := callF_ok envOk (impl_Enter_Ok k) follows Try.func29 (by kernel_rfl) ((impl_Enter_e k _ _).trans hy)
   exact ⟨_, impl_Enter_i hd ▸ hr.fin [], hK⟩
 · cases h
/-! ### impl.Strike: function 30 -/
noncomputable def impl_Strike (k : Nat)  (b : Book) : Option (Book × Bool) :=
 (impl_BookOk k b).bind fun y1 =>
 cond (!y1)
  ((impl_bookCopy k b).bind fun y2 =>
   some (y2, false))
  (cond (decide ((((b.Events).length : Int) : Int) = 0))
   ((impl_bookCopy k b).bind fun y3 =>
    some (y3, false))
   (if (0 : Int) ≤ 0 ∧ 0 ≤ (wr (((b.Events).length : Int) - 1)) ∧ (wr (((b.Events).length : Int) - 1)) ≤ ((b.Events).length : Int) then
    (impl_counted k ((b.Events.take (Int.toNat (wr (((b.Events).length : Int) - 1)))).drop 0)).bind fun y4 =>
     some (y4.1, y4.2) else none))
noncomputable def impl_Strike_v : Nat → List Nat := fun t => match t with | _ => []
noncomputable def impl_Strike_O (k : Nat) : Oracle := ofL [(15, impl_BookOk_x k), (54, impl_counted_x k), (75, impl_bookCopy_x k)]
theorem impl_Strike_Ok (k : Nat) : OkO (Ct Try.prog) (impl_Strike_O k) := okO_cons (impl_BookOk_ok k) (okO_cons (impl_counted_ok k) (okO_cons (impl_bookCopy_ok k) (okO_nil)))
noncomputable def impl_Strike_A (b : Book) : Pk := ⟨[(.ag [(.sl 0), (.v (.int .i64 b.Rack.Fresh)), (.v (.int .i64 b.Rack.Day)), (.v (.int .i64 b.Rack.Old)), (.v (.int .i64 b.Baked)), (.v (.int .i64 b.Sold)), (.v (.int .i64 b.Thrown))])], [(.row false K.k_impl_Event b.Events)]⟩
noncomputable def impl_Strike_d : Rs → Option (Book × Bool)
 | ⟨(.tp [(.ag [(.sl 1), (.v (.int .i64 r2)), (.v (.int .i64 r3)), (.v (.int .i64 r4)), (.v (.int .i64 r5)), (.v (.int .i64 r6)), (.v (.int .i64 r7))]), (.sc (.v (.bool r8)))]), [.dead, (.row true K.k_impl_Event r1)]⟩ => some ((⟨r1, (⟨r2, r3, r4⟩ : Rack), r5, r6, r7⟩ : Book), r8)
 | _ => none
theorem impl_Strike_i {r : Rs} {y : Book × Bool} (h : impl_Strike_d r = some y) : r = ⟨(.tp [(.ag [(.sl 1), (.v (.int .i64 y.1.Rack.Fresh)), (.v (.int .i64 y.1.Rack.Day)), (.v (.int .i64 y.1.Rack.Old)), (.v (.int .i64 y.1.Baked)), (.v (.int .i64 y.1.Sold)), (.v (.int .i64 y.1.Thrown))]), (.sc (.v (.bool y.2)))]), [.dead, (.row true K.k_impl_Event y.1.Events)]⟩ := by
 unfold impl_Strike_d at h; split at h
 · cases h; rfl
 · cases h
theorem impl_Strike_e (k : Nat) (b : Book) : callF env (impl_Strike_O k) impl_Strike_v Try.f30 (k + 1) (impl_Strike_A b) (fun r => impl_Strike_d (r.fin 1 [])) = impl_Strike k b := by kernel_rfl
noncomputable def impl_Strike_x (k : Nat) : Ent1 := fun A R Q => match A with
 | ⟨[(.ag [(.sl 0), (.v (.int .i64 a2)), (.v (.int .i64 a3)), (.v (.int .i64 a4)), (.v (.int .i64 a5)), (.v (.int .i64 a6)), (.v (.int .i64 a7))])], [(.row false K.k_impl_Event a1)]⟩ => (impl_Strike k (⟨a1, (⟨a2, a3, a4⟩ : Rack), a5, a6, a7⟩ : Book)).bind fun y => Q ⟨(.tp [(.ag [(.sl 1), (.v (.int .i64 y.1.Rack.Fresh)), (.v (.int .i64 y.1.Rack.Day)), (.v (.int .i64 y.1.Rack.Old)), (.v (.int .i64 y.1.Baked)), (.v (.int .i64 y.1.Sold)), (.v (.int .i64 y.1.Thrown))]), (.sc (.v (.bool y.2)))]), [.dead, (.row true K.k_impl_Event y.1.Events)]⟩
 | _ => none
theorem impl_Strike_ok (k : Nat) : OkE Try.prog 30 (impl_Strike_x k) := by
 intro A R Q x h
 unfold impl_Strike_x at h
 split at h
 · obtain ⟨y, hy, hK⟩ := Option.bind_eq_some_iff.1 h
   obtain ⟨r, hr, hd⟩ := callF_ok envOk (impl_Strike_Ok k) follows Try.func30 (by kernel_rfl) ((impl_Strike_e k _).trans hy)
   exact ⟨_, impl_Strike_i hd ▸ hr.fin [], hK⟩
 · cases h
/-! ### impl.DaysIn: function 33 -/
noncomputable def impl_DaysIn_s0 (k : Nat)  (b : Book) (J : Int → Int → Option (Int)) (x0_0 : Int) (x0_1 : Int) : Option (Int) :=
 cond (decide ((x0_1 : Int) < ((b.Events).length : Int)))
 (if 0 ≤ (x0_1 : Int) ∧ (x0_1 : Int) < ((b.Events).length : Int) then
  cond (decide (((b.Events.getD (Int.toNat x0_1) dk_impl_Event).Kind : Int) = 4))
   (J (wr (x0_0 + 1)) (wr (x0_1 + 1)))
   (J x0_0 (wr (x0_1 + 1))) else none)
 (some x0_0)
noncomputable def impl_DaysIn_l0 (k : Nat) : Nat → Book → Int → Int → Option (Int)
 | 0, b, x0_0, x0_1 => impl_DaysIn_s0 k b (fun _ _ => none) x0_0 x0_1
 | m + 1, b, x0_0, x0_1 => impl_DaysIn_s0 k b (impl_DaysIn_l0 k m b) x0_0 x0_1
noncomputable def impl_DaysIn_m (k : Nat) (J0 : Book → Int → Int → Option (Int)) (b : Book) : Option (Int) :=
 (impl_BookOk k b).bind fun y1 =>
 cond (!y1)
  (some (-1))
  (J0 b 0 0)
noncomputable def impl_DaysIn (k : Nat) (b : Book) : Option (Int) := impl_DaysIn_m k (impl_DaysIn_l0 k k) b
noncomputable def impl_DaysIn_v : Nat → List Nat := fun t => match t with | 5 => [2, 3, 10, 11, 12] | _ => []
noncomputable def impl_DaysIn_O (k : Nat) : Oracle := ofL [(15, impl_BookOk_x k)]
theorem impl_DaysIn_Ok (k : Nat) : OkO (Ct Try.prog) (impl_DaysIn_O k) := okO_cons (impl_BookOk_ok k) (okO_nil)
noncomputable def impl_DaysIn_A (b : Book) : Pk := ⟨[(.ag [(.sl 0), (.v (.int .i64 b.Rack.Fresh)), (.v (.int .i64 b.Rack.Day)), (.v (.int .i64 b.Rack.Old)), (.v (.int .i64 b.Baked)), (.v (.int .i64 b.Sold)), (.v (.int .i64 b.Thrown))])], [(.row false K.k_impl_Event b.Events)]⟩
noncomputable def impl_DaysIn_d : Rs → Option (Int)
 | ⟨(.a (.sc (.v (.int .i64 r1)))), [.dead]⟩ => some r1
 | _ => none
theorem impl_DaysIn_i {r : Rs} {y : Int} (h : impl_DaysIn_d r = some y) : r = ⟨(.a (.sc (.v (.int .i64 y)))), [.dead]⟩ := by
 unfold impl_DaysIn_d at h; split at h
 · cases h; rfl
 · cases h
noncomputable def impl_DaysIn_h0 (k m : Nat) (b : Book) (x0_0 : Int) (x0_1 : Int) : Option (Int) := hdAt env (impl_DaysIn_O k) impl_DaysIn_v Try.f33 1 (fun r => impl_DaysIn_d (r.fin 1 [])) [1, 1, 1, 0, 1, 0] k m ⟨tmF [2, 3, 10, 11, 12] [(.a (.sc (.v (.int .i64 0)))), (.a (.sc (.v (.int .i64 x0_0)))), (.a (.sc (.sl 0))), (.a (.sc (.v (.int .i64 ((b.Events).length : Int))))), (.a (.sc (.v (.int .i64 x0_1))))], blF [(.row false K.k_impl_Event b.Events)]⟩
theorem impl_DaysIn_z0 (k : Nat) (b : Book) (x0_0 : Int) (x0_1 : Int) : impl_DaysIn_h0 k 0 b x0_0 x0_1 = impl_DaysIn_s0 k b (fun _ _ => none) x0_0 x0_1 := by kernel_rfl
theorem impl_DaysIn_g0 (k : Nat) (H : St → Option (Int)) (b : Book) (x0_0 : Int) (x0_1 : Int) : rnd env (impl_DaysIn_O k) impl_DaysIn_v Try.f33 1 (fun r => impl_DaysIn_d (r.fin 1 [])) [1, 1, 1, 0, 1, 0] k H ⟨tmF [2, 3, 10, 11, 12] [(.a (.sc (.v (.int .i64 0)))), (.a (.sc (.v (.int .i64 x0_0)))), (.a (.sc (.sl 0))), (.a (.sc (.v (.int .i64 ((b.Events).length : Int))))), (.a (.sc (.v (.int .i64 x0_1))))], blF [(.row false K.k_impl_Event b.Events)]⟩ = impl_DaysIn_s0 k b (fun x0_0 x0_1 => H ⟨tmF [2, 3, 10, 11, 12] [(.a (.sc (.v (.int .i64 0)))), (.a (.sc (.v (.int .i64 x0_0)))), (.a (.sc (.sl 0))), (.a (.sc (.v (.int .i64 ((b.Events).length : Int))))), (.a (.sc (.v (.int .i64 x0_1))))], blF [(.row false K.k_impl_Event b.Events)]⟩) x0_0 x0_1 := by kernel_rfl
theorem impl_DaysIn_n0 (k m : Nat) (b : Book) (x0_0 : Int) (x0_1 : Int) : impl_DaysIn_h0 k (m + 1) b x0_0 x0_1 = impl_DaysIn_s0 k b (impl_DaysIn_h0 k m b) x0_0 x0_1 := (hdAt_succ _ _ _ _ _ _ _ _ _ _).trans (impl_DaysIn_g0 k _ b x0_0 x0_1)
theorem impl_DaysIn_q0 (k : Nat) : ∀ m, impl_DaysIn_h0 k m = impl_DaysIn_l0 k m := by
 intro m
 induction m with
 | zero => funext b x0_0 x0_1; rw [impl_DaysIn_z0]; rfl
 | succ m ih => funext b x0_0 x0_1; rw [impl_DaysIn_n0, ih]; rfl
theorem impl_DaysIn_e (k : Nat) (b : Book) : callF env (impl_DaysIn_O k) impl_DaysIn_v Try.f33 (k + 1) (impl_DaysIn_A b) (fun r => impl_DaysIn_d (r.fin 1 [])) = impl_DaysIn k b := by
 have e : callF env (impl_DaysIn_O k) impl_DaysIn_v Try.f33 (k + 1) (impl_DaysIn_A b) (fun r => impl_DaysIn_d (r.fin 1 [])) = impl_DaysIn_m k (impl_DaysIn_h0 k k) b := by kernel_rfl
 rw [e, impl_DaysIn_q0]; rfl
noncomputable def impl_DaysIn_x (k : Nat) : Ent1 := fun A R Q => match A with
 | ⟨[(.ag [(.sl 0), (.v (.int .i64 a2)), (.v (.int .i64 a3)), (.v (.int .i64 a4)), (.v (.int .i64 a5)), (.v (.int .i64 a6)), (.v (.int .i64 a7))])], [(.row false K.k_impl_Event a1)]⟩ => (impl_DaysIn k (⟨a1, (⟨a2, a3, a4⟩ : Rack), a5, a6, a7⟩ : Book)).bind fun y => Q ⟨(.a (.sc (.v (.int .i64 y)))), [.dead]⟩
 | _ => none
theorem impl_DaysIn_ok (k : Nat) : OkE Try.prog 33 (impl_DaysIn_x k) := by
 intro A R Q x h
 unfold impl_DaysIn_x at h
 split at h
 · obtain ⟨y, hy, hK⟩ := Option.bind_eq_some_iff.1 h
   obtain ⟨r, hr, hd⟩ := callF_ok envOk (impl_DaysIn_Ok k) follows Try.func33 (by kernel_rfl) ((impl_DaysIn_e k _).trans hy)
   exact ⟨_, impl_DaysIn_i hd ▸ hr.fin [], hK⟩
 · cases h
/-! ### laws.btoi: function 32 -/
noncomputable def laws_btoi (k : Nat)  (b : Bool) : Option (Int) :=
 cond b
 (some 1)
 (some 0)
noncomputable def laws_btoi_v : Nat → List Nat := fun t => match t with | _ => []
noncomputable def laws_btoi_O (k : Nat) : Oracle := ofL []
theorem laws_btoi_Ok (k : Nat) : OkO (Ct Try.prog) (laws_btoi_O k) := okO_nil
noncomputable def laws_btoi_A (b : Bool) : Pk := ⟨[(.sc (.v (.bool b)))], []⟩
noncomputable def laws_btoi_d : Rs → Option (Int)
 | ⟨(.a (.sc (.v (.int .i64 r1)))), []⟩ => some r1
 | _ => none
theorem laws_btoi_i {r : Rs} {y : Int} (h : laws_btoi_d r = some y) : r = ⟨(.a (.sc (.v (.int .i64 y)))), []⟩ := by
 unfold laws_btoi_d at h; split at h
 · cases h; rfl
 · cases h
theorem laws_btoi_e (k : Nat) (b : Bool) : callF env (laws_btoi_O k) laws_btoi_v Try.f32 (k + 1) (laws_btoi_A b) (fun r => laws_btoi_d (r.fin 0 [])) = laws_btoi k b := by kernel_rfl
noncomputable def laws_btoi_x (k : Nat) : Ent1 := fun A R Q => match A with
 | ⟨[(.sc (.v (.bool a1)))], []⟩ => (laws_btoi k a1).bind fun y => Q ⟨(.a (.sc (.v (.int .i64 y)))), []⟩
 | _ => none
theorem laws_btoi_ok (k : Nat) : OkE Try.prog 32 (laws_btoi_x k) := by
 intro A R Q x h
 unfold laws_btoi_x at h
 split at h
 · obtain ⟨y, hy, hK⟩ := Option.bind_eq_some_iff.1 h
   obtain ⟨r, hr, hd⟩ := callF_ok envOk (laws_btoi_Ok k) follows Try.func32 (by kernel_rfl) ((laws_btoi_e k _).trans hy)
   exact ⟨_, laws_btoi_i hd ▸ hr.fin [], hK⟩
 · cases h
/-! ### laws.FnBooks: function 7 -/
noncomputable def laws_FnBooks_j0 (k : Nat)  (y2 : Book) (y10 : Rack × Int × Int × Int × Bool) (x0_0 : Int) : Option (Bool) :=
 cond y10.2.2.2.2
 (cond (decide ((y10.1.Old : Int) = 0))
  (cond (decide ((y10.2.1 : Int) = 0))
   (cond (decide ((y10.2.2.1 : Int) = y2.Rack.Old))
    (cond (decide ((y10.2.2.2.1 : Int) = 0))
     ((impl_BookOk k (⟨y2.Events, y2.Rack, (wr (y2.Baked + 1)), y2.Sold, y2.Thrown⟩ : Book)).bind fun y14 =>
      cond (!y14)
       ((impl_DaysIn k y2).bind fun y15 =>
        some (decide ((y15 : Int) = x0_0)))
       (some false))
     (some false))
    (some false))
   (some false))
  (some false))
 (some false)
noncomputable def laws_FnBooks_j1 (k : Nat)  (y2 : Book) (y5 : Book × Bool) (y8 : Book × Bool) (y9 : Book × Bool) (y10 : Rack × Int × Int × Int × Bool) (x0_0 : Int) : Option (Bool) :=
 cond (!y8.2)
 (cond (y9.2 == y5.2)
  (cond (!y9.2)
   (laws_FnBooks_j0 k y2 y10 x0_0)
   (cond (decide ((y9.1.Thrown : Int) = (wr (y2.Thrown + y2.Rack.Old))))
    (cond (decide ((y9.1.Rack.Day : Int) = y2.Rack.Fresh))
     (laws_FnBooks_j0 k y2 y10 x0_0)
     (some false))
    (some false)))
  (some false))
 (some false)
noncomputable def laws_FnBooks_j2 (k : Nat) (J0 : (List Int) → Book → Book × Bool → Book × Bool → Book × Bool → Book × Bool → Rack × Int × Int × Int × Bool → Int → Int → Option (Bool)) (code : (List Int)) (y2 : Book) (y5 : Book × Bool) : Option (Bool) :=
 (impl_Enter k y2 (⟨2, (wr (y2.Rack.Fresh + y2.Rack.Day))⟩ : Event)).bind fun y7 =>
 (impl_Enter k y2 (⟨2, (wr ((wr (y2.Rack.Fresh + y2.Rack.Day)) + 1))⟩ : Event)).bind fun y8 =>
  (impl_Enter k y2 (⟨4, 0⟩ : Event)).bind fun y9 =>
   (impl_EventOn k y2.Rack (⟨3, y2.Rack.Old⟩ : Event)).bind fun y10 =>
    J0 code y2 y5 y7 y8 y9 y10 0 0
noncomputable def laws_FnBooks_s0 (k : Nat)  (code : (List Int)) (y2 : Book) (y5 : Book × Bool) (y7 : Book × Bool) (y8 : Book × Bool) (y9 : Book × Bool) (y10 : Rack × Int × Int × Int × Bool) (J : Int → Int → Option (Bool)) (x0_0 : Int) (x0_1 : Int) : Option (Bool) :=
 cond (decide ((x0_1 : Int) < ((y2.Events).length : Int)))
 (if 0 ≤ (x0_1 : Int) ∧ (x0_1 : Int) < ((y2.Events).length : Int) then
  (laws_btoi k (decide (((y2.Events.getD (Int.toNat x0_1) dk_impl_Event).Kind : Int) = 4))).bind fun y16 =>
   J (wr (x0_0 + y16)) (wr (x0_1 + 1)) else none)
 (cond (y7.2 == y5.2)
  (cond (!y7.2)
   (laws_FnBooks_j1 k y2 y5 y8 y9 y10 x0_0)
   (cond (decide ((y7.1.Rack.Fresh : Int) = 0))
    (cond (decide ((y7.1.Rack.Day : Int) = 0))
     (cond (decide ((y7.1.Sold : Int) = (wr ((wr (y2.Sold + y2.Rack.Fresh)) + y2.Rack.Day))))
      (laws_FnBooks_j1 k y2 y5 y8 y9 y10 x0_0)
      (some false))
     (some false))
    (some false)))
  (some false))
noncomputable def laws_FnBooks_l0 (k : Nat) : Nat → (List Int) → Book → Book × Bool → Book × Bool → Book × Bool → Book × Bool → Rack × Int × Int × Int × Bool → Int → Int → Option (Bool)
 | 0, code, y2, y5, y7, y8, y9, y10, x0_0, x0_1 => laws_FnBooks_s0 k code y2 y5 y7 y8 y9 y10 (fun _ _ => none) x0_0 x0_1
 | m + 1, code, y2, y5, y7, y8, y9, y10, x0_0, x0_1 => laws_FnBooks_s0 k code y2 y5 y7 y8 y9 y10 (laws_FnBooks_l0 k m code y2 y5 y7 y8 y9 y10) x0_0 x0_1
noncomputable def laws_FnBooks_m (k : Nat) (J0 : (List Int) → Book → Book × Bool → Book × Bool → Book × Bool → Book × Bool → Rack × Int × Int × Int × Bool → Int → Int → Option (Bool)) (code : (List Int)) : Option (Bool) :=
 (laws_big k code).bind fun y1 =>
 cond y1
  (some true)
  ((spec_DrawBook k code).bind fun y2 =>
   (impl_BookOk k y2).bind fun y3 =>
    cond (!y3)
     (some false)
     (cond (!(decide ((y2.Baked : Int) = (wr ((wr ((wr ((wr (y2.Sold + y2.Thrown)) + y2.Rack.Fresh)) + y2.Rack.Day)) + y2.Rack.Old)))))
      (some false)
      ((laws_at k code 0).bind fun y4 =>
       if (50 : Int) ≠ 0 then
        (impl_Enter k y2 (⟨1, (Int.tmod y4 50)⟩ : Event)).bind fun y5 =>
        cond (!(y5.2 == (decide ((((y2.Events).length : Int) : Int) < 40))))
        (some false)
        (cond y5.2
        ((impl_Strike k y5.1).bind fun y6 =>
        cond (!(decide ((y5.1.Rack.Fresh : Int) = (wr (y2.Rack.Fresh + (Int.tmod y4 50))))))
        (some false)
        (cond (!(decide ((y5.1.Baked : Int) = (wr (y2.Baked + (Int.tmod y4 50))))))
        (some false)
        (cond (!y6.2)
        (some false)
        (cond (!((decide ((y6.1.Rack.Fresh : Int) = y2.Rack.Fresh) && (decide ((y6.1.Rack.Day : Int) = y2.Rack.Day) && decide ((y6.1.Rack.Old : Int) = y2.Rack.Old)))))
        (some false)
        (cond (!(decide ((y6.1.Baked : Int) = y2.Baked)))
        (some false)
        (cond (!(decide ((((y6.1.Events).length : Int) : Int) = ((y2.Events).length : Int))))
        (some false)
        (laws_FnBooks_j2 k J0 code y2 y5)))))))
        (laws_FnBooks_j2 k J0 code y2 y5)) else none)))
noncomputable def laws_FnBooks (k : Nat) (code : (List Int)) : Option (Bool) := laws_FnBooks_m k (laws_FnBooks_l0 k k) code
noncomputable def laws_FnBooks_v : Nat → List Nat := fun t => match t with | 23 => [2, 3, 4, 7, 10, 11, 13, 14, 15, 16, 17, 18, 19, 20, 21, 22, 23] | _ => []
noncomputable def laws_FnBooks_O (k : Nat) : Oracle := ofL [(15, impl_BookOk_x k), (17, laws_at_x k), (28, spec_DrawBook_x k), (29, impl_Enter_x k), (30, impl_Strike_x k), (31, impl_EventOn_x k), (32, laws_btoi_x k), (33, impl_DaysIn_x k), (8, laws_big_x k)]
theorem laws_FnBooks_Ok (k : Nat) : OkO (Ct Try.prog) (laws_FnBooks_O k) := okO_cons (impl_BookOk_ok k) (okO_cons (laws_at_ok k) (okO_cons (spec_DrawBook_ok k) (okO_cons (impl_Enter_ok k) (okO_cons (impl_Strike_ok k) (okO_cons (impl_EventOn_ok k) (okO_cons (laws_btoi_ok k) (okO_cons (impl_DaysIn_ok k) (okO_cons (laws_big_ok k) (okO_nil)))))))))
noncomputable def laws_FnBooks_A (code : (List Int)) : Pk := ⟨[(.sc (.sl 0))], [(.row false K.ku8 code)]⟩
noncomputable def laws_FnBooks_d : Rs → Option (Bool)
 | ⟨(.a (.sc (.v (.bool r1)))), [.dead]⟩ => some r1
 | _ => none
theorem laws_FnBooks_i {r : Rs} {y : Bool} (h : laws_FnBooks_d r = some y) : r = ⟨(.a (.sc (.v (.bool y)))), [.dead]⟩ := by
 unfold laws_FnBooks_d at h; split at h
 · cases h; rfl
 · cases h
noncomputable def laws_FnBooks_h0 (k m : Nat) (code : (List Int)) (y2 : Book) (y5 : Book × Bool) (y7 : Book × Bool) (y8 : Book × Bool) (y9 : Book × Bool) (y10 : Rack × Int × Int × Int × Bool) (x0_0 : Int) (x0_1 : Int) : Option (Bool) := hdAt env (laws_FnBooks_O k) laws_FnBooks_v Try.f7 1 (fun r => laws_FnBooks_d (r.fin 1 [])) [1, 1, 1, 1, 1, 1, 1, 1, 1, 1, 1, 1, 1, 1, 1, 1, 0, 1, 0] k m ⟨tmF [2, 3, 4, 7, 10, 11, 13, 14, 15, 16, 17, 18, 19, 20, 21, 22, 23] [(.a (.sc (.v (.bool false)))), (.a (.sc (.bp 2 0))), (.a (.sc (.bp 3 0))), (.a (.sc (.v (.bool y5.2)))), (.a (.sc (.bp 5 0))), (.a (.sc (.v (.bool y7.2)))), (.a (.sc (.v (.bool y8.2)))), (.a (.sc (.bp 7 0))), (.a (.sc (.v (.bool y9.2)))), (.a (.sc (.bp 8 0))), (.a (.sc (.v (.int .i64 y10.2.1)))), (.a (.sc (.v (.int .i64 y10.2.2.1)))), (.a (.sc (.v (.int .i64 y10.2.2.2.1)))), (.a (.sc (.v (.bool y10.2.2.2.2)))), (.a (.sc (.bp 9 0))), (.a (.sc (.v (.int .i64 x0_0)))), (.a (.sc (.v (.int .i64 x0_1))))], blF [(.row false K.ku8 code), (.row true K.k_impl_Event y2.Events), (.box true [(.sl 1), (.v (.int .i64 y2.Rack.Fresh)), (.v (.int .i64 y2.Rack.Day)), (.v (.int .i64 y2.Rack.Old)), (.v (.int .i64 y2.Baked)), (.v (.int .i64 y2.Sold)), (.v (.int .i64 y2.Thrown))]), (.box true [(.v (.int .i64 y2.Rack.Fresh)), (.v (.int .i64 y2.Rack.Day)), (.v (.int .i64 y2.Rack.Old))]), (.row true K.k_impl_Event y7.1.Events), (.box true [(.sl 4), (.v (.int .i64 y7.1.Rack.Fresh)), (.v (.int .i64 y7.1.Rack.Day)), (.v (.int .i64 y7.1.Rack.Old)), (.v (.int .i64 y7.1.Baked)), (.v (.int .i64 y7.1.Sold)), (.v (.int .i64 y7.1.Thrown))]), (.row true K.k_impl_Event y9.1.Events), (.box true [(.sl 6), (.v (.int .i64 y9.1.Rack.Fresh)), (.v (.int .i64 y9.1.Rack.Day)), (.v (.int .i64 y9.1.Rack.Old)), (.v (.int .i64 y9.1.Baked)), (.v (.int .i64 y9.1.Sold)), (.v (.int .i64 y9.1.Thrown))]), (.box true [(.v (.int .i64 y10.1.Fresh)), (.v (.int .i64 y10.1.Day)), (.v (.int .i64 y10.1.Old))]), (.box true [(.sl 1), (.v (.int .i64 y2.Rack.Fresh)), (.v (.int .i64 y2.Rack.Day)), (.v (.int .i64 y2.Rack.Old)), (.v (.int .i64 (wr (y2.Baked + 1)))), (.v (.int .i64 y2.Sold)), (.v (.int .i64 y2.Thrown))])]⟩
theorem laws_FnBooks_z0 (k : Nat) (code : (List Int)) (y2 : Book) (y5 : Book × Bool) (y7 : Book × Bool) (y8 : Book × Bool) (y9 : Book × Bool) (y10 : Rack × Int × Int × Int × Bool) (x0_0 : Int) (x0_1 : Int) : laws_FnBooks_h0 k 0 code y2 y5 y7 y8 y9 y10 x0_0 x0_1 = laws_FnBooks_s0 k code y2 y5 y7 y8 y9 y10 (fun _ _ => none) x0_0 x0_1 := by kernel_rfl
theorem laws_FnBooks_g0 (k : Nat) (H : St → Option (Bool)) (code : (List Int)) (y2 : Book) (y5 : Book × Bool) (y7 : Book × Bool) (y8 : Book × Bool) (y9 : Book × Bool) (y10 : Rack × Int × Int × Int × Bool) (x0_0 : Int) (x0_1 : Int) : rnd env (laws_FnBooks_O k) laws_FnBooks_v Try.f7 1 (fun r => laws_FnBooks_d (r.fin 1 [])) [1, 1, 1, 1, 1, 1, 1, 1, 1, 1, 1, 1, 1, 1, 1, 1, 0, 1, 0] k H ⟨tmF [2, 3, 4, 7, 10, 11, 13, 14, 15, 16, 17, 18, 19, 20, 21, 22, 23] [(.a (.sc (.v (.bool false)))), (.a (.sc (.bp 2 0))), (.a (.sc (.bp 3 0))), (.a (.sc (.v (.bool y5.2)))), (.a (.sc (.bp 5 0))), (.a (.sc (.v (.bool y7.2)))), (.a (.sc (.v (.bool y8.2)))), (.a (.sc (.bp 7 0))), (.a (.sc (.v (.bool y9.2)))), (.a (.sc (.bp 8 0))), (.a (.sc (.v (.int .i64 y10.2.1)))), (.a (.sc (.v (.int .i64 y10.2.2.1)))), (.a (.sc (.v (.int .i64 y10.2.2.2.1)))), (.a (.sc (.v (.bool y10.2.2.2.2)))), (.a (.sc (.bp 9 0))), (.a (.sc (.v (.int .i64 x0_0)))), (.a (.sc (.v (.int .i64 x0_1))))], blF [(.row false K.ku8 code), (.row true K.k_impl_Event y2.Events), (.box true [(.sl 1), (.v (.int .i64 y2.Rack.Fresh)), (.v (.int .i64 y2.Rack.Day)), (.v (.int .i64 y2.Rack.Old)), (.v (.int .i64 y2.Baked)), (.v (.int .i64 y2.Sold)), (.v (.int .i64 y2.Thrown))]), (.box true [(.v (.int .i64 y2.Rack.Fresh)), (.v (.int .i64 y2.Rack.Day)), (.v (.int .i64 y2.Rack.Old))]), (.row true K.k_impl_Event y7.1.Events), (.box true [(.sl 4), (.v (.int .i64 y7.1.Rack.Fresh)), (.v (.int .i64 y7.1.Rack.Day)), (.v (.int .i64 y7.1.Rack.Old)), (.v (.int .i64 y7.1.Baked)), (.v (.int .i64 y7.1.Sold)), (.v (.int .i64 y7.1.Thrown))]), (.row true K.k_impl_Event y9.1.Events), (.box true [(.sl 6), (.v (.int .i64 y9.1.Rack.Fresh)), (.v (.int .i64 y9.1.Rack.Day)), (.v (.int .i64 y9.1.Rack.Old)), (.v (.int .i64 y9.1.Baked)), (.v (.int .i64 y9.1.Sold)), (.v (.int .i64 y9.1.Thrown))]), (.box true [(.v (.int .i64 y10.1.Fresh)), (.v (.int .i64 y10.1.Day)), (.v (.int .i64 y10.1.Old))]), (.box true [(.sl 1), (.v (.int .i64 y2.Rack.Fresh)), (.v (.int .i64 y2.Rack.Day)), (.v (.int .i64 y2.Rack.Old)), (.v (.int .i64 (wr (y2.Baked + 1)))), (.v (.int .i64 y2.Sold)), (.v (.int .i64 y2.Thrown))])]⟩ = laws_FnBooks_s0 k code y2 y5 y7 y8 y9 y10 (fun x0_0 x0_1 => H ⟨tmF [2, 3, 4, 7, 10, 11, 13, 14, 15, 16, 17, 18, 19, 20, 21, 22, 23] [(.a (.sc (.v (.bool false)))), (.a (.sc (.bp 2 0))), (.a (.sc (.bp 3 0))), (.a (.sc (.v (.bool y5.2)))), (.a (.sc (.bp 5 0))), (.a (.sc (.v (.bool y7.2)))), (.a (.sc (.v (.bool y8.2)))), (.a (.sc (.bp 7 0))), (.a (.sc (.v (.bool y9.2)))), (.a (.sc (.bp 8 0))), (.a (.sc (.v (.int .i64 y10.2.1)))), (.a (.sc (.v (.int .i64 y10.2.2.1)))), (.a (.sc (.v (.int .i64 y10.2.2.2.1)))), (.a (.sc (.v (.bool y10.2.2.2.2)))), (.a (.sc (.bp 9 0))), (.a (.sc (.v (.int .i64 x0_0)))), (.a (.sc (.v (.int .i64 x0_1))))], blF [(.row false K.ku8 code), (.row true K.k_impl_Event y2.Events), (.box true [(.sl 1), (.v (.int .i64 y2.Rack.Fresh)), (.v (.int .i64 y2.Rack.Day)), (.v (.int .i64 y2.Rack.Old)), (.v (.int .i64 y2.Baked)), (.v (.int .i64 y2.Sold)), (.v (.int .i64 y2.Thrown))]), (.box true [(.v (.int .i64 y2.Rack.Fresh)), (.v (.int .i64 y2.Rack.Day)), (.v (.int .i64 y2.Rack.Old))]), (.row true K.k_impl_Event y7.1.Events), (.box true [(.sl 4), (.v (.int .i64 y7.1.Rack.Fresh)), (.v (.int .i64 y7.1.Rack.Day)), (.v (.int .i64 y7.1.Rack.Old)), (.v (.int .i64 y7.1.Baked)), (.v (.int .i64 y7.1.Sold)), (.v (.int .i64 y7.1.Thrown))]), (.row true K.k_impl_Event y9.1.Events), (.box true [(.sl 6), (.v (.int .i64 y9.1.Rack.Fresh)), (.v (.int .i64 y9.1.Rack.Day)), (.v (.int .i64 y9.1.Rack.Old)), (.v (.int .i64 y9.1.Baked)), (.v (.int .i64 y9.1.Sold)), (.v (.int .i64 y9.1.Thrown))]), (.box true [(.v (.int .i64 y10.1.Fresh)), (.v (.int .i64 y10.1.Day)), (.v (.int .i64 y10.1.Old))]), (.box true [(.sl 1), (.v (.int .i64 y2.Rack.Fresh)), (.v (.int .i64 y2.Rack.Day)), (.v (.int .i64 y2.Rack.Old)), (.v (.int .i64 (wr (y2.Baked + 1)))), (.v (.int .i64 y2.Sold)), (.v (.int .i64 y2.Thrown))])]⟩) x0_0 x0_1 := by kernel_rfl
theorem laws_FnBooks_n0 (k m : Nat) (code : (List Int)) (y2 : Book) (y5 : Book × Bool) (y7 : Book × Bool) (y8 : Book × Bool) (y9 : Book × Bool) (y10 : Rack × Int × Int × Int × Bool) (x0_0 : Int) (x0_1 : Int) : laws_FnBooks_h0 k (m + 1) code y2 y5 y7 y8 y9 y10 x0_0 x0_1 = laws_FnBooks_s0 k code y2 y5 y7 y8 y9 y10 (laws_FnBooks_h0 k m code y2 y5 y7 y8 y9 y10) x0_0 x0_1 := (hdAt_succ _ _ _ _ _ _ _ _ _ _).trans (laws_FnBooks_g0 k _ code y2 y5 y7 y8 y9 y10 x0_0 x0_1)
theorem laws_FnBooks_q0 (k : Nat) : ∀ m, laws_FnBooks_h0 k m = laws_FnBooks_l0 k m := by
 intro m
 induction m with
 | zero => funext code y2 y5 y7 y8 y9 y10 x0_0 x0_1; rw [laws_FnBooks_z0]; rfl
 | succ m ih => funext code y2 y5 y7 y8 y9 y10 x0_0 x0_1; rw [laws_FnBooks_n0, ih]; rfl
theorem laws_FnBooks_e (k : Nat) (code : (List Int)) : callF env (laws_FnBooks_O k) laws_FnBooks_v Try.f7 (k + 1) (laws_FnBooks_A code) (fun r => laws_FnBooks_d (r.fin 1 [])) = laws_FnBooks k code := by
 have e : callF env (laws_FnBooks_O k) laws_FnBooks_v Try.f7 (k + 1) (laws_FnBooks_A code) (fun r => laws_FnBooks_d (r.fin 1 [])) = laws_FnBooks_m k (laws_FnBooks_h0 k k) code := by kernel_rfl
 rw [e, laws_FnBooks_q0]; rfl
noncomputable def laws_FnBooks_x (k : Nat) : Ent1 := fun A R Q => match A with
 | ⟨[(.sc (.sl 0))], [(.row false K.ku8 a1)]⟩ => (laws_FnBooks k a1).bind fun y => Q ⟨(.a (.sc (.v (.bool y)))), [.dead]⟩
 | _ => none
theorem laws_FnBooks_ok (k : Nat) : OkE Try.prog 7 (laws_FnBooks_x k) := by
 intro A R Q x h
 unfold laws_FnBooks_x at h
 split at h
 · obtain ⟨y, hy, hK⟩ := Option.bind_eq_some_iff.1 h
   obtain ⟨r, hr, hd⟩ := callF_ok envOk (laws_FnBooks_Ok k) follows Try.func7 (by kernel_rfl) ((laws_FnBooks_e k _).trans hy)
   exact ⟨_, laws_FnBooks_i hd ▸ hr.fin [], hK⟩
 · cases h
end Go.Proofs.YtlhcphoojiemmaaX
