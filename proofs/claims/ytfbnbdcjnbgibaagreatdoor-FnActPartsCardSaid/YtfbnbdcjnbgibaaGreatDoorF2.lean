/- What functions of the program compute, as functions of numbers and lists, and that they do. (The file is written by wip/x/vxp.py of this repository.) -/
import Derived.Test.YtfbnbdcjnbgibaaGreatDoorF1
namespace Go.Proofs.YtfbnbdcjnbgibaaGreatDoorX
open Go Go.Proofs
set_option linter.unusedVariables false
set_option maxRecDepth 100000
/-! ### slices.IndexFunc[[]int,int]: function 82 -/
noncomputable def slices_IndexFunc_int_int_65_s0 (k : Nat)  (s : (List Int)) (f_0 : Int) (f_1 : Int) (J : Int → Option (Int)) (x0_0 : Int) : Option (Int) :=
 cond (decide ((x0_0 : Int) < ((s).length : Int)))
 (if 0 ≤ (x0_0 : Int) ∧ (x0_0 : Int) < ((s).length : Int) then
  (impl_allIn_1 k (s.getD (Int.toNat x0_0) 0) f_0 f_1).bind fun y2 =>
   cond y2
    (some x0_0)
    (J (wr (x0_0 + 1))) else none)
 (some (-1))
noncomputable def slices_IndexFunc_int_int_65_l0 (k : Nat) : Nat → (List Int) → Int → Int → Int → Option (Int)
 | 0, s, f_0, f_1, x0_0 => slices_IndexFunc_int_int_65_s0 k s f_0 f_1 (fun _ => none) x0_0
 | m + 1, s, f_0, f_1, x0_0 => slices_IndexFunc_int_int_65_s0 k s f_0 f_1 (slices_IndexFunc_int_int_65_l0 k m s f_0 f_1) x0_0
noncomputable def slices_IndexFunc_int_int_65_m (k : Nat) (J0 : (List Int) → Int → Int → Int → Option (Int)) (s : (List Int)) (f_0 : Int) (f_1 : Int) : Option (Int) :=
 J0 s f_0 f_1 0
noncomputable def slices_IndexFunc_int_int_65 (k : Nat) (s : (List Int)) (f_0 : Int) (f_1 : Int) : Option (Int) := slices_IndexFunc_int_int_65_m k (slices_IndexFunc_int_int_65_l0 k k) s f_0 f_1
noncomputable def slices_IndexFunc_int_int_65_v : Nat → List Nat := fun t => match t with | 2 => [0, 1, 4, 7, 8] | _ => []
noncomputable def slices_IndexFunc_int_int_65_O (k : Nat) : Oracle := ofL [(65, impl_allIn_1_x k)]
theorem slices_IndexFunc_int_int_65_Ok (k : Nat) : OkO (Ct Tryz.prog) (slices_IndexFunc_int_int_65_O k) := okO_cons (impl_allIn_1_ok k) (okO_nil)
noncomputable def slices_IndexFunc_int_int_65_A (s : (List Int)) (f_0 : Int) (f_1 : Int) : Pk := ⟨[(.sc (.sl 0)), (.sc (.fn 65 [1, 2]))], [(.row false K.ki64 s), (.box false [(.v (.int .i64 f_0))]), (.box false [(.v (.int .i64 f_1))])]⟩
noncomputable def slices_IndexFunc_int_int_65_d : Rs → Option (Int)
 | ⟨(.a (.sc (.v (.int .i64 r1)))), [.dead, .dead, .dead]⟩ => some r1
 | _ => none
theorem slices_IndexFunc_int_int_65_i {r : Rs} {y : Int} (h : slices_IndexFunc_int_int_65_d r = some y) : r = ⟨(.a (.sc (.v (.int .i64 y)))), [.dead, .dead, .dead]⟩ := by
 unfold slices_IndexFunc_int_int_65_d at h; split at h
 · cases h; rfl
 · cases h
noncomputable def slices_IndexFunc_int_int_65_h0 (k m : Nat) (s : (List Int)) (f_0 : Int) (f_1 : Int) (x0_0 : Int) : Option (Int) := hdAt env (slices_IndexFunc_int_int_65_O k) slices_IndexFunc_int_int_65_v Tryz.f82 3 (fun r => slices_IndexFunc_int_int_65_d (r.fin 3 [])) [1, 0, 1, 0] k m ⟨tmF [0, 1, 4, 7, 8] [(.a (.sc (.sl 0))), (.a (.sc (.fn 65 [1, 2]))), (.a (.sc (.v (.int .i64 0)))), (.a (.sc (.v (.int .i64 ((s).length : Int))))), (.a (.sc (.v (.int .i64 x0_0))))], blF [(.row false K.ki64 s), (.box false [(.v (.int .i64 f_0))]), (.box false [(.v (.int .i64 f_1))])]⟩
theorem slices_IndexFunc_int_int_65_z0 (k : Nat) (s : (List Int)) (f_0 : Int) (f_1 : Int) (x0_0 : Int) : slices_IndexFunc_int_int_65_h0 k 0 s f_0 f_1 x0_0 = slices_IndexFunc_int_int_65_s0 k s f_0 f_1 (fun _ => none) x0_0 := by kernel_rfl
theorem slices_IndexFunc_int_int_65_g0 (k : Nat) (H : St → Option (Int)) (s : (List Int)) (f_0 : Int) (f_1 : Int) (x0_0 : Int) : rnd env (slices_IndexFunc_int_int_65_O k) slices_IndexFunc_int_int_65_v Tryz.f82 3 (fun r => slices_IndexFunc_int_int_65_d (r.fin 3 [])) [1, 0, 1, 0] k H ⟨tmF [0, 1, 4, 7, 8] [(.a (.sc (.sl 0))), (.a (.sc (.fn 65 [1, 2]))), (.a (.sc (.v (.int .i64 0)))), (.a (.sc (.v (.int .i64 ((s).length : Int))))), (.a (.sc (.v (.int .i64 x0_0))))], blF [(.row false K.ki64 s), (.box false [(.v (.int .i64 f_0))]), (.box false [(.v (.int .i64 f_1))])]⟩ = slices_IndexFunc_int_int_65_s0 k s f_0 f_1 (fun x0_0 => H ⟨tmF [0, 1, 4, 7, 8] [(.a (.sc (.sl 0))), (.a (.sc (.fn 65 [1, 2]))), (.a (.sc (.v (.int .i64 0)))), (.a (.sc (.v (.int .i64 ((s).length : Int))))), (.a (.sc (.v (.int .i64 x0_0))))], blF [(.row false K.ki64 s), (.box false [(.v (.int .i64 f_0))]), (.box false [(.v (.int .i64 f_1))])]⟩) x0_0 := by kernel_rfl
theorem slices_IndexFunc_int_int_65_n0 (k m : Nat) (s : (List Int)) (f_0 : Int) (f_1 : Int) (x0_0 : Int) : slices_IndexFunc_int_int_65_h0 k (m + 1) s f_0 f_1 x0_0 = slices_IndexFunc_int_int_65_s0 k s f_0 f_1 (slices_IndexFunc_int_int_65_h0 k m s f_0 f_1) x0_0 := (hdAt_succ _ _ _ _ _ _ _ _ _ _).trans (slices_IndexFunc_int_int_65_g0 k _ s f_0 f_1 x0_0)
theorem slices_IndexFunc_int_int_65_q0 (k : Nat) : ∀ m, slices_IndexFunc_int_int_65_h0 k m = slices_IndexFunc_int_int_65_l0 k m := by
 intro m
 induction m with
 | zero => funext s f_0 f_1 x0_0; rw [slices_IndexFunc_int_int_65_z0]; rfl
 | succ m ih => funext s f_0 f_1 x0_0; rw [slices_IndexFunc_int_int_65_n0, ih]; rfl
theorem slices_IndexFunc_int_int_65_e (k : Nat) (s : (List Int)) (f_0 : Int) (f_1 : Int) : callF env (slices_IndexFunc_int_int_65_O k) slices_IndexFunc_int_int_65_v Tryz.f82 (k + 1) (slices_IndexFunc_int_int_65_A s f_0 f_1) (fun r => slices_IndexFunc_int_int_65_d (r.fin 3 [])) = slices_IndexFunc_int_int_65 k s f_0 f_1 := by
 have e : callF env (slices_IndexFunc_int_int_65_O k) slices_IndexFunc_int_int_65_v Tryz.f82 (k + 1) (slices_IndexFunc_int_int_65_A s f_0 f_1) (fun r => slices_IndexFunc_int_int_65_d (r.fin 3 [])) = slices_IndexFunc_int_int_65_m k (slices_IndexFunc_int_int_65_h0 k k) s f_0 f_1 := by kernel_rfl
 rw [e, slices_IndexFunc_int_int_65_q0]; rfl
noncomputable def slices_IndexFunc_int_int_65_x (k : Nat) : Ent1 := fun A R Q => match A with
 | ⟨[(.sc (.sl 0)), (.sc (.fn 65 [1, 2]))], [(.row false K.ki64 a1), (.box false [(.v (.int .i64 a2))]), (.box false [(.v (.int .i64 a3))])]⟩ => (slices_IndexFunc_int_int_65 k a1 a2 a3).bind fun y => Q ⟨(.a (.sc (.v (.int .i64 y)))), [.dead, .dead, .dead]⟩
 | _ => none
theorem slices_IndexFunc_int_int_65_ok (k : Nat) : OkE Tryz.prog 82 (slices_IndexFunc_int_int_65_x k) := by
 intro A R Q x h
 unfold slices_IndexFunc_int_int_65_x at h
 split at h
 · obtain ⟨y, hy, hK⟩ := Option.bind_eq_some_iff.1 h
   obtain ⟨r, hr, hd⟩ := callF_ok envOk (slices_IndexFunc_int_int_65_Ok k) follows Tryz.func82 (by kernel_rfl) ((slices_IndexFunc_int_int_65_e k _ _ _).trans hy)
   exact ⟨_, slices_IndexFunc_int_int_65_i hd ▸ hr.fin [], hK⟩
 · cases h
/-! ### slices.ContainsFunc[[]int,int]: function 64 -/
noncomputable def slices_ContainsFunc_int_int_65 (k : Nat)  (s : (List Int)) (f_0 : Int) (f_1 : Int) : Option (Bool) :=
 (slices_IndexFunc_int_int_65 k s f_0 f_1).bind fun y1 =>
 some (decide ((0 : Int) ≤ y1))
noncomputable def slices_ContainsFunc_int_int_65_v : Nat → List Nat := fun t => match t with | _ => []
noncomputable def slices_ContainsFunc_int_int_65_O (k : Nat) : Oracle := ofL [(82, slices_IndexFunc_int_int_65_x k)]
theorem slices_ContainsFunc_int_int_65_Ok (k : Nat) : OkO (Ct Tryz.prog) (slices_ContainsFunc_int_int_65_O k) := okO_cons (slices_IndexFunc_int_int_65_ok k) (okO_nil)
noncomputable def slices_ContainsFunc_int_int_65_A (s : (List Int)) (f_0 : Int) (f_1 : Int) : Pk := ⟨[(.sc (.sl 0)), (.sc (.fn 65 [1, 2]))], [(.row false K.ki64 s), (.box false [(.v (.int .i64 f_0))]), (.box false [(.v (.int .i64 f_1))])]⟩
noncomputable def slices_ContainsFunc_int_int_65_d : Rs → Option (Bool)
 | ⟨(.a (.sc (.v (.bool r1)))), [.dead, .dead, .dead]⟩ => some r1
 | _ => none
theorem slices_ContainsFunc_int_int_65_i {r : Rs} {y : Bool} (h : slices_ContainsFunc_int_int_65_d r = some y) : r = ⟨(.a (.sc (.v (.bool y)))), [.dead, .dead, .dead]⟩ := by
 unfold slices_ContainsFunc_int_int_65_d at h; split at h
 · cases h; rfl
 · cases h
theorem slices_ContainsFunc_int_int_65_e (k : Nat) (s : (List Int)) (f_0 : Int) (f_1 : Int) : callF env (slices_ContainsFunc_int_int_65_O k) slices_ContainsFunc_int_int_65_v Tryz.f64 (k + 1) (slices_ContainsFunc_int_int_65_A s f_0 f_1) (fun r => slices_ContainsFunc_int_int_65_d (r.fin 3 [])) = slices_ContainsFunc_int_int_65 k s f_0 f_1 := by kernel_rfl
noncomputable def slices_ContainsFunc_int_int_65_x (k : Nat) : Ent1 := fun A R Q => match A with
 | ⟨[(.sc (.sl 0)), (.sc (.fn 65 [1, 2]))], [(.row false K.ki64 a1), (.box false [(.v (.int .i64 a2))]), (.box false [(.v (.int .i64 a3))])]⟩ => (slices_ContainsFunc_int_int_65 k a1 a2 a3).bind fun y => Q ⟨(.a (.sc (.v (.bool y)))), [.dead, .dead, .dead]⟩
 | _ => none
theorem slices_ContainsFunc_int_int_65_ok (k : Nat) : OkE Tryz.prog 64 (slices_ContainsFunc_int_int_65_x k) := by
 intro A R Q x h
 unfold slices_ContainsFunc_int_int_65_x at h
 split at h
 · obtain ⟨y, hy, hK⟩ := Option.bind_eq_some_iff.1 h
   obtain ⟨r, hr, hd⟩ := callF_ok envOk (slices_ContainsFunc_int_int_65_Ok k) follows Tryz.func64 (by kernel_rfl) ((slices_ContainsFunc_int_int_65_e k _ _ _).trans hy)
   exact ⟨_, slices_ContainsFunc_int_int_65_i hd ▸ hr.fin [], hK⟩
 · cases h
/-! ### impl.allIn: function 44 -/
noncomputable def impl_allIn (k : Nat)  (list : (List Int)) (low : Int) (high : Int) : Option (Bool) :=
 (slices_ContainsFunc_int_int_65 k list low high).bind fun y1 =>
 some (!y1)
noncomputable def impl_allIn_v : Nat → List Nat := fun t => match t with | _ => []
noncomputable def impl_allIn_O (k : Nat) : Oracle := ofL [(64, slices_ContainsFunc_int_int_65_x k)]
theorem impl_allIn_Ok (k : Nat) : OkO (Ct Tryz.prog) (impl_allIn_O k) := okO_cons (slices_ContainsFunc_int_int_65_ok k) (okO_nil)
noncomputable def impl_allIn_A (list : (List Int)) (low : Int) (high : Int) : Pk := ⟨[(.sc (.sl 0)), (.sc (.v (.int .i64 low))), (.sc (.v (.int .i64 high)))], [(.row false K.ki64 list)]⟩
noncomputable def impl_allIn_d : Rs → Option (Bool)
 | ⟨(.a (.sc (.v (.bool r1)))), [.dead]⟩ => some r1
 | _ => none
theorem impl_allIn_i {r : Rs} {y : Bool} (h : impl_allIn_d r = some y) : r = ⟨(.a (.sc (.v (.bool y)))), [.dead]⟩ := by
 unfold impl_allIn_d at h; split at h
 · cases h; rfl
 · cases h
theorem impl_allIn_e (k : Nat) (list : (List Int)) (low : Int) (high : Int) : callF env (impl_allIn_O k) impl_allIn_v Tryz.f44 (k + 1) (impl_allIn_A list low high) (fun r => impl_allIn_d (r.fin 1 [])) = impl_allIn k list low high := by kernel_rfl
noncomputable def impl_allIn_x (k : Nat) : Ent1 := fun A R Q => match A with
 | ⟨[(.sc (.sl 0)), (.sc (.v (.int .i64 a2))), (.sc (.v (.int .i64 a3)))], [(.row false K.ki64 a1)]⟩ => (impl_allIn k a1 a2 a3).bind fun y => Q ⟨(.a (.sc (.v (.bool y)))), [.dead]⟩
 | _ => none
theorem impl_allIn_ok (k : Nat) : OkE Tryz.prog 44 (impl_allIn_x k) := by
 intro A R Q x h
 unfold impl_allIn_x at h
 split at h
 · obtain ⟨y, hy, hK⟩ := Option.bind_eq_some_iff.1 h
   obtain ⟨r, hr, hd⟩ := callF_ok envOk (impl_allIn_Ok k) follows Tryz.func44 (by kernel_rfl) ((impl_allIn_e k _ _ _).trans hy)
   exact ⟨_, impl_allIn_i hd ▸ hr.fin [], hK⟩
 · cases h
/-! ### impl.StoreOk: function 26 -/
noncomputable def impl_StoreOk (k : Nat)  (s : Stock) : Option (Bool) :=
 cond (decide ((((s.Grams).length : Int) : Int) = 4))
 ((impl_allIn k s.Grams 0 1000000).bind fun y1 =>
  some y1)
 (some false)
noncomputable def impl_StoreOk_v : Nat → List Nat := fun t => match t with | _ => []
noncomputable def impl_StoreOk_O (k : Nat) : Oracle := ofL [(44, impl_allIn_x k)]
theorem impl_StoreOk_Ok (k : Nat) : OkO (Ct Tryz.prog) (impl_StoreOk_O k) := okO_cons (impl_allIn_ok k) (okO_nil)
noncomputable def impl_StoreOk_A (s : Stock) : Pk := ⟨[(.ag [(.sl 0)])], [(.row false K.ki64 s.Grams)]⟩
noncomputable def impl_StoreOk_d : Rs → Option (Bool)
 | ⟨(.a (.sc (.v (.bool r1)))), [.dead]⟩ => some r1
 | _ => none
theorem impl_StoreOk_i {r : Rs} {y : Bool} (h : impl_StoreOk_d r = some y) : r = ⟨(.a (.sc (.v (.bool y)))), [.dead]⟩ := by
 unfold impl_StoreOk_d at h; split at h
 · cases h; rfl
 · cases h
theorem impl_StoreOk_e (k : Nat) (s : Stock) : callF env (impl_StoreOk_O k) impl_StoreOk_v Tryz.f26 (k + 1) (impl_StoreOk_A s) (fun r => impl_StoreOk_d (r.fin 1 [])) = impl_StoreOk k s := by kernel_rfl
noncomputable def impl_StoreOk_x (k : Nat) : Ent1 := fun A R Q => match A with
 | ⟨[(.ag [(.sl 0)])], [(.row false K.ki64 a1)]⟩ => (impl_StoreOk k (⟨a1⟩ : Stock)).bind fun y => Q ⟨(.a (.sc (.v (.bool y)))), [.dead]⟩
 | _ => none
theorem impl_StoreOk_ok (k : Nat) : OkE Tryz.prog 26 (impl_StoreOk_x k) := by
 intro A R Q x h
 unfold impl_StoreOk_x at h
 split at h
 · obtain ⟨y, hy, hK⟩ := Option.bind_eq_some_iff.1 h
   obtain ⟨r, hr, hd⟩ := callF_ok envOk (impl_StoreOk_Ok k) follows Tryz.func26 (by kernel_rfl) ((impl_StoreOk_e k _).trans hy)
   exact ⟨_, impl_StoreOk_i hd ▸ hr.fin [], hK⟩
 · cases h
/-! ### impl.DoughOk: function 27 -/
noncomputable def impl_DoughOk (k : Nat)  (d : Dough) : Option (Bool) :=
 (impl_in k d.Water 300 1200).bind fun y1 =>
 cond y1
  ((impl_in k d.Salt 0 50).bind fun y2 =>
   cond y2
    ((impl_in k d.Leaven 0 500).bind fun y3 =>
     some y3)
    (some false))
  (some false)
noncomputable def impl_DoughOk_v : Nat → List Nat := fun t => match t with | _ => []
noncomputable def impl_DoughOk_O (k : Nat) : Oracle := ofL [(30, impl_in_x k)]
theorem impl_DoughOk_Ok (k : Nat) : OkO (Ct Tryz.prog) (impl_DoughOk_O k) := okO_cons (impl_in_ok k) (okO_nil)
noncomputable def impl_DoughOk_A (d : Dough) : Pk := ⟨[(.ag [(.v (.int .i64 d.Water)), (.v (.int .i64 d.Salt)), (.v (.int .i64 d.Leaven))])], []⟩
noncomputable def impl_DoughOk_d : Rs → Option (Bool)
 | ⟨(.a (.sc (.v (.bool r1)))), []⟩ => some r1
 | _ => none
theorem impl_DoughOk_i {r : Rs} {y : Bool} (h : impl_DoughOk_d r = some y) : r = ⟨(.a (.sc (.v (.bool y)))), []⟩ := by
 unfold impl_DoughOk_d at h; split at h
 · cases h; rfl
 · cases h
theorem impl_DoughOk_e (k : Nat) (d : Dough) : callF env (impl_DoughOk_O k) impl_DoughOk_v Tryz.f27 (k + 1) (impl_DoughOk_A d) (fun r => impl_DoughOk_d (r.fin 0 [])) = impl_DoughOk k d := by kernel_rfl
noncomputable def impl_DoughOk_x (k : Nat) : Ent1 := fun A R Q => match A with
 | ⟨[(.ag [(.v (.int .i64 a1)), (.v (.int .i64 a2)), (.v (.int .i64 a3))])], []⟩ => (impl_DoughOk k (⟨a1, a2, a3⟩ : Dough)).bind fun y => Q ⟨(.a (.sc (.v (.bool y)))), []⟩
 | _ => none
theorem impl_DoughOk_ok (k : Nat) : OkE Tryz.prog 27 (impl_DoughOk_x k) := by
 intro A R Q x h
 unfold impl_DoughOk_x at h
 split at h
 · obtain ⟨y, hy, hK⟩ := Option.bind_eq_some_iff.1 h
   obtain ⟨r, hr, hd⟩ := callF_ok envOk (impl_DoughOk_Ok k) follows Tryz.func27 (by kernel_rfl) ((impl_DoughOk_e k _).trans hy)
   exact ⟨_, impl_DoughOk_i hd ▸ hr.fin [], hK⟩
 · cases h
/-! ### impl.LoafOk: function 28 -/
noncomputable def impl_LoafOk (k : Nat)  (l : Loaf) : Option (Bool) :=
 (impl_in k l.Weight 10 5000).bind fun y1 =>
 cond y1
  ((impl_in k l.Loss 0 40).bind fun y2 =>
   some y2)
  (some false)
noncomputable def impl_LoafOk_v : Nat → List Nat := fun t => match t with | _ => []
noncomputable def impl_LoafOk_O (k : Nat) : Oracle := ofL [(30, impl_in_x k)]
theorem impl_LoafOk_Ok (k : Nat) : OkO (Ct Tryz.prog) (impl_LoafOk_O k) := okO_cons (impl_in_ok k) (okO_nil)
noncomputable def impl_LoafOk_A (l : Loaf) : Pk := ⟨[(.ag [(.v (.int .i64 l.Weight)), (.v (.int .i64 l.Loss))])], []⟩
noncomputable def impl_LoafOk_d : Rs → Option (Bool)
 | ⟨(.a (.sc (.v (.bool r1)))), []⟩ => some r1
 | _ => none
theorem impl_LoafOk_i {r : Rs} {y : Bool} (h : impl_LoafOk_d r = some y) : r = ⟨(.a (.sc (.v (.bool y)))), []⟩ := by
 unfold impl_LoafOk_d at h; split at h
 · cases h; rfl
 · cases h
theorem impl_LoafOk_e (k : Nat) (l : Loaf) : callF env (impl_LoafOk_O k) impl_LoafOk_v Tryz.f28 (k + 1) (impl_LoafOk_A l) (fun r => impl_LoafOk_d (r.fin 0 [])) = impl_LoafOk k l := by kernel_rfl
noncomputable def impl_LoafOk_x (k : Nat) : Ent1 := fun A R Q => match A with
 | ⟨[(.ag [(.v (.int .i64 a1)), (.v (.int .i64 a2))])], []⟩ => (impl_LoafOk k (⟨a1, a2⟩ : Loaf)).bind fun y => Q ⟨(.a (.sc (.v (.bool y)))), []⟩
 | _ => none
theorem impl_LoafOk_ok (k : Nat) : OkE Tryz.prog 28 (impl_LoafOk_x k) := by
 intro A R Q x h
 unfold impl_LoafOk_x at h
 split at h
 · obtain ⟨y, hy, hK⟩ := Option.bind_eq_some_iff.1 h
   obtain ⟨r, hr, hd⟩ := callF_ok envOk (impl_LoafOk_Ok k) follows Tryz.func28 (by kernel_rfl) ((impl_LoafOk_e k _).trans hy)
   exact ⟨_, impl_LoafOk_i hd ▸ hr.fin [], hK⟩
 · cases h
/-! ### impl.RackOk: function 83 -/
noncomputable def impl_RackOk (k : Nat)  (r : Rack) : Option (Bool) :=
 (impl_allIn k ([r.Fresh, r.Day, r.Old]) 0 10000).bind fun y1 =>
 some y1
noncomputable def impl_RackOk_v : Nat → List Nat := fun t => match t with | _ => []
noncomputable def impl_RackOk_O (k : Nat) : Oracle := ofL [(44, impl_allIn_x k)]
theorem impl_RackOk_Ok (k : Nat) : OkO (Ct Tryz.prog) (impl_RackOk_O k) := okO_cons (impl_allIn_ok k) (okO_nil)
noncomputable def impl_RackOk_A (r : Rack) : Pk := ⟨[(.ag [(.v (.int .i64 r.Fresh)), (.v (.int .i64 r.Day)), (.v (.int .i64 r.Old))])], []⟩
noncomputable def impl_RackOk_d : Rs → Option (Bool)
 | ⟨(.a (.sc (.v (.bool r1)))), []⟩ => some r1
 | _ => none
theorem impl_RackOk_i {r : Rs} {y : Bool} (h : impl_RackOk_d r = some y) : r = ⟨(.a (.sc (.v (.bool y)))), []⟩ := by
 unfold impl_RackOk_d at h; split at h
 · cases h; rfl
 · cases h
theorem impl_RackOk_e (k : Nat) (r : Rack) : callF env (impl_RackOk_O k) impl_RackOk_v Tryz.f83 (k + 1) (impl_RackOk_A r) (fun r => impl_RackOk_d (r.fin 0 [])) = impl_RackOk k r := by kernel_rfl
noncomputable def impl_RackOk_x (k : Nat) : Ent1 := fun A R Q => match A with
 | ⟨[(.ag [(.v (.int .i64 a1)), (.v (.int .i64 a2)), (.v (.int .i64 a3))])], []⟩ => (impl_RackOk k (⟨a1, a2, a3⟩ : Rack)).bind fun y => Q ⟨(.a (.sc (.v (.bool y)))), []⟩
 | _ => none
theorem impl_RackOk_ok (k : Nat) : OkE Tryz.prog 83 (impl_RackOk_x k) := by
 intro A R Q x h
 unfold impl_RackOk_x at h
 split at h
 · obtain ⟨y, hy, hK⟩ := Option.bind_eq_some_iff.1 h
   obtain ⟨r, hr, hd⟩ := callF_ok envOk (impl_RackOk_Ok k) follows Tryz.func83 (by kernel_rfl) ((impl_RackOk_e k _).trans hy)
   exact ⟨_, impl_RackOk_i hd ▸ hr.fin [], hK⟩
 · cases h
/-! ### impl.taken: function 92 -/
noncomputable def impl_taken (k : Nat)  (first : Int) (second : Int) (n : Int) : Option (Int × Int × Int) :=
 some ((wr (first - (mn first n))), (wr (second - (mn second (wr (n - (mn first n)))))), (wr ((mn first n) + (mn second (wr (n - (mn first n)))))))
noncomputable def impl_taken_v : Nat → List Nat := fun t => match t with | _ => []
noncomputable def impl_taken_O (k : Nat) : Oracle := ofL []
theorem impl_taken_Ok (k : Nat) : OkO (Ct Tryz.prog) (impl_taken_O k) := okO_nil
noncomputable def impl_taken_A (first : Int) (second : Int) (n : Int) : Pk := ⟨[(.sc (.v (.int .i64 first))), (.sc (.v (.int .i64 second))), (.sc (.v (.int .i64 n)))], []⟩
noncomputable def impl_taken_d : Rs → Option (Int × Int × Int)
 | ⟨(.tp [(.sc (.v (.int .i64 r1))), (.sc (.v (.int .i64 r2))), (.sc (.v (.int .i64 r3)))]), []⟩ => some (r1, r2, r3)
 | _ => none
theorem impl_taken_i {r : Rs} {y : Int × Int × Int} (h : impl_taken_d r = some y) : r = ⟨(.tp [(.sc (.v (.int .i64 y.1))), (.sc (.v (.int .i64 y.2.1))), (.sc (.v (.int .i64 y.2.2)))]), []⟩ := by
 unfold impl_taken_d at h; split at h
 · cases h; rfl
 · cases h
theorem impl_taken_e (k : Nat) (first : Int) (second : Int) (n : Int) : callF env (impl_taken_O k) impl_taken_v Tryz.f92 (k + 1) (impl_taken_A first second n) (fun r => impl_taken_d (r.fin 0 [])) = impl_taken k first second n := by kernel_rfl
noncomputable def impl_taken_x (k : Nat) : Ent1 := fun A R Q => match A with
 | ⟨[(.sc (.v (.int .i64 a1))), (.sc (.v (.int .i64 a2))), (.sc (.v (.int .i64 a3)))], []⟩ => (impl_taken k a1 a2 a3).bind fun y => Q ⟨(.tp [(.sc (.v (.int .i64 y.1))), (.sc (.v (.int .i64 y.2.1))), (.sc (.v (.int .i64 y.2.2)))]), []⟩
 | _ => none
theorem impl_taken_ok (k : Nat) : OkE Tryz.prog 92 (impl_taken_x k) := by
 intro A R Q x h
 unfold impl_taken_x at h
 split at h
 · obtain ⟨y, hy, hK⟩ := Option.bind_eq_some_iff.1 h
   obtain ⟨r, hr, hd⟩ := callF_ok envOk (impl_taken_Ok k) follows Tryz.func92 (by kernel_rfl) ((impl_taken_e k _ _ _).trans hy)
   exact ⟨_, impl_taken_i hd ▸ hr.fin [], hK⟩
 · cases h
/-! ### impl.SellFresh: function 84 -/
noncomputable def impl_SellFresh (k : Nat)  (r : Rack) (n : Int) : Option (Rack × Int) :=
 (impl_RackOk k r).bind fun y1 =>
 cond (!y1)
  (some (r, (-1)))
  ((impl_in k n 0 10000).bind fun y2 =>
   cond (!y2)
    (some (r, (-1)))
    ((impl_taken k r.Fresh r.Day n).bind fun y3 =>
     some ((⟨y3.1, y3.2.1, r.Old⟩ : Rack), y3.2.2)))
noncomputable def impl_SellFresh_v : Nat → List Nat := fun t => match t with | _ => []
noncomputable def impl_SellFresh_O (k : Nat) : Oracle := ofL [(30, impl_in_x k), (83, impl_RackOk_x k), (92, impl_taken_x k)]
theorem impl_SellFresh_Ok (k : Nat) : OkO (Ct Tryz.prog) (impl_SellFresh_O k) := okO_cons (impl_in_ok k) (okO_cons (impl_RackOk_ok k) (okO_cons (impl_taken_ok k) (okO_nil)))
noncomputable def impl_SellFresh_A (r : Rack) (n : Int) : Pk := ⟨[(.ag [(.v (.int .i64 r.Fresh)), (.v (.int .i64 r.Day)), (.v (.int .i64 r.Old))]), (.sc (.v (.int .i64 n)))], []⟩
noncomputable def impl_SellFresh_d : Rs → Option (Rack × Int)
 | ⟨(.tp [(.ag [(.v (.int .i64 r1)), (.v (.int .i64 r2)), (.v (.int .i64 r3))]), (.sc (.v (.int .i64 r4)))]), []⟩ => some ((⟨r1, r2, r3⟩ : Rack), r4)
 | _ => none
theorem impl_SellFresh_i {r : Rs} {y : Rack × Int} (h : impl_SellFresh_d r = some y) : r = ⟨(.tp [(.ag [(.v (.int .i64 y.1.Fresh)), (.v (.int .i64 y.1.Day)), (.v (.int .i64 y.1.Old))]), (.sc (.v (.int .i64 y.2)))]), []⟩ := by
 unfold impl_SellFresh_d at h; split at h
 · cases h; rfl
 · cases h
theorem impl_SellFresh_e (k : Nat) (r : Rack) (n : Int) : callF env (impl_SellFresh_O k) impl_SellFresh_v Tryz.f84 (k + 1) (impl_SellFresh_A r n) (fun r => impl_SellFresh_d (r.fin 0 [])) = impl_SellFresh k r n := by kernel_rfl
noncomputable def impl_SellFresh_x (k : Nat) : Ent1 := fun A R Q => match A with
 | ⟨[(.ag [(.v (.int .i64 a1)), (.v (.int .i64 a2)), (.v (.int .i64 a3))]), (.sc (.v (.int .i64 a4)))], []⟩ => (impl_SellFresh k (⟨a1, a2, a3⟩ : Rack) a4).bind fun y => Q ⟨(.tp [(.ag [(.v (.int .i64 y.1.Fresh)), (.v (.int .i64 y.1.Day)), (.v (.int .i64 y.1.Old))]), (.sc (.v (.int .i64 y.2)))]), []⟩
 | _ => none
theorem impl_SellFresh_ok (k : Nat) : OkE Tryz.prog 84 (impl_SellFresh_x k) := by
 intro A R Q x h
 unfold impl_SellFresh_x at h
 split at h
 · obtain ⟨y, hy, hK⟩ := Option.bind_eq_some_iff.1 h
   obtain ⟨r, hr, hd⟩ := callF_ok envOk (impl_SellFresh_Ok k) follows Tryz.func84 (by kernel_rfl) ((impl_SellFresh_e k _ _).trans hy)
   exact ⟨_, impl_SellFresh_i hd ▸ hr.fin [], hK⟩
 · cases h
/-! ### impl.SellCheap: function 85 -/
noncomputable def impl_SellCheap (k : Nat)  (r : Rack) (n : Int) : Option (Rack × Int) :=
 (impl_RackOk k r).bind fun y1 =>
 cond (!y1)
  (some (r, (-1)))
  ((impl_in k n 0 10000).bind fun y2 =>
   cond (!y2)
    (some (r, (-1)))
    ((impl_taken k r.Old r.Day n).bind fun y3 =>
     some ((⟨r.Fresh, y3.2.1, y3.1⟩ : Rack), y3.2.2)))
noncomputable def impl_SellCheap_v : Nat → List Nat := fun t => match t with | _ => []
noncomputable def impl_SellCheap_O (k : Nat) : Oracle := ofL [(30, impl_in_x k), (83, impl_RackOk_x k), (92, impl_taken_x k)]
theorem impl_SellCheap_Ok (k : Nat) : OkO (Ct Tryz.prog) (impl_SellCheap_O k) := okO_cons (impl_in_ok k) (okO_cons (impl_RackOk_ok k) (okO_cons (impl_taken_ok k) (okO_nil)))
noncomputable def impl_SellCheap_A (r : Rack) (n : Int) : Pk := ⟨[(.ag [(.v (.int .i64 r.Fresh)), (.v (.int .i64 r.Day)), (.v (.int .i64 r.Old))]), (.sc (.v (.int .i64 n)))], []⟩
noncomputable def impl_SellCheap_d : Rs → Option (Rack × Int)
 | ⟨(.tp [(.ag [(.v (.int .i64 r1)), (.v (.int .i64 r2)), (.v (.int .i64 r3))]), (.sc (.v (.int .i64 r4)))]), []⟩ => some ((⟨r1, r2, r3⟩ : Rack), r4)
 | _ => none
theorem impl_SellCheap_i {r : Rs} {y : Rack × Int} (h : impl_SellCheap_d r = some y) : r = ⟨(.tp [(.ag [(.v (.int .i64 y.1.Fresh)), (.v (.int .i64 y.1.Day)), (.v (.int .i64 y.1.Old))]), (.sc (.v (.int .i64 y.2)))]), []⟩ := by
 unfold impl_SellCheap_d at h; split at h
 · cases h; rfl
 · cases h
theorem impl_SellCheap_e (k : Nat) (r : Rack) (n : Int) : callF env (impl_SellCheap_O k) impl_SellCheap_v Tryz.f85 (k + 1) (impl_SellCheap_A r n) (fun r => impl_SellCheap_d (r.fin 0 [])) = impl_SellCheap k r n := by kernel_rfl
noncomputable def impl_SellCheap_x (k : Nat) : Ent1 := fun A R Q => match A with
 | ⟨[(.ag [(.v (.int .i64 a1)), (.v (.int .i64 a2)), (.v (.int .i64 a3))]), (.sc (.v (.int .i64 a4)))], []⟩ => (impl_SellCheap k (⟨a1, a2, a3⟩ : Rack) a4).bind fun y => Q ⟨(.tp [(.ag [(.v (.int .i64 y.1.Fresh)), (.v (.int .i64 y.1.Day)), (.v (.int .i64 y.1.Old))]), (.sc (.v (.int .i64 y.2)))]), []⟩
 | _ => none
theorem impl_SellCheap_ok (k : Nat) : OkE Tryz.prog 85 (impl_SellCheap_x k) := by
 intro A R Q x h
 unfold impl_SellCheap_x at h
 split at h
 · obtain ⟨y, hy, hK⟩ := Option.bind_eq_some_iff.1 h
   obtain ⟨r, hr, hd⟩ := callF_ok envOk (impl_SellCheap_Ok k) follows Tryz.func85 (by kernel_rfl) ((impl_SellCheap_e k _ _).trans hy)
   exact ⟨_, impl_SellCheap_i hd ▸ hr.fin [], hK⟩
 · cases h
/-! ### impl.NextMorning: function 86 -/
noncomputable def impl_NextMorning (k : Nat)  (r : Rack) (baked : Int) : Option (Rack × Int) :=
 (impl_RackOk k r).bind fun y1 =>
 cond (!y1)
  (some (r, (-1)))
  ((impl_in k baked 0 10000).bind fun y2 =>
   cond (!y2)
    (some (r, (-1)))
    (some ((⟨baked, r.Fresh, r.Day⟩ : Rack), r.Old)))
noncomputable def impl_NextMorning_v : Nat → List Nat := fun t => match t with | _ => []
noncomputable def impl_NextMorning_O (k : Nat) : Oracle := ofL [(30, impl_in_x k), (83, impl_RackOk_x k)]
theorem impl_NextMorning_Ok (k : Nat) : OkO (Ct Tryz.prog) (impl_NextMorning_O k) := okO_cons (impl_in_ok k) (okO_cons (impl_RackOk_ok k) (okO_nil))
noncomputable def impl_NextMorning_A (r : Rack) (baked : Int) : Pk := ⟨[(.ag [(.v (.int .i64 r.Fresh)), (.v (.int .i64 r.Day)), (.v (.int .i64 r.Old))]), (.sc (.v (.int .i64 baked)))], []⟩
noncomputable def impl_NextMorning_d : Rs → Option (Rack × Int)
 | ⟨(.tp [(.ag [(.v (.int .i64 r1)), (.v (.int .i64 r2)), (.v (.int .i64 r3))]), (.sc (.v (.int .i64 r4)))]), []⟩ => some ((⟨r1, r2, r3⟩ : Rack), r4)
 | _ => none
theorem impl_NextMorning_i {r : Rs} {y : Rack × Int} (h : impl_NextMorning_d r = some y) : r = ⟨(.tp [(.ag [(.v (.int .i64 y.1.Fresh)), (.v (.int .i64 y.1.Day)), (.v (.int .i64 y.1.Old))]), (.sc (.v (.int .i64 y.2)))]), []⟩ := by
 unfold impl_NextMorning_d at h; split at h
 · cases h; rfl
 · cases h
theorem impl_NextMorning_e (k : Nat) (r : Rack) (baked : Int) : callF env (impl_NextMorning_O k) impl_NextMorning_v Tryz.f86 (k + 1) (impl_NextMorning_A r baked) (fun r => impl_NextMorning_d (r.fin 0 [])) = impl_NextMorning k r baked := by kernel_rfl
noncomputable def impl_NextMorning_x (k : Nat) : Ent1 := fun A R Q => match A with
 | ⟨[(.ag [(.v (.int .i64 a1)), (.v (.int .i64 a2)), (.v (.int .i64 a3))]), (.sc (.v (.int .i64 a4)))], []⟩ => (impl_NextMorning k (⟨a1, a2, a3⟩ : Rack) a4).bind fun y => Q ⟨(.tp [(.ag [(.v (.int .i64 y.1.Fresh)), (.v (.int .i64 y.1.Day)), (.v (.int .i64 y.1.Old))]), (.sc (.v (.int .i64 y.2)))]), []⟩
 | _ => none
theorem impl_NextMorning_ok (k : Nat) : OkE Tryz.prog 86 (impl_NextMorning_x k) := by
 intro A R Q x h
 unfold impl_NextMorning_x at h
 split at h
 · obtain ⟨y, hy, hK⟩ := Option.bind_eq_some_iff.1 h
   obtain ⟨r, hr, hd⟩ := callF_ok envOk (impl_NextMorning_Ok k) follows Tryz.func86 (by kernel_rfl) ((impl_NextMorning_e k _ _).trans hy)
   exact ⟨_, impl_NextMorning_i hd ▸ hr.fin [], hK⟩
 · cases h
/-! ### impl.EventOn: function 66 -/
noncomputable def impl_EventOn (k : Nat)  (r : Rack) (e : Event) : Option (Rack × Int × Int × Int × Bool) :=
 (impl_RackOk k r).bind fun y1 =>
 cond (!y1)
  (some (r, 0, 0, 0, false))
  ((impl_in k e.Loaves 0 1000).bind fun y2 =>
   cond (!y2)
    (some (r, 0, 0, 0, false))
    (cond (decide ((e.Kind : Int) = 1))
     ((impl_RackOk k (⟨(wr (r.Fresh + e.Loaves)), r.Day, r.Old⟩ : Rack)).bind fun y3 =>
      cond (!y3)
       (some (r, 0, 0, 0, false))
       (some ((⟨(wr (r.Fresh + e.Loaves)), r.Day, r.Old⟩ : Rack), e.Loaves, 0, 0, true)))
     (cond (decide ((e.Kind : Int) = 2))
      ((impl_SellFresh k r e.Loaves).bind fun y4 =>
       cond (!(decide ((y4.2 : Int) = e.Loaves)))
        (some (r, 0, 0, 0, false))
        ((impl_RackOk k y4.1).bind fun y5 =>
        cond (!y5)
        (some (r, 0, 0, 0, false))
        (some (y4.1, 0, y4.2, 0, true))))
      (cond (decide ((e.Kind : Int) = 3))
       ((impl_SellCheap k r e.Loaves).bind fun y6 =>
        cond (!(decide ((y6.2 : Int) = e.Loaves)))
        (some (r, 0, 0, 0, false))
        ((impl_RackOk k y6.1).bind fun y7 =>
        cond (!y7)
        (some (r, 0, 0, 0, false))
        (some (y6.1, 0, y6.2, 0, true))))
       (cond (decide ((e.Kind : Int) = 4))
        ((impl_NextMorning k r 0).bind fun y8 =>
        cond (!(decide ((e.Loaves : Int) = 0)))
        (some (r, 0, 0, 0, false))
        ((impl_RackOk k y8.1).bind fun y9 =>
        cond (!y9)
        (some (r, 0, 0, 0, false))
        (some (y8.1, 0, 0, y8.2, true))))
        (some (r, 0, 0, 0, false)))))))
noncomputable def impl_EventOn_v : Nat → List Nat := fun t => match t with | _ => []
noncomputable def impl_EventOn_O (k : Nat) : Oracle := ofL [(30, impl_in_x k), (83, impl_RackOk_x k), (84, impl_SellFresh_x k), (85, impl_SellCheap_x k), (86, impl_NextMorning_x k)]
theorem impl_EventOn_Ok (k : Nat) : OkO (Ct Tryz.prog) (impl_EventOn_O k) := okO_cons (impl_in_ok k) (okO_cons (impl_RackOk_ok k) (okO_cons (impl_SellFresh_ok k) (okO_cons (impl_SellCheap_ok k) (okO_cons (impl_NextMorning_ok k) (okO_nil)))))
noncomputable def impl_EventOn_A (r : Rack) (e : Event) : Pk := ⟨[(.ag [(.v (.int .i64 r.Fresh)), (.v (.int .i64 r.Day)), (.v (.int .i64 r.Old))]), (.ag [(.v (.int .i64 e.Kind)), (.v (.int .i64 e.Loaves))])], []⟩
noncomputable def impl_EventOn_d : Rs → Option (Rack × Int × Int × Int × Bool)
 | ⟨(.tp [(.ag [(.v (.int .i64 r1)), (.v (.int .i64 r2)), (.v (.int .i64 r3))]), (.sc (.v (.int .i64 r4))), (.sc (.v (.int .i64 r5))), (.sc (.v (.int .i64 r6))), (.sc (.v (.bool r7)))]), []⟩ => some ((⟨r1, r2, r3⟩ : Rack), r4, r5, r6, r7)
 | _ => none
theorem impl_EventOn_i {r : Rs} {y : Rack × Int × Int × Int × Bool} (h : impl_EventOn_d r = some y) : r = ⟨(.tp [(.ag [(.v (.int .i64 y.1.Fresh)), (.v (.int .i64 y.1.Day)), (.v (.int .i64 y.1.Old))]), (.sc (.v (.int .i64 y.2.1))), (.sc (.v (.int .i64 y.2.2.1))), (.sc (.v (.int .i64 y.2.2.2.1))), (.sc (.v (.bool y.2.2.2.2)))]), []⟩ := by
 unfold impl_EventOn_d at h; split at h
 · cases h; rfl
 · cases h
theorem impl_EventOn_e (k : Nat) (r : Rack) (e : Event) : callF env (impl_EventOn_O k) impl_EventOn_v Tryz.f66 (k + 1) (impl_EventOn_A r e) (fun r => impl_EventOn_d (r.fin 0 [])) = impl_EventOn k r e := by kernel_rfl
noncomputable def impl_EventOn_x (k : Nat) : Ent1 := fun A R Q => match A with
 | ⟨[(.ag [(.v (.int .i64 a1)), (.v (.int .i64 a2)), (.v (.int .i64 a3))]), (.ag [(.v (.int .i64 a4)), (.v (.int .i64 a5))])], []⟩ => (impl_EventOn k (⟨a1, a2, a3⟩ : Rack) (⟨a4, a5⟩ : Event)).bind fun y => Q ⟨(.tp [(.ag [(.v (.int .i64 y.1.Fresh)), (.v (.int .i64 y.1.Day)), (.v (.int .i64 y.1.Old))]), (.sc (.v (.int .i64 y.2.1))), (.sc (.v (.int .i64 y.2.2.1))), (.sc (.v (.int .i64 y.2.2.2.1))), (.sc (.v (.bool y.2.2.2.2)))]), []⟩
 | _ => none
theorem impl_EventOn_ok (k : Nat) : OkE Tryz.prog 66 (impl_EventOn_x k) := by
 intro A R Q x h
 unfold impl_EventOn_x at h
 split at h
 · obtain ⟨y, hy, hK⟩ := Option.bind_eq_some_iff.1 h
   obtain ⟨r, hr, hd⟩ := callF_ok envOk (impl_EventOn_Ok k) follows Tryz.func66 (by kernel_rfl) ((impl_EventOn_e k _ _).trans hy)
   exact ⟨_, impl_EventOn_i hd ▸ hr.fin [], hK⟩
 · cases h
/-! ### impl.counted: function 45 -/
noncomputable def impl_counted_s0 (k : Nat)  (events : (List Event)) (J : Int → Int → Int → Int → Int → Int → Int → Option (Book × Bool)) (x0_0 : Int) (x0_1 : Int) (x0_2 : Int) (x0_3 : Int) (x0_4 : Int) (x0_5 : Int) (x0_6 : Int) : Option (Book × Bool) :=
 cond (decide ((x0_0 : Int) < ((events).length : Int)))
 (if 0 ≤ (x0_0 : Int) ∧ (x0_0 : Int) < ((events).length : Int) then
  (impl_EventOn k (⟨x0_1, x0_2, x0_3⟩ : Rack) (events.getD (Int.toNat x0_0) dk_impl_Event)).bind fun y2 =>
   cond (!y2.2.2.2.2)
    (some ((⟨[], (⟨0, 0, 0⟩ : Rack), 0, 0, 0⟩ : Book), false))
    (J (wr (x0_0 + 1)) y2.1.Fresh y2.1.Day y2.1.Old (wr (x0_4 + y2.2.1)) (wr (x0_5 + y2.2.2.1)) (wr (x0_6 + y2.2.2.2.1))) else none)
 (some ((⟨([] ++ events), (⟨x0_1, x0_2, x0_3⟩ : Rack), x0_4, x0_5, x0_6⟩ : Book), (decide ((((events).length : Int) : Int) ≤ 40))))
noncomputable def impl_counted_l0 (k : Nat) : Nat → (List Event) → Int → Int → Int → Int → Int → Int → Int → Option (Book × Bool)
 | 0, events, x0_0, x0_1, x0_2, x0_3, x0_4, x0_5, x0_6 => impl_counted_s0 k events (fun _ _ _ _ _ _ _ => none) x0_0 x0_1 x0_2 x0_3 x0_4 x0_5 x0_6
 | m + 1, events, x0_0, x0_1, x0_2, x0_3, x0_4, x0_5, x0_6 => impl_counted_s0 k events (impl_counted_l0 k m events) x0_0 x0_1 x0_2 x0_3 x0_4 x0_5 x0_6
noncomputable def impl_counted_m (k : Nat) (J0 : (List Event) → Int → Int → Int → Int → Int → Int → Int → Option (Book × Bool)) (events : (List Event)) : Option (Book × Bool) :=
 if ([] : List Event).length + (events : List Event).length ≤ maxRow then
 J0 events 0 0 0 0 0 0 0 else none
noncomputable def impl_counted (k : Nat) (events : (List Event)) : Option (Book × Bool) := impl_counted_m k (impl_counted_l0 k k) events
noncomputable def impl_counted_v : Nat → List Nat := fun t => match t with | 3 => [0, 2, 3, 4, 16, 17, 18] | _ => []
noncomputable def impl_counted_O (k : Nat) : Oracle := ofL [(66, impl_EventOn_x k)]
theorem impl_counted_Ok (k : Nat) : OkO (Ct Tryz.prog) (impl_counted_O k) := okO_cons (impl_EventOn_ok k) (okO_nil)
noncomputable def impl_counted_A (events : (List Event)) : Pk := ⟨[(.sc (.sl 0))], [(.row false K.k_impl_Event events)]⟩
noncomputable def impl_counted_d : Rs → Option (Book × Bool)
 | ⟨(.tp [(.ag [(.sl 1), (.v (.int .i64 r2)), (.v (.int .i64 r3)), (.v (.int .i64 r4)), (.v (.int .i64 r5)), (.v (.int .i64 r6)), (.v (.int .i64 r7))]), (.sc (.v (.bool r8)))]), [.dead, (.row true K.k_impl_Event r1)]⟩ => some ((⟨r1, (⟨r2, r3, r4⟩ : Rack), r5, r6, r7⟩ : Book), r8)
 | _ => none
theorem impl_counted_i {r : Rs} {y : Book × Bool} (h : impl_counted_d r = some y) : r = ⟨(.tp [(.ag [(.sl 1), (.v (.int .i64 y.1.Rack.Fresh)), (.v (.int .i64 y.1.Rack.Day)), (.v (.int .i64 y.1.Rack.Old)), (.v (.int .i64 y.1.Baked)), (.v (.int .i64 y.1.Sold)), (.v (.int .i64 y.1.Thrown))]), (.sc (.v (.bool y.2)))]), [.dead, (.row true K.k_impl_Event y.1.Events)]⟩ := by
 unfold impl_counted_d at h; split at h
 · cases h; rfl
 · cases h
noncomputable def impl_counted_h0 (k m : Nat) (events : (List Event)) (x0_0 : Int) (x0_1 : Int) (x0_2 : Int) (x0_3 : Int) (x0_4 : Int) (x0_5 : Int) (x0_6 : Int) : Option (Book × Bool) := hdAt env (impl_counted_O k) impl_counted_v Tryz.f45 1 (fun r => impl_counted_d (r.fin 1 [])) [1, 1, 0, 1, 0] k m ⟨tmF [0, 2, 3, 4, 16, 17, 18] [(.a (.sc (.sl 0))), (.a (.sc (.bp 2 0))), (.a (.sc (.v (.bool false)))), (.a (.sc (.bp 4 0))), (.a (.sc (.sl 0))), (.a (.sc (.v (.int .i64 ((events).length : Int))))), (.a (.sc (.v (.int .i64 x0_0))))], blF [(.row false K.k_impl_Event events), (.row true K.k_impl_Event []), (.box true [(.sl 1), (.v (.int .i64 0)), (.v (.int .i64 0)), (.v (.int .i64 0)), (.v (.int .i64 0)), (.v (.int .i64 0)), (.v (.int .i64 0))]), (.row true K.k_impl_Event ([] ++ events)), (.box true [(.sl 3), (.v (.int .i64 x0_1)), (.v (.int .i64 x0_2)), (.v (.int .i64 x0_3)), (.v (.int .i64 x0_4)), (.v (.int .i64 x0_5)), (.v (.int .i64 x0_6))])]⟩
theorem impl_counted_z0 (k : Nat) (events : (List Event)) (x0_0 : Int) (x0_1 : Int) (x0_2 : Int) (x0_3 : Int) (x0_4 : Int) (x0_5 : Int) (x0_6 : Int) : impl_counted_h0 k 0 events x0_0 x0_1 x0_2 x0_3 x0_4 x0_5 x0_6 = impl_counted_s0 k events (fun _ _ _ _ _ _ _ => none) x0_0 x0_1 x0_2 x0_3 x0_4 x0_5 x0_6 := by kernel_rfl
theorem impl_counted_g0 (k : Nat) (H : St → Option (Book × Bool)) (events : (List Event)) (x0_0 : Int) (x0_1 : Int) (x0_2 : Int) (x0_3 : Int) (x0_4 : Int) (x0_5 : Int) (x0_6 : Int) : rnd env (impl_counted_O k) impl_counted_v Tryz.f45 1 (fun r => impl_counted_d (r.fin 1 [])) [1, 1, 0, 1, 0] k H ⟨tmF [0, 2, 3, 4, 16, 17, 18] [(.a (.sc (.sl 0))), (.a (.sc (.bp 2 0))), (.a (.sc (.v (.bool false)))), (.a (.sc (.bp 4 0))), (.a (.sc (.sl 0))), (.a (.sc (.v (.int .i64 ((events).length : Int))))), (.a (.sc (.v (.int .i64 x0_0))))], blF [(.row false K.k_impl_Event events), (.row true K.k_impl_Event []), (.box true [(.sl 1), (.v (.int .i64 0)), (.v (.int .i64 0)), (.v (.int .i64 0)), (.v (.int .i64 0)), (.v (.int .i64 0)), (.v (.int .i64 0))]), (.row true K.k_impl_Event ([] ++ events)), (.box true [(.sl 3), (.v (.int .i64 x0_1)), (.v (.int .i64 x0_2)), (.v (.int .i64 x0_3)), (.v (.int .i64 x0_4)), (.v (.int .i64 x0_5)), (.v (.int .i64 x0_6))])]⟩ = impl_counted_s0 k events (fun x0_0 x0_1 x0_2 x0_3 x0_4 x0_5 x0_6 => H ⟨tmF [0, 2, 3, 4, 16, 17, 18] [(.a (.sc (.sl 0))), (.a (.sc (.bp 2 0))), (.a (.sc (.v (.bool false)))), (.a (.sc (.bp 4 0))), (.a (.sc (.sl 0))), (.a (.sc (.v (.int .i64 ((events).length : Int))))), (.a (.sc (.v (.int .i64 x0_0))))], blF [(.row false K.k_impl_Event events), (.row true K.k_impl_Event []), (.box true [(.sl 1), (.v (.int .i64 0)), (.v (.int .i64 0)), (.v (.int .i64 0)), (.v (.int .i64 0)), (.v (.int .i64 0)), (.v (.int .i64 0))]), (.row true K.k_impl_Event ([] ++ events)), (.box true [(.sl 3), (.v (.int .i64 x0_1)), (.v (.int .i64 x0_2)), (.v (.int .i64 x0_3)), (.v (.int .i64 x0_4)), (.v (.int .i64 x0_5)), (.v (.int .i64 x0_6))])]⟩) x0_0 x0_1 x0_2 x0_3 x0_4 x0_5 x0_6 := by kernel_rfl
theorem impl_counted_n0 (k m : Nat) (events : (List Event)) (x0_0 : Int) (x0_1 : Int) (x0_2 : Int) (x0_3 : Int) (x0_4 : Int) (x0_5 : Int) (x0_6 : Int) : impl_counted_h0 k (m + 1) events x0_0 x0_1 x0_2 x0_3 x0_4 x0_5 x0_6 = impl_counted_s0 k events (impl_counted_h0 k m events) x0_0 x0_1 x0_2 x0_3 x0_4 x0_5 x0_6 := (hdAt_succ _ _ _ _ _ _ _ _ _ _).trans (impl_counted_g0 k _ events x0_0 x0_1 x0_2 x0_3 x0_4 x0_5 x0_6)
theorem impl_counted_q0 (k : Nat) : ∀ m, impl_counted_h0 k m = impl_counted_l0 k m := by
 intro m
 induction m with
 | zero => funext events x0_0 x0_1 x0_2 x0_3 x0_4 x0_5 x0_6; rw [impl_counted_z0]; rfl
 | succ m ih => funext events x0_0 x0_1 x0_2 x0_3 x0_4 x0_5 x0_6; rw [impl_counted_n0, ih]; rfl
theorem impl_counted_e (k : Nat) (events : (List Event)) : callF env (impl_counted_O k) impl_counted_v Tryz.f45 (k + 1) (impl_counted_A events) (fun r => impl_counted_d (r.fin 1 [])) = impl_counted k events := by
 have e : callF env (impl_counted_O k) impl_counted_v Tryz.f45 (k + 1) (impl_counted_A events) (fun r => impl_counted_d (r.fin 1 [])) = impl_counted_m k (impl_counted_h0 k k) events := by kernel_rfl
 rw [e, impl_counted_q0]; rfl
noncomputable def impl_counted_x (k : Nat) : Ent1 := fun A R Q => match A with
 | ⟨[(.sc (.sl 0))], [(.row false K.k_impl_Event a1)]⟩ => (impl_counted k a1).bind fun y => Q ⟨(.tp [(.ag [(.sl 1), (.v (.int .i64 y.1.Rack.Fresh)), (.v (.int .i64 y.1.Rack.Day)), (.v (.int .i64 y.1.Rack.Old)), (.v (.int .i64 y.1.Baked)), (.v (.int .i64 y.1.Sold)), (.v (.int .i64 y.1.Thrown))]), (.sc (.v (.bool y.2)))]), [.dead, (.row true K.k_impl_Event y.1.Events)]⟩
 | _ => none
theorem impl_counted_ok (k : Nat) : OkE Tryz.prog 45 (impl_counted_x k) := by
 intro A R Q x h
 unfold impl_counted_x at h
 split at h
 · obtain ⟨y, hy, hK⟩ := Option.bind_eq_some_iff.1 h
   obtain ⟨r, hr, hd⟩ := callF_ok envOk (impl_counted_Ok k) follows Tryz.func45 (by kernel_rfl) ((impl_counted_e k _).trans hy)
   exact ⟨_, impl_counted_i hd ▸ hr.fin [], hK⟩
 · cases h
/-! ### impl.BookOk: function 29 -/
noncomputable def impl_BookOk (k : Nat)  (b : Book) : Option (Bool) :=
 (impl_counted k b.Events).bind fun y1 =>
 cond y1.2
  (cond (decide ((y1.1.Rack.Fresh : Int) = b.Rack.Fresh) && (decide ((y1.1.Rack.Day : Int) = b.Rack.Day) && decide ((y1.1.Rack.Old : Int) = b.Rack.Old)))
   (cond (decide ((y1.1.Baked : Int) = b.Baked))
    (cond (decide ((y1.1.Sold : Int) = b.Sold))
     (some (decide ((y1.1.Thrown : Int) = b.Thrown)))
     (some false))
    (some false))
   (some false))
  (some false)
noncomputable def impl_BookOk_v : Nat → List Nat := fun t => match t with | _ => []
noncomputable def impl_BookOk_O (k : Nat) : Oracle := ofL [(45, impl_counted_x k)]
theorem impl_BookOk_Ok (k : Nat) : OkO (Ct Tryz.prog) (impl_BookOk_O k) := okO_cons (impl_counted_ok k) (okO_nil)
noncomputable def impl_BookOk_A (b : Book) : Pk := ⟨[(.ag [(.sl 0), (.v (.int .i64 b.Rack.Fresh)), (.v (.int .i64 b.Rack.Day)), (.v (.int .i64 b.Rack.Old)), (.v (.int .i64 b.Baked)), (.v (.int .i64 b.Sold)), (.v (.int .i64 b.Thrown))])], [(.row false K.k_impl_Event b.Events)]⟩
noncomputable def impl_BookOk_d : Rs → Option (Bool)
 | ⟨(.a (.sc (.v (.bool r1)))), [.dead]⟩ => some r1
 | _ => none
theorem impl_BookOk_i {r : Rs} {y : Bool} (h : impl_BookOk_d r = some y) : r = ⟨(.a (.sc (.v (.bool y)))), [.dead]⟩ := by
 unfold impl_BookOk_d at h; split at h
 · cases h; rfl
 · cases h
theorem impl_BookOk_e (k : Nat) (b : Book) : callF env (impl_BookOk_O k) impl_BookOk_v Tryz.f29 (k + 1) (impl_BookOk_A b) (fun r => impl_BookOk_d (r.fin 1 [])) = impl_BookOk k b := by kernel_rfl
noncomputable def impl_BookOk_x (k : Nat) : Ent1 := fun A R Q => match A with
 | ⟨[(.ag [(.sl 0), (.v (.int .i64 a2)), (.v (.int .i64 a3)), (.v (.int .i64 a4)), (.v (.int .i64 a5)), (.v (.int .i64 a6)), (.v (.int .i64 a7))])], [(.row false K.k_impl_Event a1)]⟩ => (impl_BookOk k (⟨a1, (⟨a2, a3, a4⟩ : Rack), a5, a6, a7⟩ : Book)).bind fun y => Q ⟨(.a (.sc (.v (.bool y)))), [.dead]⟩
 | _ => none
theorem impl_BookOk_ok (k : Nat) : OkE Tryz.prog 29 (impl_BookOk_x k) := by
 intro A R Q x h
 unfold impl_BookOk_x at h
 split at h
 · obtain ⟨y, hy, hK⟩ := Option.bind_eq_some_iff.1 h
   obtain ⟨r, hr, hd⟩ := callF_ok envOk (impl_BookOk_Ok k) follows Tryz.func29 (by kernel_rfl) ((impl_BookOk_e k _).trans hy)
   exact ⟨_, impl_BookOk_i hd ▸ hr.fin [], hK⟩
 · cases h
/-! ### impl.BakeryOk: function 16 -/
noncomputable def impl_BakeryOk (k : Nat)  (b : Bakery) : Option (Bool) :=
 (impl_StoreOk k b.Stock).bind fun y1 =>
 cond y1
  ((impl_DoughOk k b.Dough).bind fun y2 =>
   cond y2
    ((impl_LoafOk k b.Loaf).bind fun y3 =>
     cond y3
      ((impl_BookOk k b.Book).bind fun y4 =>
       cond y4
        ((impl_in k b.Money 0 1000000).bind fun y5 =>
        some y5)
        (some false))
      (some false))
    (some false))
  (some false)
noncomputable def impl_BakeryOk_v : Nat → List Nat := fun t => match t with | _ => []
noncomputable def impl_BakeryOk_O (k : Nat) : Oracle := ofL [(26, impl_StoreOk_x k), (27, impl_DoughOk_x k), (28, impl_LoafOk_x k), (29, impl_BookOk_x k), (30, impl_in_x k)]
theorem impl_BakeryOk_Ok (k : Nat) : OkO (Ct Tryz.prog) (impl_BakeryOk_O k) := okO_cons (impl_StoreOk_ok k) (okO_cons (impl_DoughOk_ok k) (okO_cons (impl_LoafOk_ok k) (okO_cons (impl_BookOk_ok k) (okO_cons (impl_in_ok k) (okO_nil)))))
noncomputable def impl_BakeryOk_A (b : Bakery) : Pk := ⟨[(.ag [(.sl 0), (.v (.int .i64 b.Dough.Water)), (.v (.int .i64 b.Dough.Salt)), (.v (.int .i64 b.Dough.Leaven)), (.v (.int .i64 b.Loaf.Weight)), (.v (.int .i64 b.Loaf.Loss)), (.sl 1), (.v (.int .i64 b.Book.Rack.Fresh)), (.v (.int .i64 b.Book.Rack.Day)), (.v (.int .i64 b.Book.Rack.Old)), (.v (.int .i64 b.Book.Baked)), (.v (.int .i64 b.Book.Sold)), (.v (.int .i64 b.Book.Thrown)), (.v (.int .i64 b.Money))])], [(.row false K.ki64 b.Stock.Grams), (.row false K.k_impl_Event b.Book.Events)]⟩
noncomputable def impl_BakeryOk_d : Rs → Option (Bool)
 | ⟨(.a (.sc (.v (.bool r1)))), [.dead, .dead]⟩ => some r1
 | _ => none
theorem impl_BakeryOk_i {r : Rs} {y : Bool} (h : impl_BakeryOk_d r = some y) : r = ⟨(.a (.sc (.v (.bool y)))), [.dead, .dead]⟩ := by
 unfold impl_BakeryOk_d at h; split at h
 · cases h; rfl
 · cases h
theorem impl_BakeryOk_e (k : Nat) (b : Bakery) : callF env (impl_BakeryOk_O k) impl_BakeryOk_v Tryz.f16 (k + 1) (impl_BakeryOk_A b) (fun r => impl_BakeryOk_d (r.fin 2 [])) = impl_BakeryOk k b := by kernel_rfl
noncomputable def impl_BakeryOk_x (k : Nat) : Ent1 := fun A R Q => match A with
 | ⟨[(.ag [(.sl 0), (.v (.int .i64 a2)), (.v (.int .i64 a3)), (.v (.int .i64 a4)), (.v (.int .i64 a5)), (.v (.int .i64 a6)), (.sl 1), (.v (.int .i64 a8)), (.v (.int .i64 a9)), (.v (.int .i64 a10)), (.v (.int .i64 a11)), (.v (.int .i64 a12)), (.v (.int .i64 a13)), (.v (.int .i64 a14))])], [(.row false K.ki64 a1), (.row false K.k_impl_Event a7)]⟩ => (impl_BakeryOk k (⟨(⟨a1⟩ : Stock), (⟨a2, a3, a4⟩ : Dough), (⟨a5, a6⟩ : Loaf), (⟨a7, (⟨a8, a9, a10⟩ : Rack), a11, a12, a13⟩ : Book), a14⟩ : Bakery)).bind fun y => Q ⟨(.a (.sc (.v (.bool y)))), [.dead, .dead]⟩
 | _ => none
theorem impl_BakeryOk_ok (k : Nat) : OkE Tryz.prog 16 (impl_BakeryOk_x k) := by
 intro A R Q x h
 unfold impl_BakeryOk_x at h
 split at h
 · obtain ⟨y, hy, hK⟩ := Option.bind_eq_some_iff.1 h
   obtain ⟨r, hr, hd⟩ := callF_ok envOk (impl_BakeryOk_Ok k) follows Tryz.func16 (by kernel_rfl) ((impl_BakeryOk_e k _).trans hy)
   exact ⟨_, impl_BakeryOk_i hd ▸ hr.fin [], hK⟩
 · cases h
/-! ### impl.ActOk: function 31 -/
noncomputable def impl_ActOk (k : Nat)  (a : Deed) : Option (Bool) :=
 cond (decide ((a.Kind : Int) = 1))
 (cond (decide ((a.Kind : Int) = 1))
  ((impl_in k a.A 0 1000).bind fun y1 =>
   cond y1
    (some (decide ((a.B : Int) = 0)))
    (some false))
  (cond (decide ((a.Kind : Int) = 4))
   (cond (decide ((a.A : Int) = 0))
    (some (decide ((a.B : Int) = 0)))
    (some false))
   (cond (decide ((a.Kind : Int) = 5))
    ((impl_in k a.A 0 3).bind fun y2 =>
     cond y2
      ((impl_in k a.B 0 100000).bind fun y3 =>
       some y3)
      (some false))
    (some false))))
 (cond (decide ((a.Kind : Int) = 2))
  (cond (decide ((a.Kind : Int) = 2))
   ((impl_in k a.A 0 1000).bind fun y4 =>
    cond y4
     (some (decide ((a.B : Int) = 0)))
     (some false))
   (cond (decide ((a.Kind : Int) = 4))
    (cond (decide ((a.A : Int) = 0))
     (some (decide ((a.B : Int) = 0)))
     (some false))
    (cond (decide ((a.Kind : Int) = 5))
     ((impl_in k a.A 0 3).bind fun y5 =>
      cond y5
       ((impl_in k a.B 0 100000).bind fun y6 =>
        some y6)
       (some false))
     (some false))))
  (cond (decide ((a.Kind : Int) = 3))
   (cond (decide ((a.Kind : Int) = 3))
    ((impl_in k a.A 0 1000).bind fun y7 =>
     cond y7
      (some (decide ((a.B : Int) = 0)))
      (some false))
    (cond (decide ((a.Kind : Int) = 4))
     (cond (decide ((a.A : Int) = 0))
      (some (decide ((a.B : Int) = 0)))
      (some false))
     (cond (decide ((a.Kind : Int) = 5))
      ((impl_in k a.A 0 3).bind fun y8 =>
       cond y8
        ((impl_in k a.B 0 100000).bind fun y9 =>
        some y9)
        (some false))
      (some false))))
   (cond (decide ((a.Kind : Int) = 6))
    ((impl_in k a.A 0 1000).bind fun y10 =>
     cond y10
      (some (decide ((a.B : Int) = 0)))
      (some false))
    (cond (decide ((a.Kind : Int) = 4))
     (cond (decide ((a.A : Int) = 0))
      (some (decide ((a.B : Int) = 0)))
      (some false))
     (cond (decide ((a.Kind : Int) = 5))
      ((impl_in k a.A 0 3).bind fun y11 =>
       cond y11
        ((impl_in k a.B 0 100000).bind fun y12 =>
        some y12)
        (some false))
      (some false))))))
noncomputable def impl_ActOk_v : Nat → List Nat := fun t => match t with | _ => []
noncomputable def impl_ActOk_O (k : Nat) : Oracle := ofL [(30, impl_in_x k)]
theorem impl_ActOk_Ok (k : Nat) : OkO (Ct Tryz.prog) (impl_ActOk_O k) := okO_cons (impl_in_ok k) (okO_nil)
noncomputable def impl_ActOk_A (a : Deed) : Pk := ⟨[(.ag [(.v (.int .i64 a.Kind)), (.v (.int .i64 a.A)), (.v (.int .i64 a.B))])], []⟩
noncomputable def impl_ActOk_d : Rs → Option (Bool)
 | ⟨(.a (.sc (.v (.bool r1)))), []⟩ => some r1
 | _ => none
theorem impl_ActOk_i {r : Rs} {y : Bool} (h : impl_ActOk_d r = some y) : r = ⟨(.a (.sc (.v (.bool y)))), []⟩ := by
 unfold impl_ActOk_d at h; split at h
 · cases h; rfl
 · cases h
theorem impl_ActOk_e (k : Nat) (a : Deed) : callF env (impl_ActOk_O k) impl_ActOk_v Tryz.f31 (k + 1) (impl_ActOk_A a) (fun r => impl_ActOk_d (r.fin 0 [])) = impl_ActOk k a := by kernel_rfl
noncomputable def impl_ActOk_x (k : Nat) : Ent1 := fun A R Q => match A with
 | ⟨[(.ag [(.v (.int .i64 a1)), (.v (.int .i64 a2)), (.v (.int .i64 a3))])], []⟩ => (impl_ActOk k (⟨a1, a2, a3⟩ : Deed)).bind fun y => Q ⟨(.a (.sc (.v (.bool y)))), []⟩
 | _ => none
theorem impl_ActOk_ok (k : Nat) : OkE Tryz.prog 31 (impl_ActOk_x k) := by
 intro A R Q x h
 unfold impl_ActOk_x at h
 split at h
 · obtain ⟨y, hy, hK⟩ := Option.bind_eq_some_iff.1 h
   obtain ⟨r, hr, hd⟩ := callF_ok envOk (impl_ActOk_Ok k) follows Tryz.func31 (by kernel_rfl) ((impl_ActOk_e k _).trans hy)
   exact ⟨_, impl_ActOk_i hd ▸ hr.fin [], hK⟩
 · cases h
/-! ### impl.up: function 54 -/
noncomputable def impl_up (k : Nat)  (a : Int) (b : Int) : Option (Int) :=
 if (b : Int) ≠ 0 then
 some (wr (Int.tdiv (wr ((wr (a + b)) - 1)) b)) else none
noncomputable def impl_up_v : Nat → List Nat := fun t => match t with | _ => []
noncomputable def impl_up_O (k : Nat) : Oracle := ofL []
theorem impl_up_Ok (k : Nat) : OkO (Ct Tryz.prog) (impl_up_O k) := okO_nil
noncomputable def impl_up_A (a : Int) (b : Int) : Pk := ⟨[(.sc (.v (.int .i64 a))), (.sc (.v (.int .i64 b)))], []⟩
noncomputable def impl_up_d : Rs → Option (Int)
 | ⟨(.a (.sc (.v (.int .i64 r1)))), []⟩ => some r1
 | _ => none
theorem impl_up_i {r : Rs} {y : Int} (h : impl_up_d r = some y) : r = ⟨(.a (.sc (.v (.int .i64 y)))), []⟩ := by
 unfold impl_up_d at h; split at h
 · cases h; rfl
 · cases h
theorem impl_up_e (k : Nat) (a : Int) (b : Int) : callF env (impl_up_O k) impl_up_v Tryz.f54 (k + 1) (impl_up_A a b) (fun r => impl_up_d (r.fin 0 [])) = impl_up k a b := by kernel_rfl
noncomputable def impl_up_x (k : Nat) : Ent1 := fun A R Q => match A with
 | ⟨[(.sc (.v (.int .i64 a1))), (.sc (.v (.int .i64 a2)))], []⟩ => (impl_up k a1 a2).bind fun y => Q ⟨(.a (.sc (.v (.int .i64 y)))), []⟩
 | _ => none
theorem impl_up_ok (k : Nat) : OkE Tryz.prog 54 (impl_up_x k) := by
 intro A R Q x h
 unfold impl_up_x at h
 split at h
 · obtain ⟨y, hy, hK⟩ := Option.bind_eq_some_iff.1 h
   obtain ⟨r, hr, hd⟩ := callF_ok envOk (impl_up_Ok k) follows Tryz.func54 (by kernel_rfl) ((impl_up_e k _ _).trans hy)
   exact ⟨_, impl_up_i hd ▸ hr.fin [], hK⟩
 · cases h
/-! ### impl.Loaf).baked: function 71 -/
noncomputable def impl_Loaf_baked (k : Nat)  (l : Loaf) (dough : Int) : Option (Int) :=
 (impl_up k (wr (dough * l.Loss)) 100).bind fun y1 =>
 some (wr (dough - y1))
noncomputable def impl_Loaf_baked_v : Nat → List Nat := fun t => match t with | _ => []
noncomputable def impl_Loaf_baked_O (k : Nat) : Oracle := ofL [(54, impl_up_x k)]
theorem impl_Loaf_baked_Ok (k : Nat) : OkO (Ct Tryz.prog) (impl_Loaf_baked_O k) := okO_cons (impl_up_ok k) (okO_nil)
noncomputable def impl_Loaf_baked_A (l : Loaf) (dough : Int) : Pk := ⟨[(.ag [(.v (.int .i64 l.Weight)), (.v (.int .i64 l.Loss))]), (.sc (.v (.int .i64 dough)))], []⟩
noncomputable def impl_Loaf_baked_d : Rs → Option (Int)
 | ⟨(.a (.sc (.v (.int .i64 r1)))), []⟩ => some r1
 | _ => none
theorem impl_Loaf_baked_i {r : Rs} {y : Int} (h : impl_Loaf_baked_d r = some y) : r = ⟨(.a (.sc (.v (.int .i64 y)))), []⟩ := by
 unfold impl_Loaf_baked_d at h; split at h
 · cases h; rfl
 · cases h
theorem impl_Loaf_baked_e (k : Nat) (l : Loaf) (dough : Int) : callF env (impl_Loaf_baked_O k) impl_Loaf_baked_v Tryz.f71 (k + 1) (impl_Loaf_baked_A l dough) (fun r => impl_Loaf_baked_d (r.fin 0 [])) = impl_Loaf_baked k l dough := by kernel_rfl
noncomputable def impl_Loaf_baked_x (k : Nat) : Ent1 := fun A R Q => match A with
 | ⟨[(.ag [(.v (.int .i64 a1)), (.v (.int .i64 a2))]), (.sc (.v (.int .i64 a3)))], []⟩ => (impl_Loaf_baked k (⟨a1, a2⟩ : Loaf) a3).bind fun y => Q ⟨(.a (.sc (.v (.int .i64 y)))), []⟩
 | _ => none
theorem impl_Loaf_baked_ok (k : Nat) : OkE Tryz.prog 71 (impl_Loaf_baked_x k) := by
 intro A R Q x h
 unfold impl_Loaf_baked_x at h
 split at h
 · obtain ⟨y, hy, hK⟩ := Option.bind_eq_some_iff.1 h
   obtain ⟨r, hr, hd⟩ := callF_ok envOk (impl_Loaf_baked_Ok k) follows Tryz.func71 (by kernel_rfl) ((impl_Loaf_baked_e k _ _).trans hy)
   exact ⟨_, impl_Loaf_baked_i hd ▸ hr.fin [], hK⟩
 · cases h
/-! ### impl.DoughFor: function 56 -/
noncomputable def impl_DoughFor_s0 (k : Nat)  (l : Loaf) (J : Int → Option (Int)) (x0_0 : Int) : Option (Int) :=
 (impl_Loaf_baked k l x0_0).bind fun y3 =>
 cond (decide ((y3 : Int) < l.Weight))
  (J (wr (x0_0 + 1)))
  (some x0_0)
noncomputable def impl_DoughFor_l0 (k : Nat) : Nat → Loaf → Int → Option (Int)
 | 0, l, x0_0 => impl_DoughFor_s0 k l (fun _ => none) x0_0
 | m + 1, l, x0_0 => impl_DoughFor_s0 k l (impl_DoughFor_l0 k m l) x0_0
noncomputable def impl_DoughFor_m (k : Nat) (J0 : Loaf → Int → Option (Int)) (l : Loaf) : Option (Int) :=
 (impl_LoafOk k l).bind fun y1 =>
 cond (!y1)
  (some (-1))
  (J0 l l.Weight)
noncomputable def impl_DoughFor (k : Nat) (l : Loaf) : Option (Int) := impl_DoughFor_m k (impl_DoughFor_l0 k k) l
noncomputable def impl_DoughFor_v : Nat → List Nat := fun t => match t with | 4 => [1, 2, 3] | _ => []
noncomputable def impl_DoughFor_O (k : Nat) : Oracle := ofL [(28, impl_LoafOk_x k), (71, impl_Loaf_baked_x k)]
theorem impl_DoughFor_Ok (k : Nat) : OkO (Ct Tryz.prog) (impl_DoughFor_O k) := okO_cons (impl_LoafOk_ok k) (okO_cons (impl_Loaf_baked_ok k) (okO_nil))
noncomputable def impl_DoughFor_A (l : Loaf) : Pk := ⟨[(.ag [(.v (.int .i64 l.Weight)), (.v (.int .i64 l.Loss))])], []⟩
noncomputable def impl_DoughFor_d : Rs → Option (Int)
 | ⟨(.a (.sc (.v (.int .i64 r1)))), []⟩ => some r1
 | _ => none
theorem impl_DoughFor_i {r : Rs} {y : Int} (h : impl_DoughFor_d r = some y) : r = ⟨(.a (.sc (.v (.int .i64 y)))), []⟩ := by
 unfold impl_DoughFor_d at h; split at h
 · cases h; rfl
 · cases h
noncomputable def impl_DoughFor_h0 (k m : Nat) (l : Loaf) (x0_0 : Int) : Option (Int) := hdAt env (impl_DoughFor_O k) impl_DoughFor_v Tryz.f56 0 (fun r => impl_DoughFor_d (r.fin 0 [])) [1, 1, 1, 0, 0] k m ⟨tmF [1, 2, 3] [(.a (.sc (.bp 0 0))), (.a (.sc (.v (.int .i64 0)))), (.a (.sc (.v (.int .i64 x0_0))))], blF [(.box true [(.v (.int .i64 l.Weight)), (.v (.int .i64 l.Loss))])]⟩
theorem impl_DoughFor_z0 (k : Nat) (l : Loaf) (x0_0 : Int) : impl_DoughFor_h0 k 0 l x0_0 = impl_DoughFor_s0 k l (fun _ => none) x0_0 := by kernel_rfl
theorem impl_DoughFor_g0 (k : Nat) (H : St → Option (Int)) (l : Loaf) (x0_0 : Int) : rnd env (impl_DoughFor_O k) impl_DoughFor_v Tryz.f56 0 (fun r => impl_DoughFor_d (r.fin 0 [])) [1, 1, 1, 0, 0] k H ⟨tmF [1, 2, 3] [(.a (.sc (.bp 0 0))), (.a (.sc (.v (.int .i64 0)))), (.a (.sc (.v (.int .i64 x0_0))))], blF [(.box true [(.v (.int .i64 l.Weight)), (.v (.int .i64 l.Loss))])]⟩ = impl_DoughFor_s0 k l (fun x0_0 => H ⟨tmF [1, 2, 3] [(.a (.sc (.bp 0 0))), (.a (.sc (.v (.int .i64 0)))), (.a (.sc (.v (.int .i64 x0_0))))], blF [(.box true [(.v (.int .i64 l.Weight)), (.v (.int .i64 l.Loss))])]⟩) x0_0 := by kernel_rfl
theorem impl_DoughFor_n0 (k m : Nat) (l : Loaf) (x0_0 : Int) : impl_DoughFor_h0 k (m + 1) l x0_0 = impl_DoughFor_s0 k l (impl_DoughFor_h0 k m l) x0_0 := (hdAt_succ _ _ _ _ _ _ _ _ _ _).trans (impl_DoughFor_g0 k _ l x0_0)
theorem impl_DoughFor_q0 (k : Nat) : ∀ m, impl_DoughFor_h0 k m = impl_DoughFor_l0 k m := by
 intro m
 induction m with
 | zero => funext l x0_0; rw [impl_DoughFor_z0]; rfl
 | succ m ih => funext l x0_0; rw [impl_DoughFor_n0, ih]; rfl
theorem impl_DoughFor_e (k : Nat) (l : Loaf) : callF env (impl_DoughFor_O k) impl_DoughFor_v Tryz.f56 (k + 1) (impl_DoughFor_A l) (fun r => impl_DoughFor_d (r.fin 0 [])) = impl_DoughFor k l := by
 have e : callF env (impl_DoughFor_O k) impl_DoughFor_v Tryz.f56 (k + 1) (impl_DoughFor_A l) (fun r => impl_DoughFor_d (r.fin 0 [])) = impl_DoughFor_m k (impl_DoughFor_h0 k k) l := by kernel_rfl
 rw [e, impl_DoughFor_q0]; rfl
noncomputable def impl_DoughFor_x (k : Nat) : Ent1 := fun A R Q => match A with
 | ⟨[(.ag [(.v (.int .i64 a1)), (.v (.int .i64 a2))])], []⟩ => (impl_DoughFor k (⟨a1, a2⟩ : Loaf)).bind fun y => Q ⟨(.a (.sc (.v (.int .i64 y)))), []⟩
 | _ => none
theorem impl_DoughFor_ok (k : Nat) : OkE Tryz.prog 56 (impl_DoughFor_x k) := by
 intro A R Q x h
 unfold impl_DoughFor_x at h
 split at h
 · obtain ⟨y, hy, hK⟩ := Option.bind_eq_some_iff.1 h
   obtain ⟨r, hr, hd⟩ := callF_ok envOk (impl_DoughFor_Ok k) follows Tryz.func56 (by kernel_rfl) ((impl_DoughFor_e k _).trans hy)
   exact ⟨_, impl_DoughFor_i hd ▸ hr.fin [], hK⟩
 · cases h
/-! ### impl.WholeParts: function 70 -/
noncomputable def impl_WholeParts (k : Nat)  (d : Dough) : Option (Int) :=
 (impl_DoughOk k d).bind fun y1 =>
 cond (!y1)
  (some (-1))
  (some (wr ((wr ((wr ((1000 : Int) + d.Water)) + d.Salt)) + d.Leaven)))
noncomputable def impl_WholeParts_v : Nat → List Nat := fun t => match t with | _ => []
noncomputable def impl_WholeParts_O (k : Nat) : Oracle := ofL [(27, impl_DoughOk_x k)]
theorem impl_WholeParts_Ok (k : Nat) : OkO (Ct Tryz.prog) (impl_WholeParts_O k) := okO_cons (impl_DoughOk_ok k) (okO_nil)
noncomputable def impl_WholeParts_A (d : Dough) : Pk := ⟨[(.ag [(.v (.int .i64 d.Water)), (.v (.int .i64 d.Salt)), (.v (.int .i64 d.Leaven))])], []⟩
noncomputable def impl_WholeParts_d : Rs → Option (Int)
 | ⟨(.a (.sc (.v (.int .i64 r1)))), []⟩ => some r1
 | _ => none
theorem impl_WholeParts_i {r : Rs} {y : Int} (h : impl_WholeParts_d r = some y) : r = ⟨(.a (.sc (.v (.int .i64 y)))), []⟩ := by
 unfold impl_WholeParts_d at h; split at h
 · cases h; rfl
 · cases h
theorem impl_WholeParts_e (k : Nat) (d : Dough) : callF env (impl_WholeParts_O k) impl_WholeParts_v Tryz.f70 (k + 1) (impl_WholeParts_A d) (fun r => impl_WholeParts_d (r.fin 0 [])) = impl_WholeParts k d := by kernel_rfl
noncomputable def impl_WholeParts_x (k : Nat) : Ent1 := fun A R Q => match A with
 | ⟨[(.ag [(.v (.int .i64 a1)), (.v (.int .i64 a2)), (.v (.int .i64 a3))])], []⟩ => (impl_WholeParts k (⟨a1, a2, a3⟩ : Dough)).bind fun y => Q ⟨(.a (.sc (.v (.int .i64 y)))), []⟩
 | _ => none
theorem impl_WholeParts_ok (k : Nat) : OkE Tryz.prog 70 (impl_WholeParts_x k) := by
 intro A R Q x h
 unfold impl_WholeParts_x at h
 split at h
 · obtain ⟨y, hy, hK⟩ := Option.bind_eq_some_iff.1 h
   obtain ⟨r, hr, hd⟩ := callF_ok envOk (impl_WholeParts_Ok k) follows Tryz.func70 (by kernel_rfl) ((impl_WholeParts_e k _).trans hy)
   exact ⟨_, impl_WholeParts_i hd ▸ hr.fin [], hK⟩
 · cases h
/-! ### impl.FlourFor: function 55 -/
noncomputable def impl_FlourFor (k : Nat)  (d : Dough) (weight : Int) : Option (Int) :=
 (impl_DoughOk k d).bind fun y1 =>
 cond (!y1)
  (some (-1))
  ((impl_in k weight 0 1000000).bind fun y2 =>
   cond (!y2)
    (some (-1))
    ((impl_WholeParts k d).bind fun y3 =>
     (impl_up k (wr ((1000 : Int) * weight)) y3).bind fun y4 =>
      some y4))
noncomputable def impl_FlourFor_v : Nat → List Nat := fun t => match t with | _ => []
noncomputable def impl_FlourFor_O (k : Nat) : Oracle := ofL [(27, impl_DoughOk_x k), (30, impl_in_x k), (54, impl_up_x k), (70, impl_WholeParts_x k)]
theorem impl_FlourFor_Ok (k : Nat) : OkO (Ct Tryz.prog) (impl_FlourFor_O k) := okO_cons (impl_DoughOk_ok k) (okO_cons (impl_in_ok k) (okO_cons (impl_up_ok k) (okO_cons (impl_WholeParts_ok k) (okO_nil))))
noncomputable def impl_FlourFor_A (d : Dough) (weight : Int) : Pk := ⟨[(.ag [(.v (.int .i64 d.Water)), (.v (.int .i64 d.Salt)), (.v (.int .i64 d.Leaven))]), (.sc (.v (.int .i64 weight)))], []⟩
noncomputable def impl_FlourFor_d : Rs → Option (Int)
 | ⟨(.a (.sc (.v (.int .i64 r1)))), []⟩ => some r1
 | _ => none
theorem impl_FlourFor_i {r : Rs} {y : Int} (h : impl_FlourFor_d r = some y) : r = ⟨(.a (.sc (.v (.int .i64 y)))), []⟩ := by
 unfold impl_FlourFor_d at h; split at h
 · cases h; rfl
 · cases h
theorem impl_FlourFor_e (k : Nat) (d : Dough) (weight : Int) : callF env (impl_FlourFor_O k) impl_FlourFor_v Tryz.f55 (k + 1) (impl_FlourFor_A d weight) (fun r => impl_FlourFor_d (r.fin 0 [])) = impl_FlourFor k d weight := by kernel_rfl
noncomputable def impl_FlourFor_x (k : Nat) : Ent1 := fun A R Q => match A with
 | ⟨[(.ag [(.v (.int .i64 a1)), (.v (.int .i64 a2)), (.v (.int .i64 a3))]), (.sc (.v (.int .i64 a4)))], []⟩ => (impl_FlourFor k (⟨a1, a2, a3⟩ : Dough) a4).bind fun y => Q ⟨(.a (.sc (.v (.int .i64 y)))), []⟩
 | _ => none
theorem impl_FlourFor_ok (k : Nat) : OkE Tryz.prog 55 (impl_FlourFor_x k) := by
 intro A R Q x h
 unfold impl_FlourFor_x at h
 split at h
 · obtain ⟨y, hy, hK⟩ := Option.bind_eq_some_iff.1 h
   obtain ⟨r, hr, hd⟩ := callF_ok envOk (impl_FlourFor_Ok k) follows Tryz.func55 (by kernel_rfl) ((impl_FlourFor_e k _ _).trans hy)
   exact ⟨_, impl_FlourFor_i hd ▸ hr.fin [], hK⟩
 · cases h
end Go.Proofs.YtfbnbdcjnbgibaaGreatDoorX
