/- What functions of the program compute, as functions of numbers and lists, and that they do. (The file is written by wip/x/vxp.py of this repository.) -/
import Derived.Test.YtlhcphoojiemmaaF4
namespace Go.Proofs.YtlhcphoojiemmaaX
open Go Go.Proofs
set_option linter.unusedVariables false
set_option maxRecDepth 100000
/-! ### impl.OpenBakery: function 71 -/
noncomputable def impl_OpenBakery (k : Nat)  (grams : (List Int)) (d : Dough) (l : Loaf) (money : Int) : Option (Bakery × Bool) :=
 (impl_bakeryCopy k (⟨(⟨grams⟩ : Stock), d, l, (⟨[], (⟨0, 0, 0⟩ : Rack), 0, 0, 0⟩ : Book), money⟩ : Bakery)).bind fun y1 =>
 (impl_BakeryOk k y1).bind fun y2 =>
  cond (!y2)
   (some ((⟨(⟨[]⟩ : Stock), (⟨0, 0, 0⟩ : Dough), (⟨0, 0⟩ : Loaf), (⟨[], (⟨0, 0, 0⟩ : Rack), 0, 0, 0⟩ : Book), 0⟩ : Bakery), false))
   (some (y1, true))
noncomputable def impl_OpenBakery_v : Nat → List Nat := fun t => match t with | _ => []
noncomputable def impl_OpenBakery_O (k : Nat) : Oracle := ofL [(13, impl_BakeryOk_x k), (42, impl_bakeryCopy_x k)]
theorem impl_OpenBakery_Ok (k : Nat) : OkO (Ct Try.prog) (impl_OpenBakery_O k) := okO_cons (impl_BakeryOk_ok k) (okO_cons (impl_bakeryCopy_ok k) (okO_nil))
noncomputable def impl_OpenBakery_A (grams : (List Int)) (d : Dough) (l : Loaf) (money : Int) : Pk := ⟨[(.sc (.sl 0)), (.ag [(.v (.int .i64 d.Water)), (.v (.int .i64 d.Salt)), (.v (.int .i64 d.Leaven))]), (.ag [(.v (.int .i64 l.Weight)), (.v (.int .i64 l.Loss))]), (.sc (.v (.int .i64 money)))], [(.row false K.ki64 grams)]⟩
noncomputable def impl_OpenBakery_d : Rs → Option (Bakery × Bool)
 | ⟨(.tp [(.ag [(.sl 1), (.v (.int .i64 r2)), (.v (.int .i64 r3)), (.v (.int .i64 r4)), (.v (.int .i64 r5)), (.v (.int .i64 r6)), (.sl 2), (.v (.int .i64 r8)), (.v (.int .i64 r9)), (.v (.int .i64 r10)), (.v (.int .i64 r11)), (.v (.int .i64 r12)), (.v (.int .i64 r13)), (.v (.int .i64 r14))]), (.sc (.v (.bool r15)))]), [.dead, (.row true K.ki64 r1), (.row true K.k_impl_Event r7)]⟩ => some ((⟨(⟨r1⟩ : Stock), (⟨r2, r3, r4⟩ : Dough), (⟨r5, r6⟩ : Loaf), (⟨r7, (⟨r8, r9, r10⟩ : Rack), r11, r12, r13⟩ : Book), r14⟩ : Bakery), r15)
 | _ => none
theorem impl_OpenBakery_i {r : Rs} {y : Bakery × Bool} (h : impl_OpenBakery_d r = some y) : r = ⟨(.tp [(.ag [(.sl 1), (.v (.int .i64 y.1.Dough.Water)), (.v (.int .i64 y.1.Dough.Salt)), (.v (.int .i64 y.1.Dough.Leaven)), (.v (.int .i64 y.1.Loaf.Weight)), (.v (.int .i64 y.1.Loaf.Loss)), (.sl 2), (.v (.int .i64 y.1.Book.Rack.Fresh)), (.v (.int .i64 y.1.Book.Rack.Day)), (.v (.int .i64 y.1.Book.Rack.Old)), (.v (.int .i64 y.1.Book.Baked)), (.v (.int .i64 y.1.Book.Sold)), (.v (.int .i64 y.1.Book.Thrown)), (.v (.int .i64 y.1.Money))]), (.sc (.v (.bool y.2)))]), [.dead, (.row true K.ki64 y.1.Stock.Grams), (.row true K.k_impl_Event y.1.Book.Events)]⟩ := by
 unfold impl_OpenBakery_d at h; split at h
 · cases h; rfl
 · cases h
theorem impl_OpenBakery_e (k : Nat) (grams : (List Int)) (d : Dough) (l : Loaf) (money : Int) : callF env (impl_OpenBakery_O k) impl_OpenBakery_v Try.f71 (k + 1) (impl_OpenBakery_A grams d l money) (fun r => impl_OpenBakery_d (r.fin 1 [])) = impl_OpenBakery k grams d l money := by kernel_rfl
noncomputable def impl_OpenBakery_x (k : Nat) : Ent1 := fun A R Q => match A with
 | ⟨[(.sc (.sl 0)), (.ag [(.v (.int .i64 a2)), (.v (.int .i64 a3)), (.v (.int .i64 a4))]), (.ag [(.v (.int .i64 a5)), (.v (.int .i64 a6))]), (.sc (.v (.int .i64 a7)))], [(.row false K.ki64 a1)]⟩ => (impl_OpenBakery k a1 (⟨a2, a3, a4⟩ : Dough) (⟨a5, a6⟩ : Loaf) a7).bind fun y => Q ⟨(.tp [(.ag [(.sl 1), (.v (.int .i64 y.1.Dough.Water)), (.v (.int .i64 y.1.Dough.Salt)), (.v (.int .i64 y.1.Dough.Leaven)), (.v (.int .i64 y.1.Loaf.Weight)), (.v (.int .i64 y.1.Loaf.Loss)), (.sl 2), (.v (.int .i64 y.1.Book.Rack.Fresh)), (.v (.int .i64 y.1.Book.Rack.Day)), (.v (.int .i64 y.1.Book.Rack.Old)), (.v (.int .i64 y.1.Book.Baked)), (.v (.int .i64 y.1.Book.Sold)), (.v (.int .i64 y.1.Book.Thrown)), (.v (.int .i64 y.1.Money))]), (.sc (.v (.bool y.2)))]), [.dead, (.row true K.ki64 y.1.Stock.Grams), (.row true K.k_impl_Event y.1.Book.Events)]⟩
 | _ => none
theorem impl_OpenBakery_ok (k : Nat) : OkE Try.prog 71 (impl_OpenBakery_x k) := by
 intro A R Q x h
 unfold impl_OpenBakery_x at h
 split at h
 · obtain ⟨y, hy, hK⟩ := Option.bind_eq_some_iff.1 h
   obtain ⟨r, hr, hd⟩ := callF_ok envOk (impl_OpenBakery_Ok k) follows Try.func71 (by kernel_rfl) ((impl_OpenBakery_e k _ _ _ _).trans hy)
   exact ⟨_, impl_OpenBakery_i hd ▸ hr.fin [], hK⟩
 · cases h
/-! ### impl.SampleBakery: function 25 -/
noncomputable def impl_SampleBakery (k : Nat)  : Option (Bakery) :=
 (impl_OpenBakery k ([4000, 3000, 100, 800]) (⟨650, 20, 200⟩ : Dough) (⟨500, 15⟩ : Loaf) 50).bind fun y1 =>
 some y1.1
noncomputable def impl_SampleBakery_v : Nat → List Nat := fun t => match t with | _ => []
noncomputable def impl_SampleBakery_O (k : Nat) : Oracle := ofL [(71, impl_OpenBakery_x k)]
theorem impl_SampleBakery_Ok (k : Nat) : OkO (Ct Try.prog) (impl_SampleBakery_O k) := okO_cons (impl_OpenBakery_ok k) (okO_nil)
noncomputable def impl_SampleBakery_A : Pk := ⟨[], []⟩
noncomputable def impl_SampleBakery_d : Rs → Option (Bakery)
 | ⟨(.a (.ag [(.sl 0), (.v (.int .i64 r2)), (.v (.int .i64 r3)), (.v (.int .i64 r4)), (.v (.int .i64 r5)), (.v (.int .i64 r6)), (.sl 1), (.v (.int .i64 r8)), (.v (.int .i64 r9)), (.v (.int .i64 r10)), (.v (.int .i64 r11)), (.v (.int .i64 r12)), (.v (.int .i64 r13)), (.v (.int .i64 r14))])), [(.row true K.ki64 r1), (.row true K.k_impl_Event r7)]⟩ => some (⟨(⟨r1⟩ : Stock), (⟨r2, r3, r4⟩ : Dough), (⟨r5, r6⟩ : Loaf), (⟨r7, (⟨r8, r9, r10⟩ : Rack), r11, r12, r13⟩ : Book), r14⟩ : Bakery)
 | _ => none
theorem impl_SampleBakery_i {r : Rs} {y : Bakery} (h : impl_SampleBakery_d r = some y) : r = ⟨(.a (.ag [(.sl 0), (.v (.int .i64 y.Dough.Water)), (.v (.int .i64 y.Dough.Salt)), (.v (.int .i64 y.Dough.Leaven)), (.v (.int .i64 y.Loaf.Weight)), (.v (.int .i64 y.Loaf.Loss)), (.sl 1), (.v (.int .i64 y.Book.Rack.Fresh)), (.v (.int .i64 y.Book.Rack.Day)), (.v (.int .i64 y.Book.Rack.Old)), (.v (.int .i64 y.Book.Baked)), (.v (.int .i64 y.Book.Sold)), (.v (.int .i64 y.Book.Thrown)), (.v (.int .i64 y.Money))])), [(.row true K.ki64 y.Stock.Grams), (.row true K.k_impl_Event y.Book.Events)]⟩ := by
 unfold impl_SampleBakery_d at h; split at h
 · cases h; rfl
 · cases h
theorem impl_SampleBakery_e (k : Nat) : callF env (impl_SampleBakery_O k) impl_SampleBakery_v Try.f25 (k + 1) (impl_SampleBakery_A) (fun r => impl_SampleBakery_d (r.fin 0 [])) = impl_SampleBakery k := by kernel_rfl
noncomputable def impl_SampleBakery_x (k : Nat) : Ent1 := fun A R Q => match A with
 | ⟨[], []⟩ => (impl_SampleBakery k).bind fun y => Q ⟨(.a (.ag [(.sl 0), (.v (.int .i64 y.Dough.Water)), (.v (.int .i64 y.Dough.Salt)), (.v (.int .i64 y.Dough.Leaven)), (.v (.int .i64 y.Loaf.Weight)), (.v (.int .i64 y.Loaf.Loss)), (.sl 1), (.v (.int .i64 y.Book.Rack.Fresh)), (.v (.int .i64 y.Book.Rack.Day)), (.v (.int .i64 y.Book.Rack.Old)), (.v (.int .i64 y.Book.Baked)), (.v (.int .i64 y.Book.Sold)), (.v (.int .i64 y.Book.Thrown)), (.v (.int .i64 y.Money))])), [(.row true K.ki64 y.Stock.Grams), (.row true K.k_impl_Event y.Book.Events)]⟩
 | _ => none
theorem impl_SampleBakery_ok (k : Nat) : OkE Try.prog 25 (impl_SampleBakery_x k) := by
 intro A R Q x h
 unfold impl_SampleBakery_x at h
 split at h
 · obtain ⟨y, hy, hK⟩ := Option.bind_eq_some_iff.1 h
   obtain ⟨r, hr, hd⟩ := callF_ok envOk (impl_SampleBakery_Ok k) follows Try.func25 (by kernel_rfl) ((impl_SampleBakery_e k).trans hy)
   exact ⟨_, impl_SampleBakery_i hd ▸ hr.fin [], hK⟩
 · cases h
/-! ### laws.FnScenarios: function 5 -/
noncomputable def laws_FnScenarios (k : Nat)  (code : (List Int)) : Option (Bool) :=
 (laws_big k code).bind fun y1 =>
 cond y1
  (some true)
  ((spec_DrawActs k code).bind fun y2 =>
   (impl_RunActs k y2.1 y2.2).bind fun y3 =>
    (impl_BakeryOk k y2.1).bind fun y4 =>
     cond y4
      ((impl_BakeryOk k y3.1).bind fun y5 =>
       cond y5
        (cond (decide ((((y3.2).length : Int) : Int) = ((y2.2).length : Int)))
        ((impl_SampleBakery k).bind fun y6 =>
        (impl_BakeryOk k y6).bind fun y7 =>
        some y7)
        (some false))
        (some false))
      (some false))
noncomputable def laws_FnScenarios_v : Nat → List Nat := fun t => match t with | _ => []
noncomputable def laws_FnScenarios_O (k : Nat) : Oracle := ofL [(13, impl_BakeryOk_x k), (24, impl_RunActs_x k), (25, impl_SampleBakery_x k), (8, laws_big_x k), (9, spec_DrawActs_x k)]
theorem laws_FnScenarios_Ok (k : Nat) : OkO (Ct Try.prog) (laws_FnScenarios_O k) := okO_cons (impl_BakeryOk_ok k) (okO_cons (impl_RunActs_ok k) (okO_cons (impl_SampleBakery_ok k) (okO_cons (laws_big_ok k) (okO_cons (spec_DrawActs_ok k) (okO_nil)))))
noncomputable def laws_FnScenarios_A (code : (List Int)) : Pk := ⟨[(.sc (.sl 0))], [(.row false K.ku8 code)]⟩
noncomputable def laws_FnScenarios_d : Rs → Option (Bool)
 | ⟨(.a (.sc (.v (.bool r1)))), [.dead]⟩ => some r1
 | _ => none
theorem laws_FnScenarios_i {r : Rs} {y : Bool} (h : laws_FnScenarios_d r = some y) : r = ⟨(.a (.sc (.v (.bool y)))), [.dead]⟩ := by
 unfold laws_FnScenarios_d at h; split at h
 · cases h; rfl
 · cases h
theorem laws_FnScenarios_e (k : Nat) (code : (List Int)) : callF env (laws_FnScenarios_O k) laws_FnScenarios_v Try.f5 (k + 1) (laws_FnScenarios_A code) (fun r => laws_FnScenarios_d (r.fin 1 [])) = laws_FnScenarios k code := by kernel_rfl
noncomputable def laws_FnScenarios_x (k : Nat) : Ent1 := fun A R Q => match A with
 | ⟨[(.sc (.sl 0))], [(.row false K.ku8 a1)]⟩ => (laws_FnScenarios k a1).bind fun y => Q ⟨(.a (.sc (.v (.bool y)))), [.dead]⟩
 | _ => none
theorem laws_FnScenarios_ok (k : Nat) : OkE Try.prog 5 (laws_FnScenarios_x k) := by
 intro A R Q x h
 unfold laws_FnScenarios_x at h
 split at h
 · obtain ⟨y, hy, hK⟩ := Option.bind_eq_some_iff.1 h
   obtain ⟨r, hr, hd⟩ := callF_ok envOk (laws_FnScenarios_Ok k) follows Try.func5 (by kernel_rfl) ((laws_FnScenarios_e k _).trans hy)
   exact ⟨_, laws_FnScenarios_i hd ▸ hr.fin [], hK⟩
 · cases h
/-! ### slices.Equal[[]int,int]: function 72 -/
noncomputable def slices_Equal_int_int_s0 (k : Nat)  (s1 : (List Int)) (s2 : (List Int)) (J : Int → Option (Bool)) (x0_0 : Int) : Option (Bool) :=
 cond (decide ((x0_0 : Int) < ((s1).length : Int)))
 (if 0 ≤ (x0_0 : Int) ∧ (x0_0 : Int) < ((s1).length : Int) then
  if 0 ≤ (x0_0 : Int) ∧ (x0_0 : Int) < ((s2).length : Int) then
   cond (!(decide (((s1.getD (Int.toNat x0_0) 0) : Int) = (s2.getD (Int.toNat x0_0) 0))))
    (some false)
    (J (wr (x0_0 + 1))) else none else none)
 (some true)
noncomputable def slices_Equal_int_int_l0 (k : Nat) : Nat → (List Int) → (List Int) → Int → Option (Bool)
 | 0, s1, s2, x0_0 => slices_Equal_int_int_s0 k s1 s2 (fun _ => none) x0_0
 | m + 1, s1, s2, x0_0 => slices_Equal_int_int_s0 k s1 s2 (slices_Equal_int_int_l0 k m s1 s2) x0_0
noncomputable def slices_Equal_int_int_m (k : Nat) (J0 : (List Int) → (List Int) → Int → Option (Bool)) (s1 : (List Int)) (s2 : (List Int)) : Option (Bool) :=
 cond (!(decide ((((s1).length : Int) : Int) = ((s2).length : Int))))
 (some false)
 (J0 s1 s2 0)
noncomputable def slices_Equal_int_int (k : Nat) (s1 : (List Int)) (s2 : (List Int)) : Option (Bool) := slices_Equal_int_int_m k (slices_Equal_int_int_l0 k k) s1 s2
noncomputable def slices_Equal_int_int_v : Nat → List Nat := fun t => match t with | 4 => [0, 1, 4, 12, 13] | _ => []
noncomputable def slices_Equal_int_int_O (k : Nat) : Oracle := ofL []
theorem slices_Equal_int_int_Ok (k : Nat) : OkO (Ct Try.prog) (slices_Equal_int_int_O k) := okO_nil
noncomputable def slices_Equal_int_int_A (s1 : (List Int)) (s2 : (List Int)) : Pk := ⟨[(.sc (.sl 0)), (.sc (.sl 1))], [(.row false K.ki64 s1), (.row false K.ki64 s2)]⟩
noncomputable def slices_Equal_int_int_d : Rs → Option (Bool)
 | ⟨(.a (.sc (.v (.bool r1)))), [.dead, .dead]⟩ => some r1
 | _ => none
theorem slices_Equal_int_int_i {r : Rs} {y : Bool} (h : slices_Equal_int_int_d r = some y) : r = ⟨(.a (.sc (.v (.bool y)))), [.dead, .dead]⟩ := by
 unfold slices_Equal_int_int_d at h; split at h
 · cases h; rfl
 · cases h
noncomputable def slices_Equal_int_int_h0 (k m : Nat) (s1 : (List Int)) (s2 : (List Int)) (x0_0 : Int) : Option (Bool) := hdAt env (slices_Equal_int_int_O k) slices_Equal_int_int_v Try.f72 2 (fun r => slices_Equal_int_int_d (r.fin 2 [])) [1, 1, 0, 1, 0] k m ⟨tmF [0, 1, 4, 12, 13] [(.a (.sc (.sl 0))), (.a (.sc (.sl 1))), (.a (.sc (.v (.bool false)))), (.a (.sc (.v (.int .i64 ((s1).length : Int))))), (.a (.sc (.v (.int .i64 x0_0))))], blF [(.row false K.ki64 s1), (.row false K.ki64 s2)]⟩
theorem slices_Equal_int_int_z0 (k : Nat) (s1 : (List Int)) (s2 : (List Int)) (x0_0 : Int) : slices_Equal_int_int_h0 k 0 s1 s2 x0_0 = slices_Equal_int_int_s0 k s1 s2 (fun _ => none) x0_0 := by kernel_rfl
theorem slices_Equal_int_int_g0 (k : Nat) (H : St → Option (Bool)) (s1 : (List Int)) (s2 : (List Int)) (x0_0 : Int) : rnd env (slices_Equal_int_int_O k) slices_Equal_int_int_v Try.f72 2 (fun r => slices_Equal_int_int_d (r.fin 2 [])) [1, 1, 0, 1, 0] k H ⟨tmF [0, 1, 4, 12, 13] [(.a (.sc (.sl 0))), (.a (.sc (.sl 1))), (.a (.sc (.v (.bool false)))), (.a (.sc (.v (.int .i64 ((s1).length : Int))))), (.a (.sc (.v (.int .i64 x0_0))))], blF [(.row false K.ki64 s1), (.row false K.ki64 s2)]⟩ = slices_Equal_int_int_s0 k s1 s2 (fun x0_0 => H ⟨tmF [0, 1, 4, 12, 13] [(.a (.sc (.sl 0))), (.a (.sc (.sl 1))), (.a (.sc (.v (.bool false)))), (.a (.sc (.v (.int .i64 ((s1).length : Int))))), (.a (.sc (.v (.int .i64 x0_0))))], blF [(.row false K.ki64 s1), (.row false K.ki64 s2)]⟩) x0_0 := by kernel_rfl
theorem slices_Equal_int_int_n0 (k m : Nat) (s1 : (List Int)) (s2 : (List Int)) (x0_0 : Int) : slices_Equal_int_int_h0 k (m + 1) s1 s2 x0_0 = slices_Equal_int_int_s0 k s1 s2 (slices_Equal_int_int_h0 k m s1 s2) x0_0 := (hdAt_succ _ _ _ _ _ _ _ _ _ _).trans (slices_Equal_int_int_g0 k _ s1 s2 x0_0)
theorem slices_Equal_int_int_q0 (k : Nat) : ∀ m, slices_Equal_int_int_h0 k m = slices_Equal_int_int_l0 k m := by
 intro m
 induction m with
 | zero => funext s1 s2 x0_0; rw [slices_Equal_int_int_z0]; rfl
 | succ m ih => funext s1 s2 x0_0; rw [slices_Equal_int_int_n0, ih]; rfl
theorem slices_Equal_int_int_e (k : Nat) (s1 : (List Int)) (s2 : (List Int)) : callF env (slices_Equal_int_int_O k) slices_Equal_int_int_v Try.f72 (k + 1) (slices_Equal_int_int_A s1 s2) (fun r => slices_Equal_int_int_d (r.fin 2 [])) = slices_Equal_int_int k s1 s2 := by
 have e : callF env (slices_Equal_int_int_O k) slices_Equal_int_int_v Try.f72 (k + 1) (slices_Equal_int_int_A s1 s2) (fun r => slices_Equal_int_int_d (r.fin 2 [])) = slices_Equal_int_int_m k (slices_Equal_int_int_h0 k k) s1 s2 := by kernel_rfl
 rw [e, slices_Equal_int_int_q0]; rfl
noncomputable def slices_Equal_int_int_x (k : Nat) : Ent1 := fun A R Q => match A with
 | ⟨[(.sc (.sl 0)), (.sc (.sl 1))], [(.row false K.ki64 a1), (.row false K.ki64 a2)]⟩ => (slices_Equal_int_int k a1 a2).bind fun y => Q ⟨(.a (.sc (.v (.bool y)))), [.dead, .dead]⟩
 | _ => none
theorem slices_Equal_int_int_ok (k : Nat) : OkE Try.prog 72 (slices_Equal_int_int_x k) := by
 intro A R Q x h
 unfold slices_Equal_int_int_x at h
 split at h
 · obtain ⟨y, hy, hK⟩ := Option.bind_eq_some_iff.1 h
   obtain ⟨r, hr, hd⟩ := callF_ok envOk (slices_Equal_int_int_Ok k) follows Try.func72 (by kernel_rfl) ((slices_Equal_int_int_e k _ _).trans hy)
   exact ⟨_, slices_Equal_int_int_i hd ▸ hr.fin [], hK⟩
 · cases h
/-! ### impl.IsReplay: function 26 -/
noncomputable def impl_IsReplay (k : Nat)  (b : Bakery) (acts : (List Deed)) (numbers : (List Int)) : Option (Bool) :=
 (impl_BakeryOk k b).bind fun y1 =>
 cond (!y1)
  (some false)
  (cond (decide ((40 : Int) < ((acts).length : Int)))
   (some false)
   ((impl_RunActs k b acts).bind fun y2 =>
    (slices_Equal_int_int k y2.2 numbers).bind fun y3 =>
     some y3))
noncomputable def impl_IsReplay_v : Nat → List Nat := fun t => match t with | _ => []
noncomputable def impl_IsReplay_O (k : Nat) : Oracle := ofL [(13, impl_BakeryOk_x k), (24, impl_RunActs_x k), (72, slices_Equal_int_int_x k)]
theorem impl_IsReplay_Ok (k : Nat) : OkO (Ct Try.prog) (impl_IsReplay_O k) := okO_cons (impl_BakeryOk_ok k) (okO_cons (impl_RunActs_ok k) (okO_cons (slices_Equal_int_int_ok k) (okO_nil)))
noncomputable def impl_IsReplay_A (b : Bakery) (acts : (List Deed)) (numbers : (List Int)) : Pk := ⟨[(.ag [(.sl 0), (.v (.int .i64 b.Dough.Water)), (.v (.int .i64 b.Dough.Salt)), (.v (.int .i64 b.Dough.Leaven)), (.v (.int .i64 b.Loaf.Weight)), (.v (.int .i64 b.Loaf.Loss)), (.sl 1), (.v (.int .i64 b.Book.Rack.Fresh)), (.v (.int .i64 b.Book.Rack.Day)), (.v (.int .i64 b.Book.Rack.Old)), (.v (.int .i64 b.Book.Baked)), (.v (.int .i64 b.Book.Sold)), (.v (.int .i64 b.Book.Thrown)), (.v (.int .i64 b.Money))]), (.sc (.sl 2)), (.sc (.sl 3))], [(.row false K.ki64 b.Stock.Grams), (.row false K.k_impl_Event b.Book.Events), (.row false K.k_impl_Act acts), (.row false K.ki64 numbers)]⟩
noncomputable def impl_IsReplay_d : Rs → Option (Bool)
 | ⟨(.a (.sc (.v (.bool r1)))), [.dead, .dead, .dead, .dead]⟩ => some r1
 | _ => none
theorem impl_IsReplay_i {r : Rs} {y : Bool} (h : impl_IsReplay_d r = some y) : r = ⟨(.a (.sc (.v (.bool y)))), [.dead, .dead, .dead, .dead]⟩ := by
 unfold impl_IsReplay_d at h; split at h
 · cases h; rfl
 · cases h
theorem impl_IsReplay_e (k : Nat) (b : Bakery) (acts : (List Deed)) (numbers : (List Int)) : callF env (impl_IsReplay_O k) impl_IsReplay_v Try.f26 (k + 1) (impl_IsReplay_A b acts numbers) (fun r => impl_IsReplay_d (r.fin 4 [])) = impl_IsReplay k b acts numbers := by kernel_rfl
noncomputable def impl_IsReplay_x (k : Nat) : Ent1 := fun A R Q => match A with
 | ⟨[(.ag [(.sl 0), (.v (.int .i64 a2)), (.v (.int .i64 a3)), (.v (.int .i64 a4)), (.v (.int .i64 a5)), (.v (.int .i64 a6)), (.sl 1), (.v (.int .i64 a8)), (.v (.int .i64 a9)), (.v (.int .i64 a10)), (.v (.int .i64 a11)), (.v (.int .i64 a12)), (.v (.int .i64 a13)), (.v (.int .i64 a14))]), (.sc (.sl 2)), (.sc (.sl 3))], [(.row false K.ki64 a1), (.row false K.k_impl_Event a7), (.row false K.k_impl_Act a15), (.row false K.ki64 a16)]⟩ => (impl_IsReplay k (⟨(⟨a1⟩ : Stock), (⟨a2, a3, a4⟩ : Dough), (⟨a5, a6⟩ : Loaf), (⟨a7, (⟨a8, a9, a10⟩ : Rack), a11, a12, a13⟩ : Book), a14⟩ : Bakery) a15 a16).bind fun y => Q ⟨(.a (.sc (.v (.bool y)))), [.dead, .dead, .dead, .dead]⟩
 | _ => none
theorem impl_IsReplay_ok (k : Nat) : OkE Try.prog 26 (impl_IsReplay_x k) := by
 intro A R Q x h
 unfold impl_IsReplay_x at h
 split at h
 · obtain ⟨y, hy, hK⟩ := Option.bind_eq_some_iff.1 h
   obtain ⟨r, hr, hd⟩ := callF_ok envOk (impl_IsReplay_Ok k) follows Try.func26 (by kernel_rfl) ((impl_IsReplay_e k _ _ _).trans hy)
   exact ⟨_, impl_IsReplay_i hd ▸ hr.fin [], hK⟩
 · cases h
/-! ### spec.DrawPlaces: function 27 -/
noncomputable def spec_DrawPlaces_s0 (k : Nat)  (code : (List Int)) (J : Int → Int → Int → (List Int) → Option ((List Int))) (x0_0 : Int) (x0_1 : Int) (x0_2 : Int) (x0_3 : (List Int)) : Option ((List Int)) :=
 cond (decide ((x0_0 : Int) < 12))
 ((spec_l01Below k (⟨code, x0_1, x0_2⟩ : l01Cur) 10000).bind fun y3 =>
  if (x0_3 : List Int).length + ([y3.1] : List Int).length ≤ maxRow then
   J (wr (x0_0 + 1)) y3.2.1 y3.2.2 (x0_3 ++ [y3.1]) else none)
 (some x0_3)
noncomputable def spec_DrawPlaces_l0 (k : Nat) : Nat → (List Int) → Int → Int → Int → (List Int) → Option ((List Int))
 | 0, code, x0_0, x0_1, x0_2, x0_3 => spec_DrawPlaces_s0 k code (fun _ _ _ _ => none) x0_0 x0_1 x0_2 x0_3
 | m + 1, code, x0_0, x0_1, x0_2, x0_3 => spec_DrawPlaces_s0 k code (spec_DrawPlaces_l0 k m code) x0_0 x0_1 x0_2 x0_3
noncomputable def spec_DrawPlaces_m (k : Nat) (J0 : (List Int) → Int → Int → Int → (List Int) → Option ((List Int))) (code : (List Int)) : Option ((List Int)) :=
 (spec_l01New k code).bind fun y1 =>
 J0 code 0 y1.1 y1.2 ([])
noncomputable def spec_DrawPlaces (k : Nat) (code : (List Int)) : Option ((List Int)) := spec_DrawPlaces_m k (spec_DrawPlaces_l0 k k) code
noncomputable def spec_DrawPlaces_v : Nat → List Nat := fun t => match t with | 4 => [2, 3, 4, 5] | _ => []
noncomputable def spec_DrawPlaces_O (k : Nat) : Oracle := ofL [(34, spec_l01New_x k), (73, spec_l01Below_x k)]
theorem spec_DrawPlaces_Ok (k : Nat) : OkO (Ct Try.prog) (spec_DrawPlaces_O k) := okO_cons (spec_l01New_ok k) (okO_cons (spec_l01Below_ok k) (okO_nil))
noncomputable def spec_DrawPlaces_A (code : (List Int)) : Pk := ⟨[(.sc (.sl 0))], [(.row false K.ku8 code)]⟩
noncomputable def spec_DrawPlaces_d : Rs → Option ((List Int))
 | ⟨(.a (.sc (.sl 1))), [.dead, (.row true K.ki64 r1)]⟩ => some r1
 | _ => none
theorem spec_DrawPlaces_i {r : Rs} {y : (List Int)} (h : spec_DrawPlaces_d r = some y) : r = ⟨(.a (.sc (.sl 1))), [.dead, (.row true K.ki64 y)]⟩ := by
 unfold spec_DrawPlaces_d at h; split at h
 · cases h; rfl
 · cases h
noncomputable def spec_DrawPlaces_h0 (k m : Nat) (code : (List Int)) (x0_0 : Int) (x0_1 : Int) (x0_2 : Int) (x0_3 : (List Int)) : Option ((List Int)) := hdAt env (spec_DrawPlaces_O k) spec_DrawPlaces_v Try.f27 1 (fun r => spec_DrawPlaces_d (r.fin 1 [])) [1, 1, 1, 0, 1, 0] k m ⟨tmF [2, 3, 4, 5] [(.a (.sc .nl)), (.a (.sc (.bp 1 0))), (.a (.sc (.sl 2))), (.a (.sc (.v (.int .i64 x0_0))))], blF [(.row false K.ku8 code), (.box true [(.sl 0), (.v (.int .i64 x0_1)), (.v (.int .i64 x0_2))]), (.row true K.ki64 x0_3)]⟩
theorem spec_DrawPlaces_z0 (k : Nat) (code : (List Int)) (x0_0 : Int) (x0_1 : Int) (x0_2 : Int) (x0_3 : (List Int)) : spec_DrawPlaces_h0 k 0 code x0_0 x0_1 x0_2 x0_3 = spec_DrawPlaces_s0 k code (fun _ _ _ _ => none) x0_0 x0_1 x0_2 x0_3 := by kernel_rfl
theorem spec_DrawPlaces_g0 (k : Nat) (H : St → Option ((List Int))) (code : (List Int)) (x0_0 : Int) (x0_1 : Int) (x0_2 : Int) (x0_3 : (List Int)) : rnd env (spec_DrawPlaces_O k) spec_DrawPlaces_v Try.f27 1 (fun r => spec_DrawPlaces_d (r.fin 1 [])) [1, 1, 1, 0, 1, 0] k H ⟨tmF [2, 3, 4, 5] [(.a (.sc .nl)), (.a (.sc (.bp 1 0))), (.a (.sc (.sl 2))), (.a (.sc (.v (.int .i64 x0_0))))], blF [(.row false K.ku8 code), (.box true [(.sl 0), (.v (.int .i64 x0_1)), (.v (.int .i64 x0_2))]), (.row true K.ki64 x0_3)]⟩ = spec_DrawPlaces_s0 k code (fun x0_0 x0_1 x0_2 x0_3 => H ⟨tmF [2, 3, 4, 5] [(.a (.sc .nl)), (.a (.sc (.bp 1 0))), (.a (.sc (.sl 2))), (.a (.sc (.v (.int .i64 x0_0))))], blF [(.row false K.ku8 code), (.box true [(.sl 0), (.v (.int .i64 x0_1)), (.v (.int .i64 x0_2))]), (.row true K.ki64 x0_3)]⟩) x0_0 x0_1 x0_2 x0_3 := by kernel_rfl
theorem spec_DrawPlaces_n0 (k m : Nat) (code : (List Int)) (x0_0 : Int) (x0_1 : Int) (x0_2 : Int) (x0_3 : (List Int)) : spec_DrawPlaces_h0 k (m + 1) code x0_0 x0_1 x0_2 x0_3 = spec_DrawPlaces_s0 k code (spec_DrawPlaces_h0 k m code) x0_0 x0_1 x0_2 x0_3 := (hdAt_succ _ _ _ _ _ _ _ _ _ _).trans (spec_DrawPlaces_g0 k _ code x0_0 x0_1 x0_2 x0_3)
theorem spec_DrawPlaces_q0 (k : Nat) : ∀ m, spec_DrawPlaces_h0 k m = spec_DrawPlaces_l0 k m := by
 intro m
 induction m with
 | zero => funext code x0_0 x0_1 x0_2 x0_3; rw [spec_DrawPlaces_z0]; rfl
 | succ m ih => funext code x0_0 x0_1 x0_2 x0_3; rw [spec_DrawPlaces_n0, ih]; rfl
theorem spec_DrawPlaces_e (k : Nat) (code : (List Int)) : callF env (spec_DrawPlaces_O k) spec_DrawPlaces_v Try.f27 (k + 1) (spec_DrawPlaces_A code) (fun r => spec_DrawPlaces_d (r.fin 1 [])) = spec_DrawPlaces k code := by
 have e : callF env (spec_DrawPlaces_O k) spec_DrawPlaces_v Try.f27 (k + 1) (spec_DrawPlaces_A code) (fun r => spec_DrawPlaces_d (r.fin 1 [])) = spec_DrawPlaces_m k (spec_DrawPlaces_h0 k k) code := by kernel_rfl
 rw [e, spec_DrawPlaces_q0]; rfl
noncomputable def spec_DrawPlaces_x (k : Nat) : Ent1 := fun A R Q => match A with
 | ⟨[(.sc (.sl 0))], [(.row false K.ku8 a1)]⟩ => (spec_DrawPlaces k a1).bind fun y => Q ⟨(.a (.sc (.sl 1))), [.dead, (.row true K.ki64 y)]⟩
 | _ => none
theorem spec_DrawPlaces_ok (k : Nat) : OkE Try.prog 27 (spec_DrawPlaces_x k) := by
 intro A R Q x h
 unfold spec_DrawPlaces_x at h
 split at h
 · obtain ⟨y, hy, hK⟩ := Option.bind_eq_some_iff.1 h
   obtain ⟨r, hr, hd⟩ := callF_ok envOk (spec_DrawPlaces_Ok k) follows Try.func27 (by kernel_rfl) ((spec_DrawPlaces_e k _).trans hy)
   exact ⟨_, spec_DrawPlaces_i hd ▸ hr.fin [], hK⟩
 · cases h
/-! ### laws.FnReplays: function 6 -/
noncomputable def laws_FnReplays (k : Nat)  (code : (List Int)) : Option (Bool) :=
 (laws_big k code).bind fun y1 =>
 cond y1
  (some true)
  ((spec_DrawActs k code).bind fun y2 =>
   (impl_RunActs k y2.1 y2.2).bind fun y3 =>
    (impl_IsReplay k y2.1 y2.2 y3.2).bind fun y4 =>
     cond (!y4)
      (some false)
      (cond (decide ((((y3.2).length : Int) : Int) = 0))
       ((impl_IsReplay k y2.1 y2.2 ([1])).bind fun y5 =>
        some (!y5))
       ((spec_DrawPlaces k code).bind fun y6 =>
        if 0 ≤ (0 : Int) ∧ (0 : Int) < ((y6).length : Int) then
        if (((y3.2).length : Int) : Int) ≠ 0 then
        if 0 ≤ ((Int.tmod (y6.getD 0 0) ((y3.2).length : Int)) : Int) ∧ ((Int.tmod (y6.getD 0 0) ((y3.2).length : Int)) : Int) < ((y3.2).length : Int) then
        if 0 ≤ ((Int.tmod (y6.getD 0 0) ((y3.2).length : Int)) : Int) ∧ ((Int.tmod (y6.getD 0 0) ((y3.2).length : Int)) : Int) < ((y3.2).length : Int) then
        (impl_IsReplay k y2.1 y2.2 (y3.2.set (Int.toNat (Int.tmod (y6.getD 0 0) ((y3.2).length : Int))) (wr ((y3.2.getD (Int.toNat (Int.tmod (y6.getD 0 0) ((y3.2).length : Int))) 0) + 1)))).bind fun y7 =>
        some (!y7) else none else none else none else none)))
noncomputable def laws_FnReplays_v : Nat → List Nat := fun t => match t with | _ => []
noncomputable def laws_FnReplays_O (k : Nat) : Oracle := ofL [(24, impl_RunActs_x k), (26, impl_IsReplay_x k), (27, spec_DrawPlaces_x k), (8, laws_big_x k), (9, spec_DrawActs_x k)]
theorem laws_FnReplays_Ok (k : Nat) : OkO (Ct Try.prog) (laws_FnReplays_O k) := okO_cons (impl_RunActs_ok k) (okO_cons (impl_IsReplay_ok k) (okO_cons (spec_DrawPlaces_ok k) (okO_cons (laws_big_ok k) (okO_cons (spec_DrawActs_ok k) (okO_nil)))))
noncomputable def laws_FnReplays_A (code : (List Int)) : Pk := ⟨[(.sc (.sl 0))], [(.row false K.ku8 code)]⟩
noncomputable def laws_FnReplays_d : Rs → Option (Bool)
 | ⟨(.a (.sc (.v (.bool r1)))), [.dead]⟩ => some r1
 | _ => none
theorem laws_FnReplays_i {r : Rs} {y : Bool} (h : laws_FnReplays_d r = some y) : r = ⟨(.a (.sc (.v (.bool y)))), [.dead]⟩ := by
 unfold laws_FnReplays_d at h; split at h
 · cases h; rfl
 · cases h
theorem laws_FnReplays_e (k : Nat) (code : (List Int)) : callF env (laws_FnReplays_O k) laws_FnReplays_v Try.f6 (k + 1) (laws_FnReplays_A code) (fun r => laws_FnReplays_d (r.fin 1 [])) = laws_FnReplays k code := by kernel_rfl
noncomputable def laws_FnReplays_x (k : Nat) : Ent1 := fun A R Q => match A with
 | ⟨[(.sc (.sl 0))], [(.row false K.ku8 a1)]⟩ => (laws_FnReplays k a1).bind fun y => Q ⟨(.a (.sc (.v (.bool y)))), [.dead]⟩
 | _ => none
theorem laws_FnReplays_ok (k : Nat) : OkE Try.prog 6 (laws_FnReplays_x k) := by
 intro A R Q x h
 unfold laws_FnReplays_x at h
 split at h
 · obtain ⟨y, hy, hK⟩ := Option.bind_eq_some_iff.1 h
   obtain ⟨r, hr, hd⟩ := callF_ok envOk (laws_FnReplays_Ok k) follows Try.func6 (by kernel_rfl) ((laws_FnReplays_e k _).trans hy)
   exact ⟨_, laws_FnReplays_i hd ▸ hr.fin [], hK⟩
 · cases h
/-! ### spec.BakedWeight: function 87 -/
noncomputable def spec_BakedWeight (k : Nat)  (l : Loaf) (dough : Int) : Option (Int) :=
 (spec_LoafOk k l).bind fun y1 =>
 cond (!y1)
  (some (-1))
  ((spec_l01In k dough 0 10000).bind fun y2 =>
   cond (!y2)
    (some (-1))
    (if (100 : Int) ≠ 0 then
     some (wr (dough - (wr (Int.tdiv (wr ((wr (dough * l.Loss)) + 99)) 100)))) else none))
noncomputable def spec_BakedWeight_v : Nat → List Nat := fun t => match t with | _ => []
noncomputable def spec_BakedWeight_O (k : Nat) : Oracle := ofL [(38, spec_l01In_x k), (84, spec_LoafOk_x k)]
theorem spec_BakedWeight_Ok (k : Nat) : OkO (Ct Try.prog) (spec_BakedWeight_O k) := okO_cons (spec_l01In_ok k) (okO_cons (spec_LoafOk_ok k) (okO_nil))
noncomputable def spec_BakedWeight_A (l : Loaf) (dough : Int) : Pk := ⟨[(.ag [(.v (.int .i64 l.Weight)), (.v (.int .i64 l.Loss))]), (.sc (.v (.int .i64 dough)))], []⟩
noncomputable def spec_BakedWeight_d : Rs → Option (Int)
 | ⟨(.a (.sc (.v (.int .i64 r1)))), []⟩ => some r1
 | _ => none
theorem spec_BakedWeight_i {r : Rs} {y : Int} (h : spec_BakedWeight_d r = some y) : r = ⟨(.a (.sc (.v (.int .i64 y)))), []⟩ := by
 unfold spec_BakedWeight_d at h; split at h
 · cases h; rfl
 · cases h
theorem spec_BakedWeight_e (k : Nat) (l : Loaf) (dough : Int) : callF env (spec_BakedWeight_O k) spec_BakedWeight_v Try.f87 (k + 1) (spec_BakedWeight_A l dough) (fun r => spec_BakedWeight_d (r.fin 0 [])) = spec_BakedWeight k l dough := by kernel_rfl
noncomputable def spec_BakedWeight_x (k : Nat) : Ent1 := fun A R Q => match A with
 | ⟨[(.ag [(.v (.int .i64 a1)), (.v (.int .i64 a2))]), (.sc (.v (.int .i64 a3)))], []⟩ => (spec_BakedWeight k (⟨a1, a2⟩ : Loaf) a3).bind fun y => Q ⟨(.a (.sc (.v (.int .i64 y)))), []⟩
 | _ => none
theorem spec_BakedWeight_ok (k : Nat) : OkE Try.prog 87 (spec_BakedWeight_x k) := by
 intro A R Q x h
 unfold spec_BakedWeight_x at h
 split at h
 · obtain ⟨y, hy, hK⟩ := Option.bind_eq_some_iff.1 h
   obtain ⟨r, hr, hd⟩ := callF_ok envOk (spec_BakedWeight_Ok k) follows Try.func87 (by kernel_rfl) ((spec_BakedWeight_e k _ _).trans hy)
   exact ⟨_, spec_BakedWeight_i hd ▸ hr.fin [], hK⟩
 · cases h
/-! ### spec.DoughFor: function 40 -/
noncomputable def spec_DoughFor_s0 (k : Nat)  (l : Loaf) (J : Int → Option (Int)) (x0_0 : Int) : Option (Int) :=
 (spec_BakedWeight k l x0_0).bind fun y3 =>
 cond (decide ((y3 : Int) < l.Weight))
  (J (wr (x0_0 + 1)))
  (some x0_0)
noncomputable def spec_DoughFor_l0 (k : Nat) : Nat → Loaf → Int → Option (Int)
 | 0, l, x0_0 => spec_DoughFor_s0 k l (fun _ => none) x0_0
 | m + 1, l, x0_0 => spec_DoughFor_s0 k l (spec_DoughFor_l0 k m l) x0_0
noncomputable def spec_DoughFor_m (k : Nat) (J0 : Loaf → Int → Option (Int)) (l : Loaf) : Option (Int) :=
 (spec_LoafOk k l).bind fun y1 =>
 cond (!y1)
  (some (-1))
  (J0 l l.Weight)
noncomputable def spec_DoughFor (k : Nat) (l : Loaf) : Option (Int) := spec_DoughFor_m k (spec_DoughFor_l0 k k) l
noncomputable def spec_DoughFor_v : Nat → List Nat := fun t => match t with | 4 => [1, 2, 3] | _ => []
noncomputable def spec_DoughFor_O (k : Nat) : Oracle := ofL [(84, spec_LoafOk_x k), (87, spec_BakedWeight_x k)]
theorem spec_DoughFor_Ok (k : Nat) : OkO (Ct Try.prog) (spec_DoughFor_O k) := okO_cons (spec_LoafOk_ok k) (okO_cons (spec_BakedWeight_ok k) (okO_nil))
noncomputable def spec_DoughFor_A (l : Loaf) : Pk := ⟨[(.ag [(.v (.int .i64 l.Weight)), (.v (.int .i64 l.Loss))])], []⟩
noncomputable def spec_DoughFor_d : Rs → Option (Int)
 | ⟨(.a (.sc (.v (.int .i64 r1)))), []⟩ => some r1
 | _ => none
theorem spec_DoughFor_i {r : Rs} {y : Int} (h : spec_DoughFor_d r = some y) : r = ⟨(.a (.sc (.v (.int .i64 y)))), []⟩ := by
 unfold spec_DoughFor_d at h; split at h
 · cases h; rfl
 · cases h
noncomputable def spec_DoughFor_h0 (k m : Nat) (l : Loaf) (x0_0 : Int) : Option (Int) := hdAt env (spec_DoughFor_O k) spec_DoughFor_v Try.f40 0 (fun r => spec_DoughFor_d (r.fin 0 [])) [1, 1, 1, 0, 0] k m ⟨tmF [1, 2, 3] [(.a (.sc (.bp 0 0))), (.a (.sc (.v (.int .i64 0)))), (.a (.sc (.v (.int .i64 x0_0))))], blF [(.box true [(.v (.int .i64 l.Weight)), (.v (.int .i64 l.Loss))])]⟩
theorem spec_DoughFor_z0 (k : Nat) (l : Loaf) (x0_0 : Int) : spec_DoughFor_h0 k 0 l x0_0 = spec_DoughFor_s0 k l (fun _ => none) x0_0 := by kernel_rfl
theorem spec_DoughFor_g0 (k : Nat) (H : St → Option (Int)) (l : Loaf) (x0_0 : Int) : rnd env (spec_DoughFor_O k) spec_DoughFor_v Try.f40 0 (fun r => spec_DoughFor_d (r.fin 0 [])) [1, 1, 1, 0, 0] k H ⟨tmF [1, 2, 3] [(.a (.sc (.bp 0 0))), (.a (.sc (.v (.int .i64 0)))), (.a (.sc (.v (.int .i64 x0_0))))], blF [(.box true [(.v (.int .i64 l.Weight)), (.v (.int .i64 l.Loss))])]⟩ = spec_DoughFor_s0 k l (fun x0_0 => H ⟨tmF [1, 2, 3] [(.a (.sc (.bp 0 0))), (.a (.sc (.v (.int .i64 0)))), (.a (.sc (.v (.int .i64 x0_0))))], blF [(.box true [(.v (.int .i64 l.Weight)), (.v (.int .i64 l.Loss))])]⟩) x0_0 := by kernel_rfl
theorem spec_DoughFor_n0 (k m : Nat) (l : Loaf) (x0_0 : Int) : spec_DoughFor_h0 k (m + 1) l x0_0 = spec_DoughFor_s0 k l (spec_DoughFor_h0 k m l) x0_0 := (hdAt_succ _ _ _ _ _ _ _ _ _ _).trans (spec_DoughFor_g0 k _ l x0_0)
theorem spec_DoughFor_q0 (k : Nat) : ∀ m, spec_DoughFor_h0 k m = spec_DoughFor_l0 k m := by
 intro m
 induction m with
 | zero => funext l x0_0; rw [spec_DoughFor_z0]; rfl
 | succ m ih => funext l x0_0; rw [spec_DoughFor_n0, ih]; rfl
theorem spec_DoughFor_e (k : Nat) (l : Loaf) : callF env (spec_DoughFor_O k) spec_DoughFor_v Try.f40 (k + 1) (spec_DoughFor_A l) (fun r => spec_DoughFor_d (r.fin 0 [])) = spec_DoughFor k l := by
 have e : callF env (spec_DoughFor_O k) spec_DoughFor_v Try.f40 (k + 1) (spec_DoughFor_A l) (fun r => spec_DoughFor_d (r.fin 0 [])) = spec_DoughFor_m k (spec_DoughFor_h0 k k) l := by kernel_rfl
 rw [e, spec_DoughFor_q0]; rfl
noncomputable def spec_DoughFor_x (k : Nat) : Ent1 := fun A R Q => match A with
 | ⟨[(.ag [(.v (.int .i64 a1)), (.v (.int .i64 a2))])], []⟩ => (spec_DoughFor k (⟨a1, a2⟩ : Loaf)).bind fun y => Q ⟨(.a (.sc (.v (.int .i64 y)))), []⟩
 | _ => none
theorem spec_DoughFor_ok (k : Nat) : OkE Try.prog 40 (spec_DoughFor_x k) := by
 intro A R Q x h
 unfold spec_DoughFor_x at h
 split at h
 · obtain ⟨y, hy, hK⟩ := Option.bind_eq_some_iff.1 h
   obtain ⟨r, hr, hd⟩ := callF_ok envOk (spec_DoughFor_Ok k) follows Try.func40 (by kernel_rfl) ((spec_DoughFor_e k _).trans hy)
   exact ⟨_, spec_DoughFor_i hd ▸ hr.fin [], hK⟩
 · cases h
/-! ### spec.WholeParts: function 86 -/
noncomputable def spec_WholeParts (k : Nat)  (d : Dough) : Option (Int) :=
 (spec_DoughOk k d).bind fun y1 =>
 cond (!y1)
  (some (-1))
  (some (wr ((wr ((wr ((1000 : Int) + d.Water)) + d.Salt)) + d.Leaven)))
noncomputable def spec_WholeParts_v : Nat → List Nat := fun t => match t with | _ => []
noncomputable def spec_WholeParts_O (k : Nat) : Oracle := ofL [(83, spec_DoughOk_x k)]
theorem spec_WholeParts_Ok (k : Nat) : OkO (Ct Try.prog) (spec_WholeParts_O k) := okO_cons (spec_DoughOk_ok k) (okO_nil)
noncomputable def spec_WholeParts_A (d : Dough) : Pk := ⟨[(.ag [(.v (.int .i64 d.Water)), (.v (.int .i64 d.Salt)), (.v (.int .i64 d.Leaven))])], []⟩
noncomputable def spec_WholeParts_d : Rs → Option (Int)
 | ⟨(.a (.sc (.v (.int .i64 r1)))), []⟩ => some r1
 | _ => none
theorem spec_WholeParts_i {r : Rs} {y : Int} (h : spec_WholeParts_d r = some y) : r = ⟨(.a (.sc (.v (.int .i64 y)))), []⟩ := by
 unfold spec_WholeParts_d at h; split at h
 · cases h; rfl
 · cases h
theorem spec_WholeParts_e (k : Nat) (d : Dough) : callF env (spec_WholeParts_O k) spec_WholeParts_v Try.f86 (k + 1) (spec_WholeParts_A d) (fun r => spec_WholeParts_d (r.fin 0 [])) = spec_WholeParts k d := by kernel_rfl
noncomputable def spec_WholeParts_x (k : Nat) : Ent1 := fun A R Q => match A with
 | ⟨[(.ag [(.v (.int .i64 a1)), (.v (.int .i64 a2)), (.v (.int .i64 a3))])], []⟩ => (spec_WholeParts k (⟨a1, a2, a3⟩ : Dough)).bind fun y => Q ⟨(.a (.sc (.v (.int .i64 y)))), []⟩
 | _ => none
theorem spec_WholeParts_ok (k : Nat) : OkE Try.prog 86 (spec_WholeParts_x k) := by
 intro A R Q x h
 unfold spec_WholeParts_x at h
 split at h
 · obtain ⟨y, hy, hK⟩ := Option.bind_eq_some_iff.1 h
   obtain ⟨r, hr, hd⟩ := callF_ok envOk (spec_WholeParts_Ok k) follows Try.func86 (by kernel_rfl) ((spec_WholeParts_e k _).trans hy)
   exact ⟨_, spec_WholeParts_i hd ▸ hr.fin [], hK⟩
 · cases h
/-! ### spec.FlourFor: function 39 -/
noncomputable def spec_FlourFor (k : Nat)  (d : Dough) (weight : Int) : Option (Int) :=
 (spec_WholeParts k d).bind fun y1 =>
 cond (decide ((y1 : Int) < 0))
  (some (-1))
  ((spec_l01In k weight 0 1000000).bind fun y2 =>
   cond (!y2)
    (some (-1))
    (if (y1 : Int) ≠ 0 then
     some (wr (Int.tdiv (wr ((wr ((wr (weight * 1000)) + y1)) - 1)) y1)) else none))
noncomputable def spec_FlourFor_v : Nat → List Nat := fun t => match t with | _ => []
noncomputable def spec_FlourFor_O (k : Nat) : Oracle := ofL [(38, spec_l01In_x k), (86, spec_WholeParts_x k)]
theorem spec_FlourFor_Ok (k : Nat) : OkO (Ct Try.prog) (spec_FlourFor_O k) := okO_cons (spec_l01In_ok k) (okO_cons (spec_WholeParts_ok k) (okO_nil))
noncomputable def spec_FlourFor_A (d : Dough) (weight : Int) : Pk := ⟨[(.ag [(.v (.int .i64 d.Water)), (.v (.int .i64 d.Salt)), (.v (.int .i64 d.Leaven))]), (.sc (.v (.int .i64 weight)))], []⟩
noncomputable def spec_FlourFor_d : Rs → Option (Int)
 | ⟨(.a (.sc (.v (.int .i64 r1)))), []⟩ => some r1
 | _ => none
theorem spec_FlourFor_i {r : Rs} {y : Int} (h : spec_FlourFor_d r = some y) : r = ⟨(.a (.sc (.v (.int .i64 y)))), []⟩ := by
 unfold spec_FlourFor_d at h; split at h
 · cases h; rfl
 · cases h
theorem spec_FlourFor_e (k : Nat) (d : Dough) (weight : Int) : callF env (spec_FlourFor_O k) spec_FlourFor_v Try.f39 (k + 1) (spec_FlourFor_A d weight) (fun r => spec_FlourFor_d (r.fin 0 [])) = spec_FlourFor k d weight := by kernel_rfl
noncomputable def spec_FlourFor_x (k : Nat) : Ent1 := fun A R Q => match A with
 | ⟨[(.ag [(.v (.int .i64 a1)), (.v (.int .i64 a2)), (.v (.int .i64 a3))]), (.sc (.v (.int .i64 a4)))], []⟩ => (spec_FlourFor k (⟨a1, a2, a3⟩ : Dough) a4).bind fun y => Q ⟨(.a (.sc (.v (.int .i64 y)))), []⟩
 | _ => none
theorem spec_FlourFor_ok (k : Nat) : OkE Try.prog 39 (spec_FlourFor_x k) := by
 intro A R Q x h
 unfold spec_FlourFor_x at h
 split at h
 · obtain ⟨y, hy, hK⟩ := Option.bind_eq_some_iff.1 h
   obtain ⟨r, hr, hd⟩ := callF_ok envOk (spec_FlourFor_Ok k) follows Try.func39 (by kernel_rfl) ((spec_FlourFor_e k _ _).trans hy)
   exact ⟨_, spec_FlourFor_i hd ▸ hr.fin [], hK⟩
 · cases h
/-! ### spec.FlourNeeded: function 10 -/
noncomputable def spec_FlourNeeded (k : Nat)  (b : Bakery) (loaves : Int) : Option (Int) :=
 (spec_BakeryOk k b).bind fun y1 =>
 cond (!y1)
  (some (-1))
  ((spec_l01In k loaves 0 1000).bind fun y2 =>
   cond (!y2)
    (some (-1))
    ((spec_DoughFor k b.Loaf).bind fun y3 =>
     (spec_FlourFor k b.Dough (wr (y3 * loaves))).bind fun y4 =>
      some y4))
noncomputable def spec_FlourNeeded_v : Nat → List Nat := fun t => match t with | _ => []
noncomputable def spec_FlourNeeded_O (k : Nat) : Oracle := ofL [(37, spec_BakeryOk_x k), (38, spec_l01In_x k), (39, spec_FlourFor_x k), (40, spec_DoughFor_x k)]
theorem spec_FlourNeeded_Ok (k : Nat) : OkO (Ct Try.prog) (spec_FlourNeeded_O k) := okO_cons (spec_BakeryOk_ok k) (okO_cons (spec_l01In_ok k) (okO_cons (spec_FlourFor_ok k) (okO_cons (spec_DoughFor_ok k) (okO_nil))))
noncomputable def spec_FlourNeeded_A (b : Bakery) (loaves : Int) : Pk := ⟨[(.ag [(.sl 0), (.v (.int .i64 b.Dough.Water)), (.v (.int .i64 b.Dough.Salt)), (.v (.int .i64 b.Dough.Leaven)), (.v (.int .i64 b.Loaf.Weight)), (.v (.int .i64 b.Loaf.Loss)), (.sl 1), (.v (.int .i64 b.Book.Rack.Fresh)), (.v (.int .i64 b.Book.Rack.Day)), (.v (.int .i64 b.Book.Rack.Old)), (.v (.int .i64 b.Book.Baked)), (.v (.int .i64 b.Book.Sold)), (.v (.int .i64 b.Book.Thrown)), (.v (.int .i64 b.Money))]), (.sc (.v (.int .i64 loaves)))], [(.row false K.ki64 b.Stock.Grams), (.row false K.k_impl_Event b.Book.Events)]⟩
noncomputable def spec_FlourNeeded_d : Rs → Option (Int)
 | ⟨(.a (.sc (.v (.int .i64 r1)))), [.dead, .dead]⟩ => some r1
 | _ => none
theorem spec_FlourNeeded_i {r : Rs} {y : Int} (h : spec_FlourNeeded_d r = some y) : r = ⟨(.a (.sc (.v (.int .i64 y)))), [.dead, .dead]⟩ := by
 unfold spec_FlourNeeded_d at h; split at h
 · cases h; rfl
 · cases h
theorem spec_FlourNeeded_e (k : Nat) (b : Bakery) (loaves : Int) : callF env (spec_FlourNeeded_O k) spec_FlourNeeded_v Try.f10 (k + 1) (spec_FlourNeeded_A b loaves) (fun r => spec_FlourNeeded_d (r.fin 2 [])) = spec_FlourNeeded k b loaves := by kernel_rfl
noncomputable def spec_FlourNeeded_x (k : Nat) : Ent1 := fun A R Q => match A with
 | ⟨[(.ag [(.sl 0), (.v (.int .i64 a2)), (.v (.int .i64 a3)), (.v (.int .i64 a4)), (.v (.int .i64 a5)), (.v (.int .i64 a6)), (.sl 1), (.v (.int .i64 a8)), (.v (.int .i64 a9)), (.v (.int .i64 a10)), (.v (.int .i64 a11)), (.v (.int .i64 a12)), (.v (.int .i64 a13)), (.v (.int .i64 a14))]), (.sc (.v (.int .i64 a15)))], [(.row false K.ki64 a1), (.row false K.k_impl_Event a7)]⟩ => (spec_FlourNeeded k (⟨(⟨a1⟩ : Stock), (⟨a2, a3, a4⟩ : Dough), (⟨a5, a6⟩ : Loaf), (⟨a7, (⟨a8, a9, a10⟩ : Rack), a11, a12, a13⟩ : Book), a14⟩ : Bakery) a15).bind fun y => Q ⟨(.a (.sc (.v (.int .i64 y)))), [.dead, .dead]⟩
 | _ => none
theorem spec_FlourNeeded_ok (k : Nat) : OkE Try.prog 10 (spec_FlourNeeded_x k) := by
 intro A R Q x h
 unfold spec_FlourNeeded_x at h
 split at h
 · obtain ⟨y, hy, hK⟩ := Option.bind_eq_some_iff.1 h
   obtain ⟨r, hr, hd⟩ := callF_ok envOk (spec_FlourNeeded_Ok k) follows Try.func10 (by kernel_rfl) ((spec_FlourNeeded_e k _ _).trans hy)
   exact ⟨_, spec_FlourNeeded_i hd ▸ hr.fin [], hK⟩
 · cases h
/-! ### spec.l36Copy: function 62 -/
noncomputable def spec_l36Copy (k : Nat)  (s : Stock) : Option (Stock) :=
 if ([] : List Int).length + (s.Grams : List Int).length ≤ maxRow then
 some (⟨([] ++ s.Grams)⟩ : Stock) else none
noncomputable def spec_l36Copy_v : Nat → List Nat := fun t => match t with | _ => []
noncomputable def spec_l36Copy_O (k : Nat) : Oracle := ofL []
theorem spec_l36Copy_Ok (k : Nat) : OkO (Ct Try.prog) (spec_l36Copy_O k) := okO_nil
noncomputable def spec_l36Copy_A (s : Stock) : Pk := ⟨[(.ag [(.sl 0)])], [(.row false K.ki64 s.Grams)]⟩
noncomputable def spec_l36Copy_d : Rs → Option (Stock)
 | ⟨(.a (.ag [(.sl 1)])), [.dead, (.row true K.ki64 r1)]⟩ => some (⟨r1⟩ : Stock)
 | _ => none
theorem spec_l36Copy_i {r : Rs} {y : Stock} (h : spec_l36Copy_d r = some y) : r = ⟨(.a (.ag [(.sl 1)])), [.dead, (.row true K.ki64 y.Grams)]⟩ := by
 unfold spec_l36Copy_d at h; split at h
 · cases h; rfl
 · cases h
theorem spec_l36Copy_e (k : Nat) (s : Stock) : callF env (spec_l36Copy_O k) spec_l36Copy_v Try.f62 (k + 1) (spec_l36Copy_A s) (fun r => spec_l36Copy_d (r.fin 1 [])) = spec_l36Copy k s := by kernel_rfl
noncomputable def spec_l36Copy_x (k : Nat) : Ent1 := fun A R Q => match A with
 | ⟨[(.ag [(.sl 0)])], [(.row false K.ki64 a1)]⟩ => (spec_l36Copy k (⟨a1⟩ : Stock)).bind fun y => Q ⟨(.a (.ag [(.sl 1)])), [.dead, (.row true K.ki64 y.Grams)]⟩
 | _ => none
theorem spec_l36Copy_ok (k : Nat) : OkE Try.prog 62 (spec_l36Copy_x k) := by
 intro A R Q x h
 unfold spec_l36Copy_x at h
 split at h
 · obtain ⟨y, hy, hK⟩ := Option.bind_eq_some_iff.1 h
   obtain ⟨r, hr, hd⟩ := callF_ok envOk (spec_l36Copy_Ok k) follows Try.func62 (by kernel_rfl) ((spec_l36Copy_e k _).trans hy)
   exact ⟨_, spec_l36Copy_i hd ▸ hr.fin [], hK⟩
 · cases h
/-! ### spec.l38Copy: function 43 -/
noncomputable def spec_l38Copy (k : Nat)  (b : Bakery) : Option (Bakery) :=
 (spec_l36Copy k b.Stock).bind fun y1 =>
 (spec_l37Copy k b.Book).bind fun y2 =>
  some (⟨y1, b.Dough, b.Loaf, y2, b.Money⟩ : Bakery)
noncomputable def spec_l38Copy_v : Nat → List Nat := fun t => match t with | _ => []
noncomputable def spec_l38Copy_O (k : Nat) : Oracle := ofL [(62, spec_l36Copy_x k), (89, spec_l37Copy_x k)]
theorem spec_l38Copy_Ok (k : Nat) : OkO (Ct Try.prog) (spec_l38Copy_O k) := okO_cons (spec_l36Copy_ok k) (okO_cons (spec_l37Copy_ok k) (okO_nil))
noncomputable def spec_l38Copy_A (b : Bakery) : Pk := ⟨[(.ag [(.sl 0), (.v (.int .i64 b.Dough.Water)), (.v (.int .i64 b.Dough.Salt)), (.v (.int .i64 b.Dough.Leaven)), (.v (.int .i64 b.Loaf.Weight)), (.v (.int .i64 b.Loaf.Loss)), (.sl 1), (.v (.int .i64 b.Book.Rack.Fresh)), (.v (.int .i64 b.Book.Rack.Day)), (.v (.int .i64 b.Book.Rack.Old)), (.v (.int .i64 b.Book.Baked)), (.v (.int .i64 b.Book.Sold)), (.v (.int .i64 b.Book.Thrown)), (.v (.int .i64 b.Money))])], [(.row false K.ki64 b.Stock.Grams), (.row false K.k_impl_Event b.Book.Events)]⟩
noncomputable def spec_l38Copy_d : Rs → Option (Bakery)
 | ⟨(.a (.ag [(.sl 2), (.v (.int .i64 r2)), (.v (.int .i64 r3)), (.v (.int .i64 r4)), (.v (.int .i64 r5)), (.v (.int .i64 r6)), (.sl 3), (.v (.int .i64 r8)), (.v (.int .i64 r9)), (.v (.int .i64 r10)), (.v (.int .i64 r11)), (.v (.int .i64 r12)), (.v (.int .i64 r13)), (.v (.int .i64 r14))])), [.dead, .dead, (.row true K.ki64 r1), (.row true K.k_impl_Event r7)]⟩ => some (⟨(⟨r1⟩ : Stock), (⟨r2, r3, r4⟩ : Dough), (⟨r5, r6⟩ : Loaf), (⟨r7, (⟨r8, r9, r10⟩ : Rack), r11, r12, r13⟩ : Book), r14⟩ : Bakery)
 | _ => none
theorem spec_l38Copy_i {r : Rs} {y : Bakery} (h : spec_l38Copy_d r = some y) : r = ⟨(.a (.ag [(.sl 2), (.v (.int .i64 y.Dough.Water)), (.v (.int .i64 y.Dough.Salt)), (.v (.int .i64 y.Dough.Leaven)), (.v (.int .i64 y.Loaf.Weight)), (.v (.int .i64 y.Loaf.Loss)), (.sl 3), (.v (.int .i64 y.Book.Rack.Fresh)), (.v (.int .i64 y.Book.Rack.Day)), (.v (.int .i64 y.Book.Rack.Old)), (.v (.int .i64 y.Book.Baked)), (.v (.int .i64 y.Book.Sold)), (.v (.int .i64 y.Book.Thrown)), (.v (.int .i64 y.Money))])), [.dead, .dead, (.row true K.ki64 y.Stock.Grams), (.row true K.k_impl_Event y.Book.Events)]⟩ := by
 unfold spec_l38Copy_d at h; split at h
 · cases h; rfl
 · cases h
theorem spec_l38Copy_e (k : Nat) (b : Bakery) : callF env (spec_l38Copy_O k) spec_l38Copy_v Try.f43 (k + 1) (spec_l38Copy_A b) (fun r => spec_l38Copy_d (r.fin 2 [])) = spec_l38Copy k b := by kernel_rfl
noncomputable def spec_l38Copy_x (k : Nat) : Ent1 := fun A R Q => match A with
 | ⟨[(.ag [(.sl 0), (.v (.int .i64 a2)), (.v (.int .i64 a3)), (.v (.int .i64 a4)), (.v (.int .i64 a5)), (.v (.int .i64 a6)), (.sl 1), (.v (.int .i64 a8)), (.v (.int .i64 a9)), (.v (.int .i64 a10)), (.v (.int .i64 a11)), (.v (.int .i64 a12)), (.v (.int .i64 a13)), (.v (.int .i64 a14))])], [(.row false K.ki64 a1), (.row false K.k_impl_Event a7)]⟩ => (spec_l38Copy k (⟨(⟨a1⟩ : Stock), (⟨a2, a3, a4⟩ : Dough), (⟨a5, a6⟩ : Loaf), (⟨a7, (⟨a8, a9, a10⟩ : Rack), a11, a12, a13⟩ : Book), a14⟩ : Bakery)).bind fun y => Q ⟨(.a (.ag [(.sl 2), (.v (.int .i64 y.Dough.Water)), (.v (.int .i64 y.Dough.Salt)), (.v (.int .i64 y.Dough.Leaven)), (.v (.int .i64 y.Loaf.Weight)), (.v (.int .i64 y.Loaf.Loss)), (.sl 3), (.v (.int .i64 y.Book.Rack.Fresh)), (.v (.int .i64 y.Book.Rack.Day)), (.v (.int .i64 y.Book.Rack.Old)), (.v (.int .i64 y.Book.Baked)), (.v (.int .i64 y.Book.Sold)), (.v (.int .i64 y.Book.Thrown)), (.v (.int .i64 y.Money))])), [.dead, .dead, (.row true K.ki64 y.Stock.Grams), (.row true K.k_impl_Event y.Book.Events)]⟩
 | _ => none
theorem spec_l38Copy_ok (k : Nat) : OkE Try.prog 43 (spec_l38Copy_x k) := by
 intro A R Q x h
 unfold spec_l38Copy_x at h
 split at h
 · obtain ⟨y, hy, hK⟩ := Option.bind_eq_some_iff.1 h
   obtain ⟨r, hr, hd⟩ := callF_ok envOk (spec_l38Copy_Ok k) follows Try.func43 (by kernel_rfl) ((spec_l38Copy_e k _).trans hy)
   exact ⟨_, spec_l38Copy_i hd ▸ hr.fin [], hK⟩
 · cases h
/-! ### spec.ActOk: function 44 -/
noncomputable def spec_ActOk (k : Nat)  (a : Deed) : Option (Bool) :=
 cond (decide ((a.Kind : Int) = 1))
 (cond (decide ((a.Kind : Int) = 1))
  ((spec_l01In k a.A 0 1000).bind fun y1 =>
   cond y1
    (some (decide ((a.B : Int) = 0)))
    (some false))
  (cond (decide ((a.Kind : Int) = 5))
   ((spec_l01In k a.A 0 3).bind fun y2 =>
    cond y2
     ((spec_l01In k a.B 0 100000).bind fun y3 =>
      some y3)
     (some false))
   (cond (decide ((a.Kind : Int) = 4))
    (cond (decide ((a.A : Int) = 0))
     (some (decide ((a.B : Int) = 0)))
     (some false))
    (some false))))
 (cond (decide ((a.Kind : Int) = 2))
  (cond (decide ((a.Kind : Int) = 2))
   ((spec_l01In k a.A 0 1000).bind fun y4 =>
    cond y4
     (some (decide ((a.B : Int) = 0)))
     (some false))
   (cond (decide ((a.Kind : Int) = 5))
    ((spec_l01In k a.A 0 3).bind fun y5 =>
     cond y5
      ((spec_l01In k a.B 0 100000).bind fun y6 =>
       some y6)
      (some false))
    (cond (decide ((a.Kind : Int) = 4))
     (cond (decide ((a.A : Int) = 0))
      (some (decide ((a.B : Int) = 0)))
      (some false))
     (some false))))
  (cond (decide ((a.Kind : Int) = 3))
   (cond (decide ((a.Kind : Int) = 3))
    ((spec_l01In k a.A 0 1000).bind fun y7 =>
     cond y7
      (some (decide ((a.B : Int) = 0)))
      (some false))
    (cond (decide ((a.Kind : Int) = 5))
     ((spec_l01In k a.A 0 3).bind fun y8 =>
      cond y8
       ((spec_l01In k a.B 0 100000).bind fun y9 =>
        some y9)
       (some false))
     (cond (decide ((a.Kind : Int) = 4))
      (cond (decide ((a.A : Int) = 0))
       (some (decide ((a.B : Int) = 0)))
       (some false))
      (some false))))
   (cond (decide ((a.Kind : Int) = 6))
    ((spec_l01In k a.A 0 1000).bind fun y10 =>
     cond y10
      (some (decide ((a.B : Int) = 0)))
      (some false))
    (cond (decide ((a.Kind : Int) = 5))
     ((spec_l01In k a.A 0 3).bind fun y11 =>
      cond y11
       ((spec_l01In k a.B 0 100000).bind fun y12 =>
        some y12)
       (some false))
     (cond (decide ((a.Kind : Int) = 4))
      (cond (decide ((a.A : Int) = 0))
       (some (decide ((a.B : Int) = 0)))
       (some false))
      (some false))))))
noncomputable def spec_ActOk_v : Nat → List Nat := fun t => match t with | _ => []
noncomputable def spec_ActOk_O (k : Nat) : Oracle := ofL [(38, spec_l01In_x k)]
theorem spec_ActOk_Ok (k : Nat) : OkO (Ct Try.prog) (spec_ActOk_O k) := okO_cons (spec_l01In_ok k) (okO_nil)
noncomputable def spec_ActOk_A (a : Deed) : Pk := ⟨[(.ag [(.v (.int .i64 a.Kind)), (.v (.int .i64 a.A)), (.v (.int .i64 a.B))])], []⟩
noncomputable def spec_ActOk_d : Rs → Option (Bool)
 | ⟨(.a (.sc (.v (.bool r1)))), []⟩ => some r1
 | _ => none
theorem spec_ActOk_i {r : Rs} {y : Bool} (h : spec_ActOk_d r = some y) : r = ⟨(.a (.sc (.v (.bool y)))), []⟩ := by
 unfold spec_ActOk_d at h; split at h
 · cases h; rfl
 · cases h
theorem spec_ActOk_e (k : Nat) (a : Deed) : callF env (spec_ActOk_O k) spec_ActOk_v Try.f44 (k + 1) (spec_ActOk_A a) (fun r => spec_ActOk_d (r.fin 0 [])) = spec_ActOk k a := by kernel_rfl
noncomputable def spec_ActOk_x (k : Nat) : Ent1 := fun A R Q => match A with
 | ⟨[(.ag [(.v (.int .i64 a1)), (.v (.int .i64 a2)), (.v (.int .i64 a3))])], []⟩ => (spec_ActOk k (⟨a1, a2, a3⟩ : Deed)).bind fun y => Q ⟨(.a (.sc (.v (.bool y)))), []⟩
 | _ => none
theorem spec_ActOk_ok (k : Nat) : OkE Try.prog 44 (spec_ActOk_x k) := by
 intro A R Q x h
 unfold spec_ActOk_x at h
 split at h
 · obtain ⟨y, hy, hK⟩ := Option.bind_eq_some_iff.1 h
   obtain ⟨r, hr, hd⟩ := callF_ok envOk (spec_ActOk_Ok k) follows Try.func44 (by kernel_rfl) ((spec_ActOk_e k _).trans hy)
   exact ⟨_, spec_ActOk_i hd ▸ hr.fin [], hK⟩
 · cases h
/-! ### spec.PartOf: function 100 -/
noncomputable def spec_PartOf (k : Nat)  (flour : Int) (part : Int) : Option (Int) :=
 (spec_l01In k flour 0 1000000).bind fun y1 =>
 cond (!y1)
  (some (-1))
  ((spec_l01In k part 0 2000).bind fun y2 =>
   cond (!y2)
    (some (-1))
    (if (1000 : Int) ≠ 0 then
     some (wr (Int.tdiv (wr ((wr (flour * part)) + 500)) 1000)) else none))
noncomputable def spec_PartOf_v : Nat → List Nat := fun t => match t with | _ => []
noncomputable def spec_PartOf_O (k : Nat) : Oracle := ofL [(38, spec_l01In_x k)]
theorem spec_PartOf_Ok (k : Nat) : OkO (Ct Try.prog) (spec_PartOf_O k) := okO_cons (spec_l01In_ok k) (okO_nil)
noncomputable def spec_PartOf_A (flour : Int) (part : Int) : Pk := ⟨[(.sc (.v (.int .i64 flour))), (.sc (.v (.int .i64 part)))], []⟩
noncomputable def spec_PartOf_d : Rs → Option (Int)
 | ⟨(.a (.sc (.v (.int .i64 r1)))), []⟩ => some r1
 | _ => none
theorem spec_PartOf_i {r : Rs} {y : Int} (h : spec_PartOf_d r = some y) : r = ⟨(.a (.sc (.v (.int .i64 y)))), []⟩ := by
 unfold spec_PartOf_d at h; split at h
 · cases h; rfl
 · cases h
theorem spec_PartOf_e (k : Nat) (flour : Int) (part : Int) : callF env (spec_PartOf_O k) spec_PartOf_v Try.f100 (k + 1) (spec_PartOf_A flour part) (fun r => spec_PartOf_d (r.fin 0 [])) = spec_PartOf k flour part := by kernel_rfl
noncomputable def spec_PartOf_x (k : Nat) : Ent1 := fun A R Q => match A with
 | ⟨[(.sc (.v (.int .i64 a1))), (.sc (.v (.int .i64 a2)))], []⟩ => (spec_PartOf k a1 a2).bind fun y => Q ⟨(.a (.sc (.v (.int .i64 y)))), []⟩
 | _ => none
theorem spec_PartOf_ok (k : Nat) : OkE Try.prog 100 (spec_PartOf_x k) := by
 intro A R Q x h
 unfold spec_PartOf_x at h
 split at h
 · obtain ⟨y, hy, hK⟩ := Option.bind_eq_some_iff.1 h
   obtain ⟨r, hr, hd⟩ := callF_ok envOk (spec_PartOf_Ok k) follows Try.func100 (by kernel_rfl) ((spec_PartOf_e k _ _).trans hy)
   exact ⟨_, spec_PartOf_i hd ▸ hr.fin [], hK⟩
 · cases h
/-! ### spec.Amounts: function 63 -/
noncomputable def spec_Amounts (k : Nat)  (d : Dough) (flour : Int) : Option ((List Int)) :=
 (spec_DoughOk k d).bind fun y1 =>
 cond (!y1)
  (some ([]))
  ((spec_l01In k flour 0 1000000).bind fun y2 =>
   cond (!y2)
    (some ([]))
    ((spec_PartOf k flour d.Water).bind fun y3 =>
     (spec_PartOf k flour d.Salt).bind fun y4 =>
      (spec_PartOf k flour d.Leaven).bind fun y5 =>
       some ([flour, y3, y4, y5])))
noncomputable def spec_Amounts_v : Nat → List Nat := fun t => match t with | _ => []
noncomputable def spec_Amounts_O (k : Nat) : Oracle := ofL [(100, spec_PartOf_x k), (38, spec_l01In_x k), (83, spec_DoughOk_x k)]
theorem spec_Amounts_Ok (k : Nat) : OkO (Ct Try.prog) (spec_Amounts_O k) := okO_cons (spec_PartOf_ok k) (okO_cons (spec_l01In_ok k) (okO_cons (spec_DoughOk_ok k) (okO_nil)))
noncomputable def spec_Amounts_A (d : Dough) (flour : Int) : Pk := ⟨[(.ag [(.v (.int .i64 d.Water)), (.v (.int .i64 d.Salt)), (.v (.int .i64 d.Leaven))]), (.sc (.v (.int .i64 flour)))], []⟩
noncomputable def spec_Amounts_d : Rs → Option ((List Int))
 | ⟨(.a (.sc (.sl 0))), [(.row true K.ki64 r1)]⟩ => some r1
 | _ => none
theorem spec_Amounts_i {r : Rs} {y : (List Int)} (h : spec_Amounts_d r = some y) : r = ⟨(.a (.sc (.sl 0))), [(.row true K.ki64 y)]⟩ := by
 unfold spec_Amounts_d at h; split at h
 · cases h; rfl
 · cases h
theorem spec_Amounts_e (k : Nat) (d : Dough) (flour : Int) : callF env (spec_Amounts_O k) spec_Amounts_v Try.f63 (k + 1) (spec_Amounts_A d flour) (fun r => spec_Amounts_d (r.fin 0 [])) = spec_Amounts k d flour := by kernel_rfl
noncomputable def spec_Amounts_x (k : Nat) : Ent1 := fun A R Q => match A with
 | ⟨[(.ag [(.v (.int .i64 a1)), (.v (.int .i64 a2)), (.v (.int .i64 a3))]), (.sc (.v (.int .i64 a4)))], []⟩ => (spec_Amounts k (⟨a1, a2, a3⟩ : Dough) a4).bind fun y => Q ⟨(.a (.sc (.sl 0))), [(.row true K.ki64 y)]⟩
 | _ => none
theorem spec_Amounts_ok (k : Nat) : OkE Try.prog 63 (spec_Amounts_x k) := by
 intro A R Q x h
 unfold spec_Amounts_x at h
 split at h
 · obtain ⟨y, hy, hK⟩ := Option.bind_eq_some_iff.1 h
   obtain ⟨r, hr, hd⟩ := callF_ok envOk (spec_Amounts_Ok k) follows Try.func63 (by kernel_rfl) ((spec_Amounts_e k _ _).trans hy)
   exact ⟨_, spec_Amounts_i hd ▸ hr.fin [], hK⟩
 · cases h
/-! ### spec.FirstMissing: function 65 -/
noncomputable def spec_FirstMissing_s0 (k : Nat)  (s : Stock) (y1 : (List Int)) (J : Int → Option (Int)) (x0_0 : Int) : Option (Int) :=
 cond (decide ((x0_0 : Int) < ((y1).length : Int)))
 ((spec_StoreOk k s).bind fun y3 =>
  cond y3
   (if 0 ≤ (x0_0 : Int) ∧ (x0_0 : Int) < ((y1).length : Int) then
    if 0 ≤ (x0_0 : Int) ∧ (x0_0 : Int) < ((s.Grams).length : Int) then
     cond (decide (((s.Grams.getD (Int.toNat x0_0) 0) : Int) < (y1.getD (Int.toNat x0_0) 0)))
      (some x0_0)
      (J (wr (x0_0 + 1))) else none else none)
   (some (-1)))
 (some (-1))
noncomputable def spec_FirstMissing_l0 (k : Nat) : Nat → Stock → (List Int) → Int → Option (Int)
 | 0, s, y1, x0_0 => spec_FirstMissing_s0 k s y1 (fun _ => none) x0_0
 | m + 1, s, y1, x0_0 => spec_FirstMissing_s0 k s y1 (spec_FirstMissing_l0 k m s y1) x0_0
noncomputable def spec_FirstMissing_m (k : Nat) (J0 : Stock → (List Int) → Int → Option (Int)) (s : Stock) (d : Dough) (flour : Int) : Option (Int) :=
 (spec_Amounts k d flour).bind fun y1 =>
 J0 s y1 0
noncomputable def spec_FirstMissing (k : Nat) (s : Stock) (d : Dough) (flour : Int) : Option (Int) := spec_FirstMissing_m k (spec_FirstMissing_l0 k k) s d flour
noncomputable def spec_FirstMissing_v : Nat → List Nat := fun t => match t with | 3 => [3, 6, 7, 8] | _ => []
noncomputable def spec_FirstMissing_O (k : Nat) : Oracle := ofL [(63, spec_Amounts_x k), (64, spec_StoreOk_x k)]
theorem spec_FirstMissing_Ok (k : Nat) : OkO (Ct Try.prog) (spec_FirstMissing_O k) := okO_cons (spec_Amounts_ok k) (okO_cons (spec_StoreOk_ok k) (okO_nil))
noncomputable def spec_FirstMissing_A (s : Stock) (d : Dough) (flour : Int) : Pk := ⟨[(.ag [(.sl 0)]), (.ag [(.v (.int .i64 d.Water)), (.v (.int .i64 d.Salt)), (.v (.int .i64 d.Leaven))]), (.sc (.v (.int .i64 flour)))], [(.row false K.ki64 s.Grams)]⟩
noncomputable def spec_FirstMissing_d : Rs → Option (Int)
 | ⟨(.a (.sc (.v (.int .i64 r1)))), [.dead]⟩ => some r1
 | _ => none
theorem spec_FirstMissing_i {r : Rs} {y : Int} (h : spec_FirstMissing_d r = some y) : r = ⟨(.a (.sc (.v (.int .i64 y)))), [.dead]⟩ := by
 unfold spec_FirstMissing_d at h; split at h
 · cases h; rfl
 · cases h
noncomputable def spec_FirstMissing_h0 (k m : Nat) (s : Stock) (y1 : (List Int)) (x0_0 : Int) : Option (Int) := hdAt env (spec_FirstMissing_O k) spec_FirstMissing_v Try.f65 1 (fun r => spec_FirstMissing_d (r.fin 1 [])) [1, 1, 0, 1, 0] k m ⟨tmF [3, 6, 7, 8] [(.a (.sc (.bp 1 0))), (.a (.sc (.v (.int .i64 0)))), (.a (.sc (.sl 2))), (.a (.sc (.v (.int .i64 x0_0))))], blF [(.row false K.ki64 s.Grams), (.box true [(.sl 0)]), (.row true K.ki64 y1)]⟩
theorem spec_FirstMissing_z0 (k : Nat) (s : Stock) (y1 : (List Int)) (x0_0 : Int) : spec_FirstMissing_h0 k 0 s y1 x0_0 = spec_FirstMissing_s0 k s y1 (fun _ => none) x0_0 := by kernel_rfl
theorem spec_FirstMissing_g0 (k : Nat) (H : St → Option (Int)) (s : Stock) (y1 : (List Int)) (x0_0 : Int) : rnd env (spec_FirstMissing_O k) spec_FirstMissing_v Try.f65 1 (fun r => spec_FirstMissing_d (r.fin 1 [])) [1, 1, 0, 1, 0] k H ⟨tmF [3, 6, 7, 8] [(.a (.sc (.bp 1 0))), (.a (.sc (.v (.int .i64 0)))), (.a (.sc (.sl 2))), (.a (.sc (.v (.int .i64 x0_0))))], blF [(.row false K.ki64 s.Grams), (.box true [(.sl 0)]), (.row true K.ki64 y1)]⟩ = spec_FirstMissing_s0 k s y1 (fun x0_0 => H ⟨tmF [3, 6, 7, 8] [(.a (.sc (.bp 1 0))), (.a (.sc (.v (.int .i64 0)))), (.a (.sc (.sl 2))), (.a (.sc (.v (.int .i64 x0_0))))], blF [(.row false K.ki64 s.Grams), (.box true [(.sl 0)]), (.row true K.ki64 y1)]⟩) x0_0 := by kernel_rfl
theorem spec_FirstMissing_n0 (k m : Nat) (s : Stock) (y1 : (List Int)) (x0_0 : Int) : spec_FirstMissing_h0 k (m + 1) s y1 x0_0 = spec_FirstMissing_s0 k s y1 (spec_FirstMissing_h0 k m s y1) x0_0 := (hdAt_succ _ _ _ _ _ _ _ _ _ _).trans (spec_FirstMissing_g0 k _ s y1 x0_0)
theorem spec_FirstMissing_q0 (k : Nat) : ∀ m, spec_FirstMissing_h0 k m = spec_FirstMissing_l0 k m := by
 intro m
 induction m with
 | zero => funext s y1 x0_0; rw [spec_FirstMissing_z0]; rfl
 | succ m ih => funext s y1 x0_0; rw [spec_FirstMissing_n0, ih]; rfl
theorem spec_FirstMissing_e (k : Nat) (s : Stock) (d : Dough) (flour : Int) : callF env (spec_FirstMissing_O k) spec_FirstMissing_v Try.f65 (k + 1) (spec_FirstMissing_A s d flour) (fun r => spec_FirstMissing_d (r.fin 1 [])) = spec_FirstMissing k s d flour := by
 have e : callF env (spec_FirstMissing_O k) spec_FirstMissing_v Try.f65 (k + 1) (spec_FirstMissing_A s d flour) (fun r => spec_FirstMissing_d (r.fin 1 [])) = spec_FirstMissing_m k (spec_FirstMissing_h0 k k) s d flour := by kernel_rfl
 rw [e, spec_FirstMissing_q0]; rfl
noncomputable def spec_FirstMissing_x (k : Nat) : Ent1 := fun A R Q => match A with
 | ⟨[(.ag [(.sl 0)]), (.ag [(.v (.int .i64 a2)), (.v (.int .i64 a3)), (.v (.int .i64 a4))]), (.sc (.v (.int .i64 a5)))], [(.row false K.ki64 a1)]⟩ => (spec_FirstMissing k (⟨a1⟩ : Stock) (⟨a2, a3, a4⟩ : Dough) a5).bind fun y => Q ⟨(.a (.sc (.v (.int .i64 y)))), [.dead]⟩
 | _ => none
theorem spec_FirstMissing_ok (k : Nat) : OkE Try.prog 65 (spec_FirstMissing_x k) := by
 intro A R Q x h
 unfold spec_FirstMissing_x at h
 split at h
 · obtain ⟨y, hy, hK⟩ := Option.bind_eq_some_iff.1 h
   obtain ⟨r, hr, hd⟩ := callF_ok envOk (spec_FirstMissing_Ok k) follows Try.func65 (by kernel_rfl) ((spec_FirstMissing_e k _ _ _).trans hy)
   exact ⟨_, spec_FirstMissing_i hd ▸ hr.fin [], hK⟩
 · cases h
/-! ### spec.TakeFor: function 20 -/
noncomputable def spec_TakeFor_s0 (k : Nat)  (s : Stock) (y2 : (List Int)) (J : Int → (List Int) → Option (Stock × Bool)) (x0_0 : Int) (x0_1 : (List Int)) : Option (Stock × Bool) :=
 cond (decide ((x0_0 : Int) < 4))
 (if 0 ≤ (x0_0 : Int) ∧ (x0_0 : Int) < ((s.Grams).length : Int) then
  if 0 ≤ (x0_0 : Int) ∧ (x0_0 : Int) < ((y2).length : Int) then
   if 0 ≤ (x0_0 : Int) ∧ (x0_0 : Int) < ((x0_1).length : Int) then
    J (wr (x0_0 + 1)) (x0_1.set (Int.toNat x0_0) (wr ((s.Grams.getD (Int.toNat x0_0) 0) - (y2.getD (Int.toNat x0_0) 0)))) else none else none else none)
 (some ((⟨x0_1⟩ : Stock), true))
noncomputable def spec_TakeFor_l0 (k : Nat) : Nat → Stock → (List Int) → Int → (List Int) → Option (Stock × Bool)
 | 0, s, y2, x0_0, x0_1 => spec_TakeFor_s0 k s y2 (fun _ _ => none) x0_0 x0_1
 | m + 1, s, y2, x0_0, x0_1 => spec_TakeFor_s0 k s y2 (spec_TakeFor_l0 k m s y2) x0_0 x0_1
noncomputable def spec_TakeFor_m (k : Nat) (J0 : Stock → (List Int) → Int → (List Int) → Option (Stock × Bool)) (s : Stock) (d : Dough) (flour : Int) : Option (Stock × Bool) :=
 (spec_l36Copy k s).bind fun y1 =>
 (spec_Amounts k d flour).bind fun y2 =>
  (spec_StoreOk k s).bind fun y3 =>
   cond (!y3)
    (some (y1, false))
    (cond (decide ((((y2).length : Int) : Int) = 0))
     (some (y1, false))
     ((spec_FirstMissing k s d flour).bind fun y4 =>
      cond (decide ((0 : Int) ≤ y4))
       (some (y1, false))
       (J0 s y2 0 y1.Grams)))
noncomputable def spec_TakeFor (k : Nat) (s : Stock) (d : Dough) (flour : Int) : Option (Stock × Bool) := spec_TakeFor_m k (spec_TakeFor_l0 k k) s d flour
noncomputable def spec_TakeFor_v : Nat → List Nat := fun t => match t with | 6 => [3, 6, 7, 8, 9, 10] | _ => []
noncomputable def spec_TakeFor_O (k : Nat) : Oracle := ofL [(62, spec_l36Copy_x k), (63, spec_Amounts_x k), (64, spec_StoreOk_x k), (65, spec_FirstMissing_x k)]
theorem spec_TakeFor_Ok (k : Nat) : OkO (Ct Try.prog) (spec_TakeFor_O k) := okO_cons (spec_l36Copy_ok k) (okO_cons (spec_Amounts_ok k) (okO_cons (spec_StoreOk_ok k) (okO_cons (spec_FirstMissing_ok k) (okO_nil))))
noncomputable def spec_TakeFor_A (s : Stock) (d : Dough) (flour : Int) : Pk := ⟨[(.ag [(.sl 0)]), (.ag [(.v (.int .i64 d.Water)), (.v (.int .i64 d.Salt)), (.v (.int .i64 d.Leaven))]), (.sc (.v (.int .i64 flour)))], [(.row false K.ki64 s.Grams)]⟩
noncomputable def spec_TakeFor_d : Rs → Option (Stock × Bool)
 | ⟨(.tp [(.ag [(.sl 1)]), (.sc (.v (.bool r2)))]), [.dead, (.row true K.ki64 r1)]⟩ => some ((⟨r1⟩ : Stock), r2)
 | _ => none
theorem spec_TakeFor_i {r : Rs} {y : Stock × Bool} (h : spec_TakeFor_d r = some y) : r = ⟨(.tp [(.ag [(.sl 1)]), (.sc (.v (.bool y.2)))]), [.dead, (.row true K.ki64 y.1.Grams)]⟩ := by
 unfold spec_TakeFor_d at h; split at h
 · cases h; rfl
 · cases h
noncomputable def spec_TakeFor_h0 (k m : Nat) (s : Stock) (y2 : (List Int)) (x0_0 : Int) (x0_1 : (List Int)) : Option (Stock × Bool) := hdAt env (spec_TakeFor_O k) spec_TakeFor_v Try.f20 1 (fun r => spec_TakeFor_d (r.fin 1 [])) [1, 1, 1, 1, 0, 1, 0] k m ⟨tmF [3, 6, 7, 8, 9, 10] [(.a (.sc (.bp 1 0))), (.a (.sc (.bp 3 0))), (.a (.sc (.v (.bool false)))), (.a (.sc (.bp 5 0))), (.a (.sc (.sl 6))), (.a (.sc (.v (.int .i64 x0_0))))], blF [(.row false K.ki64 s.Grams), (.box true [(.sl 0)]), (.row true K.ki64 []), (.box true [(.sl 2)]), (.row true K.ki64 x0_1), (.box true [(.sl 4)]), (.row true K.ki64 y2)]⟩
theorem spec_TakeFor_z0 (k : Nat) (s : Stock) (y2 : (List Int)) (x0_0 : Int) (x0_1 : (List Int)) : spec_TakeFor_h0 k 0 s y2 x0_0 x0_1 = spec_TakeFor_s0 k s y2 (fun _ _ => none) x0_0 x0_1 := by kernel_rfl
theorem spec_TakeFor_g0 (k : Nat) (H : St → Option (Stock × Bool)) (s : Stock) (y2 : (List Int)) (x0_0 : Int) (x0_1 : (List Int)) : rnd env (spec_TakeFor_O k) spec_TakeFor_v Try.f20 1 (fun r => spec_TakeFor_d (r.fin 1 [])) [1, 1, 1, 1, 0, 1, 0] k H ⟨tmF [3, 6, 7, 8, 9, 10] [(.a (.sc (.bp 1 0))), (.a (.sc (.bp 3 0))), (.a (.sc (.v (.bool false)))), (.a (.sc (.bp 5 0))), (.a (.sc (.sl 6))), (.a (.sc (.v (.int .i64 x0_0))))], blF [(.row false K.ki64 s.Grams), (.box true [(.sl 0)]), (.row true K.ki64 []), (.box true [(.sl 2)]), (.row true K.ki64 x0_1), (.box true [(.sl 4)]), (.row true K.ki64 y2)]⟩ = spec_TakeFor_s0 k s y2 (fun x0_0 x0_1 => H ⟨tmF [3, 6, 7, 8, 9, 10] [(.a (.sc (.bp 1 0))), (.a (.sc (.bp 3 0))), (.a (.sc (.v (.bool false)))), (.a (.sc (.bp 5 0))), (.a (.sc (.sl 6))), (.a (.sc (.v (.int .i64 x0_0))))], blF [(.row false K.ki64 s.Grams), (.box true [(.sl 0)]), (.row true K.ki64 []), (.box true [(.sl 2)]), (.row true K.ki64 x0_1), (.box true [(.sl 4)]), (.row true K.ki64 y2)]⟩) x0_0 x0_1 := by kernel_rfl
theorem spec_TakeFor_n0 (k m : Nat) (s : Stock) (y2 : (List Int)) (x0_0 : Int) (x0_1 : (List Int)) : spec_TakeFor_h0 k (m + 1) s y2 x0_0 x0_1 = spec_TakeFor_s0 k s y2 (spec_TakeFor_h0 k m s y2) x0_0 x0_1 := (hdAt_succ _ _ _ _ _ _ _ _ _ _).trans (spec_TakeFor_g0 k _ s y2 x0_0 x0_1)
theorem spec_TakeFor_q0 (k : Nat) : ∀ m, spec_TakeFor_h0 k m = spec_TakeFor_l0 k m := by
 intro m
 induction m with
 | zero => funext s y2 x0_0 x0_1; rw [spec_TakeFor_z0]; rfl
 | succ m ih => funext s y2 x0_0 x0_1; rw [spec_TakeFor_n0, ih]; rfl
theorem spec_TakeFor_e (k : Nat) (s : Stock) (d : Dough) (flour : Int) : callF env (spec_TakeFor_O k) spec_TakeFor_v Try.f20 (k + 1) (spec_TakeFor_A s d flour) (fun r => spec_TakeFor_d (r.fin 1 [])) = spec_TakeFor k s d flour := by
 have e : callF env (spec_TakeFor_O k) spec_TakeFor_v Try.f20 (k + 1) (spec_TakeFor_A s d flour) (fun r => spec_TakeFor_d (r.fin 1 [])) = spec_TakeFor_m k (spec_TakeFor_h0 k k) s d flour := by kernel_rfl
 rw [e, spec_TakeFor_q0]; rfl
noncomputable def spec_TakeFor_x (k : Nat) : Ent1 := fun A R Q => match A with
 | ⟨[(.ag [(.sl 0)]), (.ag [(.v (.int .i64 a2)), (.v (.int .i64 a3)), (.v (.int .i64 a4))]), (.sc (.v (.int .i64 a5)))], [(.row false K.ki64 a1)]⟩ => (spec_TakeFor k (⟨a1⟩ : Stock) (⟨a2, a3, a4⟩ : Dough) a5).bind fun y => Q ⟨(.tp [(.ag [(.sl 1)]), (.sc (.v (.bool y.2)))]), [.dead, (.row true K.ki64 y.1.Grams)]⟩
 | _ => none
theorem spec_TakeFor_ok (k : Nat) : OkE Try.prog 20 (spec_TakeFor_x k) := by
 intro A R Q x h
 unfold spec_TakeFor_x at h
 split at h
 · obtain ⟨y, hy, hK⟩ := Option.bind_eq_some_iff.1 h
   obtain ⟨r, hr, hd⟩ := callF_ok envOk (spec_TakeFor_Ok k) follows Try.func20 (by kernel_rfl) ((spec_TakeFor_e k _ _ _).trans hy)
   exact ⟨_, spec_TakeFor_i hd ▸ hr.fin [], hK⟩
 · cases h
end Go.Proofs.YtlhcphoojiemmaaX
