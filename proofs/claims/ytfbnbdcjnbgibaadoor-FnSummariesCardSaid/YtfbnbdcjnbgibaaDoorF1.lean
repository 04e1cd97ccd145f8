/- What functions of the program compute, as functions of numbers and lists, and that they do. (The file is written by wip/x/vxp.py of this repository.) -/
import Derived.Test.YtfbnbdcjnbgibaaDoorF0
namespace Go.Proofs.YtfbnbdcjnbgibaaDoorX
open Go Go.Proofs
set_option linter.unusedVariables false
set_option maxRecDepth 100000
/-! ### laws.toEvent: function 97 -/
noncomputable def laws_toEvent (k : Nat)  (a : Event) : Option (Event) :=
 some a
noncomputable def laws_toEvent_v : Nat → List Nat := fun t => match t with | _ => []
noncomputable def laws_toEvent_O (k : Nat) : Oracle := ofL []
theorem laws_toEvent_Ok (k : Nat) : OkO (Ct Tryd.prog) (laws_toEvent_O k) := okO_nil
noncomputable def laws_toEvent_A (a : Event) : Pk := ⟨[(.ag [(.v (.int .i64 a.Kind)), (.v (.int .i64 a.Loaves))])], []⟩
noncomputable def laws_toEvent_d : Rs → Option (Event)
 | ⟨(.a (.ag [(.v (.int .i64 r1)), (.v (.int .i64 r2))])), []⟩ => some (⟨r1, r2⟩ : Event)
 | _ => none
theorem laws_toEvent_i {r : Rs} {y : Event} (h : laws_toEvent_d r = some y) : r = ⟨(.a (.ag [(.v (.int .i64 y.Kind)), (.v (.int .i64 y.Loaves))])), []⟩ := by
 unfold laws_toEvent_d at h; split at h
 · cases h; rfl
 · cases h
theorem laws_toEvent_e (k : Nat) (a : Event) : callF env (laws_toEvent_O k) laws_toEvent_v Tryd.f97 (k + 1) (laws_toEvent_A a) (fun r => laws_toEvent_d (r.fin 0 [])) = laws_toEvent k a := by kernel_rfl
noncomputable def laws_toEvent_x (k : Nat) : Ent1 := fun A R Q => match A with
 | ⟨[(.ag [(.v (.int .i64 a1)), (.v (.int .i64 a2))])], []⟩ => (laws_toEvent k (⟨a1, a2⟩ : Event)).bind fun y => Q ⟨(.a (.ag [(.v (.int .i64 y.Kind)), (.v (.int .i64 y.Loaves))])), []⟩
 | _ => none
theorem laws_toEvent_ok (k : Nat) : OkE Tryd.prog 97 (laws_toEvent_x k) := by
 intro A R Q x h
 unfold laws_toEvent_x at h
 split at h
 · obtain ⟨y, hy, hK⟩ := Option.bind_eq_some_iff.1 h
   obtain ⟨r, hr, hd⟩ := callF_ok envOk (laws_toEvent_Ok k) follows Tryd.func97 (by kernel_rfl) ((laws_toEvent_e k _).trans hy)
   exact ⟨_, laws_toEvent_i hd ▸ hr.fin [], hK⟩
 · cases h
/-! ### laws.toEventS: function 78 -/
noncomputable def laws_toEventS_s0 (k : Nat)  (a : (List Event)) (J : Int → (List Event) → Option ((List Event))) (x0_0 : Int) (x0_1 : (List Event)) : Option ((List Event)) :=
 cond (decide ((x0_0 : Int) < ((a).length : Int)))
 (if 0 ≤ (x0_0 : Int) ∧ (x0_0 : Int) < ((a).length : Int) then
  (laws_toEvent k (a.getD (Int.toNat x0_0) dk_laws_Event)).bind fun y2 =>
   if 0 ≤ (x0_0 : Int) ∧ (x0_0 : Int) < ((x0_1).length : Int) then
    J (wr (x0_0 + 1)) (x0_1.set (Int.toNat x0_0) y2) else none else none)
 (some x0_1)
noncomputable def laws_toEventS_l0 (k : Nat) : Nat → (List Event) → Int → (List Event) → Option ((List Event))
 | 0, a, x0_0, x0_1 => laws_toEventS_s0 k a (fun _ _ => none) x0_0 x0_1
 | m + 1, a, x0_0, x0_1 => laws_toEventS_s0 k a (laws_toEventS_l0 k m a) x0_0 x0_1
noncomputable def laws_toEventS_m (k : Nat) (J0 : (List Event) → Int → (List Event) → Option ((List Event))) (a : (List Event)) : Option ((List Event)) :=
 if 0 ≤ (((a).length : Int) : Int) ∧ (((a).length : Int) : Int) ≤ (maxRow : Int) then
 J0 a 0 (List.replicate (Int.toNat ((a).length : Int)) dk_impl_Event) else none
noncomputable def laws_toEventS (k : Nat) (a : (List Event)) : Option ((List Event)) := laws_toEventS_m k (laws_toEventS_l0 k k) a
noncomputable def laws_toEventS_v : Nat → List Nat := fun t => match t with | 3 => [0, 2, 3, 4] | _ => []
noncomputable def laws_toEventS_O (k : Nat) : Oracle := ofL [(97, laws_toEvent_x k)]
theorem laws_toEventS_Ok (k : Nat) : OkO (Ct Tryd.prog) (laws_toEventS_O k) := okO_cons (laws_toEvent_ok k) (okO_nil)
noncomputable def laws_toEventS_A (a : (List Event)) : Pk := ⟨[(.sc (.sl 0))], [(.row false K.k_laws_Event a)]⟩
noncomputable def laws_toEventS_d : Rs → Option ((List Event))
 | ⟨(.a (.sc (.sl 1))), [.dead, (.row true K.k_impl_Event r1)]⟩ => some r1
 | _ => none
theorem laws_toEventS_i {r : Rs} {y : (List Event)} (h : laws_toEventS_d r = some y) : r = ⟨(.a (.sc (.sl 1))), [.dead, (.row true K.k_impl_Event y)]⟩ := by
 unfold laws_toEventS_d at h; split at h
 · cases h; rfl
 · cases h
noncomputable def laws_toEventS_h0 (k m : Nat) (a : (List Event)) (x0_0 : Int) (x0_1 : (List Event)) : Option ((List Event)) := hdAt env (laws_toEventS_O k) laws_toEventS_v Tryd.f78 1 (fun r => laws_toEventS_d (r.fin 1 [])) [1, 1, 0, 1, 0] k m ⟨tmF [0, 2, 3, 4] [(.a (.sc (.sl 0))), (.a (.sc .nl)), (.a (.sc (.sl 1))), (.a (.sc (.v (.int .i64 x0_0))))], blF [(.row false K.k_laws_Event a), (.row true K.k_impl_Event x0_1)]⟩
theorem laws_toEventS_z0 (k : Nat) (a : (List Event)) (x0_0 : Int) (x0_1 : (List Event)) : laws_toEventS_h0 k 0 a x0_0 x0_1 = laws_toEventS_s0 k a (fun _ _ => none) x0_0 x0_1 := by kernel_rfl
theorem laws_toEventS_g0 (k : Nat) (H : St → Option ((List Event))) (a : (List Event)) (x0_0 : Int) (x0_1 : (List Event)) : rnd env (laws_toEventS_O k) laws_toEventS_v Tryd.f78 1 (fun r => laws_toEventS_d (r.fin 1 [])) [1, 1, 0, 1, 0] k H ⟨tmF [0, 2, 3, 4] [(.a (.sc (.sl 0))), (.a (.sc .nl)), (.a (.sc (.sl 1))), (.a (.sc (.v (.int .i64 x0_0))))], blF [(.row false K.k_laws_Event a), (.row true K.k_impl_Event x0_1)]⟩ = laws_toEventS_s0 k a (fun x0_0 x0_1 => H ⟨tmF [0, 2, 3, 4] [(.a (.sc (.sl 0))), (.a (.sc .nl)), (.a (.sc (.sl 1))), (.a (.sc (.v (.int .i64 x0_0))))], blF [(.row false K.k_laws_Event a), (.row true K.k_impl_Event x0_1)]⟩) x0_0 x0_1 := by kernel_rfl
theorem laws_toEventS_n0 (k m : Nat) (a : (List Event)) (x0_0 : Int) (x0_1 : (List Event)) : laws_toEventS_h0 k (m + 1) a x0_0 x0_1 = laws_toEventS_s0 k a (laws_toEventS_h0 k m a) x0_0 x0_1 := (hdAt_succ _ _ _ _ _ _ _ _ _ _).trans (laws_toEventS_g0 k _ a x0_0 x0_1)
theorem laws_toEventS_q0 (k : Nat) : ∀ m, laws_toEventS_h0 k m = laws_toEventS_l0 k m := by
 intro m
 induction m with
 | zero => funext a x0_0 x0_1; rw [laws_toEventS_z0]; rfl
 | succ m ih => funext a x0_0 x0_1; rw [laws_toEventS_n0, ih]; rfl
theorem laws_toEventS_e (k : Nat) (a : (List Event)) : callF env (laws_toEventS_O k) laws_toEventS_v Tryd.f78 (k + 1) (laws_toEventS_A a) (fun r => laws_toEventS_d (r.fin 1 [])) = laws_toEventS k a := by
 have e : callF env (laws_toEventS_O k) laws_toEventS_v Tryd.f78 (k + 1) (laws_toEventS_A a) (fun r => laws_toEventS_d (r.fin 1 [])) = laws_toEventS_m k (laws_toEventS_h0 k k) a := by kernel_rfl
 rw [e, laws_toEventS_q0]; rfl
noncomputable def laws_toEventS_x (k : Nat) : Ent1 := fun A R Q => match A with
 | ⟨[(.sc (.sl 0))], [(.row false K.k_laws_Event a1)]⟩ => (laws_toEventS k a1).bind fun y => Q ⟨(.a (.sc (.sl 1))), [.dead, (.row true K.k_impl_Event y)]⟩
 | _ => none
theorem laws_toEventS_ok (k : Nat) : OkE Tryd.prog 78 (laws_toEventS_x k) := by
 intro A R Q x h
 unfold laws_toEventS_x at h
 split at h
 · obtain ⟨y, hy, hK⟩ := Option.bind_eq_some_iff.1 h
   obtain ⟨r, hr, hd⟩ := callF_ok envOk (laws_toEventS_Ok k) follows Tryd.func78 (by kernel_rfl) ((laws_toEventS_e k _).trans hy)
   exact ⟨_, laws_toEventS_i hd ▸ hr.fin [], hK⟩
 · cases h
/-! ### laws.toRack: function 79 -/
noncomputable def laws_toRack (k : Nat)  (a : Rack) : Option (Rack) :=
 some a
noncomputable def laws_toRack_v : Nat → List Nat := fun t => match t with | _ => []
noncomputable def laws_toRack_O (k : Nat) : Oracle := ofL []
theorem laws_toRack_Ok (k : Nat) : OkO (Ct Tryd.prog) (laws_toRack_O k) := okO_nil
noncomputable def laws_toRack_A (a : Rack) : Pk := ⟨[(.ag [(.v (.int .i64 a.Fresh)), (.v (.int .i64 a.Day)), (.v (.int .i64 a.Old))])], []⟩
noncomputable def laws_toRack_d : Rs → Option (Rack)
 | ⟨(.a (.ag [(.v (.int .i64 r1)), (.v (.int .i64 r2)), (.v (.int .i64 r3))])), []⟩ => some (⟨r1, r2, r3⟩ : Rack)
 | _ => none
theorem laws_toRack_i {r : Rs} {y : Rack} (h : laws_toRack_d r = some y) : r = ⟨(.a (.ag [(.v (.int .i64 y.Fresh)), (.v (.int .i64 y.Day)), (.v (.int .i64 y.Old))])), []⟩ := by
 unfold laws_toRack_d at h; split at h
 · cases h; rfl
 · cases h
theorem laws_toRack_e (k : Nat) (a : Rack) : callF env (laws_toRack_O k) laws_toRack_v Tryd.f79 (k + 1) (laws_toRack_A a) (fun r => laws_toRack_d (r.fin 0 [])) = laws_toRack k a := by kernel_rfl
noncomputable def laws_toRack_x (k : Nat) : Ent1 := fun A R Q => match A with
 | ⟨[(.ag [(.v (.int .i64 a1)), (.v (.int .i64 a2)), (.v (.int .i64 a3))])], []⟩ => (laws_toRack k (⟨a1, a2, a3⟩ : Rack)).bind fun y => Q ⟨(.a (.ag [(.v (.int .i64 y.Fresh)), (.v (.int .i64 y.Day)), (.v (.int .i64 y.Old))])), []⟩
 | _ => none
theorem laws_toRack_ok (k : Nat) : OkE Tryd.prog 79 (laws_toRack_x k) := by
 intro A R Q x h
 unfold laws_toRack_x at h
 split at h
 · obtain ⟨y, hy, hK⟩ := Option.bind_eq_some_iff.1 h
   obtain ⟨r, hr, hd⟩ := callF_ok envOk (laws_toRack_Ok k) follows Tryd.func79 (by kernel_rfl) ((laws_toRack_e k _).trans hy)
   exact ⟨_, laws_toRack_i hd ▸ hr.fin [], hK⟩
 · cases h
/-! ### laws.toBook: function 48 -/
noncomputable def laws_toBook (k : Nat)  (a : Book) : Option (Book) :=
 (laws_toEventS k a.Events).bind fun y1 =>
 (laws_toRack k a.Rack).bind fun y2 =>
  some (⟨y1, y2, a.Baked, a.Sold, a.Thrown⟩ : Book)
noncomputable def laws_toBook_v : Nat → List Nat := fun t => match t with | _ => []
noncomputable def laws_toBook_O (k : Nat) : Oracle := ofL [(78, laws_toEventS_x k), (79, laws_toRack_x k)]
theorem laws_toBook_Ok (k : Nat) : OkO (Ct Tryd.prog) (laws_toBook_O k) := okO_cons (laws_toEventS_ok k) (okO_cons (laws_toRack_ok k) (okO_nil))
noncomputable def laws_toBook_A (a : Book) : Pk := ⟨[(.ag [(.sl 0), (.v (.int .i64 a.Rack.Fresh)), (.v (.int .i64 a.Rack.Day)), (.v (.int .i64 a.Rack.Old)), (.v (.int .i64 a.Baked)), (.v (.int .i64 a.Sold)), (.v (.int .i64 a.Thrown))])], [(.row false K.k_laws_Event a.Events)]⟩
noncomputable def laws_toBook_d : Rs → Option (Book)
 | ⟨(.a (.ag [(.sl 1), (.v (.int .i64 r2)), (.v (.int .i64 r3)), (.v (.int .i64 r4)), (.v (.int .i64 r5)), (.v (.int .i64 r6)), (.v (.int .i64 r7))])), [.dead, (.row true K.k_impl_Event r1)]⟩ => some (⟨r1, (⟨r2, r3, r4⟩ : Rack), r5, r6, r7⟩ : Book)
 | _ => none
theorem laws_toBook_i {r : Rs} {y : Book} (h : laws_toBook_d r = some y) : r = ⟨(.a (.ag [(.sl 1), (.v (.int .i64 y.Rack.Fresh)), (.v (.int .i64 y.Rack.Day)), (.v (.int .i64 y.Rack.Old)), (.v (.int .i64 y.Baked)), (.v (.int .i64 y.Sold)), (.v (.int .i64 y.Thrown))])), [.dead, (.row true K.k_impl_Event y.Events)]⟩ := by
 unfold laws_toBook_d at h; split at h
 · cases h; rfl
 · cases h
theorem laws_toBook_e (k : Nat) (a : Book) : callF env (laws_toBook_O k) laws_toBook_v Tryd.f48 (k + 1) (laws_toBook_A a) (fun r => laws_toBook_d (r.fin 1 [])) = laws_toBook k a := by kernel_rfl
noncomputable def laws_toBook_x (k : Nat) : Ent1 := fun A R Q => match A with
 | ⟨[(.ag [(.sl 0), (.v (.int .i64 a2)), (.v (.int .i64 a3)), (.v (.int .i64 a4)), (.v (.int .i64 a5)), (.v (.int .i64 a6)), (.v (.int .i64 a7))])], [(.row false K.k_laws_Event a1)]⟩ => (laws_toBook k (⟨a1, (⟨a2, a3, a4⟩ : Rack), a5, a6, a7⟩ : Book)).bind fun y => Q ⟨(.a (.ag [(.sl 1), (.v (.int .i64 y.Rack.Fresh)), (.v (.int .i64 y.Rack.Day)), (.v (.int .i64 y.Rack.Old)), (.v (.int .i64 y.Baked)), (.v (.int .i64 y.Sold)), (.v (.int .i64 y.Thrown))])), [.dead, (.row true K.k_impl_Event y.Events)]⟩
 | _ => none
theorem laws_toBook_ok (k : Nat) : OkE Tryd.prog 48 (laws_toBook_x k) := by
 intro A R Q x h
 unfold laws_toBook_x at h
 split at h
 · obtain ⟨y, hy, hK⟩ := Option.bind_eq_some_iff.1 h
   obtain ⟨r, hr, hd⟩ := callF_ok envOk (laws_toBook_Ok k) follows Tryd.func48 (by kernel_rfl) ((laws_toBook_e k _).trans hy)
   exact ⟨_, laws_toBook_i hd ▸ hr.fin [], hK⟩
 · cases h
/-! ### laws.toBakery: function 21 -/
noncomputable def laws_toBakery (k : Nat)  (a : Bakery) : Option (Bakery) :=
 (laws_toStock k a.Stock).bind fun y1 =>
 (laws_toDough k a.Dough).bind fun y2 =>
  (laws_toLoaf k a.Loaf).bind fun y3 =>
   (laws_toBook k a.Book).bind fun y4 =>
    some (⟨y1, y2, y3, y4, a.Money⟩ : Bakery)
noncomputable def laws_toBakery_v : Nat → List Nat := fun t => match t with | _ => []
noncomputable def laws_toBakery_O (k : Nat) : Oracle := ofL [(45, laws_toStock_x k), (46, laws_toDough_x k), (47, laws_toLoaf_x k), (48, laws_toBook_x k)]
theorem laws_toBakery_Ok (k : Nat) : OkO (Ct Tryd.prog) (laws_toBakery_O k) := okO_cons (laws_toStock_ok k) (okO_cons (laws_toDough_ok k) (okO_cons (laws_toLoaf_ok k) (okO_cons (laws_toBook_ok k) (okO_nil))))
noncomputable def laws_toBakery_A (a : Bakery) : Pk := ⟨[(.ag [(.sl 0), (.v (.int .i64 a.Dough.Water)), (.v (.int .i64 a.Dough.Salt)), (.v (.int .i64 a.Dough.Leaven)), (.v (.int .i64 a.Loaf.Weight)), (.v (.int .i64 a.Loaf.Loss)), (.sl 1), (.v (.int .i64 a.Book.Rack.Fresh)), (.v (.int .i64 a.Book.Rack.Day)), (.v (.int .i64 a.Book.Rack.Old)), (.v (.int .i64 a.Book.Baked)), (.v (.int .i64 a.Book.Sold)), (.v (.int .i64 a.Book.Thrown)), (.v (.int .i64 a.Money))])], [(.row false K.ki64 a.Stock.Grams), (.row false K.k_laws_Event a.Book.Events)]⟩
noncomputable def laws_toBakery_d : Rs → Option (Bakery)
 | ⟨(.a (.ag [(.sl 2), (.v (.int .i64 r2)), (.v (.int .i64 r3)), (.v (.int .i64 r4)), (.v (.int .i64 r5)), (.v (.int .i64 r6)), (.sl 3), (.v (.int .i64 r8)), (.v (.int .i64 r9)), (.v (.int .i64 r10)), (.v (.int .i64 r11)), (.v (.int .i64 r12)), (.v (.int .i64 r13)), (.v (.int .i64 r14))])), [.dead, .dead, (.row true K.ki64 r1), (.row true K.k_impl_Event r7)]⟩ => some (⟨(⟨r1⟩ : Stock), (⟨r2, r3, r4⟩ : Dough), (⟨r5, r6⟩ : Loaf), (⟨r7, (⟨r8, r9, r10⟩ : Rack), r11, r12, r13⟩ : Book), r14⟩ : Bakery)
 | _ => none
theorem laws_toBakery_i {r : Rs} {y : Bakery} (h : laws_toBakery_d r = some y) : r = ⟨(.a (.ag [(.sl 2), (.v (.int .i64 y.Dough.Water)), (.v (.int .i64 y.Dough.Salt)), (.v (.int .i64 y.Dough.Leaven)), (.v (.int .i64 y.Loaf.Weight)), (.v (.int .i64 y.Loaf.Loss)), (.sl 3), (.v (.int .i64 y.Book.Rack.Fresh)), (.v (.int .i64 y.Book.Rack.Day)), (.v (.int .i64 y.Book.Rack.Old)), (.v (.int .i64 y.Book.Baked)), (.v (.int .i64 y.Book.Sold)), (.v (.int .i64 y.Book.Thrown)), (.v (.int .i64 y.Money))])), [.dead, .dead, (.row true K.ki64 y.Stock.Grams), (.row true K.k_impl_Event y.Book.Events)]⟩ := by
 unfold laws_toBakery_d at h; split at h
 · cases h; rfl
 · cases h
theorem laws_toBakery_e (k : Nat) (a : Bakery) : callF env (laws_toBakery_O k) laws_toBakery_v Tryd.f21 (k + 1) (laws_toBakery_A a) (fun r => laws_toBakery_d (r.fin 2 [])) = laws_toBakery k a := by kernel_rfl
noncomputable def laws_toBakery_x (k : Nat) : Ent1 := fun A R Q => match A with
 | ⟨[(.ag [(.sl 0), (.v (.int .i64 a2)), (.v (.int .i64 a3)), (.v (.int .i64 a4)), (.v (.int .i64 a5)), (.v (.int .i64 a6)), (.sl 1), (.v (.int .i64 a8)), (.v (.int .i64 a9)), (.v (.int .i64 a10)), (.v (.int .i64 a11)), (.v (.int .i64 a12)), (.v (.int .i64 a13)), (.v (.int .i64 a14))])], [(.row false K.ki64 a1), (.row false K.k_laws_Event a7)]⟩ => (laws_toBakery k (⟨(⟨a1⟩ : Stock), (⟨a2, a3, a4⟩ : Dough), (⟨a5, a6⟩ : Loaf), (⟨a7, (⟨a8, a9, a10⟩ : Rack), a11, a12, a13⟩ : Book), a14⟩ : Bakery)).bind fun y => Q ⟨(.a (.ag [(.sl 2), (.v (.int .i64 y.Dough.Water)), (.v (.int .i64 y.Dough.Salt)), (.v (.int .i64 y.Dough.Leaven)), (.v (.int .i64 y.Loaf.Weight)), (.v (.int .i64 y.Loaf.Loss)), (.sl 3), (.v (.int .i64 y.Book.Rack.Fresh)), (.v (.int .i64 y.Book.Rack.Day)), (.v (.int .i64 y.Book.Rack.Old)), (.v (.int .i64 y.Book.Baked)), (.v (.int .i64 y.Book.Sold)), (.v (.int .i64 y.Book.Thrown)), (.v (.int .i64 y.Money))])), [.dead, .dead, (.row true K.ki64 y.Stock.Grams), (.row true K.k_impl_Event y.Book.Events)]⟩
 | _ => none
theorem laws_toBakery_ok (k : Nat) : OkE Tryd.prog 21 (laws_toBakery_x k) := by
 intro A R Q x h
 unfold laws_toBakery_x at h
 split at h
 · obtain ⟨y, hy, hK⟩ := Option.bind_eq_some_iff.1 h
   obtain ⟨r, hr, hd⟩ := callF_ok envOk (laws_toBakery_Ok k) follows Tryd.func21 (by kernel_rfl) ((laws_toBakery_e k _).trans hy)
   exact ⟨_, laws_toBakery_i hd ▸ hr.fin [], hK⟩
 · cases h
/-! ### spec.StoreOk: function 73 -/
noncomputable def spec_StoreOk_s0 (k : Nat)  (s : Stock) (J : Int → Option (Bool)) (x0_0 : Int) : Option (Bool) :=
 cond (decide ((x0_0 : Int) < ((s.Grams).length : Int)))
 (if 0 ≤ (x0_0 : Int) ∧ (x0_0 : Int) < ((s.Grams).length : Int) then
  (spec_l01In k (s.Grams.getD (Int.toNat x0_0) 0) 0 1000000).bind fun y2 =>
   cond (!y2)
    (some false)
    (J (wr (x0_0 + 1))) else none)
 (some (decide ((((s.Grams).length : Int) : Int) = 4)))
noncomputable def spec_StoreOk_l0 (k : Nat) : Nat → Stock → Int → Option (Bool)
 | 0, s, x0_0 => spec_StoreOk_s0 k s (fun _ => none) x0_0
 | m + 1, s, x0_0 => spec_StoreOk_s0 k s (spec_StoreOk_l0 k m s) x0_0
noncomputable def spec_StoreOk_m (k : Nat) (J0 : Stock → Int → Option (Bool)) (s : Stock) : Option (Bool) :=
 J0 s 0
noncomputable def spec_StoreOk (k : Nat) (s : Stock) : Option (Bool) := spec_StoreOk_m k (spec_StoreOk_l0 k k) s
noncomputable def spec_StoreOk_v : Nat → List Nat := fun t => match t with | 2 => [1, 2, 3] | _ => []
noncomputable def spec_StoreOk_O (k : Nat) : Oracle := ofL [(56, spec_l01In_x k)]
theorem spec_StoreOk_Ok (k : Nat) : OkO (Ct Tryd.prog) (spec_StoreOk_O k) := okO_cons (spec_l01In_ok k) (okO_nil)
noncomputable def spec_StoreOk_A (s : Stock) : Pk := ⟨[(.ag [(.sl 0)])], [(.row false K.ki64 s.Grams)]⟩
noncomputable def spec_StoreOk_d : Rs → Option (Bool)
 | ⟨(.a (.sc (.v (.bool r1)))), [.dead]⟩ => some r1
 | _ => none
theorem spec_StoreOk_i {r : Rs} {y : Bool} (h : spec_StoreOk_d r = some y) : r = ⟨(.a (.sc (.v (.bool y)))), [.dead]⟩ := by
 unfold spec_StoreOk_d at h; split at h
 · cases h; rfl
 · cases h
noncomputable def spec_StoreOk_h0 (k m : Nat) (s : Stock) (x0_0 : Int) : Option (Bool) := hdAt env (spec_StoreOk_O k) spec_StoreOk_v Tryd.f73 1 (fun r => spec_StoreOk_d (r.fin 1 [])) [1, 0, 1, 0] k m ⟨tmF [1, 2, 3] [(.a (.sc (.bp 1 0))), (.a (.sc (.v (.bool false)))), (.a (.sc (.v (.int .i64 x0_0))))], blF [(.row false K.ki64 s.Grams), (.box true [(.sl 0)])]⟩
theorem spec_StoreOk_z0 (k : Nat) (s : Stock) (x0_0 : Int) : spec_StoreOk_h0 k 0 s x0_0 = spec_StoreOk_s0 k s (fun _ => none) x0_0 := by kernel_rfl
theorem spec_StoreOk_g0 (k : Nat) (H : St → Option (Bool)) (s : Stock) (x0_0 : Int) : rnd env (spec_StoreOk_O k) spec_StoreOk_v Tryd.f73 1 (fun r => spec_StoreOk_d (r.fin 1 [])) [1, 0, 1, 0] k H ⟨tmF [1, 2, 3] [(.a (.sc (.bp 1 0))), (.a (.sc (.v (.bool false)))), (.a (.sc (.v (.int .i64 x0_0))))], blF [(.row false K.ki64 s.Grams), (.box true [(.sl 0)])]⟩ = spec_StoreOk_s0 k s (fun x0_0 => H ⟨tmF [1, 2, 3] [(.a (.sc (.bp 1 0))), (.a (.sc (.v (.bool false)))), (.a (.sc (.v (.int .i64 x0_0))))], blF [(.row false K.ki64 s.Grams), (.box true [(.sl 0)])]⟩) x0_0 := by kernel_rfl
theorem spec_StoreOk_n0 (k m : Nat) (s : Stock) (x0_0 : Int) : spec_StoreOk_h0 k (m + 1) s x0_0 = spec_StoreOk_s0 k s (spec_StoreOk_h0 k m s) x0_0 := (hdAt_succ _ _ _ _ _ _ _ _ _ _).trans (spec_StoreOk_g0 k _ s x0_0)
theorem spec_StoreOk_q0 (k : Nat) : ∀ m, spec_StoreOk_h0 k m = spec_StoreOk_l0 k m := by
 intro m
 induction m with
 | zero => funext s x0_0; rw [spec_StoreOk_z0]; rfl
 | succ m ih => funext s x0_0; rw [spec_StoreOk_n0, ih]; rfl
theorem spec_StoreOk_e (k : Nat) (s : Stock) : callF env (spec_StoreOk_O k) spec_StoreOk_v Tryd.f73 (k + 1) (spec_StoreOk_A s) (fun r => spec_StoreOk_d (r.fin 1 [])) = spec_StoreOk k s := by
 have e : callF env (spec_StoreOk_O k) spec_StoreOk_v Tryd.f73 (k + 1) (spec_StoreOk_A s) (fun r => spec_StoreOk_d (r.fin 1 [])) = spec_StoreOk_m k (spec_StoreOk_h0 k k) s := by kernel_rfl
 rw [e, spec_StoreOk_q0]; rfl
noncomputable def spec_StoreOk_x (k : Nat) : Ent1 := fun A R Q => match A with
 | ⟨[(.ag [(.sl 0)])], [(.row false K.ki64 a1)]⟩ => (spec_StoreOk k (⟨a1⟩ : Stock)).bind fun y => Q ⟨(.a (.sc (.v (.bool y)))), [.dead]⟩
 | _ => none
theorem spec_StoreOk_ok (k : Nat) : OkE Tryd.prog 73 (spec_StoreOk_x k) := by
 intro A R Q x h
 unfold spec_StoreOk_x at h
 split at h
 · obtain ⟨y, hy, hK⟩ := Option.bind_eq_some_iff.1 h
   obtain ⟨r, hr, hd⟩ := callF_ok envOk (spec_StoreOk_Ok k) follows Tryd.func73 (by kernel_rfl) ((spec_StoreOk_e k _).trans hy)
   exact ⟨_, spec_StoreOk_i hd ▸ hr.fin [], hK⟩
 · cases h
/-! ### spec.DoughOk: function 74 -/
noncomputable def spec_DoughOk (k : Nat)  (d : Dough) : Option (Bool) :=
 (spec_l01In k d.Water 300 1200).bind fun y1 =>
 cond y1
  ((spec_l01In k d.Salt 0 50).bind fun y2 =>
   cond y2
    ((spec_l01In k d.Leaven 0 500).bind fun y3 =>
     some y3)
    (some false))
  (some false)
noncomputable def spec_DoughOk_v : Nat → List Nat := fun t => match t with | _ => []
noncomputable def spec_DoughOk_O (k : Nat) : Oracle := ofL [(56, spec_l01In_x k)]
theorem spec_DoughOk_Ok (k : Nat) : OkO (Ct Tryd.prog) (spec_DoughOk_O k) := okO_cons (spec_l01In_ok k) (okO_nil)
noncomputable def spec_DoughOk_A (d : Dough) : Pk := ⟨[(.ag [(.v (.int .i64 d.Water)), (.v (.int .i64 d.Salt)), (.v (.int .i64 d.Leaven))])], []⟩
noncomputable def spec_DoughOk_d : Rs → Option (Bool)
 | ⟨(.a (.sc (.v (.bool r1)))), []⟩ => some r1
 | _ => none
theorem spec_DoughOk_i {r : Rs} {y : Bool} (h : spec_DoughOk_d r = some y) : r = ⟨(.a (.sc (.v (.bool y)))), []⟩ := by
 unfold spec_DoughOk_d at h; split at h
 · cases h; rfl
 · cases h
theorem spec_DoughOk_e (k : Nat) (d : Dough) : callF env (spec_DoughOk_O k) spec_DoughOk_v Tryd.f74 (k + 1) (spec_DoughOk_A d) (fun r => spec_DoughOk_d (r.fin 0 [])) = spec_DoughOk k d := by kernel_rfl
noncomputable def spec_DoughOk_x (k : Nat) : Ent1 := fun A R Q => match A with
 | ⟨[(.ag [(.v (.int .i64 a1)), (.v (.int .i64 a2)), (.v (.int .i64 a3))])], []⟩ => (spec_DoughOk k (⟨a1, a2, a3⟩ : Dough)).bind fun y => Q ⟨(.a (.sc (.v (.bool y)))), []⟩
 | _ => none
theorem spec_DoughOk_ok (k : Nat) : OkE Tryd.prog 74 (spec_DoughOk_x k) := by
 intro A R Q x h
 unfold spec_DoughOk_x at h
 split at h
 · obtain ⟨y, hy, hK⟩ := Option.bind_eq_some_iff.1 h
   obtain ⟨r, hr, hd⟩ := callF_ok envOk (spec_DoughOk_Ok k) follows Tryd.func74 (by kernel_rfl) ((spec_DoughOk_e k _).trans hy)
   exact ⟨_, spec_DoughOk_i hd ▸ hr.fin [], hK⟩
 · cases h
/-! ### spec.LoafOk: function 75 -/
noncomputable def spec_LoafOk (k : Nat)  (l : Loaf) : Option (Bool) :=
 (spec_l01In k l.Weight 10 5000).bind fun y1 =>
 cond y1
  ((spec_l01In k l.Loss 0 40).bind fun y2 =>
   some y2)
  (some false)
noncomputable def spec_LoafOk_v : Nat → List Nat := fun t => match t with | _ => []
noncomputable def spec_LoafOk_O (k : Nat) : Oracle := ofL [(56, spec_l01In_x k)]
theorem spec_LoafOk_Ok (k : Nat) : OkO (Ct Tryd.prog) (spec_LoafOk_O k) := okO_cons (spec_l01In_ok k) (okO_nil)
noncomputable def spec_LoafOk_A (l : Loaf) : Pk := ⟨[(.ag [(.v (.int .i64 l.Weight)), (.v (.int .i64 l.Loss))])], []⟩
noncomputable def spec_LoafOk_d : Rs → Option (Bool)
 | ⟨(.a (.sc (.v (.bool r1)))), []⟩ => some r1
 | _ => none
theorem spec_LoafOk_i {r : Rs} {y : Bool} (h : spec_LoafOk_d r = some y) : r = ⟨(.a (.sc (.v (.bool y)))), []⟩ := by
 unfold spec_LoafOk_d at h; split at h
 · cases h; rfl
 · cases h
theorem spec_LoafOk_e (k : Nat) (l : Loaf) : callF env (spec_LoafOk_O k) spec_LoafOk_v Tryd.f75 (k + 1) (spec_LoafOk_A l) (fun r => spec_LoafOk_d (r.fin 0 [])) = spec_LoafOk k l := by kernel_rfl
noncomputable def spec_LoafOk_x (k : Nat) : Ent1 := fun A R Q => match A with
 | ⟨[(.ag [(.v (.int .i64 a1)), (.v (.int .i64 a2))])], []⟩ => (spec_LoafOk k (⟨a1, a2⟩ : Loaf)).bind fun y => Q ⟨(.a (.sc (.v (.bool y)))), []⟩
 | _ => none
theorem spec_LoafOk_ok (k : Nat) : OkE Tryd.prog 75 (spec_LoafOk_x k) := by
 intro A R Q x h
 unfold spec_LoafOk_x at h
 split at h
 · obtain ⟨y, hy, hK⟩ := Option.bind_eq_some_iff.1 h
   obtain ⟨r, hr, hd⟩ := callF_ok envOk (spec_LoafOk_Ok k) follows Tryd.func75 (by kernel_rfl) ((spec_LoafOk_e k _).trans hy)
   exact ⟨_, spec_LoafOk_i hd ▸ hr.fin [], hK⟩
 · cases h
/-! ### spec.RackOk: function 122 -/
noncomputable def spec_RackOk (k : Nat)  (r : Rack) : Option (Bool) :=
 (spec_l01In k r.Fresh 0 10000).bind fun y1 =>
 cond y1
  ((spec_l01In k r.Day 0 10000).bind fun y2 =>
   cond y2
    ((spec_l01In k r.Old 0 10000).bind fun y3 =>
     some y3)
    (some false))
  (some false)
noncomputable def spec_RackOk_v : Nat → List Nat := fun t => match t with | _ => []
noncomputable def spec_RackOk_O (k : Nat) : Oracle := ofL [(56, spec_l01In_x k)]
theorem spec_RackOk_Ok (k : Nat) : OkO (Ct Tryd.prog) (spec_RackOk_O k) := okO_cons (spec_l01In_ok k) (okO_nil)
noncomputable def spec_RackOk_A (r : Rack) : Pk := ⟨[(.ag [(.v (.int .i64 r.Fresh)), (.v (.int .i64 r.Day)), (.v (.int .i64 r.Old))])], []⟩
noncomputable def spec_RackOk_d : Rs → Option (Bool)
 | ⟨(.a (.sc (.v (.bool r1)))), []⟩ => some r1
 | _ => none
theorem spec_RackOk_i {r : Rs} {y : Bool} (h : spec_RackOk_d r = some y) : r = ⟨(.a (.sc (.v (.bool y)))), []⟩ := by
 unfold spec_RackOk_d at h; split at h
 · cases h; rfl
 · cases h
theorem spec_RackOk_e (k : Nat) (r : Rack) : callF env (spec_RackOk_O k) spec_RackOk_v Tryd.f122 (k + 1) (spec_RackOk_A r) (fun r => spec_RackOk_d (r.fin 0 [])) = spec_RackOk k r := by kernel_rfl
noncomputable def spec_RackOk_x (k : Nat) : Ent1 := fun A R Q => match A with
 | ⟨[(.ag [(.v (.int .i64 a1)), (.v (.int .i64 a2)), (.v (.int .i64 a3))])], []⟩ => (spec_RackOk k (⟨a1, a2, a3⟩ : Rack)).bind fun y => Q ⟨(.a (.sc (.v (.bool y)))), []⟩
 | _ => none
theorem spec_RackOk_ok (k : Nat) : OkE Tryd.prog 122 (spec_RackOk_x k) := by
 intro A R Q x h
 unfold spec_RackOk_x at h
 split at h
 · obtain ⟨y, hy, hK⟩ := Option.bind_eq_some_iff.1 h
   obtain ⟨r, hr, hd⟩ := callF_ok envOk (spec_RackOk_Ok k) follows Tryd.func122 (by kernel_rfl) ((spec_RackOk_e k _).trans hy)
   exact ⟨_, spec_RackOk_i hd ▸ hr.fin [], hK⟩
 · cases h
/-! ### spec.SellFresh: function 123 -/
noncomputable def spec_SellFresh (k : Nat)  (r : Rack) (n : Int) : Option (Rack × Int) :=
 (spec_RackOk k r).bind fun y1 =>
 cond (!y1)
  (some (r, (-1)))
  ((spec_l01In k n 0 10000).bind fun y2 =>
   cond (!y2)
    (some (r, (-1)))
    (some ((⟨(wr (r.Fresh - (mn n r.Fresh))), (wr (r.Day - (mn (wr (n - (mn n r.Fresh))) r.Day))), r.Old⟩ : Rack), (wr ((mn n r.Fresh) + (mn (wr (n - (mn n r.Fresh))) r.Day))))))
noncomputable def spec_SellFresh_v : Nat → List Nat := fun t => match t with | _ => []
noncomputable def spec_SellFresh_O (k : Nat) : Oracle := ofL [(122, spec_RackOk_x k), (56, spec_l01In_x k)]
theorem spec_SellFresh_Ok (k : Nat) : OkO (Ct Tryd.prog) (spec_SellFresh_O k) := okO_cons (spec_RackOk_ok k) (okO_cons (spec_l01In_ok k) (okO_nil))
noncomputable def spec_SellFresh_A (r : Rack) (n : Int) : Pk := ⟨[(.ag [(.v (.int .i64 r.Fresh)), (.v (.int .i64 r.Day)), (.v (.int .i64 r.Old))]), (.sc (.v (.int .i64 n)))], []⟩
noncomputable def spec_SellFresh_d : Rs → Option (Rack × Int)
 | ⟨(.tp [(.ag [(.v (.int .i64 r1)), (.v (.int .i64 r2)), (.v (.int .i64 r3))]), (.sc (.v (.int .i64 r4)))]), []⟩ => some ((⟨r1, r2, r3⟩ : Rack), r4)
 | _ => none
theorem spec_SellFresh_i {r : Rs} {y : Rack × Int} (h : spec_SellFresh_d r = some y) : r = ⟨(.tp [(.ag [(.v (.int .i64 y.1.Fresh)), (.v (.int .i64 y.1.Day)), (.v (.int .i64 y.1.Old))]), (.sc (.v (.int .i64 y.2)))]), []⟩ := by
 unfold spec_SellFresh_d at h; split at h
 · cases h; rfl
 · cases h
theorem spec_SellFresh_e (k : Nat) (r : Rack) (n : Int) : callF env (spec_SellFresh_O k) spec_SellFresh_v Tryd.f123 (k + 1) (spec_SellFresh_A r n) (fun r => spec_SellFresh_d (r.fin 0 [])) = spec_SellFresh k r n := by kernel_rfl
noncomputable def spec_SellFresh_x (k : Nat) : Ent1 := fun A R Q => match A with
 | ⟨[(.ag [(.v (.int .i64 a1)), (.v (.int .i64 a2)), (.v (.int .i64 a3))]), (.sc (.v (.int .i64 a4)))], []⟩ => (spec_SellFresh k (⟨a1, a2, a3⟩ : Rack) a4).bind fun y => Q ⟨(.tp [(.ag [(.v (.int .i64 y.1.Fresh)), (.v (.int .i64 y.1.Day)), (.v (.int .i64 y.1.Old))]), (.sc (.v (.int .i64 y.2)))]), []⟩
 | _ => none
theorem spec_SellFresh_ok (k : Nat) : OkE Tryd.prog 123 (spec_SellFresh_x k) := by
 intro A R Q x h
 unfold spec_SellFresh_x at h
 split at h
 · obtain ⟨y, hy, hK⟩ := Option.bind_eq_some_iff.1 h
   obtain ⟨r, hr, hd⟩ := callF_ok envOk (spec_SellFresh_Ok k) follows Tryd.func123 (by kernel_rfl) ((spec_SellFresh_e k _ _).trans hy)
   exact ⟨_, spec_SellFresh_i hd ▸ hr.fin [], hK⟩
 · cases h
/-! ### spec.SellCheap: function 124 -/
noncomputable def spec_SellCheap (k : Nat)  (r : Rack) (n : Int) : Option (Rack × Int) :=
 (spec_RackOk k r).bind fun y1 =>
 cond (!y1)
  (some (r, (-1)))
  ((spec_l01In k n 0 10000).bind fun y2 =>
   cond (!y2)
    (some (r, (-1)))
    (some ((⟨r.Fresh, (wr (r.Day - (mn (wr (n - (mn n r.Old))) r.Day))), (wr (r.Old - (mn n r.Old)))⟩ : Rack), (wr ((mn n r.Old) + (mn (wr (n - (mn n r.Old))) r.Day))))))
noncomputable def spec_SellCheap_v : Nat → List Nat := fun t => match t with | _ => []
noncomputable def spec_SellCheap_O (k : Nat) : Oracle := ofL [(122, spec_RackOk_x k), (56, spec_l01In_x k)]
theorem spec_SellCheap_Ok (k : Nat) : OkO (Ct Tryd.prog) (spec_SellCheap_O k) := okO_cons (spec_RackOk_ok k) (okO_cons (spec_l01In_ok k) (okO_nil))
noncomputable def spec_SellCheap_A (r : Rack) (n : Int) : Pk := ⟨[(.ag [(.v (.int .i64 r.Fresh)), (.v (.int .i64 r.Day)), (.v (.int .i64 r.Old))]), (.sc (.v (.int .i64 n)))], []⟩
noncomputable def spec_SellCheap_d : Rs → Option (Rack × Int)
 | ⟨(.tp [(.ag [(.v (.int .i64 r1)), (.v (.int .i64 r2)), (.v (.int .i64 r3))]), (.sc (.v (.int .i64 r4)))]), []⟩ => some ((⟨r1, r2, r3⟩ : Rack), r4)
 | _ => none
theorem spec_SellCheap_i {r : Rs} {y : Rack × Int} (h : spec_SellCheap_d r = some y) : r = ⟨(.tp [(.ag [(.v (.int .i64 y.1.Fresh)), (.v (.int .i64 y.1.Day)), (.v (.int .i64 y.1.Old))]), (.sc (.v (.int .i64 y.2)))]), []⟩ := by
 unfold spec_SellCheap_d at h; split at h
 · cases h; rfl
 · cases h
theorem spec_SellCheap_e (k : Nat) (r : Rack) (n : Int) : callF env (spec_SellCheap_O k) spec_SellCheap_v Tryd.f124 (k + 1) (spec_SellCheap_A r n) (fun r => spec_SellCheap_d (r.fin 0 [])) = spec_SellCheap k r n := by kernel_rfl
noncomputable def spec_SellCheap_x (k : Nat) : Ent1 := fun A R Q => match A with
 | ⟨[(.ag [(.v (.int .i64 a1)), (.v (.int .i64 a2)), (.v (.int .i64 a3))]), (.sc (.v (.int .i64 a4)))], []⟩ => (spec_SellCheap k (⟨a1, a2, a3⟩ : Rack) a4).bind fun y => Q ⟨(.tp [(.ag [(.v (.int .i64 y.1.Fresh)), (.v (.int .i64 y.1.Day)), (.v (.int .i64 y.1.Old))]), (.sc (.v (.int .i64 y.2)))]), []⟩
 | _ => none
theorem spec_SellCheap_ok (k : Nat) : OkE Tryd.prog 124 (spec_SellCheap_x k) := by
 intro A R Q x h
 unfold spec_SellCheap_x at h
 split at h
 · obtain ⟨y, hy, hK⟩ := Option.bind_eq_some_iff.1 h
   obtain ⟨r, hr, hd⟩ := callF_ok envOk (spec_SellCheap_Ok k) follows Tryd.func124 (by kernel_rfl) ((spec_SellCheap_e k _ _).trans hy)
   exact ⟨_, spec_SellCheap_i hd ▸ hr.fin [], hK⟩
 · cases h
/-! ### spec.NextMorning: function 125 -/
noncomputable def spec_NextMorning (k : Nat)  (r : Rack) (baked : Int) : Option (Rack × Int) :=
 (spec_RackOk k r).bind fun y1 =>
 cond (!y1)
  (some (r, (-1)))
  ((spec_l01In k baked 0 10000).bind fun y2 =>
   cond (!y2)
    (some (r, (-1)))
    (some ((⟨baked, r.Fresh, r.Day⟩ : Rack), r.Old)))
noncomputable def spec_NextMorning_v : Nat → List Nat := fun t => match t with | _ => []
noncomputable def spec_NextMorning_O (k : Nat) : Oracle := ofL [(122, spec_RackOk_x k), (56, spec_l01In_x k)]
theorem spec_NextMorning_Ok (k : Nat) : OkO (Ct Tryd.prog) (spec_NextMorning_O k) := okO_cons (spec_RackOk_ok k) (okO_cons (spec_l01In_ok k) (okO_nil))
noncomputable def spec_NextMorning_A (r : Rack) (baked : Int) : Pk := ⟨[(.ag [(.v (.int .i64 r.Fresh)), (.v (.int .i64 r.Day)), (.v (.int .i64 r.Old))]), (.sc (.v (.int .i64 baked)))], []⟩
noncomputable def spec_NextMorning_d : Rs → Option (Rack × Int)
 | ⟨(.tp [(.ag [(.v (.int .i64 r1)), (.v (.int .i64 r2)), (.v (.int .i64 r3))]), (.sc (.v (.int .i64 r4)))]), []⟩ => some ((⟨r1, r2, r3⟩ : Rack), r4)
 | _ => none
theorem spec_NextMorning_i {r : Rs} {y : Rack × Int} (h : spec_NextMorning_d r = some y) : r = ⟨(.tp [(.ag [(.v (.int .i64 y.1.Fresh)), (.v (.int .i64 y.1.Day)), (.v (.int .i64 y.1.Old))]), (.sc (.v (.int .i64 y.2)))]), []⟩ := by
 unfold spec_NextMorning_d at h; split at h
 · cases h; rfl
 · cases h
theorem spec_NextMorning_e (k : Nat) (r : Rack) (baked : Int) : callF env (spec_NextMorning_O k) spec_NextMorning_v Tryd.f125 (k + 1) (spec_NextMorning_A r baked) (fun r => spec_NextMorning_d (r.fin 0 [])) = spec_NextMorning k r baked := by kernel_rfl
noncomputable def spec_NextMorning_x (k : Nat) : Ent1 := fun A R Q => match A with
 | ⟨[(.ag [(.v (.int .i64 a1)), (.v (.int .i64 a2)), (.v (.int .i64 a3))]), (.sc (.v (.int .i64 a4)))], []⟩ => (spec_NextMorning k (⟨a1, a2, a3⟩ : Rack) a4).bind fun y => Q ⟨(.tp [(.ag [(.v (.int .i64 y.1.Fresh)), (.v (.int .i64 y.1.Day)), (.v (.int .i64 y.1.Old))]), (.sc (.v (.int .i64 y.2)))]), []⟩
 | _ => none
theorem spec_NextMorning_ok (k : Nat) : OkE Tryd.prog 125 (spec_NextMorning_x k) := by
 intro A R Q x h
 unfold spec_NextMorning_x at h
 split at h
 · obtain ⟨y, hy, hK⟩ := Option.bind_eq_some_iff.1 h
   obtain ⟨r, hr, hd⟩ := callF_ok envOk (spec_NextMorning_Ok k) follows Tryd.func125 (by kernel_rfl) ((spec_NextMorning_e k _ _).trans hy)
   exact ⟨_, spec_NextMorning_i hd ▸ hr.fin [], hK⟩
 · cases h
/-! ### spec.EventOn: function 109 -/
noncomputable def spec_EventOn (k : Nat)  (r : Rack) (e : Event) : Option (Rack × Int × Int × Int × Bool) :=
 (spec_RackOk k r).bind fun y1 =>
 cond (!y1)
  (some (r, 0, 0, 0, false))
  ((spec_l01In k e.Loaves 0 1000).bind fun y2 =>
   cond (!y2)
    (some (r, 0, 0, 0, false))
    (cond (decide ((e.Kind : Int) = 1))
     ((spec_RackOk k (⟨(wr (r.Fresh + e.Loaves)), r.Day, r.Old⟩ : Rack)).bind fun y3 =>
      cond y3
       (some ((⟨(wr (r.Fresh + e.Loaves)), r.Day, r.Old⟩ : Rack), e.Loaves, 0, 0, true))
       (some (r, 0, 0, 0, false)))
     (cond (decide ((e.Kind : Int) = 2))
      ((spec_SellFresh k r e.Loaves).bind fun y4 =>
       cond (decide ((y4.2 : Int) = e.Loaves))
        (some (y4.1, 0, y4.2, 0, true))
        (some (r, 0, 0, 0, false)))
      (cond (decide ((e.Kind : Int) = 3))
       ((spec_SellCheap k r e.Loaves).bind fun y5 =>
        cond (decide ((y5.2 : Int) = e.Loaves))
        (some (y5.1, 0, y5.2, 0, true))
        (some (r, 0, 0, 0, false)))
       (cond (decide ((e.Kind : Int) = 4))
        ((spec_NextMorning k r 0).bind fun y6 =>
        cond (decide ((e.Loaves : Int) = 0))
        (some (y6.1, 0, 0, y6.2, true))
        (some (r, 0, 0, 0, false)))
        (some (r, 0, 0, 0, false)))))))
noncomputable def spec_EventOn_v : Nat → List Nat := fun t => match t with | _ => []
noncomputable def spec_EventOn_O (k : Nat) : Oracle := ofL [(122, spec_RackOk_x k), (123, spec_SellFresh_x k), (124, spec_SellCheap_x k), (125, spec_NextMorning_x k), (56, spec_l01In_x k)]
theorem spec_EventOn_Ok (k : Nat) : OkO (Ct Tryd.prog) (spec_EventOn_O k) := okO_cons (spec_RackOk_ok k) (okO_cons (spec_SellFresh_ok k) (okO_cons (spec_SellCheap_ok k) (okO_cons (spec_NextMorning_ok k) (okO_cons (spec_l01In_ok k) (okO_nil)))))
noncomputable def spec_EventOn_A (r : Rack) (e : Event) : Pk := ⟨[(.ag [(.v (.int .i64 r.Fresh)), (.v (.int .i64 r.Day)), (.v (.int .i64 r.Old))]), (.ag [(.v (.int .i64 e.Kind)), (.v (.int .i64 e.Loaves))])], []⟩
noncomputable def spec_EventOn_d : Rs → Option (Rack × Int × Int × Int × Bool)
 | ⟨(.tp [(.ag [(.v (.int .i64 r1)), (.v (.int .i64 r2)), (.v (.int .i64 r3))]), (.sc (.v (.int .i64 r4))), (.sc (.v (.int .i64 r5))), (.sc (.v (.int .i64 r6))), (.sc (.v (.bool r7)))]), []⟩ => some ((⟨r1, r2, r3⟩ : Rack), r4, r5, r6, r7)
 | _ => none
theorem spec_EventOn_i {r : Rs} {y : Rack × Int × Int × Int × Bool} (h : spec_EventOn_d r = some y) : r = ⟨(.tp [(.ag [(.v (.int .i64 y.1.Fresh)), (.v (.int .i64 y.1.Day)), (.v (.int .i64 y.1.Old))]), (.sc (.v (.int .i64 y.2.1))), (.sc (.v (.int .i64 y.2.2.1))), (.sc (.v (.int .i64 y.2.2.2.1))), (.sc (.v (.bool y.2.2.2.2)))]), []⟩ := by
 unfold spec_EventOn_d at h; split at h
 · cases h; rfl
 · cases h
theorem spec_EventOn_e (k : Nat) (r : Rack) (e : Event) : callF env (spec_EventOn_O k) spec_EventOn_v Tryd.f109 (k + 1) (spec_EventOn_A r e) (fun r => spec_EventOn_d (r.fin 0 [])) = spec_EventOn k r e := by kernel_rfl
noncomputable def spec_EventOn_x (k : Nat) : Ent1 := fun A R Q => match A with
 | ⟨[(.ag [(.v (.int .i64 a1)), (.v (.int .i64 a2)), (.v (.int .i64 a3))]), (.ag [(.v (.int .i64 a4)), (.v (.int .i64 a5))])], []⟩ => (spec_EventOn k (⟨a1, a2, a3⟩ : Rack) (⟨a4, a5⟩ : Event)).bind fun y => Q ⟨(.tp [(.ag [(.v (.int .i64 y.1.Fresh)), (.v (.int .i64 y.1.Day)), (.v (.int .i64 y.1.Old))]), (.sc (.v (.int .i64 y.2.1))), (.sc (.v (.int .i64 y.2.2.1))), (.sc (.v (.int .i64 y.2.2.2.1))), (.sc (.v (.bool y.2.2.2.2)))]), []⟩
 | _ => none
theorem spec_EventOn_ok (k : Nat) : OkE Tryd.prog 109 (spec_EventOn_x k) := by
 intro A R Q x h
 unfold spec_EventOn_x at h
 split at h
 · obtain ⟨y, hy, hK⟩ := Option.bind_eq_some_iff.1 h
   obtain ⟨r, hr, hd⟩ := callF_ok envOk (spec_EventOn_Ok k) follows Tryd.func109 (by kernel_rfl) ((spec_EventOn_e k _ _).trans hy)
   exact ⟨_, spec_EventOn_i hd ▸ hr.fin [], hK⟩
 · cases h
/-! ### spec.l37Count: function 96 -/
noncomputable def spec_l37Count_s0 (k : Nat)  (events : (List Event)) (J : Int → Int → Int → Int → Int → Int → Int → Option (Book × Bool)) (x0_0 : Int) (x0_1 : Int) (x0_2 : Int) (x0_3 : Int) (x0_4 : Int) (x0_5 : Int) (x0_6 : Int) : Option (Book × Bool) :=
 cond (decide ((x0_0 : Int) < ((events).length : Int)))
 (if 0 ≤ (x0_0 : Int) ∧ (x0_0 : Int) < ((events).length : Int) then
  (spec_EventOn k (⟨x0_1, x0_2, x0_3⟩ : Rack) (events.getD (Int.toNat x0_0) dk_impl_Event)).bind fun y2 =>
   cond (!y2.2.2.2.2)
    (some ((⟨([] ++ events), (⟨x0_1, x0_2, x0_3⟩ : Rack), x0_4, x0_5, x0_6⟩ : Book), false))
    (J (wr (x0_0 + 1)) y2.1.Fresh y2.1.Day y2.1.Old (wr (x0_4 + y2.2.1)) (wr (x0_5 + y2.2.2.1)) (wr (x0_6 + y2.2.2.2.1))) else none)
 (some ((⟨([] ++ events), (⟨x0_1, x0_2, x0_3⟩ : Rack), x0_4, x0_5, x0_6⟩ : Book), true))
noncomputable def spec_l37Count_l0 (k : Nat) : Nat → (List Event) → Int → Int → Int → Int → Int → Int → Int → Option (Book × Bool)
 | 0, events, x0_0, x0_1, x0_2, x0_3, x0_4, x0_5, x0_6 => spec_l37Count_s0 k events (fun _ _ _ _ _ _ _ => none) x0_0 x0_1 x0_2 x0_3 x0_4 x0_5 x0_6
 | m + 1, events, x0_0, x0_1, x0_2, x0_3, x0_4, x0_5, x0_6 => spec_l37Count_s0 k events (spec_l37Count_l0 k m events) x0_0 x0_1 x0_2 x0_3 x0_4 x0_5 x0_6
noncomputable def spec_l37Count_m (k : Nat) (J0 : (List Event) → Int → Int → Int → Int → Int → Int → Int → Option (Book × Bool)) (events : (List Event)) : Option (Book × Bool) :=
 if ([] : List Event).length + (events : List Event).length ≤ maxRow then
 cond (decide ((40 : Int) < ((events).length : Int)))
  (some ((⟨([] ++ events), (⟨0, 0, 0⟩ : Rack), 0, 0, 0⟩ : Book), false))
  (J0 events 0 0 0 0 0 0 0) else none
noncomputable def spec_l37Count (k : Nat) (events : (List Event)) : Option (Book × Bool) := spec_l37Count_m k (spec_l37Count_l0 k k) events
noncomputable def spec_l37Count_v : Nat → List Nat := fun t => match t with | 5 => [0, 2, 3, 4, 5] | _ => []
noncomputable def spec_l37Count_O (k : Nat) : Oracle := ofL [(109, spec_EventOn_x k)]
theorem spec_l37Count_Ok (k : Nat) : OkO (Ct Tryd.prog) (spec_l37Count_O k) := okO_cons (spec_EventOn_ok k) (okO_nil)
noncomputable def spec_l37Count_A (events : (List Event)) : Pk := ⟨[(.sc (.sl 0))], [(.row false K.k_impl_Event events)]⟩
noncomputable def spec_l37Count_d : Rs → Option (Book × Bool)
 | ⟨(.tp [(.ag [(.sl 1), (.v (.int .i64 r2)), (.v (.int .i64 r3)), (.v (.int .i64 r4)), (.v (.int .i64 r5)), (.v (.int .i64 r6)), (.v (.int .i64 r7))]), (.sc (.v (.bool r8)))]), [.dead, (.row true K.k_impl_Event r1)]⟩ => some ((⟨r1, (⟨r2, r3, r4⟩ : Rack), r5, r6, r7⟩ : Book), r8)
 | _ => none
theorem spec_l37Count_i {r : Rs} {y : Book × Bool} (h : spec_l37Count_d r = some y) : r = ⟨(.tp [(.ag [(.sl 1), (.v (.int .i64 y.1.Rack.Fresh)), (.v (.int .i64 y.1.Rack.Day)), (.v (.int .i64 y.1.Rack.Old)), (.v (.int .i64 y.1.Baked)), (.v (.int .i64 y.1.Sold)), (.v (.int .i64 y.1.Thrown))]), (.sc (.v (.bool y.2)))]), [.dead, (.row true K.k_impl_Event y.1.Events)]⟩ := by
 unfold spec_l37Count_d at h; split at h
 · cases h; rfl
 · cases h
noncomputable def spec_l37Count_h0 (k m : Nat) (events : (List Event)) (x0_0 : Int) (x0_1 : Int) (x0_2 : Int) (x0_3 : Int) (x0_4 : Int) (x0_5 : Int) (x0_6 : Int) : Option (Book × Bool) := hdAt env (spec_l37Count_O k) spec_l37Count_v Tryd.f96 1 (fun r => spec_l37Count_d (r.fin 1 [])) [1, 1, 1, 0, 1, 0] k m ⟨tmF [0, 2, 3, 4, 5] [(.a (.sc (.sl 0))), (.a (.sc (.bp 2 0))), (.a (.sc (.v (.bool false)))), (.a (.sc (.bp 4 0))), (.a (.sc (.v (.int .i64 x0_0))))], blF [(.row false K.k_impl_Event events), (.row true K.k_impl_Event []), (.box true [(.sl 1), (.v (.int .i64 0)), (.v (.int .i64 0)), (.v (.int .i64 0)), (.v (.int .i64 0)), (.v (.int .i64 0)), (.v (.int .i64 0))]), (.row true K.k_impl_Event ([] ++ events)), (.box true [(.sl 3), (.v (.int .i64 x0_1)), (.v (.int .i64 x0_2)), (.v (.int .i64 x0_3)), (.v (.int .i64 x0_4)), (.v (.int .i64 x0_5)), (.v (.int .i64 x0_6))])]⟩
theorem spec_l37Count_z0 (k : Nat) (events : (List Event)) (x0_0 : Int) (x0_1 : Int) (x0_2 : Int) (x0_3 : Int) (x0_4 : Int) (x0_5 : Int) (x0_6 : Int) : spec_l37Count_h0 k 0 events x0_0 x0_1 x0_2 x0_3 x0_4 x0_5 x0_6 = spec_l37Count_s0 k events (fun _ _ _ _ _ _ _ => none) x0_0 x0_1 x0_2 x0_3 x0_4 x0_5 x0_6 := by kernel_rfl
theorem spec_l37Count_g0 (k : Nat) (H : St → Option (Book × Bool)) (events : (List Event)) (x0_0 : Int) (x0_1 : Int) (x0_2 : Int) (x0_3 : Int) (x0_4 : Int) (x0_5 : Int) (x0_6 : Int) : rnd env (spec_l37Count_O k) spec_l37Count_v Tryd.f96 1 (fun r => spec_l37Count_d (r.fin 1 [])) [1, 1, 1, 0, 1, 0] k H ⟨tmF [0, 2, 3, 4, 5] [(.a (.sc (.sl 0))), (.a (.sc (.bp 2 0))), (.a (.sc (.v (.bool false)))), (.a (.sc (.bp 4 0))), (.a (.sc (.v (.int .i64 x0_0))))], blF [(.row false K.k_impl_Event events), (.row true K.k_impl_Event []), (.box true [(.sl 1), (.v (.int .i64 0)), (.v (.int .i64 0)), (.v (.int .i64 0)), (.v (.int .i64 0)), (.v (.int .i64 0)), (.v (.int .i64 0))]), (.row true K.k_impl_Event ([] ++ events)), (.box true [(.sl 3), (.v (.int .i64 x0_1)), (.v (.int .i64 x0_2)), (.v (.int .i64 x0_3)), (.v (.int .i64 x0_4)), (.v (.int .i64 x0_5)), (.v (.int .i64 x0_6))])]⟩ = spec_l37Count_s0 k events (fun x0_0 x0_1 x0_2 x0_3 x0_4 x0_5 x0_6 => H ⟨tmF [0, 2, 3, 4, 5] [(.a (.sc (.sl 0))), (.a (.sc (.bp 2 0))), (.a (.sc (.v (.bool false)))), (.a (.sc (.bp 4 0))), (.a (.sc (.v (.int .i64 x0_0))))], blF [(.row false K.k_impl_Event events), (.row true K.k_impl_Event []), (.box true [(.sl 1), (.v (.int .i64 0)), (.v (.int .i64 0)), (.v (.int .i64 0)), (.v (.int .i64 0)), (.v (.int .i64 0)), (.v (.int .i64 0))]), (.row true K.k_impl_Event ([] ++ events)), (.box true [(.sl 3), (.v (.int .i64 x0_1)), (.v (.int .i64 x0_2)), (.v (.int .i64 x0_3)), (.v (.int .i64 x0_4)), (.v (.int .i64 x0_5)), (.v (.int .i64 x0_6))])]⟩) x0_0 x0_1 x0_2 x0_3 x0_4 x0_5 x0_6 := by kernel_rfl
theorem spec_l37Count_n0 (k m : Nat) (events : (List Event)) (x0_0 : Int) (x0_1 : Int) (x0_2 : Int) (x0_3 : Int) (x0_4 : Int) (x0_5 : Int) (x0_6 : Int) : spec_l37Count_h0 k (m + 1) events x0_0 x0_1 x0_2 x0_3 x0_4 x0_5 x0_6 = spec_l37Count_s0 k events (spec_l37Count_h0 k m events) x0_0 x0_1 x0_2 x0_3 x0_4 x0_5 x0_6 := (hdAt_succ _ _ _ _ _ _ _ _ _ _).trans (spec_l37Count_g0 k _ events x0_0 x0_1 x0_2 x0_3 x0_4 x0_5 x0_6)
theorem spec_l37Count_q0 (k : Nat) : ∀ m, spec_l37Count_h0 k m = spec_l37Count_l0 k m := by
 intro m
 induction m with
 | zero => funext events x0_0 x0_1 x0_2 x0_3 x0_4 x0_5 x0_6; rw [spec_l37Count_z0]; rfl
 | succ m ih => funext events x0_0 x0_1 x0_2 x0_3 x0_4 x0_5 x0_6; rw [spec_l37Count_n0, ih]; rfl
theorem spec_l37Count_e (k : Nat) (events : (List Event)) : callF env (spec_l37Count_O k) spec_l37Count_v Tryd.f96 (k + 1) (spec_l37Count_A events) (fun r => spec_l37Count_d (r.fin 1 [])) = spec_l37Count k events := by
 have e : callF env (spec_l37Count_O k) spec_l37Count_v Tryd.f96 (k + 1) (spec_l37Count_A events) (fun r => spec_l37Count_d (r.fin 1 [])) = spec_l37Count_m k (spec_l37Count_h0 k k) events := by kernel_rfl
 rw [e, spec_l37Count_q0]; rfl
noncomputable def spec_l37Count_x (k : Nat) : Ent1 := fun A R Q => match A with
 | ⟨[(.sc (.sl 0))], [(.row false K.k_impl_Event a1)]⟩ => (spec_l37Count k a1).bind fun y => Q ⟨(.tp [(.ag [(.sl 1), (.v (.int .i64 y.1.Rack.Fresh)), (.v (.int .i64 y.1.Rack.Day)), (.v (.int .i64 y.1.Rack.Old)), (.v (.int .i64 y.1.Baked)), (.v (.int .i64 y.1.Sold)), (.v (.int .i64 y.1.Thrown))]), (.sc (.v (.bool y.2)))]), [.dead, (.row true K.k_impl_Event y.1.Events)]⟩
 | _ => none
theorem spec_l37Count_ok (k : Nat) : OkE Tryd.prog 96 (spec_l37Count_x k) := by
 intro A R Q x h
 unfold spec_l37Count_x at h
 split at h
 · obtain ⟨y, hy, hK⟩ := Option.bind_eq_some_iff.1 h
   obtain ⟨r, hr, hd⟩ := callF_ok envOk (spec_l37Count_Ok k) follows Tryd.func96 (by kernel_rfl) ((spec_l37Count_e k _).trans hy)
   exact ⟨_, spec_l37Count_i hd ▸ hr.fin [], hK⟩
 · cases h
/-! ### spec.BookOk: function 76 -/
noncomputable def spec_BookOk (k : Nat)  (b : Book) : Option (Bool) :=
 (spec_l37Count k b.Events).bind fun y1 =>
 cond y1.2
  (cond (decide ((y1.1.Rack.Fresh : Int) = b.Rack.Fresh) && (decide ((y1.1.Rack.Day : Int) = b.Rack.Day) && decide ((y1.1.Rack.Old : Int) = b.Rack.Old)))
   (cond (decide ((y1.1.Baked : Int) = b.Baked))
    (cond (decide ((y1.1.Sold : Int) = b.Sold))
     (some (decide ((y1.1.Thrown : Int) = b.Thrown)))
     (some false))
    (some false))
   (some false))
  (some false)
noncomputable def spec_BookOk_v : Nat → List Nat := fun t => match t with | _ => []
noncomputable def spec_BookOk_O (k : Nat) : Oracle := ofL [(96, spec_l37Count_x k)]
theorem spec_BookOk_Ok (k : Nat) : OkO (Ct Tryd.prog) (spec_BookOk_O k) := okO_cons (spec_l37Count_ok k) (okO_nil)
noncomputable def spec_BookOk_A (b : Book) : Pk := ⟨[(.ag [(.sl 0), (.v (.int .i64 b.Rack.Fresh)), (.v (.int .i64 b.Rack.Day)), (.v (.int .i64 b.Rack.Old)), (.v (.int .i64 b.Baked)), (.v (.int .i64 b.Sold)), (.v (.int .i64 b.Thrown))])], [(.row false K.k_impl_Event b.Events)]⟩
noncomputable def spec_BookOk_d : Rs → Option (Bool)
 | ⟨(.a (.sc (.v (.bool r1)))), [.dead]⟩ => some r1
 | _ => none
theorem spec_BookOk_i {r : Rs} {y : Bool} (h : spec_BookOk_d r = some y) : r = ⟨(.a (.sc (.v (.bool y)))), [.dead]⟩ := by
 unfold spec_BookOk_d at h; split at h
 · cases h; rfl
 · cases h
theorem spec_BookOk_e (k : Nat) (b : Book) : callF env (spec_BookOk_O k) spec_BookOk_v Tryd.f76 (k + 1) (spec_BookOk_A b) (fun r => spec_BookOk_d (r.fin 1 [])) = spec_BookOk k b := by kernel_rfl
noncomputable def spec_BookOk_x (k : Nat) : Ent1 := fun A R Q => match A with
 | ⟨[(.ag [(.sl 0), (.v (.int .i64 a2)), (.v (.int .i64 a3)), (.v (.int .i64 a4)), (.v (.int .i64 a5)), (.v (.int .i64 a6)), (.v (.int .i64 a7))])], [(.row false K.k_impl_Event a1)]⟩ => (spec_BookOk k (⟨a1, (⟨a2, a3, a4⟩ : Rack), a5, a6, a7⟩ : Book)).bind fun y => Q ⟨(.a (.sc (.v (.bool y)))), [.dead]⟩
 | _ => none
theorem spec_BookOk_ok (k : Nat) : OkE Tryd.prog 76 (spec_BookOk_x k) := by
 intro A R Q x h
 unfold spec_BookOk_x at h
 split at h
 · obtain ⟨y, hy, hK⟩ := Option.bind_eq_some_iff.1 h
   obtain ⟨r, hr, hd⟩ := callF_ok envOk (spec_BookOk_Ok k) follows Tryd.func76 (by kernel_rfl) ((spec_BookOk_e k _).trans hy)
   exact ⟨_, spec_BookOk_i hd ▸ hr.fin [], hK⟩
 · cases h
/-! ### spec.BakeryOk: function 43 -/
noncomputable def spec_BakeryOk (k : Nat)  (b : Bakery) : Option (Bool) :=
 (spec_StoreOk k b.Stock).bind fun y1 =>
 cond y1
  ((spec_DoughOk k b.Dough).bind fun y2 =>
   cond y2
    ((spec_LoafOk k b.Loaf).bind fun y3 =>
     cond y3
      ((spec_BookOk k b.Book).bind fun y4 =>
       cond y4
        ((spec_l01In k b.Money 0 1000000).bind fun y5 =>
        some y5)
        (some false))
      (some false))
    (some false))
  (some false)
noncomputable def spec_BakeryOk_v : Nat → List Nat := fun t => match t with | _ => []
noncomputable def spec_BakeryOk_O (k : Nat) : Oracle := ofL [(56, spec_l01In_x k), (73, spec_StoreOk_x k), (74, spec_DoughOk_x k), (75, spec_LoafOk_x k), (76, spec_BookOk_x k)]
theorem spec_BakeryOk_Ok (k : Nat) : OkO (Ct Tryd.prog) (spec_BakeryOk_O k) := okO_cons (spec_l01In_ok k) (okO_cons (spec_StoreOk_ok k) (okO_cons (spec_DoughOk_ok k) (okO_cons (spec_LoafOk_ok k) (okO_cons (spec_BookOk_ok k) (okO_nil)))))
noncomputable def spec_BakeryOk_A (b : Bakery) : Pk := ⟨[(.ag [(.sl 0), (.v (.int .i64 b.Dough.Water)), (.v (.int .i64 b.Dough.Salt)), (.v (.int .i64 b.Dough.Leaven)), (.v (.int .i64 b.Loaf.Weight)), (.v (.int .i64 b.Loaf.Loss)), (.sl 1), (.v (.int .i64 b.Book.Rack.Fresh)), (.v (.int .i64 b.Book.Rack.Day)), (.v (.int .i64 b.Book.Rack.Old)), (.v (.int .i64 b.Book.Baked)), (.v (.int .i64 b.Book.Sold)), (.v (.int .i64 b.Book.Thrown)), (.v (.int .i64 b.Money))])], [(.row false K.ki64 b.Stock.Grams), (.row false K.k_impl_Event b.Book.Events)]⟩
noncomputable def spec_BakeryOk_d : Rs → Option (Bool)
 | ⟨(.a (.sc (.v (.bool r1)))), [.dead, .dead]⟩ => some r1
 | _ => none
theorem spec_BakeryOk_i {r : Rs} {y : Bool} (h : spec_BakeryOk_d r = some y) : r = ⟨(.a (.sc (.v (.bool y)))), [.dead, .dead]⟩ := by
 unfold spec_BakeryOk_d at h; split at h
 · cases h; rfl
 · cases h
theorem spec_BakeryOk_e (k : Nat) (b : Bakery) : callF env (spec_BakeryOk_O k) spec_BakeryOk_v Tryd.f43 (k + 1) (spec_BakeryOk_A b) (fun r => spec_BakeryOk_d (r.fin 2 [])) = spec_BakeryOk k b := by kernel_rfl
noncomputable def spec_BakeryOk_x (k : Nat) : Ent1 := fun A R Q => match A with
 | ⟨[(.ag [(.sl 0), (.v (.int .i64 a2)), (.v (.int .i64 a3)), (.v (.int .i64 a4)), (.v (.int .i64 a5)), (.v (.int .i64 a6)), (.sl 1), (.v (.int .i64 a8)), (.v (.int .i64 a9)), (.v (.int .i64 a10)), (.v (.int .i64 a11)), (.v (.int .i64 a12)), (.v (.int .i64 a13)), (.v (.int .i64 a14))])], [(.row false K.ki64 a1), (.row false K.k_impl_Event a7)]⟩ => (spec_BakeryOk k (⟨(⟨a1⟩ : Stock), (⟨a2, a3, a4⟩ : Dough), (⟨a5, a6⟩ : Loaf), (⟨a7, (⟨a8, a9, a10⟩ : Rack), a11, a12, a13⟩ : Book), a14⟩ : Bakery)).bind fun y => Q ⟨(.a (.sc (.v (.bool y)))), [.dead, .dead]⟩
 | _ => none
theorem spec_BakeryOk_ok (k : Nat) : OkE Tryd.prog 43 (spec_BakeryOk_x k) := by
 intro A R Q x h
 unfold spec_BakeryOk_x at h
 split at h
 · obtain ⟨y, hy, hK⟩ := Option.bind_eq_some_iff.1 h
   obtain ⟨r, hr, hd⟩ := callF_ok envOk (spec_BakeryOk_Ok k) follows Tryd.func43 (by kernel_rfl) ((spec_BakeryOk_e k _).trans hy)
   exact ⟨_, spec_BakeryOk_i hd ▸ hr.fin [], hK⟩
 · cases h
/-! ### spec.l39Line: function 44 -/
noncomputable def spec_l39Line_s0 (k : Nat)  (list : (List Int)) (J : ByteArray → Int → Option (ByteArray)) (x0_0 : ByteArray) (x0_1 : Int) : Option (ByteArray) :=
 cond (decide ((x0_1 : Int) < ((list).length : Int)))
 (if (x0_0).size + ((ByteArray.mk #[32])).size ≤ 9223372036854775807 then
  if 0 ≤ (x0_1 : Int) ∧ (x0_1 : Int) < ((list).length : Int) then
   (spec_FormatInt k (list.getD (Int.toNat x0_1) 0)).bind fun y2 =>
    if ((x0_0 ++ (ByteArray.mk #[32]))).size + (y2).size ≤ 9223372036854775807 then
     J ((x0_0 ++ (ByteArray.mk #[32])) ++ y2) (wr (x0_1 + 1)) else none else none else none)
 (some x0_0)
noncomputable def spec_l39Line_l0 (k : Nat) : Nat → (List Int) → ByteArray → Int → Option (ByteArray)
 | 0, list, x0_0, x0_1 => spec_l39Line_s0 k list (fun _ _ => none) x0_0 x0_1
 | m + 1, list, x0_0, x0_1 => spec_l39Line_s0 k list (spec_l39Line_l0 k m list) x0_0 x0_1
noncomputable def spec_l39Line_m (k : Nat) (J0 : (List Int) → ByteArray → Int → Option (ByteArray)) (word : ByteArray) (list : (List Int)) : Option (ByteArray) :=
 J0 list word 0
noncomputable def spec_l39Line (k : Nat) (word : ByteArray) (list : (List Int)) : Option (ByteArray) := spec_l39Line_m k (spec_l39Line_l0 k k) word list
noncomputable def spec_l39Line_v : Nat → List Nat := fun t => match t with | 2 => [0, 1, 4, 5] | _ => []
noncomputable def spec_l39Line_O (k : Nat) : Oracle := ofL [(28, spec_FormatInt_x k)]
theorem spec_l39Line_Ok (k : Nat) : OkO (Ct Tryd.prog) (spec_l39Line_O k) := okO_cons (spec_FormatInt_ok k) (okO_nil)
noncomputable def spec_l39Line_A (word : ByteArray) (list : (List Int)) : Pk := ⟨[(.sc (.v (.string word))), (.sc (.sl 0))], [(.row false K.ki64 list)]⟩
noncomputable def spec_l39Line_d : Rs → Option (ByteArray)
 | ⟨(.a (.sc (.v (.string r1)))), [.dead]⟩ => some r1
 | _ => none
theorem spec_l39Line_i {r : Rs} {y : ByteArray} (h : spec_l39Line_d r = some y) : r = ⟨(.a (.sc (.v (.string y)))), [.dead]⟩ := by
 unfold spec_l39Line_d at h; split at h
 · cases h; rfl
 · cases h
noncomputable def spec_l39Line_h0 (k m : Nat) (list : (List Int)) (x0_0 : ByteArray) (x0_1 : Int) : Option (ByteArray) := hdAt env (spec_l39Line_O k) spec_l39Line_v Tryd.f44 1 (fun r => spec_l39Line_d (r.fin 1 [])) [1, 0, 1, 0] k m ⟨tmF [0, 1, 4, 5] [(.a (.sc (.v (.string x0_0)))), (.a (.sc (.sl 0))), (.a (.sc (.v (.string (ByteArray.mk #[]))))), (.a (.sc (.v (.int .i64 x0_1))))], blF [(.row false K.ki64 list)]⟩
theorem spec_l39Line_z0 (k : Nat) (list : (List Int)) (x0_0 : ByteArray) (x0_1 : Int) : spec_l39Line_h0 k 0 list x0_0 x0_1 = spec_l39Line_s0 k list (fun _ _ => none) x0_0 x0_1 := by kernel_rfl
theorem spec_l39Line_g0 (k : Nat) (H : St → Option (ByteArray)) (list : (List Int)) (x0_0 : ByteArray) (x0_1 : Int) : rnd env (spec_l39Line_O k) spec_l39Line_v Tryd.f44 1 (fun r => spec_l39Line_d (r.fin 1 [])) [1, 0, 1, 0] k H ⟨tmF [0, 1, 4, 5] [(.a (.sc (.v (.string x0_0)))), (.a (.sc (.sl 0))), (.a (.sc (.v (.string (ByteArray.mk #[]))))), (.a (.sc (.v (.int .i64 x0_1))))], blF [(.row false K.ki64 list)]⟩ = spec_l39Line_s0 k list (fun x0_0 x0_1 => H ⟨tmF [0, 1, 4, 5] [(.a (.sc (.v (.string x0_0)))), (.a (.sc (.sl 0))), (.a (.sc (.v (.string (ByteArray.mk #[]))))), (.a (.sc (.v (.int .i64 x0_1))))], blF [(.row false K.ki64 list)]⟩) x0_0 x0_1 := by kernel_rfl
theorem spec_l39Line_n0 (k m : Nat) (list : (List Int)) (x0_0 : ByteArray) (x0_1 : Int) : spec_l39Line_h0 k (m + 1) list x0_0 x0_1 = spec_l39Line_s0 k list (spec_l39Line_h0 k m list) x0_0 x0_1 := (hdAt_succ _ _ _ _ _ _ _ _ _ _).trans (spec_l39Line_g0 k _ list x0_0 x0_1)
theorem spec_l39Line_q0 (k : Nat) : ∀ m, spec_l39Line_h0 k m = spec_l39Line_l0 k m := by
 intro m
 induction m with
 | zero => funext list x0_0 x0_1; rw [spec_l39Line_z0]; rfl
 | succ m ih => funext list x0_0 x0_1; rw [spec_l39Line_n0, ih]; rfl
theorem spec_l39Line_e (k : Nat) (word : ByteArray) (list : (List Int)) : callF env (spec_l39Line_O k) spec_l39Line_v Tryd.f44 (k + 1) (spec_l39Line_A word list) (fun r => spec_l39Line_d (r.fin 1 [])) = spec_l39Line k word list := by
 have e : callF env (spec_l39Line_O k) spec_l39Line_v Tryd.f44 (k + 1) (spec_l39Line_A word list) (fun r => spec_l39Line_d (r.fin 1 [])) = spec_l39Line_m k (spec_l39Line_h0 k k) word list := by kernel_rfl
 rw [e, spec_l39Line_q0]; rfl
noncomputable def spec_l39Line_x (k : Nat) : Ent1 := fun A R Q => match A with
 | ⟨[(.sc (.v (.string a1))), (.sc (.sl 0))], [(.row false K.ki64 a2)]⟩ => (spec_l39Line k a1 a2).bind fun y => Q ⟨(.a (.sc (.v (.string y)))), [.dead]⟩
 | _ => none
theorem spec_l39Line_ok (k : Nat) : OkE Tryd.prog 44 (spec_l39Line_x k) := by
 intro A R Q x h
 unfold spec_l39Line_x at h
 split at h
 · obtain ⟨y, hy, hK⟩ := Option.bind_eq_some_iff.1 h
   obtain ⟨r, hr, hd⟩ := callF_ok envOk (spec_l39Line_Ok k) follows Tryd.func44 (by kernel_rfl) ((spec_l39Line_e k _ _).trans hy)
   exact ⟨_, spec_l39Line_i hd ▸ hr.fin [], hK⟩
 · cases h
/-! ### spec.FormatBakery: function 20 -/
noncomputable def spec_FormatBakery (k : Nat)  (b : Bakery) : Option ((List ByteArray)) :=
 (spec_BakeryOk k b).bind fun y1 =>
 cond (!y1)
  (some ([]))
  ((spec_l39Line k (ByteArray.mk #[115, 116, 111, 99, 107]) b.Stock.Grams).bind fun y2 =>
   (spec_l39Line k (ByteArray.mk #[114, 97, 99, 107]) ([b.Book.Rack.Fresh, b.Book.Rack.Day, b.Book.Rack.Old])).bind fun y3 =>
    (spec_l39Line k (ByteArray.mk #[98, 111, 111, 107]) ([b.Book.Baked, b.Book.Sold, b.Book.Thrown])).bind fun y4 =>
     (spec_l39Line k (ByteArray.mk #[109, 111, 110, 101, 121]) ([b.Money])).bind fun y5 =>
      some ([y2, y3, y4, y5]))
noncomputable def spec_FormatBakery_v : Nat → List Nat := fun t => match t with | _ => []
noncomputable def spec_FormatBakery_O (k : Nat) : Oracle := ofL [(43, spec_BakeryOk_x k), (44, spec_l39Line_x k)]
theorem spec_FormatBakery_Ok (k : Nat) : OkO (Ct Tryd.prog) (spec_FormatBakery_O k) := okO_cons (spec_BakeryOk_ok k) (okO_cons (spec_l39Line_ok k) (okO_nil))
noncomputable def spec_FormatBakery_A (b : Bakery) : Pk := ⟨[(.ag [(.sl 0), (.v (.int .i64 b.Dough.Water)), (.v (.int .i64 b.Dough.Salt)), (.v (.int .i64 b.Dough.Leaven)), (.v (.int .i64 b.Loaf.Weight)), (.v (.int .i64 b.Loaf.Loss)), (.sl 1), (.v (.int .i64 b.Book.Rack.Fresh)), (.v (.int .i64 b.Book.Rack.Day)), (.v (.int .i64 b.Book.Rack.Old)), (.v (.int .i64 b.Book.Baked)), (.v (.int .i64 b.Book.Sold)), (.v (.int .i64 b.Book.Thrown)), (.v (.int .i64 b.Money))])], [(.row false K.ki64 b.Stock.Grams), (.row false K.k_impl_Event b.Book.Events)]⟩
noncomputable def spec_FormatBakery_d : Rs → Option ((List ByteArray))
 | ⟨(.a (.sc (.sl 2))), [.dead, .dead, (.row true K.kstr r1)]⟩ => some r1
 | _ => none
theorem spec_FormatBakery_i {r : Rs} {y : (List ByteArray)} (h : spec_FormatBakery_d r = some y) : r = ⟨(.a (.sc (.sl 2))), [.dead, .dead, (.row true K.kstr y)]⟩ := by
 unfold spec_FormatBakery_d at h; split at h
 · cases h; rfl
 · cases h
theorem spec_FormatBakery_e (k : Nat) (b : Bakery) : callF env (spec_FormatBakery_O k) spec_FormatBakery_v Tryd.f20 (k + 1) (spec_FormatBakery_A b) (fun r => spec_FormatBakery_d (r.fin 2 [])) = spec_FormatBakery k b := by kernel_rfl
noncomputable def spec_FormatBakery_x (k : Nat) : Ent1 := fun A R Q => match A with
 | ⟨[(.ag [(.sl 0), (.v (.int .i64 a2)), (.v (.int .i64 a3)), (.v (.int .i64 a4)), (.v (.int .i64 a5)), (.v (.int .i64 a6)), (.sl 1), (.v (.int .i64 a8)), (.v (.int .i64 a9)), (.v (.int .i64 a10)), (.v (.int .i64 a11)), (.v (.int .i64 a12)), (.v (.int .i64 a13)), (.v (.int .i64 a14))])], [(.row false K.ki64 a1), (.row false K.k_impl_Event a7)]⟩ => (spec_FormatBakery k (⟨(⟨a1⟩ : Stock), (⟨a2, a3, a4⟩ : Dough), (⟨a5, a6⟩ : Loaf), (⟨a7, (⟨a8, a9, a10⟩ : Rack), a11, a12, a13⟩ : Book), a14⟩ : Bakery)).bind fun y => Q ⟨(.a (.sc (.sl 2))), [.dead, .dead, (.row true K.kstr y)]⟩
 | _ => none
theorem spec_FormatBakery_ok (k : Nat) : OkE Tryd.prog 20 (spec_FormatBakery_x k) := by
 intro A R Q x h
 unfold spec_FormatBakery_x at h
 split at h
 · obtain ⟨y, hy, hK⟩ := Option.bind_eq_some_iff.1 h
   obtain ⟨r, hr, hd⟩ := callF_ok envOk (spec_FormatBakery_Ok k) follows Tryd.func20 (by kernel_rfl) ((spec_FormatBakery_e k _).trans hy)
   exact ⟨_, spec_FormatBakery_i hd ▸ hr.fin [], hK⟩
 · cases h
/-! ### impl.allIn$1: function 103 -/
noncomputable def impl_allIn_1 (k : Nat)  (n : Int) (p1 : Int) (p2 : Int) : Option (Bool) :=
 (impl_in k n p1 p2).bind fun y1 =>
 some (!y1)
noncomputable def impl_allIn_1_v : Nat → List Nat := fun t => match t with | _ => []
noncomputable def impl_allIn_1_O (k : Nat) : Oracle := ofL [(58, impl_in_x k)]
theorem impl_allIn_1_Ok (k : Nat) : OkO (Ct Tryd.prog) (impl_allIn_1_O k) := okO_cons (impl_in_ok k) (okO_nil)
noncomputable def impl_allIn_1_A (n : Int) (p1 : Int) (p2 : Int) : Pk := ⟨[(.sc (.v (.int .i64 n))), (.sc (.bp 0 0)), (.sc (.bp 1 0))], [(.box false [(.v (.int .i64 p1))]), (.box false [(.v (.int .i64 p2))])]⟩
noncomputable def impl_allIn_1_d : Rs → Option (Bool)
 | ⟨(.a (.sc (.v (.bool r1)))), [.dead, .dead]⟩ => some r1
 | _ => none
theorem impl_allIn_1_i {r : Rs} {y : Bool} (h : impl_allIn_1_d r = some y) : r = ⟨(.a (.sc (.v (.bool y)))), [.dead, .dead]⟩ := by
 unfold impl_allIn_1_d at h; split at h
 · cases h; rfl
 · cases h
theorem impl_allIn_1_e (k : Nat) (n : Int) (p1 : Int) (p2 : Int) : callF env (impl_allIn_1_O k) impl_allIn_1_v Tryd.f103 (k + 1) (impl_allIn_1_A n p1 p2) (fun r => impl_allIn_1_d (r.fin 2 [])) = impl_allIn_1 k n p1 p2 := by kernel_rfl
noncomputable def impl_allIn_1_x (k : Nat) : Ent1 := fun A R Q => match A with
 | ⟨[(.sc (.v (.int .i64 a1))), (.sc (.bp 0 0)), (.sc (.bp 1 0))], [(.box false [(.v (.int .i64 a2))]), (.box false [(.v (.int .i64 a3))])]⟩ => (impl_allIn_1 k a1 a2 a3).bind fun y => Q ⟨(.a (.sc (.v (.bool y)))), [.dead, .dead]⟩
 | _ => none
theorem impl_allIn_1_ok (k : Nat) : OkE Tryd.prog 103 (impl_allIn_1_x k) := by
 intro A R Q x h
 unfold impl_allIn_1_x at h
 split at h
 · obtain ⟨y, hy, hK⟩ := Option.bind_eq_some_iff.1 h
   obtain ⟨r, hr, hd⟩ := callF_ok envOk (impl_allIn_1_Ok k) follows Tryd.func103 (by kernel_rfl) ((impl_allIn_1_e k _ _ _).trans hy)
   exact ⟨_, impl_allIn_1_i hd ▸ hr.fin [], hK⟩
 · cases h
/-! ### slices.IndexFunc[[]int,int]: function 112 -/
noncomputable def slices_IndexFunc_int_int_103_s0 (k : Nat)  (s : (List Int)) (f_0 : Int) (f_1 : Int) (J : Int → Option (Int)) (x0_0 : Int) : Option (Int) :=
 cond (decide ((x0_0 : Int) < ((s).length : Int)))
 (if 0 ≤ (x0_0 : Int) ∧ (x0_0 : Int) < ((s).length : Int) then
  (impl_allIn_1 k (s.getD (Int.toNat x0_0) 0) f_0 f_1).bind fun y2 =>
   cond y2
    (some x0_0)
    (J (wr (x0_0 + 1))) else none)
 (some (-1))
noncomputable def slices_IndexFunc_int_int_103_l0 (k : Nat) : Nat → (List Int) → Int → Int → Int → Option (Int)
 | 0, s, f_0, f_1, x0_0 => slices_IndexFunc_int_int_103_s0 k s f_0 f_1 (fun _ => none) x0_0
 | m + 1, s, f_0, f_1, x0_0 => slices_IndexFunc_int_int_103_s0 k s f_0 f_1 (slices_IndexFunc_int_int_103_l0 k m s f_0 f_1) x0_0
noncomputable def slices_IndexFunc_int_int_103_m (k : Nat) (J0 : (List Int) → Int → Int → Int → Option (Int)) (s : (List Int)) (f_0 : Int) (f_1 : Int) : Option (Int) :=
 J0 s f_0 f_1 0
noncomputable def slices_IndexFunc_int_int_103 (k : Nat) (s : (List Int)) (f_0 : Int) (f_1 : Int) : Option (Int) := slices_IndexFunc_int_int_103_m k (slices_IndexFunc_int_int_103_l0 k k) s f_0 f_1
noncomputable def slices_IndexFunc_int_int_103_v : Nat → List Nat := fun t => match t with | 2 => [0, 1, 4, 7, 8] | _ => []
noncomputable def slices_IndexFunc_int_int_103_O (k : Nat) : Oracle := ofL [(103, impl_allIn_1_x k)]
theorem slices_IndexFunc_int_int_103_Ok (k : Nat) : OkO (Ct Tryd.prog) (slices_IndexFunc_int_int_103_O k) := okO_cons (impl_allIn_1_ok k) (okO_nil)
noncomputable def slices_IndexFunc_int_int_103_A (s : (List Int)) (f_0 : Int) (f_1 : Int) : Pk := ⟨[(.sc (.sl 0)), (.sc (.fn 103 [1, 2]))], [(.row false K.ki64 s), (.box false [(.v (.int .i64 f_0))]), (.box false [(.v (.int .i64 f_1))])]⟩
noncomputable def slices_IndexFunc_int_int_103_d : Rs → Option (Int)
 | ⟨(.a (.sc (.v (.int .i64 r1)))), [.dead, .dead, .dead]⟩ => some r1
 | _ => none
theorem slices_IndexFunc_int_int_103_i {r : Rs} {y : Int} (h : slices_IndexFunc_int_int_103_d r = some y) : r = ⟨(.a (.sc (.v (.int .i64 y)))), [.dead, .dead, .dead]⟩ := by
 unfold slices_IndexFunc_int_int_103_d at h; split at h
 · cases h; rfl
 · cases h
noncomputable def slices_IndexFunc_int_int_103_h0 (k m : Nat) (s : (List Int)) (f_0 : Int) (f_1 : Int) (x0_0 : Int) : Option (Int) := hdAt env (slices_IndexFunc_int_int_103_O k) slices_IndexFunc_int_int_103_v Tryd.f112 3 (fun r => slices_IndexFunc_int_int_103_d (r.fin 3 [])) [1, 0, 1, 0] k m ⟨tmF [0, 1, 4, 7, 8] [(.a (.sc (.sl 0))), (.a (.sc (.fn 103 [1, 2]))), (.a (.sc (.v (.int .i64 0)))), (.a (.sc (.v (.int .i64 ((s).length : Int))))), (.a (.sc (.v (.int .i64 x0_0))))], blF [(.row false K.ki64 s), (.box false [(.v (.int .i64 f_0))]), (.box false [(.v (.int .i64 f_1))])]⟩
theorem slices_IndexFunc_int_int_103_z0 (k : Nat) (s : (List Int)) (f_0 : Int) (f_1 : Int) (x0_0 : Int) : slices_IndexFunc_int_int_103_h0 k 0 s f_0 f_1 x0_0 = slices_IndexFunc_int_int_103_s0 k s f_0 f_1 (fun _ => none) x0_0 := by kernel_rfl
theorem slices_IndexFunc_int_int_103_g0 (k : Nat) (H : St → Option (Int)) (s : (List Int)) (f_0 : Int) (f_1 : Int) (x0_0 : Int) : rnd env (slices_IndexFunc_int_int_103_O k) slices_IndexFunc_int_int_103_v Tryd.f112 3 (fun r => slices_IndexFunc_int_int_103_d (r.fin 3 [])) [1, 0, 1, 0] k H ⟨tmF [0, 1, 4, 7, 8] [(.a (.sc (.sl 0))), (.a (.sc (.fn 103 [1, 2]))), (.a (.sc (.v (.int .i64 0)))), (.a (.sc (.v (.int .i64 ((s).length : Int))))), (.a (.sc (.v (.int .i64 x0_0))))], blF [(.row false K.ki64 s), (.box false [(.v (.int .i64 f_0))]), (.box false [(.v (.int .i64 f_1))])]⟩ = slices_IndexFunc_int_int_103_s0 k s f_0 f_1 (fun x0_0 => H ⟨tmF [0, 1, 4, 7, 8] [(.a (.sc (.sl 0))), (.a (.sc (.fn 103 [1, 2]))), (.a (.sc (.v (.int .i64 0)))), (.a (.sc (.v (.int .i64 ((s).length : Int))))), (.a (.sc (.v (.int .i64 x0_0))))], blF [(.row false K.ki64 s), (.box false [(.v (.int .i64 f_0))]), (.box false [(.v (.int .i64 f_1))])]⟩) x0_0 := by kernel_rfl
theorem slices_IndexFunc_int_int_103_n0 (k m : Nat) (s : (List Int)) (f_0 : Int) (f_1 : Int) (x0_0 : Int) : slices_IndexFunc_int_int_103_h0 k (m + 1) s f_0 f_1 x0_0 = slices_IndexFunc_int_int_103_s0 k s f_0 f_1 (slices_IndexFunc_int_int_103_h0 k m s f_0 f_1) x0_0 := (hdAt_succ _ _ _ _ _ _ _ _ _ _).trans (slices_IndexFunc_int_int_103_g0 k _ s f_0 f_1 x0_0)
theorem slices_IndexFunc_int_int_103_q0 (k : Nat) : ∀ m, slices_IndexFunc_int_int_103_h0 k m = slices_IndexFunc_int_int_103_l0 k m := by
 intro m
 induction m with
 | zero => funext s f_0 f_1 x0_0; rw [slices_IndexFunc_int_int_103_z0]; rfl
 | succ m ih => funext s f_0 f_1 x0_0; rw [slices_IndexFunc_int_int_103_n0, ih]; rfl
theorem slices_IndexFunc_int_int_103_e (k : Nat) (s : (List Int)) (f_0 : Int) (f_1 : Int) : callF env (slices_IndexFunc_int_int_103_O k) slices_IndexFunc_int_int_103_v Tryd.f112 (k + 1) (slices_IndexFunc_int_int_103_A s f_0 f_1) (fun r => slices_IndexFunc_int_int_103_d (r.fin 3 [])) = slices_IndexFunc_int_int_103 k s f_0 f_1 := by
 have e : callF env (slices_IndexFunc_int_int_103_O k) slices_IndexFunc_int_int_103_v Tryd.f112 (k + 1) (slices_IndexFunc_int_int_103_A s f_0 f_1) (fun r => slices_IndexFunc_int_int_103_d (r.fin 3 [])) = slices_IndexFunc_int_int_103_m k (slices_IndexFunc_int_int_103_h0 k k) s f_0 f_1 := by kernel_rfl
 rw [e, slices_IndexFunc_int_int_103_q0]; rfl
noncomputable def slices_IndexFunc_int_int_103_x (k : Nat) : Ent1 := fun A R Q => match A with
 | ⟨[(.sc (.sl 0)), (.sc (.fn 103 [1, 2]))], [(.row false K.ki64 a1), (.box false [(.v (.int .i64 a2))]), (.box false [(.v (.int .i64 a3))])]⟩ => (slices_IndexFunc_int_int_103 k a1 a2 a3).bind fun y => Q ⟨(.a (.sc (.v (.int .i64 y)))), [.dead, .dead, .dead]⟩
 | _ => none
theorem slices_IndexFunc_int_int_103_ok (k : Nat) : OkE Tryd.prog 112 (slices_IndexFunc_int_int_103_x k) := by
 intro A R Q x h
 unfold slices_IndexFunc_int_int_103_x at h
 split at h
 · obtain ⟨y, hy, hK⟩ := Option.bind_eq_some_iff.1 h
   obtain ⟨r, hr, hd⟩ := callF_ok envOk (slices_IndexFunc_int_int_103_Ok k) follows Tryd.func112 (by kernel_rfl) ((slices_IndexFunc_int_int_103_e k _ _ _).trans hy)
   exact ⟨_, slices_IndexFunc_int_int_103_i hd ▸ hr.fin [], hK⟩
 · cases h
end Go.Proofs.YtfbnbdcjnbgibaaDoorX
