/- What functions of the program compute, as functions of numbers and lists, and that they do. (The file is written by wip/x/vxp.py of this repository.) -/
import Derived.Test.YtonaabffckkdlaaF2
namespace Go.Proofs.YtonaabffckkdlaaX
open Go Go.Proofs
set_option linter.unusedVariables false
set_option maxRecDepth 100000
/-! ### laws.eqEvent: function 97 -/
noncomputable def laws_eqEvent (k : Nat)  (a : Event) (b : Event) : Option (Bool) :=
 cond (!(decide ((a.Kind : Int) = b.Kind)))
 (some false)
 (cond (!(decide ((a.Loaves : Int) = b.Loaves)))
  (some false)
  (some true))
noncomputable def laws_eqEvent_v : Nat → List Nat := fun t => match t with | _ => []
noncomputable def laws_eqEvent_O (k : Nat) : Oracle := ofL []
theorem laws_eqEvent_Ok (k : Nat) : OkO (Ct Try.prog) (laws_eqEvent_O k) := okO_nil
noncomputable def laws_eqEvent_A (a : Event) (b : Event) : Pk := ⟨[(.ag [(.v (.int .i64 a.Kind)), (.v (.int .i64 a.Loaves))]), (.ag [(.v (.int .i64 b.Kind)), (.v (.int .i64 b.Loaves))])], []⟩
noncomputable def laws_eqEvent_d : Rs → Option (Bool)
 | ⟨(.a (.sc (.v (.bool r1)))), []⟩ => some r1
 | _ => none
theorem laws_eqEvent_i {r : Rs} {y : Bool} (h : laws_eqEvent_d r = some y) : r = ⟨(.a (.sc (.v (.bool y)))), []⟩ := by
 unfold laws_eqEvent_d at h; split at h
 · cases h; rfl
 · cases h
theorem laws_eqEvent_e (k : Nat) (a : Event) (b : Event) : callF env (laws_eqEvent_O k) laws_eqEvent_v Try.f97 (k + 1) (laws_eqEvent_A a b) (fun r => laws_eqEvent_d (r.fin 0 [])) = laws_eqEvent k a b := by kernel_rfl
noncomputable def laws_eqEvent_x (k : Nat) : Ent1 := fun A R Q => match A with
 | ⟨[(.ag [(.v (.int .i64 a1)), (.v (.int .i64 a2))]), (.ag [(.v (.int .i64 a3)), (.v (.int .i64 a4))])], []⟩ => (laws_eqEvent k (⟨a1, a2⟩ : Event) (⟨a3, a4⟩ : Event)).bind fun y => Q ⟨(.a (.sc (.v (.bool y)))), []⟩
 | _ => none
theorem laws_eqEvent_ok (k : Nat) : OkE Try.prog 97 (laws_eqEvent_x k) := by
 intro A R Q x h
 unfold laws_eqEvent_x at h
 split at h
 · obtain ⟨y, hy, hK⟩ := Option.bind_eq_some_iff.1 h
   obtain ⟨r, hr, hd⟩ := callF_ok envOk (laws_eqEvent_Ok k) follows Try.func97 (by kernel_rfl) ((laws_eqEvent_e k _ _).trans hy)
   exact ⟨_, laws_eqEvent_i hd ▸ hr.fin [], hK⟩
 · cases h
/-! ### laws.eqEventS: function 58 -/
noncomputable def laws_eqEventS_s0 (k : Nat)  (a : (List Event)) (b : (List Event)) (J : Int → Option (Bool)) (x0_0 : Int) : Option (Bool) :=
 cond (decide ((x0_0 : Int) < ((a).length : Int)))
 (if 0 ≤ (x0_0 : Int) ∧ (x0_0 : Int) < ((a).length : Int) then
  if 0 ≤ (x0_0 : Int) ∧ (x0_0 : Int) < ((b).length : Int) then
   (laws_eqEvent k (a.getD (Int.toNat x0_0) dk_impl_Event) (b.getD (Int.toNat x0_0) dk_impl_Event)).bind fun y2 =>
    cond (!y2)
     (some false)
     (J (wr (x0_0 + 1))) else none else none)
 (some true)
noncomputable def laws_eqEventS_l0 (k : Nat) : Nat → (List Event) → (List Event) → Int → Option (Bool)
 | 0, a, b, x0_0 => laws_eqEventS_s0 k a b (fun _ => none) x0_0
 | m + 1, a, b, x0_0 => laws_eqEventS_s0 k a b (laws_eqEventS_l0 k m a b) x0_0
noncomputable def laws_eqEventS_m (k : Nat) (J0 : (List Event) → (List Event) → Int → Option (Bool)) (a : (List Event)) (b : (List Event)) : Option (Bool) :=
 cond (!(decide ((((a).length : Int) : Int) = ((b).length : Int))))
 (some false)
 (J0 a b 0)
noncomputable def laws_eqEventS (k : Nat) (a : (List Event)) (b : (List Event)) : Option (Bool) := laws_eqEventS_m k (laws_eqEventS_l0 k k) a b
noncomputable def laws_eqEventS_v : Nat → List Nat := fun t => match t with | 4 => [0, 1, 4, 5] | _ => []
noncomputable def laws_eqEventS_O (k : Nat) : Oracle := ofL [(97, laws_eqEvent_x k)]
theorem laws_eqEventS_Ok (k : Nat) : OkO (Ct Try.prog) (laws_eqEventS_O k) := okO_cons (laws_eqEvent_ok k) (okO_nil)
noncomputable def laws_eqEventS_A (a : (List Event)) (b : (List Event)) : Pk := ⟨[(.sc (.sl 0)), (.sc (.sl 1))], [(.row false K.k_impl_Event a), (.row false K.k_impl_Event b)]⟩
noncomputable def laws_eqEventS_d : Rs → Option (Bool)
 | ⟨(.a (.sc (.v (.bool r1)))), [.dead, .dead]⟩ => some r1
 | _ => none
theorem laws_eqEventS_i {r : Rs} {y : Bool} (h : laws_eqEventS_d r = some y) : r = ⟨(.a (.sc (.v (.bool y)))), [.dead, .dead]⟩ := by
 unfold laws_eqEventS_d at h; split at h
 · cases h; rfl
 · cases h
noncomputable def laws_eqEventS_h0 (k m : Nat) (a : (List Event)) (b : (List Event)) (x0_0 : Int) : Option (Bool) := hdAt env (laws_eqEventS_O k) laws_eqEventS_v Try.f58 2 (fun r => laws_eqEventS_d (r.fin 2 [])) [1, 1, 0, 1, 0] k m ⟨tmF [0, 1, 4, 5] [(.a (.sc (.sl 0))), (.a (.sc (.sl 1))), (.a (.sc (.v (.bool false)))), (.a (.sc (.v (.int .i64 x0_0))))], blF [(.row false K.k_impl_Event a), (.row false K.k_impl_Event b)]⟩
theorem laws_eqEventS_z0 (k : Nat) (a : (List Event)) (b : (List Event)) (x0_0 : Int) : laws_eqEventS_h0 k 0 a b x0_0 = laws_eqEventS_s0 k a b (fun _ => none) x0_0 := by kernel_rfl
theorem laws_eqEventS_g0 (k : Nat) (H : St → Option (Bool)) (a : (List Event)) (b : (List Event)) (x0_0 : Int) : rnd env (laws_eqEventS_O k) laws_eqEventS_v Try.f58 2 (fun r => laws_eqEventS_d (r.fin 2 [])) [1, 1, 0, 1, 0] k H ⟨tmF [0, 1, 4, 5] [(.a (.sc (.sl 0))), (.a (.sc (.sl 1))), (.a (.sc (.v (.bool false)))), (.a (.sc (.v (.int .i64 x0_0))))], blF [(.row false K.k_impl_Event a), (.row false K.k_impl_Event b)]⟩ = laws_eqEventS_s0 k a b (fun x0_0 => H ⟨tmF [0, 1, 4, 5] [(.a (.sc (.sl 0))), (.a (.sc (.sl 1))), (.a (.sc (.v (.bool false)))), (.a (.sc (.v (.int .i64 x0_0))))], blF [(.row false K.k_impl_Event a), (.row false K.k_impl_Event b)]⟩) x0_0 := by kernel_rfl
theorem laws_eqEventS_n0 (k m : Nat) (a : (List Event)) (b : (List Event)) (x0_0 : Int) : laws_eqEventS_h0 k (m + 1) a b x0_0 = laws_eqEventS_s0 k a b (laws_eqEventS_h0 k m a b) x0_0 := (hdAt_succ _ _ _ _ _ _ _ _ _ _).trans (laws_eqEventS_g0 k _ a b x0_0)
theorem laws_eqEventS_q0 (k : Nat) : ∀ m, laws_eqEventS_h0 k m = laws_eqEventS_l0 k m := by
 intro m
 induction m with
 | zero => funext a b x0_0; rw [laws_eqEventS_z0]; rfl
 | succ m ih => funext a b x0_0; rw [laws_eqEventS_n0, ih]; rfl
theorem laws_eqEventS_e (k : Nat) (a : (List Event)) (b : (List Event)) : callF env (laws_eqEventS_O k) laws_eqEventS_v Try.f58 (k + 1) (laws_eqEventS_A a b) (fun r => laws_eqEventS_d (r.fin 2 [])) = laws_eqEventS k a b := by
 have e : callF env (laws_eqEventS_O k) laws_eqEventS_v Try.f58 (k + 1) (laws_eqEventS_A a b) (fun r => laws_eqEventS_d (r.fin 2 [])) = laws_eqEventS_m k (laws_eqEventS_h0 k k) a b := by kernel_rfl
 rw [e, laws_eqEventS_q0]; rfl
noncomputable def laws_eqEventS_x (k : Nat) : Ent1 := fun A R Q => match A with
 | ⟨[(.sc (.sl 0)), (.sc (.sl 1))], [(.row false K.k_impl_Event a1), (.row false K.k_impl_Event a2)]⟩ => (laws_eqEventS k a1 a2).bind fun y => Q ⟨(.a (.sc (.v (.bool y)))), [.dead, .dead]⟩
 | _ => none
theorem laws_eqEventS_ok (k : Nat) : OkE Try.prog 58 (laws_eqEventS_x k) := by
 intro A R Q x h
 unfold laws_eqEventS_x at h
 split at h
 · obtain ⟨y, hy, hK⟩ := Option.bind_eq_some_iff.1 h
   obtain ⟨r, hr, hd⟩ := callF_ok envOk (laws_eqEventS_Ok k) follows Try.func58 (by kernel_rfl) ((laws_eqEventS_e k _ _).trans hy)
   exact ⟨_, laws_eqEventS_i hd ▸ hr.fin [], hK⟩
 · cases h
/-! ### laws.eqRack: function 59 -/
noncomputable def laws_eqRack (k : Nat)  (a : Rack) (b : Rack) : Option (Bool) :=
 cond (!(decide ((a.Fresh : Int) = b.Fresh)))
 (some false)
 (cond (!(decide ((a.Day : Int) = b.Day)))
  (some false)
  (cond (!(decide ((a.Old : Int) = b.Old)))
   (some false)
   (some true)))
noncomputable def laws_eqRack_v : Nat → List Nat := fun t => match t with | _ => []
noncomputable def laws_eqRack_O (k : Nat) : Oracle := ofL []
theorem laws_eqRack_Ok (k : Nat) : OkO (Ct Try.prog) (laws_eqRack_O k) := okO_nil
noncomputable def laws_eqRack_A (a : Rack) (b : Rack) : Pk := ⟨[(.ag [(.v (.int .i64 a.Fresh)), (.v (.int .i64 a.Day)), (.v (.int .i64 a.Old))]), (.ag [(.v (.int .i64 b.Fresh)), (.v (.int .i64 b.Day)), (.v (.int .i64 b.Old))])], []⟩
noncomputable def laws_eqRack_d : Rs → Option (Bool)
 | ⟨(.a (.sc (.v (.bool r1)))), []⟩ => some r1
 | _ => none
theorem laws_eqRack_i {r : Rs} {y : Bool} (h : laws_eqRack_d r = some y) : r = ⟨(.a (.sc (.v (.bool y)))), []⟩ := by
 unfold laws_eqRack_d at h; split at h
 · cases h; rfl
 · cases h
theorem laws_eqRack_e (k : Nat) (a : Rack) (b : Rack) : callF env (laws_eqRack_O k) laws_eqRack_v Try.f59 (k + 1) (laws_eqRack_A a b) (fun r => laws_eqRack_d (r.fin 0 [])) = laws_eqRack k a b := by kernel_rfl
noncomputable def laws_eqRack_x (k : Nat) : Ent1 := fun A R Q => match A with
 | ⟨[(.ag [(.v (.int .i64 a1)), (.v (.int .i64 a2)), (.v (.int .i64 a3))]), (.ag [(.v (.int .i64 a4)), (.v (.int .i64 a5)), (.v (.int .i64 a6))])], []⟩ => (laws_eqRack k (⟨a1, a2, a3⟩ : Rack) (⟨a4, a5, a6⟩ : Rack)).bind fun y => Q ⟨(.a (.sc (.v (.bool y)))), []⟩
 | _ => none
theorem laws_eqRack_ok (k : Nat) : OkE Try.prog 59 (laws_eqRack_x k) := by
 intro A R Q x h
 unfold laws_eqRack_x at h
 split at h
 · obtain ⟨y, hy, hK⟩ := Option.bind_eq_some_iff.1 h
   obtain ⟨r, hr, hd⟩ := callF_ok envOk (laws_eqRack_Ok k) follows Try.func59 (by kernel_rfl) ((laws_eqRack_e k _ _).trans hy)
   exact ⟨_, laws_eqRack_i hd ▸ hr.fin [], hK⟩
 · cases h
/-! ### laws.eqBook: function 17 -/
noncomputable def laws_eqBook (k : Nat)  (a : Book) (b : Book) : Option (Bool) :=
 (laws_eqEventS k a.Events b.Events).bind fun y1 =>
 cond (!y1)
  (some false)
  ((laws_eqRack k a.Rack b.Rack).bind fun y2 =>
   cond (!y2)
    (some false)
    (cond (!(decide ((a.Baked : Int) = b.Baked)))
     (some false)
     (cond (!(decide ((a.Sold : Int) = b.Sold)))
      (some false)
      (cond (!(decide ((a.Thrown : Int) = b.Thrown)))
       (some false)
       (some true)))))
noncomputable def laws_eqBook_v : Nat → List Nat := fun t => match t with | _ => []
noncomputable def laws_eqBook_O (k : Nat) : Oracle := ofL [(58, laws_eqEventS_x k), (59, laws_eqRack_x k)]
theorem laws_eqBook_Ok (k : Nat) : OkO (Ct Try.prog) (laws_eqBook_O k) := okO_cons (laws_eqEventS_ok k) (okO_cons (laws_eqRack_ok k) (okO_nil))
noncomputable def laws_eqBook_A (a : Book) (b : Book) : Pk := ⟨[(.ag [(.sl 0), (.v (.int .i64 a.Rack.Fresh)), (.v (.int .i64 a.Rack.Day)), (.v (.int .i64 a.Rack.Old)), (.v (.int .i64 a.Baked)), (.v (.int .i64 a.Sold)), (.v (.int .i64 a.Thrown))]), (.ag [(.sl 1), (.v (.int .i64 b.Rack.Fresh)), (.v (.int .i64 b.Rack.Day)), (.v (.int .i64 b.Rack.Old)), (.v (.int .i64 b.Baked)), (.v (.int .i64 b.Sold)), (.v (.int .i64 b.Thrown))])], [(.row false K.k_impl_Event a.Events), (.row false K.k_impl_Event b.Events)]⟩
noncomputable def laws_eqBook_d : Rs → Option (Bool)
 | ⟨(.a (.sc (.v (.bool r1)))), [.dead, .dead]⟩ => some r1
 | _ => none
theorem laws_eqBook_i {r : Rs} {y : Bool} (h : laws_eqBook_d r = some y) : r = ⟨(.a (.sc (.v (.bool y)))), [.dead, .dead]⟩ := by
 unfold laws_eqBook_d at h; split at h
 · cases h; rfl
 · cases h
theorem laws_eqBook_e (k : Nat) (a : Book) (b : Book) : callF env (laws_eqBook_O k) laws_eqBook_v Try.f17 (k + 1) (laws_eqBook_A a b) (fun r => laws_eqBook_d (r.fin 2 [])) = laws_eqBook k a b := by kernel_rfl
noncomputable def laws_eqBook_x (k : Nat) : Ent1 := fun A R Q => match A with
 | ⟨[(.ag [(.sl 0), (.v (.int .i64 a2)), (.v (.int .i64 a3)), (.v (.int .i64 a4)), (.v (.int .i64 a5)), (.v (.int .i64 a6)), (.v (.int .i64 a7))]), (.ag [(.sl 1), (.v (.int .i64 a9)), (.v (.int .i64 a10)), (.v (.int .i64 a11)), (.v (.int .i64 a12)), (.v (.int .i64 a13)), (.v (.int .i64 a14))])], [(.row false K.k_impl_Event a1), (.row false K.k_impl_Event a8)]⟩ => (laws_eqBook k (⟨a1, (⟨a2, a3, a4⟩ : Rack), a5, a6, a7⟩ : Book) (⟨a8, (⟨a9, a10, a11⟩ : Rack), a12, a13, a14⟩ : Book)).bind fun y => Q ⟨(.a (.sc (.v (.bool y)))), [.dead, .dead]⟩
 | _ => none
theorem laws_eqBook_ok (k : Nat) : OkE Try.prog 17 (laws_eqBook_x k) := by
 intro A R Q x h
 unfold laws_eqBook_x at h
 split at h
 · obtain ⟨y, hy, hK⟩ := Option.bind_eq_some_iff.1 h
   obtain ⟨r, hr, hd⟩ := callF_ok envOk (laws_eqBook_Ok k) follows Try.func17 (by kernel_rfl) ((laws_eqBook_e k _ _).trans hy)
   exact ⟨_, laws_eqBook_i hd ▸ hr.fin [], hK⟩
 · cases h
/-! ### laws.eqBakery: function 27 -/
noncomputable def laws_eqBakery (k : Nat)  (a : Bakery) (b : Bakery) : Option (Bool) :=
 (laws_eqStock k a.Stock b.Stock).bind fun y1 =>
 cond (!y1)
  (some false)
  ((laws_eqDough k a.Dough b.Dough).bind fun y2 =>
   cond (!y2)
    (some false)
    ((laws_eqLoaf k a.Loaf b.Loaf).bind fun y3 =>
     cond (!y3)
      (some false)
      ((laws_eqBook k a.Book b.Book).bind fun y4 =>
       cond (!y4)
        (some false)
        (cond (!(decide ((a.Money : Int) = b.Money)))
        (some false)
        (some true)))))
noncomputable def laws_eqBakery_v : Nat → List Nat := fun t => match t with | _ => []
noncomputable def laws_eqBakery_O (k : Nat) : Oracle := ofL [(17, laws_eqBook_x k), (72, laws_eqStock_x k), (73, laws_eqDough_x k), (74, laws_eqLoaf_x k)]
theorem laws_eqBakery_Ok (k : Nat) : OkO (Ct Try.prog) (laws_eqBakery_O k) := okO_cons (laws_eqBook_ok k) (okO_cons (laws_eqStock_ok k) (okO_cons (laws_eqDough_ok k) (okO_cons (laws_eqLoaf_ok k) (okO_nil))))
noncomputable def laws_eqBakery_A (a : Bakery) (b : Bakery) : Pk := ⟨[(.ag [(.sl 0), (.v (.int .i64 a.Dough.Water)), (.v (.int .i64 a.Dough.Salt)), (.v (.int .i64 a.Dough.Leaven)), (.v (.int .i64 a.Loaf.Weight)), (.v (.int .i64 a.Loaf.Loss)), (.sl 1), (.v (.int .i64 a.Book.Rack.Fresh)), (.v (.int .i64 a.Book.Rack.Day)), (.v (.int .i64 a.Book.Rack.Old)), (.v (.int .i64 a.Book.Baked)), (.v (.int .i64 a.Book.Sold)), (.v (.int .i64 a.Book.Thrown)), (.v (.int .i64 a.Money))]), (.ag [(.sl 2), (.v (.int .i64 b.Dough.Water)), (.v (.int .i64 b.Dough.Salt)), (.v (.int .i64 b.Dough.Leaven)), (.v (.int .i64 b.Loaf.Weight)), (.v (.int .i64 b.Loaf.Loss)), (.sl 3), (.v (.int .i64 b.Book.Rack.Fresh)), (.v (.int .i64 b.Book.Rack.Day)), (.v (.int .i64 b.Book.Rack.Old)), (.v (.int .i64 b.Book.Baked)), (.v (.int .i64 b.Book.Sold)), (.v (.int .i64 b.Book.Thrown)), (.v (.int .i64 b.Money))])], [(.row false K.ki64 a.Stock.Grams), (.row false K.k_impl_Event a.Book.Events), (.row false K.ki64 b.Stock.Grams), (.row false K.k_impl_Event b.Book.Events)]⟩
noncomputable def laws_eqBakery_d : Rs → Option (Bool)
 | ⟨(.a (.sc (.v (.bool r1)))), [.dead, .dead, .dead, .dead]⟩ => some r1
 | _ => none
theorem laws_eqBakery_i {r : Rs} {y : Bool} (h : laws_eqBakery_d r = some y) : r = ⟨(.a (.sc (.v (.bool y)))), [.dead, .dead, .dead, .dead]⟩ := by
 unfold laws_eqBakery_d at h; split at h
 · cases h; rfl
 · cases h
theorem laws_eqBakery_e (k : Nat) (a : Bakery) (b : Bakery) : callF env (laws_eqBakery_O k) laws_eqBakery_v Try.f27 (k + 1) (laws_eqBakery_A a b) (fun r => laws_eqBakery_d (r.fin 4 [])) = laws_eqBakery k a b := by kernel_rfl
noncomputable def laws_eqBakery_x (k : Nat) : Ent1 := fun A R Q => match A with
 | ⟨[(.ag [(.sl 0), (.v (.int .i64 a2)), (.v (.int .i64 a3)), (.v (.int .i64 a4)), (.v (.int .i64 a5)), (.v (.int .i64 a6)), (.sl 1), (.v (.int .i64 a8)), (.v (.int .i64 a9)), (.v (.int .i64 a10)), (.v (.int .i64 a11)), (.v (.int .i64 a12)), (.v (.int .i64 a13)), (.v (.int .i64 a14))]), (.ag [(.sl 2), (.v (.int .i64 a16)), (.v (.int .i64 a17)), (.v (.int .i64 a18)), (.v (.int .i64 a19)), (.v (.int .i64 a20)), (.sl 3), (.v (.int .i64 a22)), (.v (.int .i64 a23)), (.v (.int .i64 a24)), (.v (.int .i64 a25)), (.v (.int .i64 a26)), (.v (.int .i64 a27)), (.v (.int .i64 a28))])], [(.row false K.ki64 a1), (.row false K.k_impl_Event a7), (.row false K.ki64 a15), (.row false K.k_impl_Event a21)]⟩ => (laws_eqBakery k (⟨(⟨a1⟩ : Stock), (⟨a2, a3, a4⟩ : Dough), (⟨a5, a6⟩ : Loaf), (⟨a7, (⟨a8, a9, a10⟩ : Rack), a11, a12, a13⟩ : Book), a14⟩ : Bakery) (⟨(⟨a15⟩ : Stock), (⟨a16, a17, a18⟩ : Dough), (⟨a19, a20⟩ : Loaf), (⟨a21, (⟨a22, a23, a24⟩ : Rack), a25, a26, a27⟩ : Book), a28⟩ : Bakery)).bind fun y => Q ⟨(.a (.sc (.v (.bool y)))), [.dead, .dead, .dead, .dead]⟩
 | _ => none
theorem laws_eqBakery_ok (k : Nat) : OkE Try.prog 27 (laws_eqBakery_x k) := by
 intro A R Q x h
 unfold laws_eqBakery_x at h
 split at h
 · obtain ⟨y, hy, hK⟩ := Option.bind_eq_some_iff.1 h
   obtain ⟨r, hr, hd⟩ := callF_ok envOk (laws_eqBakery_Ok k) follows Try.func27 (by kernel_rfl) ((laws_eqBakery_e k _ _).trans hy)
   exact ⟨_, laws_eqBakery_i hd ▸ hr.fin [], hK⟩
 · cases h
/-! ### laws.markIntS: function 38 -/
noncomputable def laws_markIntS_s0 (k : Nat)  (J : Int → Int → (List Int) → Option (Int × (List Int))) (x0_0 : Int) (x0_1 : Int) (x0_2 : (List Int)) : Option (Int × (List Int)) :=
 cond (decide ((x0_1 : Int) < ((x0_2).length : Int)))
 (if 0 ≤ (x0_1 : Int) ∧ (x0_1 : Int) < ((x0_2).length : Int) then
  J (wr (x0_0 + 1)) (wr (x0_1 + 1)) (x0_2.set (Int.toNat x0_1) x0_0) else none)
 (some (x0_0, x0_2))
noncomputable def laws_markIntS_l0 (k : Nat) : Nat → Int → Int → (List Int) → Option (Int × (List Int))
 | 0, x0_0, x0_1, x0_2 => laws_markIntS_s0 k (fun _ _ _ => none) x0_0 x0_1 x0_2
 | m + 1, x0_0, x0_1, x0_2 => laws_markIntS_s0 k (laws_markIntS_l0 k m) x0_0 x0_1 x0_2
noncomputable def laws_markIntS_m (k : Nat) (J0 : Int → Int → (List Int) → Option (Int × (List Int))) (a : (List Int)) (k_ : Int) : Option (Int × (List Int)) :=
 J0 k_ 0 a
noncomputable def laws_markIntS (k : Nat) (a : (List Int)) (k_ : Int) : Option (Int × (List Int)) := laws_markIntS_m k (laws_markIntS_l0 k k) a k_
noncomputable def laws_markIntS_v : Nat → List Nat := fun t => match t with | 2 => [0, 1, 4, 5] | _ => []
noncomputable def laws_markIntS_O (k : Nat) : Oracle := ofL []
theorem laws_markIntS_Ok (k : Nat) : OkO (Ct Try.prog) (laws_markIntS_O k) := okO_nil
noncomputable def laws_markIntS_A (a : (List Int)) (k_ : Int) : Pk := ⟨[(.sc (.sl 0)), (.sc (.v (.int .i64 k_)))], [(.row true K.ki64 a)]⟩
noncomputable def laws_markIntS_d : Rs → Option (Int × (List Int))
 | ⟨(.a (.sc (.v (.int .i64 r1)))), [(.row true K.ki64 r2)]⟩ => some (r1, r2)
 | _ => none
theorem laws_markIntS_i {r : Rs} {y : Int × (List Int)} (h : laws_markIntS_d r = some y) : r = ⟨(.a (.sc (.v (.int .i64 y.1)))), [(.row true K.ki64 y.2)]⟩ := by
 unfold laws_markIntS_d at h; split at h
 · cases h; rfl
 · cases h
noncomputable def laws_markIntS_h0 (k m : Nat) (x0_0 : Int) (x0_1 : Int) (x0_2 : (List Int)) : Option (Int × (List Int)) := hdAt env (laws_markIntS_O k) laws_markIntS_v Try.f38 1 (fun r => laws_markIntS_d (r.fin 1 [])) [1, 0, 1, 0] k m ⟨tmF [0, 1, 4, 5] [(.a (.sc (.sl 0))), (.a (.sc (.v (.int .i64 x0_0)))), (.a (.sc (.v (.int .i64 0)))), (.a (.sc (.v (.int .i64 x0_1))))], blF [(.row true K.ki64 x0_2)]⟩
theorem laws_markIntS_z0 (k : Nat) (x0_0 : Int) (x0_1 : Int) (x0_2 : (List Int)) : laws_markIntS_h0 k 0 x0_0 x0_1 x0_2 = laws_markIntS_s0 k (fun _ _ _ => none) x0_0 x0_1 x0_2 := by kernel_rfl
theorem laws_markIntS_g0 (k : Nat) (H : St → Option (Int × (List Int))) (x0_0 : Int) (x0_1 : Int) (x0_2 : (List Int)) : rnd env (laws_markIntS_O k) laws_markIntS_v Try.f38 1 (fun r => laws_markIntS_d (r.fin 1 [])) [1, 0, 1, 0] k H ⟨tmF [0, 1, 4, 5] [(.a (.sc (.sl 0))), (.a (.sc (.v (.int .i64 x0_0)))), (.a (.sc (.v (.int .i64 0)))), (.a (.sc (.v (.int .i64 x0_1))))], blF [(.row true K.ki64 x0_2)]⟩ = laws_markIntS_s0 k (fun x0_0 x0_1 x0_2 => H ⟨tmF [0, 1, 4, 5] [(.a (.sc (.sl 0))), (.a (.sc (.v (.int .i64 x0_0)))), (.a (.sc (.v (.int .i64 0)))), (.a (.sc (.v (.int .i64 x0_1))))], blF [(.row true K.ki64 x0_2)]⟩) x0_0 x0_1 x0_2 := by kernel_rfl
theorem laws_markIntS_n0 (k m : Nat) (x0_0 : Int) (x0_1 : Int) (x0_2 : (List Int)) : laws_markIntS_h0 k (m + 1) x0_0 x0_1 x0_2 = laws_markIntS_s0 k (laws_markIntS_h0 k m) x0_0 x0_1 x0_2 := (hdAt_succ _ _ _ _ _ _ _ _ _ _).trans (laws_markIntS_g0 k _ x0_0 x0_1 x0_2)
theorem laws_markIntS_q0 (k : Nat) : ∀ m, laws_markIntS_h0 k m = laws_markIntS_l0 k m := by
 intro m
 induction m with
 | zero => funext x0_0 x0_1 x0_2; rw [laws_markIntS_z0]; rfl
 | succ m ih => funext x0_0 x0_1 x0_2; rw [laws_markIntS_n0, ih]; rfl
theorem laws_markIntS_e (k : Nat) (a : (List Int)) (k_ : Int) : callF env (laws_markIntS_O k) laws_markIntS_v Try.f38 (k + 1) (laws_markIntS_A a k_) (fun r => laws_markIntS_d (r.fin 1 [])) = laws_markIntS k a k_ := by
 have e : callF env (laws_markIntS_O k) laws_markIntS_v Try.f38 (k + 1) (laws_markIntS_A a k_) (fun r => laws_markIntS_d (r.fin 1 [])) = laws_markIntS_m k (laws_markIntS_h0 k k) a k_ := by kernel_rfl
 rw [e, laws_markIntS_q0]; rfl
noncomputable def laws_markIntS_x (k : Nat) : Ent1 := fun A R Q => match A with
 | ⟨[(.sc (.sl 0)), (.sc (.v (.int .i64 a2)))], [(.row true K.ki64 a1)]⟩ => (laws_markIntS k a1 a2).bind fun y => Q ⟨(.a (.sc (.v (.int .i64 y.1)))), [(.row true K.ki64 y.2)]⟩
 | _ => none
theorem laws_markIntS_ok (k : Nat) : OkE Try.prog 38 (laws_markIntS_x k) := by
 intro A R Q x h
 unfold laws_markIntS_x at h
 split at h
 · obtain ⟨y, hy, hK⟩ := Option.bind_eq_some_iff.1 h
   obtain ⟨r, hr, hd⟩ := callF_ok envOk (laws_markIntS_Ok k) follows Try.func38 (by kernel_rfl) ((laws_markIntS_e k _ _).trans hy)
   exact ⟨_, laws_markIntS_i hd ▸ hr.fin [], hK⟩
 · cases h
/-! ### laws.markStock: function 75 -/
noncomputable def laws_markStock (k : Nat)  (a : Stock) (k_ : Int) : Option (Int × (List Int)) :=
 (laws_markIntS k a.Grams k_).bind fun y1 =>
 some (y1.1, y1.2)
noncomputable def laws_markStock_v : Nat → List Nat := fun t => match t with | _ => []
noncomputable def laws_markStock_O (k : Nat) : Oracle := ofL [(38, laws_markIntS_x k)]
theorem laws_markStock_Ok (k : Nat) : OkO (Ct Try.prog) (laws_markStock_O k) := okO_cons (laws_markIntS_ok k) (okO_nil)
noncomputable def laws_markStock_A (a : Stock) (k_ : Int) : Pk := ⟨[(.ag [(.sl 0)]), (.sc (.v (.int .i64 k_)))], [(.row true K.ki64 a.Grams)]⟩
noncomputable def laws_markStock_d : Rs → Option (Int × (List Int))
 | ⟨(.a (.sc (.v (.int .i64 r1)))), [(.row true K.ki64 r2)]⟩ => some (r1, r2)
 | _ => none
theorem laws_markStock_i {r : Rs} {y : Int × (List Int)} (h : laws_markStock_d r = some y) : r = ⟨(.a (.sc (.v (.int .i64 y.1)))), [(.row true K.ki64 y.2)]⟩ := by
 unfold laws_markStock_d at h; split at h
 · cases h; rfl
 · cases h
theorem laws_markStock_e (k : Nat) (a : Stock) (k_ : Int) : callF env (laws_markStock_O k) laws_markStock_v Try.f75 (k + 1) (laws_markStock_A a k_) (fun r => laws_markStock_d (r.fin 1 [])) = laws_markStock k a k_ := by kernel_rfl
noncomputable def laws_markStock_x (k : Nat) : Ent1 := fun A R Q => match A with
 | ⟨[(.ag [(.sl 0)]), (.sc (.v (.int .i64 a2)))], [(.row true K.ki64 a1)]⟩ => (laws_markStock k (⟨a1⟩ : Stock) a2).bind fun y => Q ⟨(.a (.sc (.v (.int .i64 y.1)))), [(.row true K.ki64 y.2)]⟩
 | _ => none
theorem laws_markStock_ok (k : Nat) : OkE Try.prog 75 (laws_markStock_x k) := by
 intro A R Q x h
 unfold laws_markStock_x at h
 split at h
 · obtain ⟨y, hy, hK⟩ := Option.bind_eq_some_iff.1 h
   obtain ⟨r, hr, hd⟩ := callF_ok envOk (laws_markStock_Ok k) follows Try.func75 (by kernel_rfl) ((laws_markStock_e k _ _).trans hy)
   exact ⟨_, laws_markStock_i hd ▸ hr.fin [], hK⟩
 · cases h
/-! ### laws.markEventS: function 60 -/
noncomputable def laws_markEventS_s0 (k : Nat)  (J : Int → Int → (List Event) → Option (Int × (List Event))) (x0_0 : Int) (x0_1 : Int) (x0_2 : (List Event)) : Option (Int × (List Event)) :=
 cond (decide ((x0_1 : Int) < ((x0_2).length : Int)))
 (if 0 ≤ (x0_1 : Int) ∧ (x0_1 : Int) < ((x0_2).length : Int) then
  if 0 ≤ (x0_1 : Int) ∧ (x0_1 : Int) < (((x0_2.set (Int.toNat x0_1) (⟨x0_0, (x0_2.getD (Int.toNat x0_1) dk_impl_Event).Loaves⟩ : Event))).length : Int) then
   J (wr ((wr (x0_0 + 1)) + 1)) (wr (x0_1 + 1)) ((x0_2.set (Int.toNat x0_1) (⟨x0_0, (x0_2.getD (Int.toNat x0_1) dk_impl_Event).Loaves⟩ : Event)).set (Int.toNat x0_1) (⟨((x0_2.set (Int.toNat x0_1) (⟨x0_0, (x0_2.getD (Int.toNat x0_1) dk_impl_Event).Loaves⟩ : Event)).getD (Int.toNat x0_1) dk_impl_Event).Kind, (wr (x0_0 + 1))⟩ : Event)) else none else none)
 (some (x0_0, x0_2))
noncomputable def laws_markEventS_l0 (k : Nat) : Nat → Int → Int → (List Event) → Option (Int × (List Event))
 | 0, x0_0, x0_1, x0_2 => laws_markEventS_s0 k (fun _ _ _ => none) x0_0 x0_1 x0_2
 | m + 1, x0_0, x0_1, x0_2 => laws_markEventS_s0 k (laws_markEventS_l0 k m) x0_0 x0_1 x0_2
noncomputable def laws_markEventS_m (k : Nat) (J0 : Int → Int → (List Event) → Option (Int × (List Event))) (a : (List Event)) (k_ : Int) : Option (Int × (List Event)) :=
 J0 k_ 0 a
noncomputable def laws_markEventS (k : Nat) (a : (List Event)) (k_ : Int) : Option (Int × (List Event)) := laws_markEventS_m k (laws_markEventS_l0 k k) a k_
noncomputable def laws_markEventS_v : Nat → List Nat := fun t => match t with | 2 => [0, 1, 4, 5] | _ => []
noncomputable def laws_markEventS_O (k : Nat) : Oracle := ofL []
theorem laws_markEventS_Ok (k : Nat) : OkO (Ct Try.prog) (laws_markEventS_O k) := okO_nil
noncomputable def laws_markEventS_A (a : (List Event)) (k_ : Int) : Pk := ⟨[(.sc (.sl 0)), (.sc (.v (.int .i64 k_)))], [(.row true K.k_impl_Event a)]⟩
noncomputable def laws_markEventS_d : Rs → Option (Int × (List Event))
 | ⟨(.a (.sc (.v (.int .i64 r1)))), [(.row true K.k_impl_Event r2)]⟩ => some (r1, r2)
 | _ => none
theorem laws_markEventS_i {r : Rs} {y : Int × (List Event)} (h : laws_markEventS_d r = some y) : r = ⟨(.a (.sc (.v (.int .i64 y.1)))), [(.row true K.k_impl_Event y.2)]⟩ := by
 unfold laws_markEventS_d at h; split at h
 · cases h; rfl
 · cases h
noncomputable def laws_markEventS_h0 (k m : Nat) (x0_0 : Int) (x0_1 : Int) (x0_2 : (List Event)) : Option (Int × (List Event)) := hdAt env (laws_markEventS_O k) laws_markEventS_v Try.f60 1 (fun r => laws_markEventS_d (r.fin 1 [])) [1, 0, 1, 0] k m ⟨tmF [0, 1, 4, 5] [(.a (.sc (.sl 0))), (.a (.sc (.v (.int .i64 x0_0)))), (.a (.sc (.v (.int .i64 0)))), (.a (.sc (.v (.int .i64 x0_1))))], blF [(.row true K.k_impl_Event x0_2)]⟩
theorem laws_markEventS_z0 (k : Nat) (x0_0 : Int) (x0_1 : Int) (x0_2 : (List Event)) : laws_markEventS_h0 k 0 x0_0 x0_1 x0_2 = laws_markEventS_s0 k (fun _ _ _ => none) x0_0 x0_1 x0_2 := by kernel_rfl
theorem laws_markEventS_g0 (k : Nat) (H : St → Option (Int × (List Event))) (x0_0 : Int) (x0_1 : Int) (x0_2 : (List Event)) : rnd env (laws_markEventS_O k) laws_markEventS_v Try.f60 1 (fun r => laws_markEventS_d (r.fin 1 [])) [1, 0, 1, 0] k H ⟨tmF [0, 1, 4, 5] [(.a (.sc (.sl 0))), (.a (.sc (.v (.int .i64 x0_0)))), (.a (.sc (.v (.int .i64 0)))), (.a (.sc (.v (.int .i64 x0_1))))], blF [(.row true K.k_impl_Event x0_2)]⟩ = laws_markEventS_s0 k (fun x0_0 x0_1 x0_2 => H ⟨tmF [0, 1, 4, 5] [(.a (.sc (.sl 0))), (.a (.sc (.v (.int .i64 x0_0)))), (.a (.sc (.v (.int .i64 0)))), (.a (.sc (.v (.int .i64 x0_1))))], blF [(.row true K.k_impl_Event x0_2)]⟩) x0_0 x0_1 x0_2 := by kernel_rfl
theorem laws_markEventS_n0 (k m : Nat) (x0_0 : Int) (x0_1 : Int) (x0_2 : (List Event)) : laws_markEventS_h0 k (m + 1) x0_0 x0_1 x0_2 = laws_markEventS_s0 k (laws_markEventS_h0 k m) x0_0 x0_1 x0_2 := (hdAt_succ _ _ _ _ _ _ _ _ _ _).trans (laws_markEventS_g0 k _ x0_0 x0_1 x0_2)
theorem laws_markEventS_q0 (k : Nat) : ∀ m, laws_markEventS_h0 k m = laws_markEventS_l0 k m := by
 intro m
 induction m with
 | zero => funext x0_0 x0_1 x0_2; rw [laws_markEventS_z0]; rfl
 | succ m ih => funext x0_0 x0_1 x0_2; rw [laws_markEventS_n0, ih]; rfl
theorem laws_markEventS_e (k : Nat) (a : (List Event)) (k_ : Int) : callF env (laws_markEventS_O k) laws_markEventS_v Try.f60 (k + 1) (laws_markEventS_A a k_) (fun r => laws_markEventS_d (r.fin 1 [])) = laws_markEventS k a k_ := by
 have e : callF env (laws_markEventS_O k) laws_markEventS_v Try.f60 (k + 1) (laws_markEventS_A a k_) (fun r => laws_markEventS_d (r.fin 1 [])) = laws_markEventS_m k (laws_markEventS_h0 k k) a k_ := by kernel_rfl
 rw [e, laws_markEventS_q0]; rfl
noncomputable def laws_markEventS_x (k : Nat) : Ent1 := fun A R Q => match A with
 | ⟨[(.sc (.sl 0)), (.sc (.v (.int .i64 a2)))], [(.row true K.k_impl_Event a1)]⟩ => (laws_markEventS k a1 a2).bind fun y => Q ⟨(.a (.sc (.v (.int .i64 y.1)))), [(.row true K.k_impl_Event y.2)]⟩
 | _ => none
theorem laws_markEventS_ok (k : Nat) : OkE Try.prog 60 (laws_markEventS_x k) := by
 intro A R Q x h
 unfold laws_markEventS_x at h
 split at h
 · obtain ⟨y, hy, hK⟩ := Option.bind_eq_some_iff.1 h
   obtain ⟨r, hr, hd⟩ := callF_ok envOk (laws_markEventS_Ok k) follows Try.func60 (by kernel_rfl) ((laws_markEventS_e k _ _).trans hy)
   exact ⟨_, laws_markEventS_i hd ▸ hr.fin [], hK⟩
 · cases h
/-! ### laws.markBook: function 18 -/
noncomputable def laws_markBook (k : Nat)  (a : Book) (k_ : Int) : Option (Int × (List Event)) :=
 (laws_markEventS k a.Events k_).bind fun y1 =>
 some (y1.1, y1.2)
noncomputable def laws_markBook_v : Nat → List Nat := fun t => match t with | _ => []
noncomputable def laws_markBook_O (k : Nat) : Oracle := ofL [(60, laws_markEventS_x k)]
theorem laws_markBook_Ok (k : Nat) : OkO (Ct Try.prog) (laws_markBook_O k) := okO_cons (laws_markEventS_ok k) (okO_nil)
noncomputable def laws_markBook_A (a : Book) (k_ : Int) : Pk := ⟨[(.ag [(.sl 0), (.v (.int .i64 a.Rack.Fresh)), (.v (.int .i64 a.Rack.Day)), (.v (.int .i64 a.Rack.Old)), (.v (.int .i64 a.Baked)), (.v (.int .i64 a.Sold)), (.v (.int .i64 a.Thrown))]), (.sc (.v (.int .i64 k_)))], [(.row true K.k_impl_Event a.Events)]⟩
noncomputable def laws_markBook_d : Rs → Option (Int × (List Event))
 | ⟨(.a (.sc (.v (.int .i64 r1)))), [(.row true K.k_impl_Event r2)]⟩ => some (r1, r2)
 | _ => none
theorem laws_markBook_i {r : Rs} {y : Int × (List Event)} (h : laws_markBook_d r = some y) : r = ⟨(.a (.sc (.v (.int .i64 y.1)))), [(.row true K.k_impl_Event y.2)]⟩ := by
 unfold laws_markBook_d at h; split at h
 · cases h; rfl
 · cases h
theorem laws_markBook_e (k : Nat) (a : Book) (k_ : Int) : callF env (laws_markBook_O k) laws_markBook_v Try.f18 (k + 1) (laws_markBook_A a k_) (fun r => laws_markBook_d (r.fin 1 [])) = laws_markBook k a k_ := by kernel_rfl
noncomputable def laws_markBook_x (k : Nat) : Ent1 := fun A R Q => match A with
 | ⟨[(.ag [(.sl 0), (.v (.int .i64 a2)), (.v (.int .i64 a3)), (.v (.int .i64 a4)), (.v (.int .i64 a5)), (.v (.int .i64 a6)), (.v (.int .i64 a7))]), (.sc (.v (.int .i64 a8)))], [(.row true K.k_impl_Event a1)]⟩ => (laws_markBook k (⟨a1, (⟨a2, a3, a4⟩ : Rack), a5, a6, a7⟩ : Book) a8).bind fun y => Q ⟨(.a (.sc (.v (.int .i64 y.1)))), [(.row true K.k_impl_Event y.2)]⟩
 | _ => none
theorem laws_markBook_ok (k : Nat) : OkE Try.prog 18 (laws_markBook_x k) := by
 intro A R Q x h
 unfold laws_markBook_x at h
 split at h
 · obtain ⟨y, hy, hK⟩ := Option.bind_eq_some_iff.1 h
   obtain ⟨r, hr, hd⟩ := callF_ok envOk (laws_markBook_Ok k) follows Try.func18 (by kernel_rfl) ((laws_markBook_e k _ _).trans hy)
   exact ⟨_, laws_markBook_i hd ▸ hr.fin [], hK⟩
 · cases h
/-! ### laws.markBakery: function 30 -/
noncomputable def laws_markBakery (k : Nat)  (a : Bakery) (k_ : Int) : Option (Int × (List Int) × (List Event)) :=
 (laws_markStock k a.Stock k_).bind fun y1 =>
 (laws_markBook k a.Book y1.1).bind fun y2 =>
  some (y2.1, y1.2, y2.2)
noncomputable def laws_markBakery_v : Nat → List Nat := fun t => match t with | _ => []
noncomputable def laws_markBakery_O (k : Nat) : Oracle := ofL [(18, laws_markBook_x k), (75, laws_markStock_x k)]
theorem laws_markBakery_Ok (k : Nat) : OkO (Ct Try.prog) (laws_markBakery_O k) := okO_cons (laws_markBook_ok k) (okO_cons (laws_markStock_ok k) (okO_nil))
noncomputable def laws_markBakery_A (a : Bakery) (k_ : Int) : Pk := ⟨[(.ag [(.sl 0), (.v (.int .i64 a.Dough.Water)), (.v (.int .i64 a.Dough.Salt)), (.v (.int .i64 a.Dough.Leaven)), (.v (.int .i64 a.Loaf.Weight)), (.v (.int .i64 a.Loaf.Loss)), (.sl 1), (.v (.int .i64 a.Book.Rack.Fresh)), (.v (.int .i64 a.Book.Rack.Day)), (.v (.int .i64 a.Book.Rack.Old)), (.v (.int .i64 a.Book.Baked)), (.v (.int .i64 a.Book.Sold)), (.v (.int .i64 a.Book.Thrown)), (.v (.int .i64 a.Money))]), (.sc (.v (.int .i64 k_)))], [(.row true K.ki64 a.Stock.Grams), (.row true K.k_impl_Event a.Book.Events)]⟩
noncomputable def laws_markBakery_d : Rs → Option (Int × (List Int) × (List Event))
 | ⟨(.a (.sc (.v (.int .i64 r1)))), [(.row true K.ki64 r2), (.row true K.k_impl_Event r3)]⟩ => some (r1, r2, r3)
 | _ => none
theorem laws_markBakery_i {r : Rs} {y : Int × (List Int) × (List Event)} (h : laws_markBakery_d r = some y) : r = ⟨(.a (.sc (.v (.int .i64 y.1)))), [(.row true K.ki64 y.2.1), (.row true K.k_impl_Event y.2.2)]⟩ := by
 unfold laws_markBakery_d at h; split at h
 · cases h; rfl
 · cases h
theorem laws_markBakery_e (k : Nat) (a : Bakery) (k_ : Int) : callF env (laws_markBakery_O k) laws_markBakery_v Try.f30 (k + 1) (laws_markBakery_A a k_) (fun r => laws_markBakery_d (r.fin 2 [])) = laws_markBakery k a k_ := by kernel_rfl
noncomputable def laws_markBakery_x (k : Nat) : Ent1 := fun A R Q => match A with
 | ⟨[(.ag [(.sl 0), (.v (.int .i64 a2)), (.v (.int .i64 a3)), (.v (.int .i64 a4)), (.v (.int .i64 a5)), (.v (.int .i64 a6)), (.sl 1), (.v (.int .i64 a8)), (.v (.int .i64 a9)), (.v (.int .i64 a10)), (.v (.int .i64 a11)), (.v (.int .i64 a12)), (.v (.int .i64 a13)), (.v (.int .i64 a14))]), (.sc (.v (.int .i64 a15)))], [(.row true K.ki64 a1), (.row true K.k_impl_Event a7)]⟩ => (laws_markBakery k (⟨(⟨a1⟩ : Stock), (⟨a2, a3, a4⟩ : Dough), (⟨a5, a6⟩ : Loaf), (⟨a7, (⟨a8, a9, a10⟩ : Rack), a11, a12, a13⟩ : Book), a14⟩ : Bakery) a15).bind fun y => Q ⟨(.a (.sc (.v (.int .i64 y.1)))), [(.row true K.ki64 y.2.1), (.row true K.k_impl_Event y.2.2)]⟩
 | _ => none
theorem laws_markBakery_ok (k : Nat) : OkE Try.prog 30 (laws_markBakery_x k) := by
 intro A R Q x h
 unfold laws_markBakery_x at h
 split at h
 · obtain ⟨y, hy, hK⟩ := Option.bind_eq_some_iff.1 h
   obtain ⟨r, hr, hd⟩ := callF_ok envOk (laws_markBakery_Ok k) follows Try.func30 (by kernel_rfl) ((laws_markBakery_e k _ _).trans hy)
   exact ⟨_, laws_markBakery_i hd ▸ hr.fin [], hK⟩
 · cases h
/-! ### laws.heldIntS: function 100 -/
noncomputable def laws_heldIntS_s0 (k : Nat)  (a : (List Int)) (J : Int → Int → Option (Int)) (x0_0 : Int) (x0_1 : Int) : Option (Int) :=
 cond (decide ((x0_1 : Int) < ((a).length : Int)))
 (if 0 ≤ (x0_1 : Int) ∧ (x0_1 : Int) < ((a).length : Int) then
  cond (!(decide (((a.getD (Int.toNat x0_1) 0) : Int) = x0_0)))
   (some (-1))
   (J (wr (x0_0 + 1)) (wr (x0_1 + 1))) else none)
 (some x0_0)
noncomputable def laws_heldIntS_l0 (k : Nat) : Nat → (List Int) → Int → Int → Option (Int)
 | 0, a, x0_0, x0_1 => laws_heldIntS_s0 k a (fun _ _ => none) x0_0 x0_1
 | m + 1, a, x0_0, x0_1 => laws_heldIntS_s0 k a (laws_heldIntS_l0 k m a) x0_0 x0_1
noncomputable def laws_heldIntS_m (k : Nat) (J0 : (List Int) → Int → Int → Option (Int)) (a : (List Int)) (k_ : Int) : Option (Int) :=
 J0 a k_ 0
noncomputable def laws_heldIntS (k : Nat) (a : (List Int)) (k_ : Int) : Option (Int) := laws_heldIntS_m k (laws_heldIntS_l0 k k) a k_
noncomputable def laws_heldIntS_v : Nat → List Nat := fun t => match t with | 2 => [0, 1, 4, 5] | _ => []
noncomputable def laws_heldIntS_O (k : Nat) : Oracle := ofL []
theorem laws_heldIntS_Ok (k : Nat) : OkO (Ct Try.prog) (laws_heldIntS_O k) := okO_nil
noncomputable def laws_heldIntS_A (a : (List Int)) (k_ : Int) : Pk := ⟨[(.sc (.sl 0)), (.sc (.v (.int .i64 k_)))], [(.row false K.ki64 a)]⟩
noncomputable def laws_heldIntS_d : Rs → Option (Int)
 | ⟨(.a (.sc (.v (.int .i64 r1)))), [.dead]⟩ => some r1
 | _ => none
theorem laws_heldIntS_i {r : Rs} {y : Int} (h : laws_heldIntS_d r = some y) : r = ⟨(.a (.sc (.v (.int .i64 y)))), [.dead]⟩ := by
 unfold laws_heldIntS_d at h; split at h
 · cases h; rfl
 · cases h
noncomputable def laws_heldIntS_h0 (k m : Nat) (a : (List Int)) (x0_0 : Int) (x0_1 : Int) : Option (Int) := hdAt env (laws_heldIntS_O k) laws_heldIntS_v Try.f100 1 (fun r => laws_heldIntS_d (r.fin 1 [])) [1, 0, 1, 0] k m ⟨tmF [0, 1, 4, 5] [(.a (.sc (.sl 0))), (.a (.sc (.v (.int .i64 x0_0)))), (.a (.sc (.v (.int .i64 0)))), (.a (.sc (.v (.int .i64 x0_1))))], blF [(.row false K.ki64 a)]⟩
theorem laws_heldIntS_z0 (k : Nat) (a : (List Int)) (x0_0 : Int) (x0_1 : Int) : laws_heldIntS_h0 k 0 a x0_0 x0_1 = laws_heldIntS_s0 k a (fun _ _ => none) x0_0 x0_1 := by kernel_rfl
theorem laws_heldIntS_g0 (k : Nat) (H : St → Option (Int)) (a : (List Int)) (x0_0 : Int) (x0_1 : Int) : rnd env (laws_heldIntS_O k) laws_heldIntS_v Try.f100 1 (fun r => laws_heldIntS_d (r.fin 1 [])) [1, 0, 1, 0] k H ⟨tmF [0, 1, 4, 5] [(.a (.sc (.sl 0))), (.a (.sc (.v (.int .i64 x0_0)))), (.a (.sc (.v (.int .i64 0)))), (.a (.sc (.v (.int .i64 x0_1))))], blF [(.row false K.ki64 a)]⟩ = laws_heldIntS_s0 k a (fun x0_0 x0_1 => H ⟨tmF [0, 1, 4, 5] [(.a (.sc (.sl 0))), (.a (.sc (.v (.int .i64 x0_0)))), (.a (.sc (.v (.int .i64 0)))), (.a (.sc (.v (.int .i64 x0_1))))], blF [(.row false K.ki64 a)]⟩) x0_0 x0_1 := by kernel_rfl
theorem laws_heldIntS_n0 (k m : Nat) (a : (List Int)) (x0_0 : Int) (x0_1 : Int) : laws_heldIntS_h0 k (m + 1) a x0_0 x0_1 = laws_heldIntS_s0 k a (laws_heldIntS_h0 k m a) x0_0 x0_1 := (hdAt_succ _ _ _ _ _ _ _ _ _ _).trans (laws_heldIntS_g0 k _ a x0_0 x0_1)
theorem laws_heldIntS_q0 (k : Nat) : ∀ m, laws_heldIntS_h0 k m = laws_heldIntS_l0 k m := by
 intro m
 induction m with
 | zero => funext a x0_0 x0_1; rw [laws_heldIntS_z0]; rfl
 | succ m ih => funext a x0_0 x0_1; rw [laws_heldIntS_n0, ih]; rfl
theorem laws_heldIntS_e (k : Nat) (a : (List Int)) (k_ : Int) : callF env (laws_heldIntS_O k) laws_heldIntS_v Try.f100 (k + 1) (laws_heldIntS_A a k_) (fun r => laws_heldIntS_d (r.fin 1 [])) = laws_heldIntS k a k_ := by
 have e : callF env (laws_heldIntS_O k) laws_heldIntS_v Try.f100 (k + 1) (laws_heldIntS_A a k_) (fun r => laws_heldIntS_d (r.fin 1 [])) = laws_heldIntS_m k (laws_heldIntS_h0 k k) a k_ := by kernel_rfl
 rw [e, laws_heldIntS_q0]; rfl
noncomputable def laws_heldIntS_x (k : Nat) : Ent1 := fun A R Q => match A with
 | ⟨[(.sc (.sl 0)), (.sc (.v (.int .i64 a2)))], [(.row false K.ki64 a1)]⟩ => (laws_heldIntS k a1 a2).bind fun y => Q ⟨(.a (.sc (.v (.int .i64 y)))), [.dead]⟩
 | _ => none
theorem laws_heldIntS_ok (k : Nat) : OkE Try.prog 100 (laws_heldIntS_x k) := by
 intro A R Q x h
 unfold laws_heldIntS_x at h
 split at h
 · obtain ⟨y, hy, hK⟩ := Option.bind_eq_some_iff.1 h
   obtain ⟨r, hr, hd⟩ := callF_ok envOk (laws_heldIntS_Ok k) follows Try.func100 (by kernel_rfl) ((laws_heldIntS_e k _ _).trans hy)
   exact ⟨_, laws_heldIntS_i hd ▸ hr.fin [], hK⟩
 · cases h
/-! ### laws.heldStock: function 76 -/
noncomputable def laws_heldStock (k : Nat)  (a : Stock) (k_ : Int) : Option (Int) :=
 (laws_heldIntS k a.Grams k_).bind fun y1 =>
 cond (decide ((y1 : Int) < 0))
  (some (-1))
  (some y1)
noncomputable def laws_heldStock_v : Nat → List Nat := fun t => match t with | _ => []
noncomputable def laws_heldStock_O (k : Nat) : Oracle := ofL [(100, laws_heldIntS_x k)]
theorem laws_heldStock_Ok (k : Nat) : OkO (Ct Try.prog) (laws_heldStock_O k) := okO_cons (laws_heldIntS_ok k) (okO_nil)
noncomputable def laws_heldStock_A (a : Stock) (k_ : Int) : Pk := ⟨[(.ag [(.sl 0)]), (.sc (.v (.int .i64 k_)))], [(.row false K.ki64 a.Grams)]⟩
noncomputable def laws_heldStock_d : Rs → Option (Int)
 | ⟨(.a (.sc (.v (.int .i64 r1)))), [.dead]⟩ => some r1
 | _ => none
theorem laws_heldStock_i {r : Rs} {y : Int} (h : laws_heldStock_d r = some y) : r = ⟨(.a (.sc (.v (.int .i64 y)))), [.dead]⟩ := by
 unfold laws_heldStock_d at h; split at h
 · cases h; rfl
 · cases h
theorem laws_heldStock_e (k : Nat) (a : Stock) (k_ : Int) : callF env (laws_heldStock_O k) laws_heldStock_v Try.f76 (k + 1) (laws_heldStock_A a k_) (fun r => laws_heldStock_d (r.fin 1 [])) = laws_heldStock k a k_ := by kernel_rfl
noncomputable def laws_heldStock_x (k : Nat) : Ent1 := fun A R Q => match A with
 | ⟨[(.ag [(.sl 0)]), (.sc (.v (.int .i64 a2)))], [(.row false K.ki64 a1)]⟩ => (laws_heldStock k (⟨a1⟩ : Stock) a2).bind fun y => Q ⟨(.a (.sc (.v (.int .i64 y)))), [.dead]⟩
 | _ => none
theorem laws_heldStock_ok (k : Nat) : OkE Try.prog 76 (laws_heldStock_x k) := by
 intro A R Q x h
 unfold laws_heldStock_x at h
 split at h
 · obtain ⟨y, hy, hK⟩ := Option.bind_eq_some_iff.1 h
   obtain ⟨r, hr, hd⟩ := callF_ok envOk (laws_heldStock_Ok k) follows Try.func76 (by kernel_rfl) ((laws_heldStock_e k _ _).trans hy)
   exact ⟨_, laws_heldStock_i hd ▸ hr.fin [], hK⟩
 · cases h
/-! ### laws.heldEventS: function 61 -/
noncomputable def laws_heldEventS_s0 (k : Nat)  (a : (List Event)) (J : Int → Int → Option (Int)) (x0_0 : Int) (x0_1 : Int) : Option (Int) :=
 cond (decide ((x0_1 : Int) < ((a).length : Int)))
 (if 0 ≤ (x0_1 : Int) ∧ (x0_1 : Int) < ((a).length : Int) then
  cond (!(decide (((a.getD (Int.toNat x0_1) dk_impl_Event).Kind : Int) = x0_0)))
   (some (-1))
   (if 0 ≤ (x0_1 : Int) ∧ (x0_1 : Int) < ((a).length : Int) then
    cond (!(decide (((a.getD (Int.toNat x0_1) dk_impl_Event).Loaves : Int) = (wr (x0_0 + 1)))))
     (some (-1))
     (J (wr ((wr (x0_0 + 1)) + 1)) (wr (x0_1 + 1))) else none) else none)
 (some x0_0)
noncomputable def laws_heldEventS_l0 (k : Nat) : Nat → (List Event) → Int → Int → Option (Int)
 | 0, a, x0_0, x0_1 => laws_heldEventS_s0 k a (fun _ _ => none) x0_0 x0_1
 | m + 1, a, x0_0, x0_1 => laws_heldEventS_s0 k a (laws_heldEventS_l0 k m a) x0_0 x0_1
noncomputable def laws_heldEventS_m (k : Nat) (J0 : (List Event) → Int → Int → Option (Int)) (a : (List Event)) (k_ : Int) : Option (Int) :=
 J0 a k_ 0
noncomputable def laws_heldEventS (k : Nat) (a : (List Event)) (k_ : Int) : Option (Int) := laws_heldEventS_m k (laws_heldEventS_l0 k k) a k_
noncomputable def laws_heldEventS_v : Nat → List Nat := fun t => match t with | 2 => [0, 1, 4, 5] | _ => []
noncomputable def laws_heldEventS_O (k : Nat) : Oracle := ofL []
theorem laws_heldEventS_Ok (k : Nat) : OkO (Ct Try.prog) (laws_heldEventS_O k) := okO_nil
noncomputable def laws_heldEventS_A (a : (List Event)) (k_ : Int) : Pk := ⟨[(.sc (.sl 0)), (.sc (.v (.int .i64 k_)))], [(.row false K.k_impl_Event a)]⟩
noncomputable def laws_heldEventS_d : Rs → Option (Int)
 | ⟨(.a (.sc (.v (.int .i64 r1)))), [.dead]⟩ => some r1
 | _ => none
theorem laws_heldEventS_i {r : Rs} {y : Int} (h : laws_heldEventS_d r = some y) : r = ⟨(.a (.sc (.v (.int .i64 y)))), [.dead]⟩ := by
 unfold laws_heldEventS_d at h; split at h
 · cases h; rfl
 · cases h
noncomputable def laws_heldEventS_h0 (k m : Nat) (a : (List Event)) (x0_0 : Int) (x0_1 : Int) : Option (Int) := hdAt env (laws_heldEventS_O k) laws_heldEventS_v Try.f61 1 (fun r => laws_heldEventS_d (r.fin 1 [])) [1, 0, 1, 0] k m ⟨tmF [0, 1, 4, 5] [(.a (.sc (.sl 0))), (.a (.sc (.v (.int .i64 x0_0)))), (.a (.sc (.v (.int .i64 0)))), (.a (.sc (.v (.int .i64 x0_1))))], blF [(.row false K.k_impl_Event a)]⟩
theorem laws_heldEventS_z0 (k : Nat) (a : (List Event)) (x0_0 : Int) (x0_1 : Int) : laws_heldEventS_h0 k 0 a x0_0 x0_1 = laws_heldEventS_s0 k a (fun _ _ => none) x0_0 x0_1 := by kernel_rfl
theorem laws_heldEventS_g0 (k : Nat) (H : St → Option (Int)) (a : (List Event)) (x0_0 : Int) (x0_1 : Int) : rnd env (laws_heldEventS_O k) laws_heldEventS_v Try.f61 1 (fun r => laws_heldEventS_d (r.fin 1 [])) [1, 0, 1, 0] k H ⟨tmF [0, 1, 4, 5] [(.a (.sc (.sl 0))), (.a (.sc (.v (.int .i64 x0_0)))), (.a (.sc (.v (.int .i64 0)))), (.a (.sc (.v (.int .i64 x0_1))))], blF [(.row false K.k_impl_Event a)]⟩ = laws_heldEventS_s0 k a (fun x0_0 x0_1 => H ⟨tmF [0, 1, 4, 5] [(.a (.sc (.sl 0))), (.a (.sc (.v (.int .i64 x0_0)))), (.a (.sc (.v (.int .i64 0)))), (.a (.sc (.v (.int .i64 x0_1))))], blF [(.row false K.k_impl_Event a)]⟩) x0_0 x0_1 := by kernel_rfl
theorem laws_heldEventS_n0 (k m : Nat) (a : (List Event)) (x0_0 : Int) (x0_1 : Int) : laws_heldEventS_h0 k (m + 1) a x0_0 x0_1 = laws_heldEventS_s0 k a (laws_heldEventS_h0 k m a) x0_0 x0_1 := (hdAt_succ _ _ _ _ _ _ _ _ _ _).trans (laws_heldEventS_g0 k _ a x0_0 x0_1)
theorem laws_heldEventS_q0 (k : Nat) : ∀ m, laws_heldEventS_h0 k m = laws_heldEventS_l0 k m := by
 intro m
 induction m with
 | zero => funext a x0_0 x0_1; rw [laws_heldEventS_z0]; rfl
 | succ m ih => funext a x0_0 x0_1; rw [laws_heldEventS_n0, ih]; rfl
theorem laws_heldEventS_e (k : Nat) (a : (List Event)) (k_ : Int) : callF env (laws_heldEventS_O k) laws_heldEventS_v Try.f61 (k + 1) (laws_heldEventS_A a k_) (fun r => laws_heldEventS_d (r.fin 1 [])) = laws_heldEventS k a k_ := by
 have e : callF env (laws_heldEventS_O k) laws_heldEventS_v Try.f61 (k + 1) (laws_heldEventS_A a k_) (fun r => laws_heldEventS_d (r.fin 1 [])) = laws_heldEventS_m k (laws_heldEventS_h0 k k) a k_ := by kernel_rfl
 rw [e, laws_heldEventS_q0]; rfl
noncomputable def laws_heldEventS_x (k : Nat) : Ent1 := fun A R Q => match A with
 | ⟨[(.sc (.sl 0)), (.sc (.v (.int .i64 a2)))], [(.row false K.k_impl_Event a1)]⟩ => (laws_heldEventS k a1 a2).bind fun y => Q ⟨(.a (.sc (.v (.int .i64 y)))), [.dead]⟩
 | _ => none
theorem laws_heldEventS_ok (k : Nat) : OkE Try.prog 61 (laws_heldEventS_x k) := by
 intro A R Q x h
 unfold laws_heldEventS_x at h
 split at h
 · obtain ⟨y, hy, hK⟩ := Option.bind_eq_some_iff.1 h
   obtain ⟨r, hr, hd⟩ := callF_ok envOk (laws_heldEventS_Ok k) follows Try.func61 (by kernel_rfl) ((laws_heldEventS_e k _ _).trans hy)
   exact ⟨_, laws_heldEventS_i hd ▸ hr.fin [], hK⟩
 · cases h
/-! ### laws.heldBook: function 19 -/
noncomputable def laws_heldBook (k : Nat)  (a : Book) (k_ : Int) : Option (Int) :=
 (laws_heldEventS k a.Events k_).bind fun y1 =>
 cond (decide ((y1 : Int) < 0))
  (some (-1))
  (some y1)
noncomputable def laws_heldBook_v : Nat → List Nat := fun t => match t with | _ => []
noncomputable def laws_heldBook_O (k : Nat) : Oracle := ofL [(61, laws_heldEventS_x k)]
theorem laws_heldBook_Ok (k : Nat) : OkO (Ct Try.prog) (laws_heldBook_O k) := okO_cons (laws_heldEventS_ok k) (okO_nil)
noncomputable def laws_heldBook_A (a : Book) (k_ : Int) : Pk := ⟨[(.ag [(.sl 0), (.v (.int .i64 a.Rack.Fresh)), (.v (.int .i64 a.Rack.Day)), (.v (.int .i64 a.Rack.Old)), (.v (.int .i64 a.Baked)), (.v (.int .i64 a.Sold)), (.v (.int .i64 a.Thrown))]), (.sc (.v (.int .i64 k_)))], [(.row false K.k_impl_Event a.Events)]⟩
noncomputable def laws_heldBook_d : Rs → Option (Int)
 | ⟨(.a (.sc (.v (.int .i64 r1)))), [.dead]⟩ => some r1
 | _ => none
theorem laws_heldBook_i {r : Rs} {y : Int} (h : laws_heldBook_d r = some y) : r = ⟨(.a (.sc (.v (.int .i64 y)))), [.dead]⟩ := by
 unfold laws_heldBook_d at h; split at h
 · cases h; rfl
 · cases h
theorem laws_heldBook_e (k : Nat) (a : Book) (k_ : Int) : callF env (laws_heldBook_O k) laws_heldBook_v Try.f19 (k + 1) (laws_heldBook_A a k_) (fun r => laws_heldBook_d (r.fin 1 [])) = laws_heldBook k a k_ := by kernel_rfl
noncomputable def laws_heldBook_x (k : Nat) : Ent1 := fun A R Q => match A with
 | ⟨[(.ag [(.sl 0), (.v (.int .i64 a2)), (.v (.int .i64 a3)), (.v (.int .i64 a4)), (.v (.int .i64 a5)), (.v (.int .i64 a6)), (.v (.int .i64 a7))]), (.sc (.v (.int .i64 a8)))], [(.row false K.k_impl_Event a1)]⟩ => (laws_heldBook k (⟨a1, (⟨a2, a3, a4⟩ : Rack), a5, a6, a7⟩ : Book) a8).bind fun y => Q ⟨(.a (.sc (.v (.int .i64 y)))), [.dead]⟩
 | _ => none
theorem laws_heldBook_ok (k : Nat) : OkE Try.prog 19 (laws_heldBook_x k) := by
 intro A R Q x h
 unfold laws_heldBook_x at h
 split at h
 · obtain ⟨y, hy, hK⟩ := Option.bind_eq_some_iff.1 h
   obtain ⟨r, hr, hd⟩ := callF_ok envOk (laws_heldBook_Ok k) follows Try.func19 (by kernel_rfl) ((laws_heldBook_e k _ _).trans hy)
   exact ⟨_, laws_heldBook_i hd ▸ hr.fin [], hK⟩
 · cases h
/-! ### laws.heldBakery: function 31 -/
noncomputable def laws_heldBakery (k : Nat)  (a : Bakery) (k_ : Int) : Option (Int) :=
 (laws_heldStock k a.Stock k_).bind fun y1 =>
 cond (decide ((y1 : Int) < 0))
  (some (-1))
  ((laws_heldBook k a.Book y1).bind fun y2 =>
   cond (decide ((y2 : Int) < 0))
    (some (-1))
    (some y2))
noncomputable def laws_heldBakery_v : Nat → List Nat := fun t => match t with | _ => []
noncomputable def laws_heldBakery_O (k : Nat) : Oracle := ofL [(19, laws_heldBook_x k), (76, laws_heldStock_x k)]
theorem laws_heldBakery_Ok (k : Nat) : OkO (Ct Try.prog) (laws_heldBakery_O k) := okO_cons (laws_heldBook_ok k) (okO_cons (laws_heldStock_ok k) (okO_nil))
noncomputable def laws_heldBakery_A (a : Bakery) (k_ : Int) : Pk := ⟨[(.ag [(.sl 0), (.v (.int .i64 a.Dough.Water)), (.v (.int .i64 a.Dough.Salt)), (.v (.int .i64 a.Dough.Leaven)), (.v (.int .i64 a.Loaf.Weight)), (.v (.int .i64 a.Loaf.Loss)), (.sl 1), (.v (.int .i64 a.Book.Rack.Fresh)), (.v (.int .i64 a.Book.Rack.Day)), (.v (.int .i64 a.Book.Rack.Old)), (.v (.int .i64 a.Book.Baked)), (.v (.int .i64 a.Book.Sold)), (.v (.int .i64 a.Book.Thrown)), (.v (.int .i64 a.Money))]), (.sc (.v (.int .i64 k_)))], [(.row false K.ki64 a.Stock.Grams), (.row false K.k_impl_Event a.Book.Events)]⟩
noncomputable def laws_heldBakery_d : Rs → Option (Int)
 | ⟨(.a (.sc (.v (.int .i64 r1)))), [.dead, .dead]⟩ => some r1
 | _ => none
theorem laws_heldBakery_i {r : Rs} {y : Int} (h : laws_heldBakery_d r = some y) : r = ⟨(.a (.sc (.v (.int .i64 y)))), [.dead, .dead]⟩ := by
 unfold laws_heldBakery_d at h; split at h
 · cases h; rfl
 · cases h
theorem laws_heldBakery_e (k : Nat) (a : Bakery) (k_ : Int) : callF env (laws_heldBakery_O k) laws_heldBakery_v Try.f31 (k + 1) (laws_heldBakery_A a k_) (fun r => laws_heldBakery_d (r.fin 2 [])) = laws_heldBakery k a k_ := by kernel_rfl
noncomputable def laws_heldBakery_x (k : Nat) : Ent1 := fun A R Q => match A with
 | ⟨[(.ag [(.sl 0), (.v (.int .i64 a2)), (.v (.int .i64 a3)), (.v (.int .i64 a4)), (.v (.int .i64 a5)), (.v (.int .i64 a6)), (.sl 1), (.v (.int .i64 a8)), (.v (.int .i64 a9)), (.v (.int .i64 a10)), (.v (.int .i64 a11)), (.v (.int .i64 a12)), (.v (.int .i64 a13)), (.v (.int .i64 a14))]), (.sc (.v (.int .i64 a15)))], [(.row false K.ki64 a1), (.row false K.k_impl_Event a7)]⟩ => (laws_heldBakery k (⟨(⟨a1⟩ : Stock), (⟨a2, a3, a4⟩ : Dough), (⟨a5, a6⟩ : Loaf), (⟨a7, (⟨a8, a9, a10⟩ : Rack), a11, a12, a13⟩ : Book), a14⟩ : Bakery) a15).bind fun y => Q ⟨(.a (.sc (.v (.int .i64 y)))), [.dead, .dead]⟩
 | _ => none
theorem laws_heldBakery_ok (k : Nat) : OkE Try.prog 31 (laws_heldBakery_x k) := by
 intro A R Q x h
 unfold laws_heldBakery_x at h
 split at h
 · obtain ⟨y, hy, hK⟩ := Option.bind_eq_some_iff.1 h
   obtain ⟨r, hr, hd⟩ := callF_ok envOk (laws_heldBakery_Ok k) follows Try.func31 (by kernel_rfl) ((laws_heldBakery_e k _ _).trans hy)
   exact ⟨_, laws_heldBakery_i hd ▸ hr.fin [], hK⟩
 · cases h
/-! ### laws.FnExactNightOver: function 9 -/
noncomputable def laws_FnExactNightOver (k : Nat)  (p0 : Bakery) : Option (Bool) :=
 (laws_szBakery k p0 1048576).bind fun y1 =>
 cond (decide ((y1 : Int) < 0))
  (some true)
  ((laws_toBakery k p0).bind fun y2 =>
   (spec_NightOver k y2).bind fun y3 =>
    (laws_toBakery k p0).bind fun y4 =>
     (impl_NightOver k y4).bind fun y5 =>
      (laws_eqBakery k y5.1 y3.1).bind fun y6 =>
       cond (!y6)
        (some false)
        (cond (!(y5.2 == y3.2))
        (some false)
        ((laws_toBakery k p0).bind fun y7 =>
        (laws_eqBakery k y4 y7).bind fun y8 =>
        cond (!y8)
        (some false)
        ((laws_markBakery k y4 1).bind fun y9 =>
        cond (decide ((y9.1 : Int) < 0))
        (some false)
        ((laws_eqBakery k y5.1 y3.1).bind fun y10 =>
        cond (!y10)
        (some false)
        (cond (!(y5.2 == y3.2))
        (some false)
        ((laws_markBakery k y5.1 1).bind fun y11 =>
        (laws_heldBakery k (⟨(⟨y11.2.1⟩ : Stock), y5.1.Dough, y5.1.Loaf, (⟨y11.2.2, y5.1.Book.Rack, y5.1.Book.Baked, y5.1.Book.Sold, y5.1.Book.Thrown⟩ : Book), y5.1.Money⟩ : Bakery) 1).bind fun y12 =>
        cond (decide ((y12 : Int) < 0))
        (some false)
        (cond (!(decide ((y12 : Int) = y11.1)))
        (some false)
        ((laws_toBakery k p0).bind fun y13 =>
        (impl_NightOver k y13).bind fun y14 =>
        (laws_eqBakery k y14.1 y3.1).bind fun y15 =>
        cond (!y15)
        (some false)
        (cond (!(y14.2 == y3.2))
        (some false)
        ((laws_heldBakery k (⟨(⟨y11.2.1⟩ : Stock), y5.1.Dough, y5.1.Loaf, (⟨y11.2.2, y5.1.Book.Rack, y5.1.Book.Baked, y5.1.Book.Sold, y5.1.Book.Thrown⟩ : Book), y5.1.Money⟩ : Bakery) 1).bind fun y16 =>
        cond (decide ((y16 : Int) < 0))
        (some false)
        (cond (!(decide ((y16 : Int) = y11.1)))
        (some false)
        (some true)))))))))))))
noncomputable def laws_FnExactNightOver_v : Nat → List Nat := fun t => match t with | _ => []
noncomputable def laws_FnExactNightOver_O (k : Nat) : Oracle := ofL [(23, laws_szBakery_x k), (25, laws_toBakery_x k), (27, laws_eqBakery_x k), (30, laws_markBakery_x k), (31, laws_heldBakery_x k), (41, spec_NightOver_x k), (42, impl_NightOver_x k)]
theorem laws_FnExactNightOver_Ok (k : Nat) : OkO (Ct Try.prog) (laws_FnExactNightOver_O k) := okO_cons (laws_szBakery_ok k) (okO_cons (laws_toBakery_ok k) (okO_cons (laws_eqBakery_ok k) (okO_cons (laws_markBakery_ok k) (okO_cons (laws_heldBakery_ok k) (okO_cons (spec_NightOver_ok k) (okO_cons (impl_NightOver_ok k) (okO_nil)))))))
noncomputable def laws_FnExactNightOver_A (p0 : Bakery) : Pk := ⟨[(.ag [(.sl 0), (.v (.int .i64 p0.Dough.Water)), (.v (.int .i64 p0.Dough.Salt)), (.v (.int .i64 p0.Dough.Leaven)), (.v (.int .i64 p0.Loaf.Weight)), (.v (.int .i64 p0.Loaf.Loss)), (.sl 1), (.v (.int .i64 p0.Book.Rack.Fresh)), (.v (.int .i64 p0.Book.Rack.Day)), (.v (.int .i64 p0.Book.Rack.Old)), (.v (.int .i64 p0.Book.Baked)), (.v (.int .i64 p0.Book.Sold)), (.v (.int .i64 p0.Book.Thrown)), (.v (.int .i64 p0.Money))])], [(.row false K.ki64 p0.Stock.Grams), (.row false K.k_laws_Event p0.Book.Events)]⟩
noncomputable def laws_FnExactNightOver_d : Rs → Option (Bool)
 | ⟨(.a (.sc (.v (.bool r1)))), [.dead, .dead]⟩ => some r1
 | _ => none
theorem laws_FnExactNightOver_i {r : Rs} {y : Bool} (h : laws_FnExactNightOver_d r = some y) : r = ⟨(.a (.sc (.v (.bool y)))), [.dead, .dead]⟩ := by
 unfold laws_FnExactNightOver_d at h; split at h
 · cases h; rfl
 · cases h
theorem laws_FnExactNightOver_e (k : Nat) (p0 : Bakery) : callF env (laws_FnExactNightOver_O k) laws_FnExactNightOver_v Try.f9 (k + 1) (laws_FnExactNightOver_A p0) (fun r => laws_FnExactNightOver_d (r.fin 2 [])) = laws_FnExactNightOver k p0 := by kernel_rfl
noncomputable def laws_FnExactNightOver_x (k : Nat) : Ent1 := fun A R Q => match A with
 | ⟨[(.ag [(.sl 0), (.v (.int .i64 a2)), (.v (.int .i64 a3)), (.v (.int .i64 a4)), (.v (.int .i64 a5)), (.v (.int .i64 a6)), (.sl 1), (.v (.int .i64 a8)), (.v (.int .i64 a9)), (.v (.int .i64 a10)), (.v (.int .i64 a11)), (.v (.int .i64 a12)), (.v (.int .i64 a13)), (.v (.int .i64 a14))])], [(.row false K.ki64 a1), (.row false K.k_laws_Event a7)]⟩ => (laws_FnExactNightOver k (⟨(⟨a1⟩ : Stock), (⟨a2, a3, a4⟩ : Dough), (⟨a5, a6⟩ : Loaf), (⟨a7, (⟨a8, a9, a10⟩ : Rack), a11, a12, a13⟩ : Book), a14⟩ : Bakery)).bind fun y => Q ⟨(.a (.sc (.v (.bool y)))), [.dead, .dead]⟩
 | _ => none
theorem laws_FnExactNightOver_ok (k : Nat) : OkE Try.prog 9 (laws_FnExactNightOver_x k) := by
 intro A R Q x h
 unfold laws_FnExactNightOver_x at h
 split at h
 · obtain ⟨y, hy, hK⟩ := Option.bind_eq_some_iff.1 h
   obtain ⟨r, hr, hd⟩ := callF_ok envOk (laws_FnExactNightOver_Ok k) follows Try.func9 (by kernel_rfl) ((laws_FnExactNightOver_e k _).trans hy)
   exact ⟨_, laws_FnExactNightOver_i hd ▸ hr.fin [], hK⟩
 · cases h
/-! ### spec.OpenBakery: function 32 -/
noncomputable def spec_OpenBakery (k : Nat)  (grams : (List Int)) (d : Dough) (l : Loaf) (money : Int) : Option (Bakery × Bool) :=
 if ([] : List Int).length + (grams : List Int).length ≤ maxRow then
 (spec_BakeryOk k (⟨(⟨([] ++ grams)⟩ : Stock), d, l, (⟨[], (⟨0, 0, 0⟩ : Rack), 0, 0, 0⟩ : Book), money⟩ : Bakery)).bind fun y1 =>
  cond (!y1)
   (some ((⟨(⟨[]⟩ : Stock), (⟨0, 0, 0⟩ : Dough), (⟨0, 0⟩ : Loaf), (⟨[], (⟨0, 0, 0⟩ : Rack), 0, 0, 0⟩ : Book), 0⟩ : Bakery), false))
   (some ((⟨(⟨([] ++ grams)⟩ : Stock), d, l, (⟨[], (⟨0, 0, 0⟩ : Rack), 0, 0, 0⟩ : Book), money⟩ : Bakery), true)) else none
noncomputable def spec_OpenBakery_v : Nat → List Nat := fun t => match t with | _ => []
noncomputable def spec_OpenBakery_O (k : Nat) : Oracle := ofL [(24, spec_BakeryOk_x k)]
theorem spec_OpenBakery_Ok (k : Nat) : OkO (Ct Try.prog) (spec_OpenBakery_O k) := okO_cons (spec_BakeryOk_ok k) (okO_nil)
noncomputable def spec_OpenBakery_A (grams : (List Int)) (d : Dough) (l : Loaf) (money : Int) : Pk := ⟨[(.sc (.sl 0)), (.ag [(.v (.int .i64 d.Water)), (.v (.int .i64 d.Salt)), (.v (.int .i64 d.Leaven))]), (.ag [(.v (.int .i64 l.Weight)), (.v (.int .i64 l.Loss))]), (.sc (.v (.int .i64 money)))], [(.row false K.ki64 grams)]⟩
noncomputable def spec_OpenBakery_d : Rs → Option (Bakery × Bool)
 | ⟨(.tp [(.ag [(.sl 1), (.v (.int .i64 r2)), (.v (.int .i64 r3)), (.v (.int .i64 r4)), (.v (.int .i64 r5)), (.v (.int .i64 r6)), (.sl 2), (.v (.int .i64 r8)), (.v (.int .i64 r9)), (.v (.int .i64 r10)), (.v (.int .i64 r11)), (.v (.int .i64 r12)), (.v (.int .i64 r13)), (.v (.int .i64 r14))]), (.sc (.v (.bool r15)))]), [.dead, (.row true K.ki64 r1), (.row true K.k_impl_Event r7)]⟩ => some ((⟨(⟨r1⟩ : Stock), (⟨r2, r3, r4⟩ : Dough), (⟨r5, r6⟩ : Loaf), (⟨r7, (⟨r8, r9, r10⟩ : Rack), r11, r12, r13⟩ : Book), r14⟩ : Bakery), r15)
 | _ => none
theorem spec_OpenBakery_i {r : Rs} {y : Bakery × Bool} (h : spec_OpenBakery_d r = some y) : r = ⟨(.tp [(.ag [(.sl 1), (.v (.int .i64 y.1.Dough.Water)), (.v (.int .i64 y.1.Dough.Salt)), (.v (.int .i64 y.1.Dough.Leaven)), (.v (.int .i64 y.1.Loaf.Weight)), (.v (.int .i64 y.1.Loaf.Loss)), (.sl 2), (.v (.int .i64 y.1.Book.Rack.Fresh)), (.v (.int .i64 y.1.Book.Rack.Day)), (.v (.int .i64 y.1.Book.Rack.Old)), (.v (.int .i64 y.1.Book.Baked)), (.v (.int .i64 y.1.Book.Sold)), (.v (.int .i64 y.1.Book.Thrown)), (.v (.int .i64 y.1.Money))]), (.sc (.v (.bool y.2)))]), [.dead, (.row true K.ki64 y.1.Stock.Grams), (.row true K.k_impl_Event y.1.Book.Events)]⟩ := by
 unfold spec_OpenBakery_d at h; split at h
 · cases h; rfl
 · cases h
theorem spec_OpenBakery_e (k : Nat) (grams : (List Int)) (d : Dough) (l : Loaf) (money : Int) : callF env (spec_OpenBakery_O k) spec_OpenBakery_v Try.f32 (k + 1) (spec_OpenBakery_A grams d l money) (fun r => spec_OpenBakery_d (r.fin 1 [])) = spec_OpenBakery k grams d l money := by kernel_rfl
noncomputable def spec_OpenBakery_x (k : Nat) : Ent1 := fun A R Q => match A with
 | ⟨[(.sc (.sl 0)), (.ag [(.v (.int .i64 a2)), (.v (.int .i64 a3)), (.v (.int .i64 a4))]), (.ag [(.v (.int .i64 a5)), (.v (.int .i64 a6))]), (.sc (.v (.int .i64 a7)))], [(.row false K.ki64 a1)]⟩ => (spec_OpenBakery k a1 (⟨a2, a3, a4⟩ : Dough) (⟨a5, a6⟩ : Loaf) a7).bind fun y => Q ⟨(.tp [(.ag [(.sl 1), (.v (.int .i64 y.1.Dough.Water)), (.v (.int .i64 y.1.Dough.Salt)), (.v (.int .i64 y.1.Dough.Leaven)), (.v (.int .i64 y.1.Loaf.Weight)), (.v (.int .i64 y.1.Loaf.Loss)), (.sl 2), (.v (.int .i64 y.1.Book.Rack.Fresh)), (.v (.int .i64 y.1.Book.Rack.Day)), (.v (.int .i64 y.1.Book.Rack.Old)), (.v (.int .i64 y.1.Book.Baked)), (.v (.int .i64 y.1.Book.Sold)), (.v (.int .i64 y.1.Book.Thrown)), (.v (.int .i64 y.1.Money))]), (.sc (.v (.bool y.2)))]), [.dead, (.row true K.ki64 y.1.Stock.Grams), (.row true K.k_impl_Event y.1.Book.Events)]⟩
 | _ => none
theorem spec_OpenBakery_ok (k : Nat) : OkE Try.prog 32 (spec_OpenBakery_x k) := by
 intro A R Q x h
 unfold spec_OpenBakery_x at h
 split at h
 · obtain ⟨y, hy, hK⟩ := Option.bind_eq_some_iff.1 h
   obtain ⟨r, hr, hd⟩ := callF_ok envOk (spec_OpenBakery_Ok k) follows Try.func32 (by kernel_rfl) ((spec_OpenBakery_e k _ _ _ _).trans hy)
   exact ⟨_, spec_OpenBakery_i hd ▸ hr.fin [], hK⟩
 · cases h
/-! ### impl.OpenBakery: function 36 -/
noncomputable def impl_OpenBakery (k : Nat)  (grams : (List Int)) (d : Dough) (l : Loaf) (money : Int) : Option (Bakery × Bool) :=
 (impl_bakeryCopy k (⟨(⟨grams⟩ : Stock), d, l, (⟨[], (⟨0, 0, 0⟩ : Rack), 0, 0, 0⟩ : Book), money⟩ : Bakery)).bind fun y1 =>
 (impl_BakeryOk k y1).bind fun y2 =>
  cond (!y2)
   (some ((⟨(⟨[]⟩ : Stock), (⟨0, 0, 0⟩ : Dough), (⟨0, 0⟩ : Loaf), (⟨[], (⟨0, 0, 0⟩ : Rack), 0, 0, 0⟩ : Book), 0⟩ : Bakery), false))
   (some (y1, true))
noncomputable def impl_OpenBakery_v : Nat → List Nat := fun t => match t with | _ => []
noncomputable def impl_OpenBakery_O (k : Nat) : Oracle := ofL [(26, impl_BakeryOk_x k), (77, impl_bakeryCopy_x k)]
theorem impl_OpenBakery_Ok (k : Nat) : OkO (Ct Try.prog) (impl_OpenBakery_O k) := okO_cons (impl_BakeryOk_ok k) (okO_cons (impl_bakeryCopy_ok k) (okO_nil))
noncomputable def impl_OpenBakery_A (grams : (List Int)) (d : Dough) (l : Loaf) (money : Int) : Pk := ⟨[(.sc (.sl 0)), (.ag [(.v (.int .i64 d.Water)), (.v (.int .i64 d.Salt)), (.v (.int .i64 d.Leaven))]), (.ag [(.v (.int .i64 l.Weight)), (.v (.int .i64 l.Loss))]), (.sc (.v (.int .i64 money)))], [(.row false K.ki64 grams)]⟩
noncomputable def impl_OpenBakery_d : Rs → Option (Bakery × Bool)
 | ⟨(.tp [(.ag [(.sl 1), (.v (.int .i64 r2)), (.v (.int .i64 r3)), (.v (.int .i64 r4)), (.v (.int .i64 r5)), (.v (.int .i64 r6)), (.sl 2), (.v (.int .i64 r8)), (.v (.int .i64 r9)), (.v (.int .i64 r10)), (.v (.int .i64 r11)), (.v (.int .i64 r12)), (.v (.int .i64 r13)), (.v (.int .i64 r14))]), (.sc (.v (.bool r15)))]), [.dead, (.row true K.ki64 r1), (.row true K.k_impl_Event r7)]⟩ => some ((⟨(⟨r1⟩ : Stock), (⟨r2, r3, r4⟩ : Dough), (⟨r5, r6⟩ : Loaf), (⟨r7, (⟨r8, r9, r10⟩ : Rack), r11, r12, r13⟩ : Book), r14⟩ : Bakery), r15)
 | _ => none
theorem impl_OpenBakery_i {r : Rs} {y : Bakery × Bool} (h : impl_OpenBakery_d r = some y) : r = ⟨(.tp [(.ag [(.sl 1), (.v (.int .i64 y.1.Dough.Water)), (.v (.int .i64 y.1.Dough.Salt)), (.v (.int .i64 y.1.Dough.Leaven)), (.v (.int .i64 y.1.Loaf.Weight)), (.v (.int .i64 y.1.Loaf.Loss)), (.sl 2), (.v (.int .i64 y.1.Book.Rack.Fresh)), (.v (.int .i64 y.1.Book.Rack.Day)), (.v (.int .i64 y.1.Book.Rack.Old)), (.v (.int .i64 y.1.Book.Baked)), (.v (.int .i64 y.1.Book.Sold)), (.v (.int .i64 y.1.Book.Thrown)), (.v (.int .i64 y.1.Money))]), (.sc (.v (.bool y.2)))]), [.dead, (.row true K.ki64 y.1.Stock.Grams), (.row true K.k_impl_Event y.1.Book.Events)]⟩ := by
 unfold impl_OpenBakery_d at h; split at h
 · cases h; rfl
 · cases h
theorem impl_OpenBakery_e (k : Nat) (grams : (List Int)) (d : Dough) (l : Loaf) (money : Int) : callF env (impl_OpenBakery_O k) impl_OpenBakery_v Try.f36 (k + 1) (impl_OpenBakery_A grams d l money) (fun r => impl_OpenBakery_d (r.fin 1 [])) = impl_OpenBakery k grams d l money := by kernel_rfl
noncomputable def impl_OpenBakery_x (k : Nat) : Ent1 := fun A R Q => match A with
 | ⟨[(.sc (.sl 0)), (.ag [(.v (.int .i64 a2)), (.v (.int .i64 a3)), (.v (.int .i64 a4))]), (.ag [(.v (.int .i64 a5)), (.v (.int .i64 a6))]), (.sc (.v (.int .i64 a7)))], [(.row false K.ki64 a1)]⟩ => (impl_OpenBakery k a1 (⟨a2, a3, a4⟩ : Dough) (⟨a5, a6⟩ : Loaf) a7).bind fun y => Q ⟨(.tp [(.ag [(.sl 1), (.v (.int .i64 y.1.Dough.Water)), (.v (.int .i64 y.1.Dough.Salt)), (.v (.int .i64 y.1.Dough.Leaven)), (.v (.int .i64 y.1.Loaf.Weight)), (.v (.int .i64 y.1.Loaf.Loss)), (.sl 2), (.v (.int .i64 y.1.Book.Rack.Fresh)), (.v (.int .i64 y.1.Book.Rack.Day)), (.v (.int .i64 y.1.Book.Rack.Old)), (.v (.int .i64 y.1.Book.Baked)), (.v (.int .i64 y.1.Book.Sold)), (.v (.int .i64 y.1.Book.Thrown)), (.v (.int .i64 y.1.Money))]), (.sc (.v (.bool y.2)))]), [.dead, (.row true K.ki64 y.1.Stock.Grams), (.row true K.k_impl_Event y.1.Book.Events)]⟩
 | _ => none
theorem impl_OpenBakery_ok (k : Nat) : OkE Try.prog 36 (impl_OpenBakery_x k) := by
 intro A R Q x h
 unfold impl_OpenBakery_x at h
 split at h
 · obtain ⟨y, hy, hK⟩ := Option.bind_eq_some_iff.1 h
   obtain ⟨r, hr, hd⟩ := callF_ok envOk (impl_OpenBakery_Ok k) follows Try.func36 (by kernel_rfl) ((impl_OpenBakery_e k _ _ _ _).trans hy)
   exact ⟨_, impl_OpenBakery_i hd ▸ hr.fin [], hK⟩
 · cases h
end Go.Proofs.YtonaabffckkdlaaX
