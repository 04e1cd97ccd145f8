/- What functions of the program compute, as functions of numbers and lists, and that they do. (The file is written by wip/x/vxp.py of this repository.) -/
import Derived.Test.YtfbnbdcjnbgibaaDoorF2
namespace Go.Proofs.YtfbnbdcjnbgibaaDoorX
open Go Go.Proofs
set_option linter.unusedVariables false
set_option maxRecDepth 100000
/-! ### laws.eqRack: function 82 -/
noncomputable def laws_eqRack (k : Nat)  (a : Rack) (b : Rack) : Option (Bool) :=
 cond (!(decide ((a.Fresh : Int) = b.Fresh)))
 (some false)
 (cond (!(decide ((a.Day : Int) = b.Day)))
  (some false)
  (cond (!(decide ((a.Old : Int) = b.Old)))
   (some false)
   (some true)))
noncomputable def laws_eqRack_v : Nat → List Nat := fun t => match t with | _ => []
noncomputable def laws_eqRack_O (k : Nat) : Oracle := ofL []
theorem laws_eqRack_Ok (k : Nat) : OkO (Ct Tryd.prog) (laws_eqRack_O k) := okO_nil
noncomputable def laws_eqRack_A (a : Rack) (b : Rack) : Pk := ⟨[(.ag [(.v (.int .i64 a.Fresh)), (.v (.int .i64 a.Day)), (.v (.int .i64 a.Old))]), (.ag [(.v (.int .i64 b.Fresh)), (.v (.int .i64 b.Day)), (.v (.int .i64 b.Old))])], []⟩
noncomputable def laws_eqRack_d : Rs → Option (Bool)
 | ⟨(.a (.sc (.v (.bool r1)))), []⟩ => some r1
 | _ => none
theorem laws_eqRack_i {r : Rs} {y : Bool} (h : laws_eqRack_d r = some y) : r = ⟨(.a (.sc (.v (.bool y)))), []⟩ := by
 unfold laws_eqRack_d at h; split at h
 · cases h; rfl
 · cases h
theorem laws_eqRack_e (k : Nat) (a : Rack) (b : Rack) : callF env (laws_eqRack_O k) laws_eqRack_v Tryd.f82 (k + 1) (laws_eqRack_A a b) (fun r => laws_eqRack_d (r.fin 0 [])) = laws_eqRack k a b := by kernel_rfl
noncomputable def laws_eqRack_x (k : Nat) : Ent1 := fun A R Q => match A with
 | ⟨[(.ag [(.v (.int .i64 a1)), (.v (.int .i64 a2)), (.v (.int .i64 a3))]), (.ag [(.v (.int .i64 a4)), (.v (.int .i64 a5)), (.v (.int .i64 a6))])], []⟩ => (laws_eqRack k (⟨a1, a2, a3⟩ : Rack) (⟨a4, a5, a6⟩ : Rack)).bind fun y => Q ⟨(.a (.sc (.v (.bool y)))), []⟩
 | _ => none
theorem laws_eqRack_ok (k : Nat) : OkE Tryd.prog 82 (laws_eqRack_x k) := by
 intro A R Q x h
 unfold laws_eqRack_x at h
 split at h
 · obtain ⟨y, hy, hK⟩ := Option.bind_eq_some_iff.1 h
   obtain ⟨r, hr, hd⟩ := callF_ok envOk (laws_eqRack_Ok k) follows Tryd.func82 (by kernel_rfl) ((laws_eqRack_e k _ _).trans hy)
   exact ⟨_, laws_eqRack_i hd ▸ hr.fin [], hK⟩
 · cases h
/-! ### laws.eqBook: function 52 -/
noncomputable def laws_eqBook (k : Nat)  (a : Book) (b : Book) : Option (Bool) :=
 (laws_eqEventS k a.Events b.Events).bind fun y1 =>
 cond (!y1)
  (some false)
  ((laws_eqRack k a.Rack b.Rack).bind fun y2 =>
   cond (!y2)
    (some false)
    (cond (!(decide ((a.Baked : Int) = b.Baked)))
     (some false)
     (cond (!(decide ((a.Sold : Int) = b.Sold)))
      (some false)
      (cond (!(decide ((a.Thrown : Int) = b.Thrown)))
       (some false)
       (some true)))))
noncomputable def laws_eqBook_v : Nat → List Nat := fun t => match t with | _ => []
noncomputable def laws_eqBook_O (k : Nat) : Oracle := ofL [(81, laws_eqEventS_x k), (82, laws_eqRack_x k)]
theorem laws_eqBook_Ok (k : Nat) : OkO (Ct Tryd.prog) (laws_eqBook_O k) := okO_cons (laws_eqEventS_ok k) (okO_cons (laws_eqRack_ok k) (okO_nil))
noncomputable def laws_eqBook_A (a : Book) (b : Book) : Pk := ⟨[(.ag [(.sl 0), (.v (.int .i64 a.Rack.Fresh)), (.v (.int .i64 a.Rack.Day)), (.v (.int .i64 a.Rack.Old)), (.v (.int .i64 a.Baked)), (.v (.int .i64 a.Sold)), (.v (.int .i64 a.Thrown))]), (.ag [(.sl 1), (.v (.int .i64 b.Rack.Fresh)), (.v (.int .i64 b.Rack.Day)), (.v (.int .i64 b.Rack.Old)), (.v (.int .i64 b.Baked)), (.v (.int .i64 b.Sold)), (.v (.int .i64 b.Thrown))])], [(.row false K.k_impl_Event a.Events), (.row false K.k_impl_Event b.Events)]⟩
noncomputable def laws_eqBook_d : Rs → Option (Bool)
 | ⟨(.a (.sc (.v (.bool r1)))), [.dead, .dead]⟩ => some r1
 | _ => none
theorem laws_eqBook_i {r : Rs} {y : Bool} (h : laws_eqBook_d r = some y) : r = ⟨(.a (.sc (.v (.bool y)))), [.dead, .dead]⟩ := by
 unfold laws_eqBook_d at h; split at h
 · cases h; rfl
 · cases h
theorem laws_eqBook_e (k : Nat) (a : Book) (b : Book) : callF env (laws_eqBook_O k) laws_eqBook_v Tryd.f52 (k + 1) (laws_eqBook_A a b) (fun r => laws_eqBook_d (r.fin 2 [])) = laws_eqBook k a b := by kernel_rfl
noncomputable def laws_eqBook_x (k : Nat) : Ent1 := fun A R Q => match A with
 | ⟨[(.ag [(.sl 0), (.v (.int .i64 a2)), (.v (.int .i64 a3)), (.v (.int .i64 a4)), (.v (.int .i64 a5)), (.v (.int .i64 a6)), (.v (.int .i64 a7))]), (.ag [(.sl 1), (.v (.int .i64 a9)), (.v (.int .i64 a10)), (.v (.int .i64 a11)), (.v (.int .i64 a12)), (.v (.int .i64 a13)), (.v (.int .i64 a14))])], [(.row false K.k_impl_Event a1), (.row false K.k_impl_Event a8)]⟩ => (laws_eqBook k (⟨a1, (⟨a2, a3, a4⟩ : Rack), a5, a6, a7⟩ : Book) (⟨a8, (⟨a9, a10, a11⟩ : Rack), a12, a13, a14⟩ : Book)).bind fun y => Q ⟨(.a (.sc (.v (.bool y)))), [.dead, .dead]⟩
 | _ => none
theorem laws_eqBook_ok (k : Nat) : OkE Tryd.prog 52 (laws_eqBook_x k) := by
 intro A R Q x h
 unfold laws_eqBook_x at h
 split at h
 · obtain ⟨y, hy, hK⟩ := Option.bind_eq_some_iff.1 h
   obtain ⟨r, hr, hd⟩ := callF_ok envOk (laws_eqBook_Ok k) follows Tryd.func52 (by kernel_rfl) ((laws_eqBook_e k _ _).trans hy)
   exact ⟨_, laws_eqBook_i hd ▸ hr.fin [], hK⟩
 · cases h
/-! ### laws.eqBakery: function 23 -/
noncomputable def laws_eqBakery (k : Nat)  (a : Bakery) (b : Bakery) : Option (Bool) :=
 (laws_eqStock k a.Stock b.Stock).bind fun y1 =>
 cond (!y1)
  (some false)
  ((laws_eqDough k a.Dough b.Dough).bind fun y2 =>
   cond (!y2)
    (some false)
    ((laws_eqLoaf k a.Loaf b.Loaf).bind fun y3 =>
     cond (!y3)
      (some false)
      ((laws_eqBook k a.Book b.Book).bind fun y4 =>
       cond (!y4)
        (some false)
        (cond (!(decide ((a.Money : Int) = b.Money)))
        (some false)
        (some true)))))
noncomputable def laws_eqBakery_v : Nat → List Nat := fun t => match t with | _ => []
noncomputable def laws_eqBakery_O (k : Nat) : Oracle := ofL [(49, laws_eqStock_x k), (50, laws_eqDough_x k), (51, laws_eqLoaf_x k), (52, laws_eqBook_x k)]
theorem laws_eqBakery_Ok (k : Nat) : OkO (Ct Tryd.prog) (laws_eqBakery_O k) := okO_cons (laws_eqStock_ok k) (okO_cons (laws_eqDough_ok k) (okO_cons (laws_eqLoaf_ok k) (okO_cons (laws_eqBook_ok k) (okO_nil))))
noncomputable def laws_eqBakery_A (a : Bakery) (b : Bakery) : Pk := ⟨[(.ag [(.sl 0), (.v (.int .i64 a.Dough.Water)), (.v (.int .i64 a.Dough.Salt)), (.v (.int .i64 a.Dough.Leaven)), (.v (.int .i64 a.Loaf.Weight)), (.v (.int .i64 a.Loaf.Loss)), (.sl 1), (.v (.int .i64 a.Book.Rack.Fresh)), (.v (.int .i64 a.Book.Rack.Day)), (.v (.int .i64 a.Book.Rack.Old)), (.v (.int .i64 a.Book.Baked)), (.v (.int .i64 a.Book.Sold)), (.v (.int .i64 a.Book.Thrown)), (.v (.int .i64 a.Money))]), (.ag [(.sl 2), (.v (.int .i64 b.Dough.Water)), (.v (.int .i64 b.Dough.Salt)), (.v (.int .i64 b.Dough.Leaven)), (.v (.int .i64 b.Loaf.Weight)), (.v (.int .i64 b.Loaf.Loss)), (.sl 3), (.v (.int .i64 b.Book.Rack.Fresh)), (.v (.int .i64 b.Book.Rack.Day)), (.v (.int .i64 b.Book.Rack.Old)), (.v (.int .i64 b.Book.Baked)), (.v (.int .i64 b.Book.Sold)), (.v (.int .i64 b.Book.Thrown)), (.v (.int .i64 b.Money))])], [(.row false K.ki64 a.Stock.Grams), (.row false K.k_impl_Event a.Book.Events), (.row false K.ki64 b.Stock.Grams), (.row false K.k_impl_Event b.Book.Events)]⟩
noncomputable def laws_eqBakery_d : Rs → Option (Bool)
 | ⟨(.a (.sc (.v (.bool r1)))), [.dead, .dead, .dead, .dead]⟩ => some r1
 | _ => none
theorem laws_eqBakery_i {r : Rs} {y : Bool} (h : laws_eqBakery_d r = some y) : r = ⟨(.a (.sc (.v (.bool y)))), [.dead, .dead, .dead, .dead]⟩ := by
 unfold laws_eqBakery_d at h; split at h
 · cases h; rfl
 · cases h
theorem laws_eqBakery_e (k : Nat) (a : Bakery) (b : Bakery) : callF env (laws_eqBakery_O k) laws_eqBakery_v Tryd.f23 (k + 1) (laws_eqBakery_A a b) (fun r => laws_eqBakery_d (r.fin 4 [])) = laws_eqBakery k a b := by kernel_rfl
noncomputable def laws_eqBakery_x (k : Nat) : Ent1 := fun A R Q => match A with
 | ⟨[(.ag [(.sl 0), (.v (.int .i64 a2)), (.v (.int .i64 a3)), (.v (.int .i64 a4)), (.v (.int .i64 a5)), (.v (.int .i64 a6)), (.sl 1), (.v (.int .i64 a8)), (.v (.int .i64 a9)), (.v (.int .i64 a10)), (.v (.int .i64 a11)), (.v (.int .i64 a12)), (.v (.int .i64 a13)), (.v (.int .i64 a14))]), (.ag [(.sl 2), (.v (.int .i64 a16)), (.v (.int .i64 a17)), (.v (.int .i64 a18)), (.v (.int .i64 a19)), (.v (.int .i64 a20)), (.sl 3), (.v (.int .i64 a22)), (.v (.int .i64 a23)), (.v (.int .i64 a24)), (.v (.int .i64 a25)), (.v (.int .i64 a26)), (.v (.int .i64 a27)), (.v (.int .i64 a28))])], [(.row false K.ki64 a1), (.row false K.k_impl_Event a7), (.row false K.ki64 a15), (.row false K.k_impl_Event a21)]⟩ => (laws_eqBakery k (⟨(⟨a1⟩ : Stock), (⟨a2, a3, a4⟩ : Dough), (⟨a5, a6⟩ : Loaf), (⟨a7, (⟨a8, a9, a10⟩ : Rack), a11, a12, a13⟩ : Book), a14⟩ : Bakery) (⟨(⟨a15⟩ : Stock), (⟨a16, a17, a18⟩ : Dough), (⟨a19, a20⟩ : Loaf), (⟨a21, (⟨a22, a23, a24⟩ : Rack), a25, a26, a27⟩ : Book), a28⟩ : Bakery)).bind fun y => Q ⟨(.a (.sc (.v (.bool y)))), [.dead, .dead, .dead, .dead]⟩
 | _ => none
theorem laws_eqBakery_ok (k : Nat) : OkE Tryd.prog 23 (laws_eqBakery_x k) := by
 intro A R Q x h
 unfold laws_eqBakery_x at h
 split at h
 · obtain ⟨y, hy, hK⟩ := Option.bind_eq_some_iff.1 h
   obtain ⟨r, hr, hd⟩ := callF_ok envOk (laws_eqBakery_Ok k) follows Tryd.func23 (by kernel_rfl) ((laws_eqBakery_e k _ _).trans hy)
   exact ⟨_, laws_eqBakery_i hd ▸ hr.fin [], hK⟩
 · cases h
/-! ### laws.markIntS: function 83 -/
noncomputable def laws_markIntS_s0 (k : Nat)  (J : Int → Int → (List Int) → Option (Int × (List Int))) (x0_0 : Int) (x0_1 : Int) (x0_2 : (List Int)) : Option (Int × (List Int)) :=
 cond (decide ((x0_1 : Int) < ((x0_2).length : Int)))
 (if 0 ≤ (x0_1 : Int) ∧ (x0_1 : Int) < ((x0_2).length : Int) then
  J (wr (x0_0 + 1)) (wr (x0_1 + 1)) (x0_2.set (Int.toNat x0_1) x0_0) else none)
 (some (x0_0, x0_2))
noncomputable def laws_markIntS_l0 (k : Nat) : Nat → Int → Int → (List Int) → Option (Int × (List Int))
 | 0, x0_0, x0_1, x0_2 => laws_markIntS_s0 k (fun _ _ _ => none) x0_0 x0_1 x0_2
 | m + 1, x0_0, x0_1, x0_2 => laws_markIntS_s0 k (laws_markIntS_l0 k m) x0_0 x0_1 x0_2
noncomputable def laws_markIntS_m (k : Nat) (J0 : Int → Int → (List Int) → Option (Int × (List Int))) (a : (List Int)) (k_ : Int) : Option (Int × (List Int)) :=
 J0 k_ 0 a
noncomputable def laws_markIntS (k : Nat) (a : (List Int)) (k_ : Int) : Option (Int × (List Int)) := laws_markIntS_m k (laws_markIntS_l0 k k) a k_
noncomputable def laws_markIntS_v : Nat → List Nat := fun t => match t with | 2 => [0, 1, 4, 5] | _ => []
noncomputable def laws_markIntS_O (k : Nat) : Oracle := ofL []
theorem laws_markIntS_Ok (k : Nat) : OkO (Ct Tryd.prog) (laws_markIntS_O k) := okO_nil
noncomputable def laws_markIntS_A (a : (List Int)) (k_ : Int) : Pk := ⟨[(.sc (.sl 0)), (.sc (.v (.int .i64 k_)))], [(.row true K.ki64 a)]⟩
noncomputable def laws_markIntS_d : Rs → Option (Int × (List Int))
 | ⟨(.a (.sc (.v (.int .i64 r1)))), [(.row true K.ki64 r2)]⟩ => some (r1, r2)
 | _ => none
theorem laws_markIntS_i {r : Rs} {y : Int × (List Int)} (h : laws_markIntS_d r = some y) : r = ⟨(.a (.sc (.v (.int .i64 y.1)))), [(.row true K.ki64 y.2)]⟩ := by
 unfold laws_markIntS_d at h; split at h
 · cases h; rfl
 · cases h
noncomputable def laws_markIntS_h0 (k m : Nat) (x0_0 : Int) (x0_1 : Int) (x0_2 : (List Int)) : Option (Int × (List Int)) := hdAt env (laws_markIntS_O k) laws_markIntS_v Tryd.f83 1 (fun r => laws_markIntS_d (r.fin 1 [])) [1, 0, 1, 0] k m ⟨tmF [0, 1, 4, 5] [(.a (.sc (.sl 0))), (.a (.sc (.v (.int .i64 x0_0)))), (.a (.sc (.v (.int .i64 0)))), (.a (.sc (.v (.int .i64 x0_1))))], blF [(.row true K.ki64 x0_2)]⟩
theorem laws_markIntS_z0 (k : Nat) (x0_0 : Int) (x0_1 : Int) (x0_2 : (List Int)) : laws_markIntS_h0 k 0 x0_0 x0_1 x0_2 = laws_markIntS_s0 k (fun _ _ _ => none) x0_0 x0_1 x0_2 := by kernel_rfl
theorem laws_markIntS_g0 (k : Nat) (H : St → Option (Int × (List Int))) (x0_0 : Int) (x0_1 : Int) (x0_2 : (List Int)) : rnd env (laws_markIntS_O k) laws_markIntS_v Tryd.f83 1 (fun r => laws_markIntS_d (r.fin 1 [])) [1, 0, 1, 0] k H ⟨tmF [0, 1, 4, 5] [(.a (.sc (.sl 0))), (.a (.sc (.v (.int .i64 x0_0)))), (.a (.sc (.v (.int .i64 0)))), (.a (.sc (.v (.int .i64 x0_1))))], blF [(.row true K.ki64 x0_2)]⟩ = laws_markIntS_s0 k (fun x0_0 x0_1 x0_2 => H ⟨tmF [0, 1, 4, 5] [(.a (.sc (.sl 0))), (.a (.sc (.v (.int .i64 x0_0)))), (.a (.sc (.v (.int .i64 0)))), (.a (.sc (.v (.int .i64 x0_1))))], blF [(.row true K.ki64 x0_2)]⟩) x0_0 x0_1 x0_2 := by kernel_rfl
theorem laws_markIntS_n0 (k m : Nat) (x0_0 : Int) (x0_1 : Int) (x0_2 : (List Int)) : laws_markIntS_h0 k (m + 1) x0_0 x0_1 x0_2 = laws_markIntS_s0 k (laws_markIntS_h0 k m) x0_0 x0_1 x0_2 := (hdAt_succ _ _ _ _ _ _ _ _ _ _).trans (laws_markIntS_g0 k _ x0_0 x0_1 x0_2)
theorem laws_markIntS_q0 (k : Nat) : ∀ m, laws_markIntS_h0 k m = laws_markIntS_l0 k m := by
 intro m
 induction m with
 | zero => funext x0_0 x0_1 x0_2; rw [laws_markIntS_z0]; rfl
 | succ m ih => funext x0_0 x0_1 x0_2; rw [laws_markIntS_n0, ih]; rfl
theorem laws_markIntS_e (k : Nat) (a : (List Int)) (k_ : Int) : callF env (laws_markIntS_O k) laws_markIntS_v Tryd.f83 (k + 1) (laws_markIntS_A a k_) (fun r => laws_markIntS_d (r.fin 1 [])) = laws_markIntS k a k_ := by
 have e : callF env (laws_markIntS_O k) laws_markIntS_v Tryd.f83 (k + 1) (laws_markIntS_A a k_) (fun r => laws_markIntS_d (r.fin 1 [])) = laws_markIntS_m k (laws_markIntS_h0 k k) a k_ := by kernel_rfl
 rw [e, laws_markIntS_q0]; rfl
noncomputable def laws_markIntS_x (k : Nat) : Ent1 := fun A R Q => match A with
 | ⟨[(.sc (.sl 0)), (.sc (.v (.int .i64 a2)))], [(.row true K.ki64 a1)]⟩ => (laws_markIntS k a1 a2).bind fun y => Q ⟨(.a (.sc (.v (.int .i64 y.1)))), [(.row true K.ki64 y.2)]⟩
 | _ => none
theorem laws_markIntS_ok (k : Nat) : OkE Tryd.prog 83 (laws_markIntS_x k) := by
 intro A R Q x h
 unfold laws_markIntS_x at h
 split at h
 · obtain ⟨y, hy, hK⟩ := Option.bind_eq_some_iff.1 h
   obtain ⟨r, hr, hd⟩ := callF_ok envOk (laws_markIntS_Ok k) follows Tryd.func83 (by kernel_rfl) ((laws_markIntS_e k _ _).trans hy)
   exact ⟨_, laws_markIntS_i hd ▸ hr.fin [], hK⟩
 · cases h
/-! ### laws.markStock: function 53 -/
noncomputable def laws_markStock (k : Nat)  (a : Stock) (k_ : Int) : Option (Int × (List Int)) :=
 (laws_markIntS k a.Grams k_).bind fun y1 =>
 some (y1.1, y1.2)
noncomputable def laws_markStock_v : Nat → List Nat := fun t => match t with | _ => []
noncomputable def laws_markStock_O (k : Nat) : Oracle := ofL [(83, laws_markIntS_x k)]
theorem laws_markStock_Ok (k : Nat) : OkO (Ct Tryd.prog) (laws_markStock_O k) := okO_cons (laws_markIntS_ok k) (okO_nil)
noncomputable def laws_markStock_A (a : Stock) (k_ : Int) : Pk := ⟨[(.ag [(.sl 0)]), (.sc (.v (.int .i64 k_)))], [(.row true K.ki64 a.Grams)]⟩
noncomputable def laws_markStock_d : Rs → Option (Int × (List Int))
 | ⟨(.a (.sc (.v (.int .i64 r1)))), [(.row true K.ki64 r2)]⟩ => some (r1, r2)
 | _ => none
theorem laws_markStock_i {r : Rs} {y : Int × (List Int)} (h : laws_markStock_d r = some y) : r = ⟨(.a (.sc (.v (.int .i64 y.1)))), [(.row true K.ki64 y.2)]⟩ := by
 unfold laws_markStock_d at h; split at h
 · cases h; rfl
 · cases h
theorem laws_markStock_e (k : Nat) (a : Stock) (k_ : Int) : callF env (laws_markStock_O k) laws_markStock_v Tryd.f53 (k + 1) (laws_markStock_A a k_) (fun r => laws_markStock_d (r.fin 1 [])) = laws_markStock k a k_ := by kernel_rfl
noncomputable def laws_markStock_x (k : Nat) : Ent1 := fun A R Q => match A with
 | ⟨[(.ag [(.sl 0)]), (.sc (.v (.int .i64 a2)))], [(.row true K.ki64 a1)]⟩ => (laws_markStock k (⟨a1⟩ : Stock) a2).bind fun y => Q ⟨(.a (.sc (.v (.int .i64 y.1)))), [(.row true K.ki64 y.2)]⟩
 | _ => none
theorem laws_markStock_ok (k : Nat) : OkE Tryd.prog 53 (laws_markStock_x k) := by
 intro A R Q x h
 unfold laws_markStock_x at h
 split at h
 · obtain ⟨y, hy, hK⟩ := Option.bind_eq_some_iff.1 h
   obtain ⟨r, hr, hd⟩ := callF_ok envOk (laws_markStock_Ok k) follows Tryd.func53 (by kernel_rfl) ((laws_markStock_e k _ _).trans hy)
   exact ⟨_, laws_markStock_i hd ▸ hr.fin [], hK⟩
 · cases h
/-! ### laws.markEventS: function 84 -/
noncomputable def laws_markEventS_s0 (k : Nat)  (J : Int → Int → (List Event) → Option (Int × (List Event))) (x0_0 : Int) (x0_1 : Int) (x0_2 : (List Event)) : Option (Int × (List Event)) :=
 cond (decide ((x0_1 : Int) < ((x0_2).length : Int)))
 (if 0 ≤ (x0_1 : Int) ∧ (x0_1 : Int) < ((x0_2).length : Int) then
  if 0 ≤ (x0_1 : Int) ∧ (x0_1 : Int) < (((x0_2.set (Int.toNat x0_1) (⟨x0_0, (x0_2.getD (Int.toNat x0_1) dk_impl_Event).Loaves⟩ : Event))).length : Int) then
   J (wr ((wr (x0_0 + 1)) + 1)) (wr (x0_1 + 1)) ((x0_2.set (Int.toNat x0_1) (⟨x0_0, (x0_2.getD (Int.toNat x0_1) dk_impl_Event).Loaves⟩ : Event)).set (Int.toNat x0_1) (⟨((x0_2.set (Int.toNat x0_1) (⟨x0_0, (x0_2.getD (Int.toNat x0_1) dk_impl_Event).Loaves⟩ : Event)).getD (Int.toNat x0_1) dk_impl_Event).Kind, (wr (x0_0 + 1))⟩ : Event)) else none else none)
 (some (x0_0, x0_2))
noncomputable def laws_markEventS_l0 (k : Nat) : Nat → Int → Int → (List Event) → Option (Int × (List Event))
 | 0, x0_0, x0_1, x0_2 => laws_markEventS_s0 k (fun _ _ _ => none) x0_0 x0_1 x0_2
 | m + 1, x0_0, x0_1, x0_2 => laws_markEventS_s0 k (laws_markEventS_l0 k m) x0_0 x0_1 x0_2
noncomputable def laws_markEventS_m (k : Nat) (J0 : Int → Int → (List Event) → Option (Int × (List Event))) (a : (List Event)) (k_ : Int) : Option (Int × (List Event)) :=
 J0 k_ 0 a
noncomputable def laws_markEventS (k : Nat) (a : (List Event)) (k_ : Int) : Option (Int × (List Event)) := laws_markEventS_m k (laws_markEventS_l0 k k) a k_
noncomputable def laws_markEventS_v : Nat → List Nat := fun t => match t with | 2 => [0, 1, 4, 5] | _ => []
noncomputable def laws_markEventS_O (k : Nat) : Oracle := ofL []
theorem laws_markEventS_Ok (k : Nat) : OkO (Ct Tryd.prog) (laws_markEventS_O k) := okO_nil
noncomputable def laws_markEventS_A (a : (List Event)) (k_ : Int) : Pk := ⟨[(.sc (.sl 0)), (.sc (.v (.int .i64 k_)))], [(.row true K.k_impl_Event a)]⟩
noncomputable def laws_markEventS_d : Rs → Option (Int × (List Event))
 | ⟨(.a (.sc (.v (.int .i64 r1)))), [(.row true K.k_impl_Event r2)]⟩ => some (r1, r2)
 | _ => none
theorem laws_markEventS_i {r : Rs} {y : Int × (List Event)} (h : laws_markEventS_d r = some y) : r = ⟨(.a (.sc (.v (.int .i64 y.1)))), [(.row true K.k_impl_Event y.2)]⟩ := by
 unfold laws_markEventS_d at h; split at h
 · cases h; rfl
 · cases h
noncomputable def laws_markEventS_h0 (k m : Nat) (x0_0 : Int) (x0_1 : Int) (x0_2 : (List Event)) : Option (Int × (List Event)) := hdAt env (laws_markEventS_O k) laws_markEventS_v Tryd.f84 1 (fun r => laws_markEventS_d (r.fin 1 [])) [1, 0, 1, 0] k m ⟨tmF [0, 1, 4, 5] [(.a (.sc (.sl 0))), (.a (.sc (.v (.int .i64 x0_0)))), (.a (.sc (.v (.int .i64 0)))), (.a (.sc (.v (.int .i64 x0_1))))], blF [(.row true K.k_impl_Event x0_2)]⟩
theorem laws_markEventS_z0 (k : Nat) (x0_0 : Int) (x0_1 : Int) (x0_2 : (List Event)) : laws_markEventS_h0 k 0 x0_0 x0_1 x0_2 = laws_markEventS_s0 k (fun _ _ _ => none) x0_0 x0_1 x0_2 := by kernel_rfl
theorem laws_markEventS_g0 (k : Nat) (H : St → Option (Int × (List Event))) (x0_0 : Int) (x0_1 : Int) (x0_2 : (List Event)) : rnd env (laws_markEventS_O k) laws_markEventS_v Tryd.f84 1 (fun r => laws_markEventS_d (r.fin 1 [])) [1, 0, 1, 0] k H ⟨tmF [0, 1, 4, 5] [(.a (.sc (.sl 0))), (.a (.sc (.v (.int .i64 x0_0)))), (.a (.sc (.v (.int .i64 0)))), (.a (.sc (.v (.int .i64 x0_1))))], blF [(.row true K.k_impl_Event x0_2)]⟩ = laws_markEventS_s0 k (fun x0_0 x0_1 x0_2 => H ⟨tmF [0, 1, 4, 5] [(.a (.sc (.sl 0))), (.a (.sc (.v (.int .i64 x0_0)))), (.a (.sc (.v (.int .i64 0)))), (.a (.sc (.v (.int .i64 x0_1))))], blF [(.row true K.k_impl_Event x0_2)]⟩) x0_0 x0_1 x0_2 := by kernel_rfl
theorem laws_markEventS_n0 (k m : Nat) (x0_0 : Int) (x0_1 : Int) (x0_2 : (List Event)) : laws_markEventS_h0 k (m + 1) x0_0 x0_1 x0_2 = laws_markEventS_s0 k (laws_markEventS_h0 k m) x0_0 x0_1 x0_2 := (hdAt_succ _ _ _ _ _ _ _ _ _ _).trans (laws_markEventS_g0 k _ x0_0 x0_1 x0_2)
theorem laws_markEventS_q0 (k : Nat) : ∀ m, laws_markEventS_h0 k m = laws_markEventS_l0 k m := by
 intro m
 induction m with
 | zero => funext x0_0 x0_1 x0_2; rw [laws_markEventS_z0]; rfl
 | succ m ih => funext x0_0 x0_1 x0_2; rw [laws_markEventS_n0, ih]; rfl
theorem laws_markEventS_e (k : Nat) (a : (List Event)) (k_ : Int) : callF env (laws_markEventS_O k) laws_markEventS_v Tryd.f84 (k + 1) (laws_markEventS_A a k_) (fun r => laws_markEventS_d (r.fin 1 [])) = laws_markEventS k a k_ := by
 have e : callF env (laws_markEventS_O k) laws_markEventS_v Tryd.f84 (k + 1) (laws_markEventS_A a k_) (fun r => laws_markEventS_d (r.fin 1 [])) = laws_markEventS_m k (laws_markEventS_h0 k k) a k_ := by kernel_rfl
 rw [e, laws_markEventS_q0]; rfl
noncomputable def laws_markEventS_x (k : Nat) : Ent1 := fun A R Q => match A with
 | ⟨[(.sc (.sl 0)), (.sc (.v (.int .i64 a2)))], [(.row true K.k_impl_Event a1)]⟩ => (laws_markEventS k a1 a2).bind fun y => Q ⟨(.a (.sc (.v (.int .i64 y.1)))), [(.row true K.k_impl_Event y.2)]⟩
 | _ => none
theorem laws_markEventS_ok (k : Nat) : OkE Tryd.prog 84 (laws_markEventS_x k) := by
 intro A R Q x h
 unfold laws_markEventS_x at h
 split at h
 · obtain ⟨y, hy, hK⟩ := Option.bind_eq_some_iff.1 h
   obtain ⟨r, hr, hd⟩ := callF_ok envOk (laws_markEventS_Ok k) follows Tryd.func84 (by kernel_rfl) ((laws_markEventS_e k _ _).trans hy)
   exact ⟨_, laws_markEventS_i hd ▸ hr.fin [], hK⟩
 · cases h
/-! ### laws.markBook: function 54 -/
noncomputable def laws_markBook (k : Nat)  (a : Book) (k_ : Int) : Option (Int × (List Event)) :=
 (laws_markEventS k a.Events k_).bind fun y1 =>
 some (y1.1, y1.2)
noncomputable def laws_markBook_v : Nat → List Nat := fun t => match t with | _ => []
noncomputable def laws_markBook_O (k : Nat) : Oracle := ofL [(84, laws_markEventS_x k)]
theorem laws_markBook_Ok (k : Nat) : OkO (Ct Tryd.prog) (laws_markBook_O k) := okO_cons (laws_markEventS_ok k) (okO_nil)
noncomputable def laws_markBook_A (a : Book) (k_ : Int) : Pk := ⟨[(.ag [(.sl 0), (.v (.int .i64 a.Rack.Fresh)), (.v (.int .i64 a.Rack.Day)), (.v (.int .i64 a.Rack.Old)), (.v (.int .i64 a.Baked)), (.v (.int .i64 a.Sold)), (.v (.int .i64 a.Thrown))]), (.sc (.v (.int .i64 k_)))], [(.row true K.k_impl_Event a.Events)]⟩
noncomputable def laws_markBook_d : Rs → Option (Int × (List Event))
 | ⟨(.a (.sc (.v (.int .i64 r1)))), [(.row true K.k_impl_Event r2)]⟩ => some (r1, r2)
 | _ => none
theorem laws_markBook_i {r : Rs} {y : Int × (List Event)} (h : laws_markBook_d r = some y) : r = ⟨(.a (.sc (.v (.int .i64 y.1)))), [(.row true K.k_impl_Event y.2)]⟩ := by
 unfold laws_markBook_d at h; split at h
 · cases h; rfl
 · cases h
theorem laws_markBook_e (k : Nat) (a : Book) (k_ : Int) : callF env (laws_markBook_O k) laws_markBook_v Tryd.f54 (k + 1) (laws_markBook_A a k_) (fun r => laws_markBook_d (r.fin 1 [])) = laws_markBook k a k_ := by kernel_rfl
noncomputable def laws_markBook_x (k : Nat) : Ent1 := fun A R Q => match A with
 | ⟨[(.ag [(.sl 0), (.v (.int .i64 a2)), (.v (.int .i64 a3)), (.v (.int .i64 a4)), (.v (.int .i64 a5)), (.v (.int .i64 a6)), (.v (.int .i64 a7))]), (.sc (.v (.int .i64 a8)))], [(.row true K.k_impl_Event a1)]⟩ => (laws_markBook k (⟨a1, (⟨a2, a3, a4⟩ : Rack), a5, a6, a7⟩ : Book) a8).bind fun y => Q ⟨(.a (.sc (.v (.int .i64 y.1)))), [(.row true K.k_impl_Event y.2)]⟩
 | _ => none
theorem laws_markBook_ok (k : Nat) : OkE Tryd.prog 54 (laws_markBook_x k) := by
 intro A R Q x h
 unfold laws_markBook_x at h
 split at h
 · obtain ⟨y, hy, hK⟩ := Option.bind_eq_some_iff.1 h
   obtain ⟨r, hr, hd⟩ := callF_ok envOk (laws_markBook_Ok k) follows Tryd.func54 (by kernel_rfl) ((laws_markBook_e k _ _).trans hy)
   exact ⟨_, laws_markBook_i hd ▸ hr.fin [], hK⟩
 · cases h
/-! ### laws.markBakery: function 24 -/
noncomputable def laws_markBakery (k : Nat)  (a : Bakery) (k_ : Int) : Option (Int × (List Int) × (List Event)) :=
 (laws_markStock k a.Stock k_).bind fun y1 =>
 (laws_markBook k a.Book y1.1).bind fun y2 =>
  some (y2.1, y1.2, y2.2)
noncomputable def laws_markBakery_v : Nat → List Nat := fun t => match t with | _ => []
noncomputable def laws_markBakery_O (k : Nat) : Oracle := ofL [(53, laws_markStock_x k), (54, laws_markBook_x k)]
theorem laws_markBakery_Ok (k : Nat) : OkO (Ct Tryd.prog) (laws_markBakery_O k) := okO_cons (laws_markStock_ok k) (okO_cons (laws_markBook_ok k) (okO_nil))
noncomputable def laws_markBakery_A (a : Bakery) (k_ : Int) : Pk := ⟨[(.ag [(.sl 0), (.v (.int .i64 a.Dough.Water)), (.v (.int .i64 a.Dough.Salt)), (.v (.int .i64 a.Dough.Leaven)), (.v (.int .i64 a.Loaf.Weight)), (.v (.int .i64 a.Loaf.Loss)), (.sl 1), (.v (.int .i64 a.Book.Rack.Fresh)), (.v (.int .i64 a.Book.Rack.Day)), (.v (.int .i64 a.Book.Rack.Old)), (.v (.int .i64 a.Book.Baked)), (.v (.int .i64 a.Book.Sold)), (.v (.int .i64 a.Book.Thrown)), (.v (.int .i64 a.Money))]), (.sc (.v (.int .i64 k_)))], [(.row true K.ki64 a.Stock.Grams), (.row true K.k_impl_Event a.Book.Events)]⟩
noncomputable def laws_markBakery_d : Rs → Option (Int × (List Int) × (List Event))
 | ⟨(.a (.sc (.v (.int .i64 r1)))), [(.row true K.ki64 r2), (.row true K.k_impl_Event r3)]⟩ => some (r1, r2, r3)
 | _ => none
theorem laws_markBakery_i {r : Rs} {y : Int × (List Int) × (List Event)} (h : laws_markBakery_d r = some y) : r = ⟨(.a (.sc (.v (.int .i64 y.1)))), [(.row true K.ki64 y.2.1), (.row true K.k_impl_Event y.2.2)]⟩ := by
 unfold laws_markBakery_d at h; split at h
 · cases h; rfl
 · cases h
theorem laws_markBakery_e (k : Nat) (a : Bakery) (k_ : Int) : callF env (laws_markBakery_O k) laws_markBakery_v Tryd.f24 (k + 1) (laws_markBakery_A a k_) (fun r => laws_markBakery_d (r.fin 2 [])) = laws_markBakery k a k_ := by kernel_rfl
noncomputable def laws_markBakery_x (k : Nat) : Ent1 := fun A R Q => match A with
 | ⟨[(.ag [(.sl 0), (.v (.int .i64 a2)), (.v (.int .i64 a3)), (.v (.int .i64 a4)), (.v (.int .i64 a5)), (.v (.int .i64 a6)), (.sl 1), (.v (.int .i64 a8)), (.v (.int .i64 a9)), (.v (.int .i64 a10)), (.v (.int .i64 a11)), (.v (.int .i64 a12)), (.v (.int .i64 a13)), (.v (.int .i64 a14))]), (.sc (.v (.int .i64 a15)))], [(.row true K.ki64 a1), (.row true K.k_impl_Event a7)]⟩ => (laws_markBakery k (⟨(⟨a1⟩ : Stock), (⟨a2, a3, a4⟩ : Dough), (⟨a5, a6⟩ : Loaf), (⟨a7, (⟨a8, a9, a10⟩ : Rack), a11, a12, a13⟩ : Book), a14⟩ : Bakery) a15).bind fun y => Q ⟨(.a (.sc (.v (.int .i64 y.1)))), [(.row true K.ki64 y.2.1), (.row true K.k_impl_Event y.2.2)]⟩
 | _ => none
theorem laws_markBakery_ok (k : Nat) : OkE Tryd.prog 24 (laws_markBakery_x k) := by
 intro A R Q x h
 unfold laws_markBakery_x at h
 split at h
 · obtain ⟨y, hy, hK⟩ := Option.bind_eq_some_iff.1 h
   obtain ⟨r, hr, hd⟩ := callF_ok envOk (laws_markBakery_Ok k) follows Tryd.func24 (by kernel_rfl) ((laws_markBakery_e k _ _).trans hy)
   exact ⟨_, laws_markBakery_i hd ▸ hr.fin [], hK⟩
 · cases h
/-! ### laws.markText: function 55 -/
noncomputable def laws_markText_s0 (k : Nat)  (J : Int → ByteArray → Option (ByteArray)) (x0_0 : Int) (x0_1 : ByteArray) : Option (ByteArray) :=
 cond (decide ((0 : Int) < x0_0))
 (if (10 : Int) ≠ 0 then
  if ((strOf ([(IntKind.u8.wrap ((wr ((48 : Int) + (Int.tmod x0_0 10)))))]))).size + (x0_1).size ≤ 9223372036854775807 then
   if (10 : Int) ≠ 0 then
    J (wr (Int.tdiv x0_0 10)) ((strOf ([(IntKind.u8.wrap ((wr ((48 : Int) + (Int.tmod x0_0 10)))))])) ++ x0_1) else none else none else none)
 (if ((ByteArray.mk #[109])).size + (x0_1).size ≤ 9223372036854775807 then
  some ((ByteArray.mk #[109]) ++ x0_1) else none)
noncomputable def laws_markText_l0 (k : Nat) : Nat → Int → ByteArray → Option (ByteArray)
 | 0, x0_0, x0_1 => laws_markText_s0 k (fun _ _ => none) x0_0 x0_1
 | m + 1, x0_0, x0_1 => laws_markText_s0 k (laws_markText_l0 k m) x0_0 x0_1
noncomputable def laws_markText_m (k : Nat) (J0 : Int → ByteArray → Option (ByteArray)) (k_ : Int) : Option (ByteArray) :=
 cond (decide ((k_ : Int) ≤ 0))
 (some (ByteArray.mk #[109, 48]))
 (J0 k_ (ByteArray.mk #[]))
noncomputable def laws_markText (k : Nat) (k_ : Int) : Option (ByteArray) := laws_markText_m k (laws_markText_l0 k k) k_
noncomputable def laws_markText_v : Nat → List Nat := fun t => match t with | 4 => [0, 2, 3] | _ => []
noncomputable def laws_markText_O (k : Nat) : Oracle := ofL []
theorem laws_markText_Ok (k : Nat) : OkO (Ct Tryd.prog) (laws_markText_O k) := okO_nil
noncomputable def laws_markText_A (k_ : Int) : Pk := ⟨[(.sc (.v (.int .i64 k_)))], []⟩
noncomputable def laws_markText_d : Rs → Option (ByteArray)
 | ⟨(.a (.sc (.v (.string r1)))), []⟩ => some r1
 | _ => none
theorem laws_markText_i {r : Rs} {y : ByteArray} (h : laws_markText_d r = some y) : r = ⟨(.a (.sc (.v (.string y)))), []⟩ := by
 unfold laws_markText_d at h; split at h
 · cases h; rfl
 · cases h
noncomputable def laws_markText_h0 (k m : Nat) (x0_0 : Int) (x0_1 : ByteArray) : Option (ByteArray) := hdAt env (laws_markText_O k) laws_markText_v Tryd.f55 0 (fun r => laws_markText_d (r.fin 0 [])) [1, 1, 1, 0, 0] k m ⟨tmF [0, 2, 3] [(.a (.sc (.v (.int .i64 x0_0)))), (.a (.sc (.v (.string (ByteArray.mk #[]))))), (.a (.sc (.v (.string x0_1))))], blF []⟩
theorem laws_markText_z0 (k : Nat) (x0_0 : Int) (x0_1 : ByteArray) : laws_markText_h0 k 0 x0_0 x0_1 = laws_markText_s0 k (fun _ _ => none) x0_0 x0_1 := by kernel_rfl
theorem laws_markText_g0 (k : Nat) (H : St → Option (ByteArray)) (x0_0 : Int) (x0_1 : ByteArray) : rnd env (laws_markText_O k) laws_markText_v Tryd.f55 0 (fun r => laws_markText_d (r.fin 0 [])) [1, 1, 1, 0, 0] k H ⟨tmF [0, 2, 3] [(.a (.sc (.v (.int .i64 x0_0)))), (.a (.sc (.v (.string (ByteArray.mk #[]))))), (.a (.sc (.v (.string x0_1))))], blF []⟩ = laws_markText_s0 k (fun x0_0 x0_1 => H ⟨tmF [0, 2, 3] [(.a (.sc (.v (.int .i64 x0_0)))), (.a (.sc (.v (.string (ByteArray.mk #[]))))), (.a (.sc (.v (.string x0_1))))], blF []⟩) x0_0 x0_1 := by kernel_rfl
theorem laws_markText_n0 (k m : Nat) (x0_0 : Int) (x0_1 : ByteArray) : laws_markText_h0 k (m + 1) x0_0 x0_1 = laws_markText_s0 k (laws_markText_h0 k m) x0_0 x0_1 := (hdAt_succ _ _ _ _ _ _ _ _ _ _).trans (laws_markText_g0 k _ x0_0 x0_1)
theorem laws_markText_q0 (k : Nat) : ∀ m, laws_markText_h0 k m = laws_markText_l0 k m := by
 intro m
 induction m with
 | zero => funext x0_0 x0_1; rw [laws_markText_z0]; rfl
 | succ m ih => funext x0_0 x0_1; rw [laws_markText_n0, ih]; rfl
theorem laws_markText_e (k : Nat) (k_ : Int) : callF env (laws_markText_O k) laws_markText_v Tryd.f55 (k + 1) (laws_markText_A k_) (fun r => laws_markText_d (r.fin 0 [])) = laws_markText k k_ := by
 have e : callF env (laws_markText_O k) laws_markText_v Tryd.f55 (k + 1) (laws_markText_A k_) (fun r => laws_markText_d (r.fin 0 [])) = laws_markText_m k (laws_markText_h0 k k) k_ := by kernel_rfl
 rw [e, laws_markText_q0]; rfl
noncomputable def laws_markText_x (k : Nat) : Ent1 := fun A R Q => match A with
 | ⟨[(.sc (.v (.int .i64 a1)))], []⟩ => (laws_markText k a1).bind fun y => Q ⟨(.a (.sc (.v (.string y)))), []⟩
 | _ => none
theorem laws_markText_ok (k : Nat) : OkE Tryd.prog 55 (laws_markText_x k) := by
 intro A R Q x h
 unfold laws_markText_x at h
 split at h
 · obtain ⟨y, hy, hK⟩ := Option.bind_eq_some_iff.1 h
   obtain ⟨r, hr, hd⟩ := callF_ok envOk (laws_markText_Ok k) follows Tryd.func55 (by kernel_rfl) ((laws_markText_e k _).trans hy)
   exact ⟨_, laws_markText_i hd ▸ hr.fin [], hK⟩
 · cases h
/-! ### laws.markStringS: function 25 -/
noncomputable def laws_markStringS_s0 (k : Nat)  (J : Int → Int → (List ByteArray) → Option (Int × (List ByteArray))) (x0_0 : Int) (x0_1 : Int) (x0_2 : (List ByteArray)) : Option (Int × (List ByteArray)) :=
 cond (decide ((x0_1 : Int) < ((x0_2).length : Int)))
 ((laws_markText k x0_0).bind fun y2 =>
  if 0 ≤ (x0_1 : Int) ∧ (x0_1 : Int) < ((x0_2).length : Int) then
   J (wr (x0_0 + 1)) (wr (x0_1 + 1)) (x0_2.set (Int.toNat x0_1) y2) else none)
 (some (x0_0, x0_2))
noncomputable def laws_markStringS_l0 (k : Nat) : Nat → Int → Int → (List ByteArray) → Option (Int × (List ByteArray))
 | 0, x0_0, x0_1, x0_2 => laws_markStringS_s0 k (fun _ _ _ => none) x0_0 x0_1 x0_2
 | m + 1, x0_0, x0_1, x0_2 => laws_markStringS_s0 k (laws_markStringS_l0 k m) x0_0 x0_1 x0_2
noncomputable def laws_markStringS_m (k : Nat) (J0 : Int → Int → (List ByteArray) → Option (Int × (List ByteArray))) (a : (List ByteArray)) (k_ : Int) : Option (Int × (List ByteArray)) :=
 J0 k_ 0 a
noncomputable def laws_markStringS (k : Nat) (a : (List ByteArray)) (k_ : Int) : Option (Int × (List ByteArray)) := laws_markStringS_m k (laws_markStringS_l0 k k) a k_
noncomputable def laws_markStringS_v : Nat → List Nat := fun t => match t with | 2 => [0, 1, 4, 5] | _ => []
noncomputable def laws_markStringS_O (k : Nat) : Oracle := ofL [(55, laws_markText_x k)]
theorem laws_markStringS_Ok (k : Nat) : OkO (Ct Tryd.prog) (laws_markStringS_O k) := okO_cons (laws_markText_ok k) (okO_nil)
noncomputable def laws_markStringS_A (a : (List ByteArray)) (k_ : Int) : Pk := ⟨[(.sc (.sl 0)), (.sc (.v (.int .i64 k_)))], [(.row true K.kstr a)]⟩
noncomputable def laws_markStringS_d : Rs → Option (Int × (List ByteArray))
 | ⟨(.a (.sc (.v (.int .i64 r1)))), [(.row true K.kstr r2)]⟩ => some (r1, r2)
 | _ => none
theorem laws_markStringS_i {r : Rs} {y : Int × (List ByteArray)} (h : laws_markStringS_d r = some y) : r = ⟨(.a (.sc (.v (.int .i64 y.1)))), [(.row true K.kstr y.2)]⟩ := by
 unfold laws_markStringS_d at h; split at h
 · cases h; rfl
 · cases h
noncomputable def laws_markStringS_h0 (k m : Nat) (x0_0 : Int) (x0_1 : Int) (x0_2 : (List ByteArray)) : Option (Int × (List ByteArray)) := hdAt env (laws_markStringS_O k) laws_markStringS_v Tryd.f25 1 (fun r => laws_markStringS_d (r.fin 1 [])) [1, 0, 1, 0] k m ⟨tmF [0, 1, 4, 5] [(.a (.sc (.sl 0))), (.a (.sc (.v (.int .i64 x0_0)))), (.a (.sc (.v (.int .i64 0)))), (.a (.sc (.v (.int .i64 x0_1))))], blF [(.row true K.kstr x0_2)]⟩
theorem laws_markStringS_z0 (k : Nat) (x0_0 : Int) (x0_1 : Int) (x0_2 : (List ByteArray)) : laws_markStringS_h0 k 0 x0_0 x0_1 x0_2 = laws_markStringS_s0 k (fun _ _ _ => none) x0_0 x0_1 x0_2 := by kernel_rfl
theorem laws_markStringS_g0 (k : Nat) (H : St → Option (Int × (List ByteArray))) (x0_0 : Int) (x0_1 : Int) (x0_2 : (List ByteArray)) : rnd env (laws_markStringS_O k) laws_markStringS_v Tryd.f25 1 (fun r => laws_markStringS_d (r.fin 1 [])) [1, 0, 1, 0] k H ⟨tmF [0, 1, 4, 5] [(.a (.sc (.sl 0))), (.a (.sc (.v (.int .i64 x0_0)))), (.a (.sc (.v (.int .i64 0)))), (.a (.sc (.v (.int .i64 x0_1))))], blF [(.row true K.kstr x0_2)]⟩ = laws_markStringS_s0 k (fun x0_0 x0_1 x0_2 => H ⟨tmF [0, 1, 4, 5] [(.a (.sc (.sl 0))), (.a (.sc (.v (.int .i64 x0_0)))), (.a (.sc (.v (.int .i64 0)))), (.a (.sc (.v (.int .i64 x0_1))))], blF [(.row true K.kstr x0_2)]⟩) x0_0 x0_1 x0_2 := by kernel_rfl
theorem laws_markStringS_n0 (k m : Nat) (x0_0 : Int) (x0_1 : Int) (x0_2 : (List ByteArray)) : laws_markStringS_h0 k (m + 1) x0_0 x0_1 x0_2 = laws_markStringS_s0 k (laws_markStringS_h0 k m) x0_0 x0_1 x0_2 := (hdAt_succ _ _ _ _ _ _ _ _ _ _).trans (laws_markStringS_g0 k _ x0_0 x0_1 x0_2)
theorem laws_markStringS_q0 (k : Nat) : ∀ m, laws_markStringS_h0 k m = laws_markStringS_l0 k m := by
 intro m
 induction m with
 | zero => funext x0_0 x0_1 x0_2; rw [laws_markStringS_z0]; rfl
 | succ m ih => funext x0_0 x0_1 x0_2; rw [laws_markStringS_n0, ih]; rfl
theorem laws_markStringS_e (k : Nat) (a : (List ByteArray)) (k_ : Int) : callF env (laws_markStringS_O k) laws_markStringS_v Tryd.f25 (k + 1) (laws_markStringS_A a k_) (fun r => laws_markStringS_d (r.fin 1 [])) = laws_markStringS k a k_ := by
 have e : callF env (laws_markStringS_O k) laws_markStringS_v Tryd.f25 (k + 1) (laws_markStringS_A a k_) (fun r => laws_markStringS_d (r.fin 1 [])) = laws_markStringS_m k (laws_markStringS_h0 k k) a k_ := by kernel_rfl
 rw [e, laws_markStringS_q0]; rfl
noncomputable def laws_markStringS_x (k : Nat) : Ent1 := fun A R Q => match A with
 | ⟨[(.sc (.sl 0)), (.sc (.v (.int .i64 a2)))], [(.row true K.kstr a1)]⟩ => (laws_markStringS k a1 a2).bind fun y => Q ⟨(.a (.sc (.v (.int .i64 y.1)))), [(.row true K.kstr y.2)]⟩
 | _ => none
theorem laws_markStringS_ok (k : Nat) : OkE Tryd.prog 25 (laws_markStringS_x k) := by
 intro A R Q x h
 unfold laws_markStringS_x at h
 split at h
 · obtain ⟨y, hy, hK⟩ := Option.bind_eq_some_iff.1 h
   obtain ⟨r, hr, hd⟩ := callF_ok envOk (laws_markStringS_Ok k) follows Tryd.func25 (by kernel_rfl) ((laws_markStringS_e k _ _).trans hy)
   exact ⟨_, laws_markStringS_i hd ▸ hr.fin [], hK⟩
 · cases h
/-! ### laws.heldStringS: function 26 -/
noncomputable def laws_heldStringS_s0 (k : Nat)  (a : (List ByteArray)) (J : Int → Int → Option (Int)) (x0_0 : Int) (x0_1 : Int) : Option (Int) :=
 cond (decide ((x0_1 : Int) < ((a).length : Int)))
 (if 0 ≤ (x0_1 : Int) ∧ (x0_1 : Int) < ((a).length : Int) then
  (laws_markText k x0_0).bind fun y2 =>
   cond (!(decide (((a.getD (Int.toNat x0_1) (ByteArray.mk #[])) : ByteArray) = y2)))
    (some (-1))
    (J (wr (x0_0 + 1)) (wr (x0_1 + 1))) else none)
 (some x0_0)
noncomputable def laws_heldStringS_l0 (k : Nat) : Nat → (List ByteArray) → Int → Int → Option (Int)
 | 0, a, x0_0, x0_1 => laws_heldStringS_s0 k a (fun _ _ => none) x0_0 x0_1
 | m + 1, a, x0_0, x0_1 => laws_heldStringS_s0 k a (laws_heldStringS_l0 k m a) x0_0 x0_1
noncomputable def laws_heldStringS_m (k : Nat) (J0 : (List ByteArray) → Int → Int → Option (Int)) (a : (List ByteArray)) (k_ : Int) : Option (Int) :=
 J0 a k_ 0
noncomputable def laws_heldStringS (k : Nat) (a : (List ByteArray)) (k_ : Int) : Option (Int) := laws_heldStringS_m k (laws_heldStringS_l0 k k) a k_
noncomputable def laws_heldStringS_v : Nat → List Nat := fun t => match t with | 2 => [0, 1, 4, 5] | _ => []
noncomputable def laws_heldStringS_O (k : Nat) : Oracle := ofL [(55, laws_markText_x k)]
theorem laws_heldStringS_Ok (k : Nat) : OkO (Ct Tryd.prog) (laws_heldStringS_O k) := okO_cons (laws_markText_ok k) (okO_nil)
noncomputable def laws_heldStringS_A (a : (List ByteArray)) (k_ : Int) : Pk := ⟨[(.sc (.sl 0)), (.sc (.v (.int .i64 k_)))], [(.row false K.kstr a)]⟩
noncomputable def laws_heldStringS_d : Rs → Option (Int)
 | ⟨(.a (.sc (.v (.int .i64 r1)))), [.dead]⟩ => some r1
 | _ => none
theorem laws_heldStringS_i {r : Rs} {y : Int} (h : laws_heldStringS_d r = some y) : r = ⟨(.a (.sc (.v (.int .i64 y)))), [.dead]⟩ := by
 unfold laws_heldStringS_d at h; split at h
 · cases h; rfl
 · cases h
noncomputable def laws_heldStringS_h0 (k m : Nat) (a : (List ByteArray)) (x0_0 : Int) (x0_1 : Int) : Option (Int) := hdAt env (laws_heldStringS_O k) laws_heldStringS_v Tryd.f26 1 (fun r => laws_heldStringS_d (r.fin 1 [])) [1, 0, 1, 0] k m ⟨tmF [0, 1, 4, 5] [(.a (.sc (.sl 0))), (.a (.sc (.v (.int .i64 x0_0)))), (.a (.sc (.v (.int .i64 0)))), (.a (.sc (.v (.int .i64 x0_1))))], blF [(.row false K.kstr a)]⟩
theorem laws_heldStringS_z0 (k : Nat) (a : (List ByteArray)) (x0_0 : Int) (x0_1 : Int) : laws_heldStringS_h0 k 0 a x0_0 x0_1 = laws_heldStringS_s0 k a (fun _ _ => none) x0_0 x0_1 := by kernel_rfl
theorem laws_heldStringS_g0 (k : Nat) (H : St → Option (Int)) (a : (List ByteArray)) (x0_0 : Int) (x0_1 : Int) : rnd env (laws_heldStringS_O k) laws_heldStringS_v Tryd.f26 1 (fun r => laws_heldStringS_d (r.fin 1 [])) [1, 0, 1, 0] k H ⟨tmF [0, 1, 4, 5] [(.a (.sc (.sl 0))), (.a (.sc (.v (.int .i64 x0_0)))), (.a (.sc (.v (.int .i64 0)))), (.a (.sc (.v (.int .i64 x0_1))))], blF [(.row false K.kstr a)]⟩ = laws_heldStringS_s0 k a (fun x0_0 x0_1 => H ⟨tmF [0, 1, 4, 5] [(.a (.sc (.sl 0))), (.a (.sc (.v (.int .i64 x0_0)))), (.a (.sc (.v (.int .i64 0)))), (.a (.sc (.v (.int .i64 x0_1))))], blF [(.row false K.kstr a)]⟩) x0_0 x0_1 := by kernel_rfl
theorem laws_heldStringS_n0 (k m : Nat) (a : (List ByteArray)) (x0_0 : Int) (x0_1 : Int) : laws_heldStringS_h0 k (m + 1) a x0_0 x0_1 = laws_heldStringS_s0 k a (laws_heldStringS_h0 k m a) x0_0 x0_1 := (hdAt_succ _ _ _ _ _ _ _ _ _ _).trans (laws_heldStringS_g0 k _ a x0_0 x0_1)
theorem laws_heldStringS_q0 (k : Nat) : ∀ m, laws_heldStringS_h0 k m = laws_heldStringS_l0 k m := by
 intro m
 induction m with
 | zero => funext a x0_0 x0_1; rw [laws_heldStringS_z0]; rfl
 | succ m ih => funext a x0_0 x0_1; rw [laws_heldStringS_n0, ih]; rfl
theorem laws_heldStringS_e (k : Nat) (a : (List ByteArray)) (k_ : Int) : callF env (laws_heldStringS_O k) laws_heldStringS_v Tryd.f26 (k + 1) (laws_heldStringS_A a k_) (fun r => laws_heldStringS_d (r.fin 1 [])) = laws_heldStringS k a k_ := by
 have e : callF env (laws_heldStringS_O k) laws_heldStringS_v Tryd.f26 (k + 1) (laws_heldStringS_A a k_) (fun r => laws_heldStringS_d (r.fin 1 [])) = laws_heldStringS_m k (laws_heldStringS_h0 k k) a k_ := by kernel_rfl
 rw [e, laws_heldStringS_q0]; rfl
noncomputable def laws_heldStringS_x (k : Nat) : Ent1 := fun A R Q => match A with
 | ⟨[(.sc (.sl 0)), (.sc (.v (.int .i64 a2)))], [(.row false K.kstr a1)]⟩ => (laws_heldStringS k a1 a2).bind fun y => Q ⟨(.a (.sc (.v (.int .i64 y)))), [.dead]⟩
 | _ => none
theorem laws_heldStringS_ok (k : Nat) : OkE Tryd.prog 26 (laws_heldStringS_x k) := by
 intro A R Q x h
 unfold laws_heldStringS_x at h
 split at h
 · obtain ⟨y, hy, hK⟩ := Option.bind_eq_some_iff.1 h
   obtain ⟨r, hr, hd⟩ := callF_ok envOk (laws_heldStringS_Ok k) follows Tryd.func26 (by kernel_rfl) ((laws_heldStringS_e k _ _).trans hy)
   exact ⟨_, laws_heldStringS_i hd ▸ hr.fin [], hK⟩
 · cases h
/-! ### laws.FnExactFormatBakery: function 6 -/
noncomputable def laws_FnExactFormatBakery (k : Nat)  (aB : Bakery) : Option (Bool) :=
 (laws_szBakery k aB 1048576).bind fun y1 =>
 cond (decide ((y1 : Int) < 0))
  (some true)
  ((laws_toBakery k aB).bind fun y2 =>
   (spec_FormatBakery k y2).bind fun y3 =>
    (laws_toBakery k aB).bind fun y4 =>
     (impl_FormatBakery k y4).bind fun y5 =>
      (laws_eqStringS k y5 y3).bind fun y6 =>
       cond (!y6)
        (some false)
        ((laws_toBakery k aB).bind fun y7 =>
        (laws_eqBakery k y4 y7).bind fun y8 =>
        cond (!y8)
        (some false)
        ((laws_markBakery k y4 1).bind fun y9 =>
        cond (decide ((y9.1 : Int) < 0))
        (some false)
        ((laws_eqStringS k y5 y3).bind fun y10 =>
        cond (!y10)
        (some false)
        ((laws_markStringS k y5 1).bind fun y11 =>
        (laws_heldStringS k y11.2 1).bind fun y12 =>
        cond (decide ((y12 : Int) < 0))
        (some false)
        (cond (!(decide ((y12 : Int) = y11.1)))
        (some false)
        ((laws_toBakery k aB).bind fun y13 =>
        (impl_FormatBakery k y13).bind fun y14 =>
        (laws_eqStringS k y14 y3).bind fun y15 =>
        cond (!y15)
        (some false)
        ((laws_heldStringS k y11.2 1).bind fun y16 =>
        cond (decide ((y16 : Int) < 0))
        (some false)
        (cond (!(decide ((y16 : Int) = y11.1)))
        (some false)
        (some true))))))))))
noncomputable def laws_FnExactFormatBakery_v : Nat → List Nat := fun t => match t with | _ => []
noncomputable def laws_FnExactFormatBakery_O (k : Nat) : Oracle := ofL [(17, impl_FormatBakery_x k), (19, laws_szBakery_x k), (20, spec_FormatBakery_x k), (21, laws_toBakery_x k), (22, laws_eqStringS_x k), (23, laws_eqBakery_x k), (24, laws_markBakery_x k), (25, laws_markStringS_x k), (26, laws_heldStringS_x k)]
theorem laws_FnExactFormatBakery_Ok (k : Nat) : OkO (Ct Tryd.prog) (laws_FnExactFormatBakery_O k) := okO_cons (impl_FormatBakery_ok k) (okO_cons (laws_szBakery_ok k) (okO_cons (spec_FormatBakery_ok k) (okO_cons (laws_toBakery_ok k) (okO_cons (laws_eqStringS_ok k) (okO_cons (laws_eqBakery_ok k) (okO_cons (laws_markBakery_ok k) (okO_cons (laws_markStringS_ok k) (okO_cons (laws_heldStringS_ok k) (okO_nil)))))))))
noncomputable def laws_FnExactFormatBakery_A (aB : Bakery) : Pk := ⟨[(.ag [(.sl 0), (.v (.int .i64 aB.Dough.Water)), (.v (.int .i64 aB.Dough.Salt)), (.v (.int .i64 aB.Dough.Leaven)), (.v (.int .i64 aB.Loaf.Weight)), (.v (.int .i64 aB.Loaf.Loss)), (.sl 1), (.v (.int .i64 aB.Book.Rack.Fresh)), (.v (.int .i64 aB.Book.Rack.Day)), (.v (.int .i64 aB.Book.Rack.Old)), (.v (.int .i64 aB.Book.Baked)), (.v (.int .i64 aB.Book.Sold)), (.v (.int .i64 aB.Book.Thrown)), (.v (.int .i64 aB.Money))])], [(.row false K.ki64 aB.Stock.Grams), (.row false K.k_laws_Event aB.Book.Events)]⟩
noncomputable def laws_FnExactFormatBakery_d : Rs → Option (Bool)
 | ⟨(.a (.sc (.v (.bool r1)))), [.dead, .dead]⟩ => some r1
 | _ => none
theorem laws_FnExactFormatBakery_i {r : Rs} {y : Bool} (h : laws_FnExactFormatBakery_d r = some y) : r = ⟨(.a (.sc (.v (.bool y)))), [.dead, .dead]⟩ := by
 unfold laws_FnExactFormatBakery_d at h; split at h
 · cases h; rfl
 · cases h
theorem laws_FnExactFormatBakery_e (k : Nat) (aB : Bakery) : callF env (laws_FnExactFormatBakery_O k) laws_FnExactFormatBakery_v Tryd.f6 (k + 1) (laws_FnExactFormatBakery_A aB) (fun r => laws_FnExactFormatBakery_d (r.fin 2 [])) = laws_FnExactFormatBakery k aB := by kernel_rfl
noncomputable def laws_FnExactFormatBakery_x (k : Nat) : Ent1 := fun A R Q => match A with
 | ⟨[(.ag [(.sl 0), (.v (.int .i64 a2)), (.v (.int .i64 a3)), (.v (.int .i64 a4)), (.v (.int .i64 a5)), (.v (.int .i64 a6)), (.sl 1), (.v (.int .i64 a8)), (.v (.int .i64 a9)), (.v (.int .i64 a10)), (.v (.int .i64 a11)), (.v (.int .i64 a12)), (.v (.int .i64 a13)), (.v (.int .i64 a14))])], [(.row false K.ki64 a1), (.row false K.k_laws_Event a7)]⟩ => (laws_FnExactFormatBakery k (⟨(⟨a1⟩ : Stock), (⟨a2, a3, a4⟩ : Dough), (⟨a5, a6⟩ : Loaf), (⟨a7, (⟨a8, a9, a10⟩ : Rack), a11, a12, a13⟩ : Book), a14⟩ : Bakery)).bind fun y => Q ⟨(.a (.sc (.v (.bool y)))), [.dead, .dead]⟩
 | _ => none
theorem laws_FnExactFormatBakery_ok (k : Nat) : OkE Tryd.prog 6 (laws_FnExactFormatBakery_x k) := by
 intro A R Q x h
 unfold laws_FnExactFormatBakery_x at h
 split at h
 · obtain ⟨y, hy, hK⟩ := Option.bind_eq_some_iff.1 h
   obtain ⟨r, hr, hd⟩ := callF_ok envOk (laws_FnExactFormatBakery_Ok k) follows Tryd.func6 (by kernel_rfl) ((laws_FnExactFormatBakery_e k _).trans hy)
   exact ⟨_, laws_FnExactFormatBakery_i hd ▸ hr.fin [], hK⟩
 · cases h
/-! ### laws.big: function 15 -/
noncomputable def laws_big (k : Nat)  (code : (List Int)) : Option (Bool) :=
 some (decide ((1048576 : Int) < ((code).length : Int)))
noncomputable def laws_big_v : Nat → List Nat := fun t => match t with | _ => []
noncomputable def laws_big_O (k : Nat) : Oracle := ofL []
theorem laws_big_Ok (k : Nat) : OkO (Ct Tryd.prog) (laws_big_O k) := okO_nil
noncomputable def laws_big_A (code : (List Int)) : Pk := ⟨[(.sc (.sl 0))], [(.row false K.ku8 code)]⟩
noncomputable def laws_big_d : Rs → Option (Bool)
 | ⟨(.a (.sc (.v (.bool r1)))), [.dead]⟩ => some r1
 | _ => none
theorem laws_big_i {r : Rs} {y : Bool} (h : laws_big_d r = some y) : r = ⟨(.a (.sc (.v (.bool y)))), [.dead]⟩ := by
 unfold laws_big_d at h; split at h
 · cases h; rfl
 · cases h
theorem laws_big_e (k : Nat) (code : (List Int)) : callF env (laws_big_O k) laws_big_v Tryd.f15 (k + 1) (laws_big_A code) (fun r => laws_big_d (r.fin 1 [])) = laws_big k code := by kernel_rfl
noncomputable def laws_big_x (k : Nat) : Ent1 := fun A R Q => match A with
 | ⟨[(.sc (.sl 0))], [(.row false K.ku8 a1)]⟩ => (laws_big k a1).bind fun y => Q ⟨(.a (.sc (.v (.bool y)))), [.dead]⟩
 | _ => none
theorem laws_big_ok (k : Nat) : OkE Tryd.prog 15 (laws_big_x k) := by
 intro A R Q x h
 unfold laws_big_x at h
 split at h
 · obtain ⟨y, hy, hK⟩ := Option.bind_eq_some_iff.1 h
   obtain ⟨r, hr, hd⟩ := callF_ok envOk (laws_big_Ok k) follows Tryd.func15 (by kernel_rfl) ((laws_big_e k _).trans hy)
   exact ⟨_, laws_big_i hd ▸ hr.fin [], hK⟩
 · cases h
/-! ### spec.l01New: function 36 -/
noncomputable def spec_l01New_s0 (k : Nat)  (code : (List Int)) (J : Int → Int → Option ((Int × Int))) (x0_0 : Int) (x0_1 : Int) : Option ((Int × Int)) :=
 cond (decide ((x0_1 : Int) < ((code).length : Int)))
 (cond (decide ((x0_1 : Int) < 4000))
  (if 0 ≤ (x0_1 : Int) ∧ (x0_1 : Int) < ((code).length : Int) then
   J (bAnd .i64 (wr ((wr ((wr (x0_0 * 131)) + (wr (code.getD (Int.toNat x0_1) 0)))) + 7)) 1073741823) (wr (x0_1 + 1)) else none)
  (some (0, x0_0)))
 (some (0, x0_0))
noncomputable def spec_l01New_l0 (k : Nat) : Nat → (List Int) → Int → Int → Option ((Int × Int))
 | 0, code, x0_0, x0_1 => spec_l01New_s0 k code (fun _ _ => none) x0_0 x0_1
 | m + 1, code, x0_0, x0_1 => spec_l01New_s0 k code (spec_l01New_l0 k m code) x0_0 x0_1
noncomputable def spec_l01New_m (k : Nat) (J0 : (List Int) → Int → Int → Option ((Int × Int))) (code : (List Int)) : Option ((Int × Int)) :=
 J0 code (wr ((33101 : Int) + ((code).length : Int))) 0
noncomputable def spec_l01New (k : Nat) (code : (List Int)) : Option ((Int × Int)) := spec_l01New_m k (spec_l01New_l0 k k) code
noncomputable def spec_l01New_v : Nat → List Nat := fun t => match t with | 3 => [0, 2, 3, 4] | _ => []
noncomputable def spec_l01New_O (k : Nat) : Oracle := ofL []
theorem spec_l01New_Ok (k : Nat) : OkO (Ct Tryd.prog) (spec_l01New_O k) := okO_nil
noncomputable def spec_l01New_A (code : (List Int)) : Pk := ⟨[(.sc (.sl 0))], [(.row false K.ku8 code)]⟩
noncomputable def spec_l01New_d : Rs → Option ((Int × Int))
 | ⟨(.a (.sc (.bp 1 0))), [.dead, (.box true [(.sl 0), (.v (.int .i64 r1)), (.v (.int .i64 r2))])]⟩ => some (r1, r2)
 | _ => none
theorem spec_l01New_i {r : Rs} {y : (Int × Int)} (h : spec_l01New_d r = some y) : r = ⟨(.a (.sc (.bp 1 0))), [.dead, (.box true [(.sl 0), (.v (.int .i64 y.1)), (.v (.int .i64 y.2))])]⟩ := by
 unfold spec_l01New_d at h; split at h
 · cases h; rfl
 · cases h
noncomputable def spec_l01New_h0 (k m : Nat) (code : (List Int)) (x0_0 : Int) (x0_1 : Int) : Option ((Int × Int)) := hdAt env (spec_l01New_O k) spec_l01New_v Tryd.f36 1 (fun r => spec_l01New_d (r.fin 1 [])) [1, 1, 0, 1, 0] k m ⟨tmF [0, 2, 3, 4] [(.a (.sc (.sl 0))), (.a (.sc (.v (.pointer none)))), (.a (.sc (.v (.int .i64 x0_0)))), (.a (.sc (.v (.int .i64 x0_1))))], blF [(.row false K.ku8 code)]⟩
theorem spec_l01New_z0 (k : Nat) (code : (List Int)) (x0_0 : Int) (x0_1 : Int) : spec_l01New_h0 k 0 code x0_0 x0_1 = spec_l01New_s0 k code (fun _ _ => none) x0_0 x0_1 := by kernel_rfl
theorem spec_l01New_g0 (k : Nat) (H : St → Option ((Int × Int))) (code : (List Int)) (x0_0 : Int) (x0_1 : Int) : rnd env (spec_l01New_O k) spec_l01New_v Tryd.f36 1 (fun r => spec_l01New_d (r.fin 1 [])) [1, 1, 0, 1, 0] k H ⟨tmF [0, 2, 3, 4] [(.a (.sc (.sl 0))), (.a (.sc (.v (.pointer none)))), (.a (.sc (.v (.int .i64 x0_0)))), (.a (.sc (.v (.int .i64 x0_1))))], blF [(.row false K.ku8 code)]⟩ = spec_l01New_s0 k code (fun x0_0 x0_1 => H ⟨tmF [0, 2, 3, 4] [(.a (.sc (.sl 0))), (.a (.sc (.v (.pointer none)))), (.a (.sc (.v (.int .i64 x0_0)))), (.a (.sc (.v (.int .i64 x0_1))))], blF [(.row false K.ku8 code)]⟩) x0_0 x0_1 := by kernel_rfl
theorem spec_l01New_n0 (k m : Nat) (code : (List Int)) (x0_0 : Int) (x0_1 : Int) : spec_l01New_h0 k (m + 1) code x0_0 x0_1 = spec_l01New_s0 k code (spec_l01New_h0 k m code) x0_0 x0_1 := (hdAt_succ _ _ _ _ _ _ _ _ _ _).trans (spec_l01New_g0 k _ code x0_0 x0_1)
theorem spec_l01New_q0 (k : Nat) : ∀ m, spec_l01New_h0 k m = spec_l01New_l0 k m := by
 intro m
 induction m with
 | zero => funext code x0_0 x0_1; rw [spec_l01New_z0]; rfl
 | succ m ih => funext code x0_0 x0_1; rw [spec_l01New_n0, ih]; rfl
theorem spec_l01New_e (k : Nat) (code : (List Int)) : callF env (spec_l01New_O k) spec_l01New_v Tryd.f36 (k + 1) (spec_l01New_A code) (fun r => spec_l01New_d (r.fin 1 [])) = spec_l01New k code := by
 have e : callF env (spec_l01New_O k) spec_l01New_v Tryd.f36 (k + 1) (spec_l01New_A code) (fun r => spec_l01New_d (r.fin 1 [])) = spec_l01New_m k (spec_l01New_h0 k k) code := by kernel_rfl
 rw [e, spec_l01New_q0]; rfl
noncomputable def spec_l01New_x (k : Nat) : Ent1 := fun A R Q => match A with
 | ⟨[(.sc (.sl 0))], [(.row false K.ku8 a1)]⟩ => (spec_l01New k a1).bind fun y => Q ⟨(.a (.sc (.bp 1 0))), [.dead, (.box true [(.sl 0), (.v (.int .i64 y.1)), (.v (.int .i64 y.2))])]⟩
 | _ => none
theorem spec_l01New_ok (k : Nat) : OkE Tryd.prog 36 (spec_l01New_x k) := by
 intro A R Q x h
 unfold spec_l01New_x at h
 split at h
 · obtain ⟨y, hy, hK⟩ := Option.bind_eq_some_iff.1 h
   obtain ⟨r, hr, hd⟩ := callF_ok envOk (spec_l01New_Ok k) follows Tryd.func36 (by kernel_rfl) ((spec_l01New_e k _).trans hy)
   exact ⟨_, spec_l01New_i hd ▸ hr.fin [], hK⟩
 · cases h
/-! ### spec.l01Byte: function 92 -/
noncomputable def spec_l01Byte (k : Nat)  (c : l01Cur) : Option (Int × (Int × Int)) :=
 if 0 ≤ (33 : Int) then
 if 0 ≤ (45 : Int) then
  cond (decide ((c.i : Int) < ((c.b).length : Int)))
   (if 0 ≤ (c.i : Int) ∧ (c.i : Int) < ((c.b).length : Int) then
    some ((bAnd .i64 (wr ((bAnd .i64 (bXor .i64 (bShr .i64 (wr ((wr (c.h * 6364136223846793005)) + 1442695040888963407)) 33) (bShr .i64 (wr ((wr (c.h * 6364136223846793005)) + 1442695040888963407)) 45)) 255) + (wr (c.b.getD (Int.toNat c.i) 0)))) 255), ((wr (c.i + 1)), (wr ((wr (c.h * 6364136223846793005)) + 1442695040888963407)))) else none)
   (some ((bAnd .i64 (bXor .i64 (bShr .i64 (wr ((wr (c.h * 6364136223846793005)) + 1442695040888963407)) 33) (bShr .i64 (wr ((wr (c.h * 6364136223846793005)) + 1442695040888963407)) 45)) 255), (c.i, (wr ((wr (c.h * 6364136223846793005)) + 1442695040888963407))))) else none else none
noncomputable def spec_l01Byte_v : Nat → List Nat := fun t => match t with | _ => []
noncomputable def spec_l01Byte_O (k : Nat) : Oracle := ofL []
theorem spec_l01Byte_Ok (k : Nat) : OkO (Ct Tryd.prog) (spec_l01Byte_O k) := okO_nil
noncomputable def spec_l01Byte_A (c : l01Cur) : Pk := ⟨[(.sc (.bp 1 0))], [(.row false K.ku8 c.b), (.box true [(.sl 0), (.v (.int .i64 c.i)), (.v (.int .i64 c.h))])]⟩
noncomputable def spec_l01Byte_d : Rs → Option (Int × (Int × Int))
 | ⟨(.a (.sc (.v (.int .i64 r1)))), [.dead, (.box true [(.sl 0), (.v (.int .i64 r2)), (.v (.int .i64 r3))])]⟩ => some (r1, (r2, r3))
 | _ => none
theorem spec_l01Byte_i {r : Rs} {y : Int × (Int × Int)} (h : spec_l01Byte_d r = some y) : r = ⟨(.a (.sc (.v (.int .i64 y.1)))), [.dead, (.box true [(.sl 0), (.v (.int .i64 y.2.1)), (.v (.int .i64 y.2.2))])]⟩ := by
 unfold spec_l01Byte_d at h; split at h
 · cases h; rfl
 · cases h
theorem spec_l01Byte_e (k : Nat) (c : l01Cur) : callF env (spec_l01Byte_O k) spec_l01Byte_v Tryd.f92 (k + 1) (spec_l01Byte_A c) (fun r => spec_l01Byte_d (r.fin 2 [])) = spec_l01Byte k c := by kernel_rfl
noncomputable def spec_l01Byte_x (k : Nat) : Ent1 := fun A R Q => match A with
 | ⟨[(.sc (.bp 1 0))], [(.row false K.ku8 a1), (.box true [(.sl 0), (.v (.int .i64 a2)), (.v (.int .i64 a3))])]⟩ => (spec_l01Byte k (⟨a1, a2, a3⟩ : l01Cur)).bind fun y => Q ⟨(.a (.sc (.v (.int .i64 y.1)))), [.dead, (.box true [(.sl 0), (.v (.int .i64 y.2.1)), (.v (.int .i64 y.2.2))])]⟩
 | _ => none
theorem spec_l01Byte_ok (k : Nat) : OkE Tryd.prog 92 (spec_l01Byte_x k) := by
 intro A R Q x h
 unfold spec_l01Byte_x at h
 split at h
 · obtain ⟨y, hy, hK⟩ := Option.bind_eq_some_iff.1 h
   obtain ⟨r, hr, hd⟩ := callF_ok envOk (spec_l01Byte_Ok k) follows Tryd.func92 (by kernel_rfl) ((spec_l01Byte_e k _).trans hy)
   exact ⟨_, spec_l01Byte_i hd ▸ hr.fin [], hK⟩
 · cases h
/-! ### spec.l01Below: function 64 -/
noncomputable def spec_l01Below (k : Nat)  (c : l01Cur) (n : Int) : Option (Int × (Int × Int)) :=
 cond (decide ((n : Int) ≤ 0))
 (some (0, (c.i, c.h)))
 (cond (decide ((n : Int) ≤ 256))
  ((spec_l01Byte k c).bind fun y1 =>
   if (n : Int) ≠ 0 then
    some ((Int.tmod y1.1 n), (y1.2.1, y1.2.2)) else none)
  ((spec_l01Byte k c).bind fun y2 =>
   (spec_l01Byte k (⟨c.b, y2.2.1, y2.2.2⟩ : l01Cur)).bind fun y3 =>
    (spec_l01Byte k (⟨c.b, y3.2.1, y3.2.2⟩ : l01Cur)).bind fun y4 =>
     (spec_l01Byte k (⟨c.b, y4.2.1, y4.2.2⟩ : l01Cur)).bind fun y5 =>
      if (n : Int) ≠ 0 then
       some ((Int.tmod (wr ((wr ((wr ((wr (y2.1 * 16777216)) + (wr (y3.1 * 65536)))) + (wr (y4.1 * 256)))) + y5.1)) n), (y5.2.1, y5.2.2)) else none))
noncomputable def spec_l01Below_v : Nat → List Nat := fun t => match t with | _ => []
noncomputable def spec_l01Below_O (k : Nat) : Oracle := ofL [(92, spec_l01Byte_x k)]
theorem spec_l01Below_Ok (k : Nat) : OkO (Ct Tryd.prog) (spec_l01Below_O k) := okO_cons (spec_l01Byte_ok k) (okO_nil)
noncomputable def spec_l01Below_A (c : l01Cur) (n : Int) : Pk := ⟨[(.sc (.bp 1 0)), (.sc (.v (.int .i64 n)))], [(.row false K.ku8 c.b), (.box true [(.sl 0), (.v (.int .i64 c.i)), (.v (.int .i64 c.h))])]⟩
noncomputable def spec_l01Below_d : Rs → Option (Int × (Int × Int))
 | ⟨(.a (.sc (.v (.int .i64 r1)))), [.dead, (.box true [(.sl 0), (.v (.int .i64 r2)), (.v (.int .i64 r3))])]⟩ => some (r1, (r2, r3))
 | _ => none
theorem spec_l01Below_i {r : Rs} {y : Int × (Int × Int)} (h : spec_l01Below_d r = some y) : r = ⟨(.a (.sc (.v (.int .i64 y.1)))), [.dead, (.box true [(.sl 0), (.v (.int .i64 y.2.1)), (.v (.int .i64 y.2.2))])]⟩ := by
 unfold spec_l01Below_d at h; split at h
 · cases h; rfl
 · cases h
theorem spec_l01Below_e (k : Nat) (c : l01Cur) (n : Int) : callF env (spec_l01Below_O k) spec_l01Below_v Tryd.f64 (k + 1) (spec_l01Below_A c n) (fun r => spec_l01Below_d (r.fin 2 [])) = spec_l01Below k c n := by kernel_rfl
noncomputable def spec_l01Below_x (k : Nat) : Ent1 := fun A R Q => match A with
 | ⟨[(.sc (.bp 1 0)), (.sc (.v (.int .i64 a4)))], [(.row false K.ku8 a1), (.box true [(.sl 0), (.v (.int .i64 a2)), (.v (.int .i64 a3))])]⟩ => (spec_l01Below k (⟨a1, a2, a3⟩ : l01Cur) a4).bind fun y => Q ⟨(.a (.sc (.v (.int .i64 y.1)))), [.dead, (.box true [(.sl 0), (.v (.int .i64 y.2.1)), (.v (.int .i64 y.2.2))])]⟩
 | _ => none
theorem spec_l01Below_ok (k : Nat) : OkE Tryd.prog 64 (spec_l01Below_x k) := by
 intro A R Q x h
 unfold spec_l01Below_x at h
 split at h
 · obtain ⟨y, hy, hK⟩ := Option.bind_eq_some_iff.1 h
   obtain ⟨r, hr, hd⟩ := callF_ok envOk (spec_l01Below_Ok k) follows Tryd.func64 (by kernel_rfl) ((spec_l01Below_e k _ _).trans hy)
   exact ⟨_, spec_l01Below_i hd ▸ hr.fin [], hK⟩
 · cases h
/-! ### spec.l01Once: function 61 -/
noncomputable def spec_l01Once (k : Nat)  (c : l01Cur) (n : Int) : Option (Bool × (Int × Int)) :=
 (spec_l01Below k c n).bind fun y1 =>
 some ((decide ((y1.1 : Int) = 0)), (y1.2.1, y1.2.2))
noncomputable def spec_l01Once_v : Nat → List Nat := fun t => match t with | _ => []
noncomputable def spec_l01Once_O (k : Nat) : Oracle := ofL [(64, spec_l01Below_x k)]
theorem spec_l01Once_Ok (k : Nat) : OkO (Ct Tryd.prog) (spec_l01Once_O k) := okO_cons (spec_l01Below_ok k) (okO_nil)
noncomputable def spec_l01Once_A (c : l01Cur) (n : Int) : Pk := ⟨[(.sc (.bp 1 0)), (.sc (.v (.int .i64 n)))], [(.row false K.ku8 c.b), (.box true [(.sl 0), (.v (.int .i64 c.i)), (.v (.int .i64 c.h))])]⟩
noncomputable def spec_l01Once_d : Rs → Option (Bool × (Int × Int))
 | ⟨(.a (.sc (.v (.bool r1)))), [.dead, (.box true [(.sl 0), (.v (.int .i64 r2)), (.v (.int .i64 r3))])]⟩ => some (r1, (r2, r3))
 | _ => none
theorem spec_l01Once_i {r : Rs} {y : Bool × (Int × Int)} (h : spec_l01Once_d r = some y) : r = ⟨(.a (.sc (.v (.bool y.1)))), [.dead, (.box true [(.sl 0), (.v (.int .i64 y.2.1)), (.v (.int .i64 y.2.2))])]⟩ := by
 unfold spec_l01Once_d at h; split at h
 · cases h; rfl
 · cases h
theorem spec_l01Once_e (k : Nat) (c : l01Cur) (n : Int) : callF env (spec_l01Once_O k) spec_l01Once_v Tryd.f61 (k + 1) (spec_l01Once_A c n) (fun r => spec_l01Once_d (r.fin 2 [])) = spec_l01Once k c n := by kernel_rfl
noncomputable def spec_l01Once_x (k : Nat) : Ent1 := fun A R Q => match A with
 | ⟨[(.sc (.bp 1 0)), (.sc (.v (.int .i64 a4)))], [(.row false K.ku8 a1), (.box true [(.sl 0), (.v (.int .i64 a2)), (.v (.int .i64 a3))])]⟩ => (spec_l01Once k (⟨a1, a2, a3⟩ : l01Cur) a4).bind fun y => Q ⟨(.a (.sc (.v (.bool y.1)))), [.dead, (.box true [(.sl 0), (.v (.int .i64 y.2.1)), (.v (.int .i64 y.2.2))])]⟩
 | _ => none
theorem spec_l01Once_ok (k : Nat) : OkE Tryd.prog 61 (spec_l01Once_x k) := by
 intro A R Q x h
 unfold spec_l01Once_x at h
 split at h
 · obtain ⟨y, hy, hK⟩ := Option.bind_eq_some_iff.1 h
   obtain ⟨r, hr, hd⟩ := callF_ok envOk (spec_l01Once_Ok k) follows Tryd.func61 (by kernel_rfl) ((spec_l01Once_e k _ _).trans hy)
   exact ⟨_, spec_l01Once_i hd ▸ hr.fin [], hK⟩
 · cases h
/-! ### spec.OpenBakery: function 87 -/
noncomputable def spec_OpenBakery (k : Nat)  (grams : (List Int)) (d : Dough) (l : Loaf) (money : Int) : Option (Bakery × Bool) :=
 if ([] : List Int).length + (grams : List Int).length ≤ maxRow then
 (spec_BakeryOk k (⟨(⟨([] ++ grams)⟩ : Stock), d, l, (⟨[], (⟨0, 0, 0⟩ : Rack), 0, 0, 0⟩ : Book), money⟩ : Bakery)).bind fun y1 =>
  cond (!y1)
   (some ((⟨(⟨[]⟩ : Stock), (⟨0, 0, 0⟩ : Dough), (⟨0, 0⟩ : Loaf), (⟨[], (⟨0, 0, 0⟩ : Rack), 0, 0, 0⟩ : Book), 0⟩ : Bakery), false))
   (some ((⟨(⟨([] ++ grams)⟩ : Stock), d, l, (⟨[], (⟨0, 0, 0⟩ : Rack), 0, 0, 0⟩ : Book), money⟩ : Bakery), true)) else none
noncomputable def spec_OpenBakery_v : Nat → List Nat := fun t => match t with | _ => []
noncomputable def spec_OpenBakery_O (k : Nat) : Oracle := ofL [(43, spec_BakeryOk_x k)]
theorem spec_OpenBakery_Ok (k : Nat) : OkO (Ct Tryd.prog) (spec_OpenBakery_O k) := okO_cons (spec_BakeryOk_ok k) (okO_nil)
noncomputable def spec_OpenBakery_A (grams : (List Int)) (d : Dough) (l : Loaf) (money : Int) : Pk := ⟨[(.sc (.sl 0)), (.ag [(.v (.int .i64 d.Water)), (.v (.int .i64 d.Salt)), (.v (.int .i64 d.Leaven))]), (.ag [(.v (.int .i64 l.Weight)), (.v (.int .i64 l.Loss))]), (.sc (.v (.int .i64 money)))], [(.row false K.ki64 grams)]⟩
noncomputable def spec_OpenBakery_d : Rs → Option (Bakery × Bool)
 | ⟨(.tp [(.ag [(.sl 1), (.v (.int .i64 r2)), (.v (.int .i64 r3)), (.v (.int .i64 r4)), (.v (.int .i64 r5)), (.v (.int .i64 r6)), (.sl 2), (.v (.int .i64 r8)), (.v (.int .i64 r9)), (.v (.int .i64 r10)), (.v (.int .i64 r11)), (.v (.int .i64 r12)), (.v (.int .i64 r13)), (.v (.int .i64 r14))]), (.sc (.v (.bool r15)))]), [.dead, (.row true K.ki64 r1), (.row true K.k_impl_Event r7)]⟩ => some ((⟨(⟨r1⟩ : Stock), (⟨r2, r3, r4⟩ : Dough), (⟨r5, r6⟩ : Loaf), (⟨r7, (⟨r8, r9, r10⟩ : Rack), r11, r12, r13⟩ : Book), r14⟩ : Bakery), r15)
 | _ => none
theorem spec_OpenBakery_i {r : Rs} {y : Bakery × Bool} (h : spec_OpenBakery_d r = some y) : r = ⟨(.tp [(.ag [(.sl 1), (.v (.int .i64 y.1.Dough.Water)), (.v (.int .i64 y.1.Dough.Salt)), (.v (.int .i64 y.1.Dough.Leaven)), (.v (.int .i64 y.1.Loaf.Weight)), (.v (.int .i64 y.1.Loaf.Loss)), (.sl 2), (.v (.int .i64 y.1.Book.Rack.Fresh)), (.v (.int .i64 y.1.Book.Rack.Day)), (.v (.int .i64 y.1.Book.Rack.Old)), (.v (.int .i64 y.1.Book.Baked)), (.v (.int .i64 y.1.Book.Sold)), (.v (.int .i64 y.1.Book.Thrown)), (.v (.int .i64 y.1.Money))]), (.sc (.v (.bool y.2)))]), [.dead, (.row true K.ki64 y.1.Stock.Grams), (.row true K.k_impl_Event y.1.Book.Events)]⟩ := by
 unfold spec_OpenBakery_d at h; split at h
 · cases h; rfl
 · cases h
theorem spec_OpenBakery_e (k : Nat) (grams : (List Int)) (d : Dough) (l : Loaf) (money : Int) : callF env (spec_OpenBakery_O k) spec_OpenBakery_v Tryd.f87 (k + 1) (spec_OpenBakery_A grams d l money) (fun r => spec_OpenBakery_d (r.fin 1 [])) = spec_OpenBakery k grams d l money := by kernel_rfl
noncomputable def spec_OpenBakery_x (k : Nat) : Ent1 := fun A R Q => match A with
 | ⟨[(.sc (.sl 0)), (.ag [(.v (.int .i64 a2)), (.v (.int .i64 a3)), (.v (.int .i64 a4))]), (.ag [(.v (.int .i64 a5)), (.v (.int .i64 a6))]), (.sc (.v (.int .i64 a7)))], [(.row false K.ki64 a1)]⟩ => (spec_OpenBakery k a1 (⟨a2, a3, a4⟩ : Dough) (⟨a5, a6⟩ : Loaf) a7).bind fun y => Q ⟨(.tp [(.ag [(.sl 1), (.v (.int .i64 y.1.Dough.Water)), (.v (.int .i64 y.1.Dough.Salt)), (.v (.int .i64 y.1.Dough.Leaven)), (.v (.int .i64 y.1.Loaf.Weight)), (.v (.int .i64 y.1.Loaf.Loss)), (.sl 2), (.v (.int .i64 y.1.Book.Rack.Fresh)), (.v (.int .i64 y.1.Book.Rack.Day)), (.v (.int .i64 y.1.Book.Rack.Old)), (.v (.int .i64 y.1.Book.Baked)), (.v (.int .i64 y.1.Book.Sold)), (.v (.int .i64 y.1.Book.Thrown)), (.v (.int .i64 y.1.Money))]), (.sc (.v (.bool y.2)))]), [.dead, (.row true K.ki64 y.1.Stock.Grams), (.row true K.k_impl_Event y.1.Book.Events)]⟩
 | _ => none
theorem spec_OpenBakery_ok (k : Nat) : OkE Tryd.prog 87 (spec_OpenBakery_x k) := by
 intro A R Q x h
 unfold spec_OpenBakery_x at h
 split at h
 · obtain ⟨y, hy, hK⟩ := Option.bind_eq_some_iff.1 h
   obtain ⟨r, hr, hd⟩ := callF_ok envOk (spec_OpenBakery_Ok k) follows Tryd.func87 (by kernel_rfl) ((spec_OpenBakery_e k _ _ _ _).trans hy)
   exact ⟨_, spec_OpenBakery_i hd ▸ hr.fin [], hK⟩
 · cases h
end Go.Proofs.YtfbnbdcjnbgibaaDoorX
