/- What functions of the program compute, as functions of numbers and lists, and that they do. (The file is written by wip/x/vxp.py of this repository.) -/
import Derived.Test.YtlhcphoojiemmaaGreatF5
namespace Go.Proofs.YtlhcphoojiemmaaGreatX
open Go Go.Proofs
set_option linter.unusedVariables false
set_option maxRecDepth 100000
/-! ### laws.heldBook: function 56 -/
noncomputable def laws_heldBook (k : Nat)  (a : Book) (k_ : Int) : Option (Int) :=
 (laws_heldEventS k a.Events k_).bind fun y1 =>
 cond (decide ((y1 : Int) < 0))
  (some (-1))
  (some y1)
noncomputable def laws_heldBook_v : Nat → List Nat := fun t => match t with | _ => []
noncomputable def laws_heldBook_O (k : Nat) : Oracle := ofL [(97, laws_heldEventS_x k)]
theorem laws_heldBook_Ok (k : Nat) : OkO (Ct Tryz.prog) (laws_heldBook_O k) := okO_cons (laws_heldEventS_ok k) (okO_nil)
noncomputable def laws_heldBook_A (a : Book) (k_ : Int) : Pk := ⟨[(.ag [(.sl 0), (.v (.int .i64 a.Rack.Fresh)), (.v (.int .i64 a.Rack.Day)), (.v (.int .i64 a.Rack.Old)), (.v (.int .i64 a.Baked)), (.v (.int .i64 a.Sold)), (.v (.int .i64 a.Thrown))]), (.sc (.v (.int .i64 k_)))], [(.row false K.k_impl_Event a.Events)]⟩
noncomputable def laws_heldBook_d : Rs → Option (Int)
 | ⟨(.a (.sc (.v (.int .i64 r1)))), [.dead]⟩ => some r1
 | _ => none
theorem laws_heldBook_i {r : Rs} {y : Int} (h : laws_heldBook_d r = some y) : r = ⟨(.a (.sc (.v (.int .i64 y)))), [.dead]⟩ := by
 unfold laws_heldBook_d at h; split at h
 · cases h; rfl
 · cases h
theorem laws_heldBook_e (k : Nat) (a : Book) (k_ : Int) : callF env (laws_heldBook_O k) laws_heldBook_v Tryz.f56 (k + 1) (laws_heldBook_A a k_) (fun r => laws_heldBook_d (r.fin 1 [])) = laws_heldBook k a k_ := by kernel_rfl
noncomputable def laws_heldBook_x (k : Nat) : Ent1 := fun A R Q => match A with
 | ⟨[(.ag [(.sl 0), (.v (.int .i64 a2)), (.v (.int .i64 a3)), (.v (.int .i64 a4)), (.v (.int .i64 a5)), (.v (.int .i64 a6)), (.v (.int .i64 a7))]), (.sc (.v (.int .i64 a8)))], [(.row false K.k_impl_Event a1)]⟩ => (laws_heldBook k (⟨a1, (⟨a2, a3, a4⟩ : Rack), a5, a6, a7⟩ : Book) a8).bind fun y => Q ⟨(.a (.sc (.v (.int .i64 y)))), [.dead]⟩
 | _ => none
theorem laws_heldBook_ok (k : Nat) : OkE Tryz.prog 56 (laws_heldBook_x k) := by
 intro A R Q x h
 unfold laws_heldBook_x at h
 split at h
 · obtain ⟨y, hy, hK⟩ := Option.bind_eq_some_iff.1 h
   obtain ⟨r, hr, hd⟩ := callF_ok envOk (laws_heldBook_Ok k) follows Tryz.func56 (by kernel_rfl) ((laws_heldBook_e k _ _).trans hy)
   exact ⟨_, laws_heldBook_i hd ▸ hr.fin [], hK⟩
 · cases h
/-! ### laws.heldBakery: function 13 -/
noncomputable def laws_heldBakery (k : Nat)  (a : Bakery) (k_ : Int) : Option (Int) :=
 (laws_heldStock k a.Stock k_).bind fun y1 =>
 cond (decide ((y1 : Int) < 0))
  (some (-1))
  ((laws_heldBook k a.Book y1).bind fun y2 =>
   cond (decide ((y2 : Int) < 0))
    (some (-1))
    (some y2))
noncomputable def laws_heldBakery_v : Nat → List Nat := fun t => match t with | _ => []
noncomputable def laws_heldBakery_O (k : Nat) : Oracle := ofL [(55, laws_heldStock_x k), (56, laws_heldBook_x k)]
theorem laws_heldBakery_Ok (k : Nat) : OkO (Ct Tryz.prog) (laws_heldBakery_O k) := okO_cons (laws_heldStock_ok k) (okO_cons (laws_heldBook_ok k) (okO_nil))
noncomputable def laws_heldBakery_A (a : Bakery) (k_ : Int) : Pk := ⟨[(.ag [(.sl 0), (.v (.int .i64 a.Dough.Water)), (.v (.int .i64 a.Dough.Salt)), (.v (.int .i64 a.Dough.Leaven)), (.v (.int .i64 a.Loaf.Weight)), (.v (.int .i64 a.Loaf.Loss)), (.sl 1), (.v (.int .i64 a.Book.Rack.Fresh)), (.v (.int .i64 a.Book.Rack.Day)), (.v (.int .i64 a.Book.Rack.Old)), (.v (.int .i64 a.Book.Baked)), (.v (.int .i64 a.Book.Sold)), (.v (.int .i64 a.Book.Thrown)), (.v (.int .i64 a.Money))]), (.sc (.v (.int .i64 k_)))], [(.row false K.ki64 a.Stock.Grams), (.row false K.k_impl_Event a.Book.Events)]⟩
noncomputable def laws_heldBakery_d : Rs → Option (Int)
 | ⟨(.a (.sc (.v (.int .i64 r1)))), [.dead, .dead]⟩ => some r1
 | _ => none
theorem laws_heldBakery_i {r : Rs} {y : Int} (h : laws_heldBakery_d r = some y) : r = ⟨(.a (.sc (.v (.int .i64 y)))), [.dead, .dead]⟩ := by
 unfold laws_heldBakery_d at h; split at h
 · cases h; rfl
 · cases h
theorem laws_heldBakery_e (k : Nat) (a : Bakery) (k_ : Int) : callF env (laws_heldBakery_O k) laws_heldBakery_v Tryz.f13 (k + 1) (laws_heldBakery_A a k_) (fun r => laws_heldBakery_d (r.fin 2 [])) = laws_heldBakery k a k_ := by kernel_rfl
noncomputable def laws_heldBakery_x (k : Nat) : Ent1 := fun A R Q => match A with
 | ⟨[(.ag [(.sl 0), (.v (.int .i64 a2)), (.v (.int .i64 a3)), (.v (.int .i64 a4)), (.v (.int .i64 a5)), (.v (.int .i64 a6)), (.sl 1), (.v (.int .i64 a8)), (.v (.int .i64 a9)), (.v (.int .i64 a10)), (.v (.int .i64 a11)), (.v (.int .i64 a12)), (.v (.int .i64 a13)), (.v (.int .i64 a14))]), (.sc (.v (.int .i64 a15)))], [(.row false K.ki64 a1), (.row false K.k_impl_Event a7)]⟩ => (laws_heldBakery k (⟨(⟨a1⟩ : Stock), (⟨a2, a3, a4⟩ : Dough), (⟨a5, a6⟩ : Loaf), (⟨a7, (⟨a8, a9, a10⟩ : Rack), a11, a12, a13⟩ : Book), a14⟩ : Bakery) a15).bind fun y => Q ⟨(.a (.sc (.v (.int .i64 y)))), [.dead, .dead]⟩
 | _ => none
theorem laws_heldBakery_ok (k : Nat) : OkE Tryz.prog 13 (laws_heldBakery_x k) := by
 intro A R Q x h
 unfold laws_heldBakery_x at h
 split at h
 · obtain ⟨y, hy, hK⟩ := Option.bind_eq_some_iff.1 h
   obtain ⟨r, hr, hd⟩ := callF_ok envOk (laws_heldBakery_Ok k) follows Tryz.func13 (by kernel_rfl) ((laws_heldBakery_e k _ _).trans hy)
   exact ⟨_, laws_heldBakery_i hd ▸ hr.fin [], hK⟩
 · cases h
/-! ### laws.FnExactDoAct: function 3 -/
noncomputable def laws_FnExactDoAct (k : Nat)  (aB : Bakery) (aA : Deed) : Option (Bool) :=
 (laws_szBakery k aB 1048576).bind fun y1 =>
 cond (decide ((y1 : Int) < 0))
  (some true)
  ((laws_toBakery k aB).bind fun y2 =>
   (laws_toAct k aA).bind fun y3 =>
    (spec_DoAct k y2 y3).bind fun y4 =>
     (laws_toBakery k aB).bind fun y5 =>
      (laws_toAct k aA).bind fun y6 =>
       (impl_DoAct k y5 y6).bind fun y7 =>
        (laws_eqBakery k y7.1 y4.1).bind fun y8 =>
        cond (!y8)
        (some false)
        (cond (!(decide ((y7.2 : Int) = y4.2)))
        (some false)
        ((laws_toBakery k aB).bind fun y9 =>
        (laws_eqBakery k y5 y9).bind fun y10 =>
        cond (!y10)
        (some false)
        ((laws_markBakery k y5 1).bind fun y11 =>
        cond (decide ((y11.1 : Int) < 0))
        (some false)
        ((laws_eqBakery k y7.1 y4.1).bind fun y12 =>
        cond (!y12)
        (some false)
        (cond (!(decide ((y7.2 : Int) = y4.2)))
        (some false)
        ((laws_markBakery k y7.1 1).bind fun y13 =>
        (laws_heldBakery k (⟨(⟨y13.2.1⟩ : Stock), y7.1.Dough, y7.1.Loaf, (⟨y13.2.2, y7.1.Book.Rack, y7.1.Book.Baked, y7.1.Book.Sold, y7.1.Book.Thrown⟩ : Book), y7.1.Money⟩ : Bakery) 1).bind fun y14 =>
        cond (decide ((y14 : Int) < 0))
        (some false)
        (cond (!(decide ((y14 : Int) = y13.1)))
        (some false)
        ((laws_toBakery k aB).bind fun y15 =>
        (laws_toAct k aA).bind fun y16 =>
        (impl_DoAct k y15 y16).bind fun y17 =>
        (laws_eqBakery k y17.1 y4.1).bind fun y18 =>
        cond (!y18)
        (some false)
        (cond (!(decide ((y17.2 : Int) = y4.2)))
        (some false)
        ((laws_heldBakery k (⟨(⟨y13.2.1⟩ : Stock), y7.1.Dough, y7.1.Loaf, (⟨y13.2.2, y7.1.Book.Rack, y7.1.Book.Baked, y7.1.Book.Sold, y7.1.Book.Thrown⟩ : Book), y7.1.Money⟩ : Bakery) 1).bind fun y19 =>
        cond (decide ((y19 : Int) < 0))
        (some false)
        (cond (!(decide ((y19 : Int) = y13.1)))
        (some false)
        (some true)))))))))))))
noncomputable def laws_FnExactDoAct_v : Nat → List Nat := fun t => match t with | _ => []
noncomputable def laws_FnExactDoAct_O (k : Nat) : Oracle := ofL [(10, impl_DoAct_x k), (11, laws_eqBakery_x k), (12, laws_markBakery_x k), (13, laws_heldBakery_x k), (6, laws_szBakery_x k), (7, spec_DoAct_x k), (8, laws_toBakery_x k), (9, laws_toAct_x k)]
theorem laws_FnExactDoAct_Ok (k : Nat) : OkO (Ct Tryz.prog) (laws_FnExactDoAct_O k) := okO_cons (impl_DoAct_ok k) (okO_cons (laws_eqBakery_ok k) (okO_cons (laws_markBakery_ok k) (okO_cons (laws_heldBakery_ok k) (okO_cons (laws_szBakery_ok k) (okO_cons (spec_DoAct_ok k) (okO_cons (laws_toBakery_ok k) (okO_cons (laws_toAct_ok k) (okO_nil))))))))
noncomputable def laws_FnExactDoAct_A (aB : Bakery) (aA : Deed) : Pk := ⟨[(.ag [(.sl 0), (.v (.int .i64 aB.Dough.Water)), (.v (.int .i64 aB.Dough.Salt)), (.v (.int .i64 aB.Dough.Leaven)), (.v (.int .i64 aB.Loaf.Weight)), (.v (.int .i64 aB.Loaf.Loss)), (.sl 1), (.v (.int .i64 aB.Book.Rack.Fresh)), (.v (.int .i64 aB.Book.Rack.Day)), (.v (.int .i64 aB.Book.Rack.Old)), (.v (.int .i64 aB.Book.Baked)), (.v (.int .i64 aB.Book.Sold)), (.v (.int .i64 aB.Book.Thrown)), (.v (.int .i64 aB.Money))]), (.ag [(.v (.int .i64 aA.Kind)), (.v (.int .i64 aA.A)), (.v (.int .i64 aA.B))])], [(.row false K.ki64 aB.Stock.Grams), (.row false K.k_laws_Event aB.Book.Events)]⟩
noncomputable def laws_FnExactDoAct_d : Rs → Option (Bool)
 | ⟨(.a (.sc (.v (.bool r1)))), [.dead, .dead]⟩ => some r1
 | _ => none
theorem laws_FnExactDoAct_i {r : Rs} {y : Bool} (h : laws_FnExactDoAct_d r = some y) : r = ⟨(.a (.sc (.v (.bool y)))), [.dead, .dead]⟩ := by
 unfold laws_FnExactDoAct_d at h; split at h
 · cases h; rfl
 · cases h
theorem laws_FnExactDoAct_e (k : Nat) (aB : Bakery) (aA : Deed) : callF env (laws_FnExactDoAct_O k) laws_FnExactDoAct_v Tryz.f3 (k + 1) (laws_FnExactDoAct_A aB aA) (fun r => laws_FnExactDoAct_d (r.fin 2 [])) = laws_FnExactDoAct k aB aA := by kernel_rfl
noncomputable def laws_FnExactDoAct_x (k : Nat) : Ent1 := fun A R Q => match A with
 | ⟨[(.ag [(.sl 0), (.v (.int .i64 a2)), (.v (.int .i64 a3)), (.v (.int .i64 a4)), (.v (.int .i64 a5)), (.v (.int .i64 a6)), (.sl 1), (.v (.int .i64 a8)), (.v (.int .i64 a9)), (.v (.int .i64 a10)), (.v (.int .i64 a11)), (.v (.int .i64 a12)), (.v (.int .i64 a13)), (.v (.int .i64 a14))]), (.ag [(.v (.int .i64 a15)), (.v (.int .i64 a16)), (.v (.int .i64 a17))])], [(.row false K.ki64 a1), (.row false K.k_laws_Event a7)]⟩ => (laws_FnExactDoAct k (⟨(⟨a1⟩ : Stock), (⟨a2, a3, a4⟩ : Dough), (⟨a5, a6⟩ : Loaf), (⟨a7, (⟨a8, a9, a10⟩ : Rack), a11, a12, a13⟩ : Book), a14⟩ : Bakery) (⟨a15, a16, a17⟩ : Deed)).bind fun y => Q ⟨(.a (.sc (.v (.bool y)))), [.dead, .dead]⟩
 | _ => none
theorem laws_FnExactDoAct_ok (k : Nat) : OkE Tryz.prog 3 (laws_FnExactDoAct_x k) := by
 intro A R Q x h
 unfold laws_FnExactDoAct_x at h
 split at h
 · obtain ⟨y, hy, hK⟩ := Option.bind_eq_some_iff.1 h
   obtain ⟨r, hr, hd⟩ := callF_ok envOk (laws_FnExactDoAct_Ok k) follows Tryz.func3 (by kernel_rfl) ((laws_FnExactDoAct_e k _ _).trans hy)
   exact ⟨_, laws_FnExactDoAct_i hd ▸ hr.fin [], hK⟩
 · cases h
/-! ### laws.szActS: function 14 -/
noncomputable def laws_szActS (k : Nat)  (a : (List Deed)) (left : Int) : Option (Int) :=
 cond (decide (((wr (left - ((a).length : Int))) : Int) < 0))
 (some (-1))
 (some (wr (left - ((a).length : Int))))
noncomputable def laws_szActS_v : Nat → List Nat := fun t => match t with | _ => []
noncomputable def laws_szActS_O (k : Nat) : Oracle := ofL []
theorem laws_szActS_Ok (k : Nat) : OkO (Ct Tryz.prog) (laws_szActS_O k) := okO_nil
noncomputable def laws_szActS_A (a : (List Deed)) (left : Int) : Pk := ⟨[(.sc (.sl 0)), (.sc (.v (.int .i64 left)))], [(.row false K.k_laws_Act a)]⟩
noncomputable def laws_szActS_d : Rs → Option (Int)
 | ⟨(.a (.sc (.v (.int .i64 r1)))), [.dead]⟩ => some r1
 | _ => none
theorem laws_szActS_i {r : Rs} {y : Int} (h : laws_szActS_d r = some y) : r = ⟨(.a (.sc (.v (.int .i64 y)))), [.dead]⟩ := by
 unfold laws_szActS_d at h; split at h
 · cases h; rfl
 · cases h
theorem laws_szActS_e (k : Nat) (a : (List Deed)) (left : Int) : callF env (laws_szActS_O k) laws_szActS_v Tryz.f14 (k + 1) (laws_szActS_A a left) (fun r => laws_szActS_d (r.fin 1 [])) = laws_szActS k a left := by kernel_rfl
noncomputable def laws_szActS_x (k : Nat) : Ent1 := fun A R Q => match A with
 | ⟨[(.sc (.sl 0)), (.sc (.v (.int .i64 a2)))], [(.row false K.k_laws_Act a1)]⟩ => (laws_szActS k a1 a2).bind fun y => Q ⟨(.a (.sc (.v (.int .i64 y)))), [.dead]⟩
 | _ => none
theorem laws_szActS_ok (k : Nat) : OkE Tryz.prog 14 (laws_szActS_x k) := by
 intro A R Q x h
 unfold laws_szActS_x at h
 split at h
 · obtain ⟨y, hy, hK⟩ := Option.bind_eq_some_iff.1 h
   obtain ⟨r, hr, hd⟩ := callF_ok envOk (laws_szActS_Ok k) follows Tryz.func14 (by kernel_rfl) ((laws_szActS_e k _ _).trans hy)
   exact ⟨_, laws_szActS_i hd ▸ hr.fin [], hK⟩
 · cases h
/-! ### laws.toActS: function 16 -/
noncomputable def laws_toActS_s0 (k : Nat)  (a : (List Deed)) (J : Int → (List Deed) → Option ((List Deed))) (x0_0 : Int) (x0_1 : (List Deed)) : Option ((List Deed)) :=
 cond (decide ((x0_0 : Int) < ((a).length : Int)))
 (if 0 ≤ (x0_0 : Int) ∧ (x0_0 : Int) < ((a).length : Int) then
  (laws_toAct k (a.getD (Int.toNat x0_0) dk_laws_Act)).bind fun y2 =>
   if 0 ≤ (x0_0 : Int) ∧ (x0_0 : Int) < ((x0_1).length : Int) then
    J (wr (x0_0 + 1)) (x0_1.set (Int.toNat x0_0) y2) else none else none)
 (some x0_1)
noncomputable def laws_toActS_l0 (k : Nat) : Nat → (List Deed) → Int → (List Deed) → Option ((List Deed))
 | 0, a, x0_0, x0_1 => laws_toActS_s0 k a (fun _ _ => none) x0_0 x0_1
 | m + 1, a, x0_0, x0_1 => laws_toActS_s0 k a (laws_toActS_l0 k m a) x0_0 x0_1
noncomputable def laws_toActS_m (k : Nat) (J0 : (List Deed) → Int → (List Deed) → Option ((List Deed))) (a : (List Deed)) : Option ((List Deed)) :=
 if 0 ≤ (((a).length : Int) : Int) ∧ (((a).length : Int) : Int) ≤ (maxRow : Int) then
 J0 a 0 (List.replicate (Int.toNat ((a).length : Int)) dk_impl_Act) else none
noncomputable def laws_toActS (k : Nat) (a : (List Deed)) : Option ((List Deed)) := laws_toActS_m k (laws_toActS_l0 k k) a
noncomputable def laws_toActS_v : Nat → List Nat := fun t => match t with | 3 => [0, 2, 3, 4] | _ => []
noncomputable def laws_toActS_O (k : Nat) : Oracle := ofL [(9, laws_toAct_x k)]
theorem laws_toActS_Ok (k : Nat) : OkO (Ct Tryz.prog) (laws_toActS_O k) := okO_cons (laws_toAct_ok k) (okO_nil)
noncomputable def laws_toActS_A (a : (List Deed)) : Pk := ⟨[(.sc (.sl 0))], [(.row false K.k_laws_Act a)]⟩
noncomputable def laws_toActS_d : Rs → Option ((List Deed))
 | ⟨(.a (.sc (.sl 1))), [.dead, (.row true K.k_impl_Act r1)]⟩ => some r1
 | _ => none
theorem laws_toActS_i {r : Rs} {y : (List Deed)} (h : laws_toActS_d r = some y) : r = ⟨(.a (.sc (.sl 1))), [.dead, (.row true K.k_impl_Act y)]⟩ := by
 unfold laws_toActS_d at h; split at h
 · cases h; rfl
 · cases h
noncomputable def laws_toActS_h0 (k m : Nat) (a : (List Deed)) (x0_0 : Int) (x0_1 : (List Deed)) : Option ((List Deed)) := hdAt env (laws_toActS_O k) laws_toActS_v Tryz.f16 1 (fun r => laws_toActS_d (r.fin 1 [])) [1, 1, 0, 1, 0] k m ⟨tmF [0, 2, 3, 4] [(.a (.sc (.sl 0))), (.a (.sc .nl)), (.a (.sc (.sl 1))), (.a (.sc (.v (.int .i64 x0_0))))], blF [(.row false K.k_laws_Act a), (.row true K.k_impl_Act x0_1)]⟩
theorem laws_toActS_z0 (k : Nat) (a : (List Deed)) (x0_0 : Int) (x0_1 : (List Deed)) : laws_toActS_h0 k 0 a x0_0 x0_1 = laws_toActS_s0 k a (fun _ _ => none) x0_0 x0_1 := by kernel_rfl
theorem laws_toActS_g0 (k : Nat) (H : St → Option ((List Deed))) (a : (List Deed)) (x0_0 : Int) (x0_1 : (List Deed)) : rnd env (laws_toActS_O k) laws_toActS_v Tryz.f16 1 (fun r => laws_toActS_d (r.fin 1 [])) [1, 1, 0, 1, 0] k H ⟨tmF [0, 2, 3, 4] [(.a (.sc (.sl 0))), (.a (.sc .nl)), (.a (.sc (.sl 1))), (.a (.sc (.v (.int .i64 x0_0))))], blF [(.row false K.k_laws_Act a), (.row true K.k_impl_Act x0_1)]⟩ = laws_toActS_s0 k a (fun x0_0 x0_1 => H ⟨tmF [0, 2, 3, 4] [(.a (.sc (.sl 0))), (.a (.sc .nl)), (.a (.sc (.sl 1))), (.a (.sc (.v (.int .i64 x0_0))))], blF [(.row false K.k_laws_Act a), (.row true K.k_impl_Act x0_1)]⟩) x0_0 x0_1 := by kernel_rfl
theorem laws_toActS_n0 (k m : Nat) (a : (List Deed)) (x0_0 : Int) (x0_1 : (List Deed)) : laws_toActS_h0 k (m + 1) a x0_0 x0_1 = laws_toActS_s0 k a (laws_toActS_h0 k m a) x0_0 x0_1 := (hdAt_succ _ _ _ _ _ _ _ _ _ _).trans (laws_toActS_g0 k _ a x0_0 x0_1)
theorem laws_toActS_q0 (k : Nat) : ∀ m, laws_toActS_h0 k m = laws_toActS_l0 k m := by
 intro m
 induction m with
 | zero => funext a x0_0 x0_1; rw [laws_toActS_z0]; rfl
 | succ m ih => funext a x0_0 x0_1; rw [laws_toActS_n0, ih]; rfl
theorem laws_toActS_e (k : Nat) (a : (List Deed)) : callF env (laws_toActS_O k) laws_toActS_v Tryz.f16 (k + 1) (laws_toActS_A a) (fun r => laws_toActS_d (r.fin 1 [])) = laws_toActS k a := by
 have e : callF env (laws_toActS_O k) laws_toActS_v Tryz.f16 (k + 1) (laws_toActS_A a) (fun r => laws_toActS_d (r.fin 1 [])) = laws_toActS_m k (laws_toActS_h0 k k) a := by kernel_rfl
 rw [e, laws_toActS_q0]; rfl
noncomputable def laws_toActS_x (k : Nat) : Ent1 := fun A R Q => match A with
 | ⟨[(.sc (.sl 0))], [(.row false K.k_laws_Act a1)]⟩ => (laws_toActS k a1).bind fun y => Q ⟨(.a (.sc (.sl 1))), [.dead, (.row true K.k_impl_Act y)]⟩
 | _ => none
theorem laws_toActS_ok (k : Nat) : OkE Tryz.prog 16 (laws_toActS_x k) := by
 intro A R Q x h
 unfold laws_toActS_x at h
 split at h
 · obtain ⟨y, hy, hK⟩ := Option.bind_eq_some_iff.1 h
   obtain ⟨r, hr, hd⟩ := callF_ok envOk (laws_toActS_Ok k) follows Tryz.func16 (by kernel_rfl) ((laws_toActS_e k _).trans hy)
   exact ⟨_, laws_toActS_i hd ▸ hr.fin [], hK⟩
 · cases h
/-! ### spec.RunActs: function 21 -/
noncomputable def spec_RunActs_s0 (k : Nat)  (b : Bakery) (acts : (List Deed)) (J : Int → (List Int) → (List Event) → Int → Int → Int → Int → Int → Int → Int → Int → Int → Int → Int → Int → (List Int) → Option (Bakery × (List Int))) (x0_0 : Int) (x0_1 : (List Int)) (x0_2 : (List Event)) (x0_3 : Int) (x0_4 : Int) (x0_5 : Int) (x0_6 : Int) (x0_7 : Int) (x0_8 : Int) (x0_9 : Int) (x0_10 : Int) (x0_11 : Int) (x0_12 : Int) (x0_13 : Int) (x0_14 : Int) (x0_15 : (List Int)) : Option (Bakery × (List Int)) :=
 cond (decide ((x0_0 : Int) < ((acts).length : Int)))
 (if 0 ≤ (x0_0 : Int) ∧ (x0_0 : Int) < ((acts).length : Int) then
  (spec_DoAct k (⟨(⟨x0_1⟩ : Stock), (⟨x0_3, x0_4, x0_5⟩ : Dough), (⟨x0_6, x0_7⟩ : Loaf), (⟨x0_2, (⟨x0_8, x0_9, x0_10⟩ : Rack), x0_11, x0_12, x0_13⟩ : Book), x0_14⟩ : Bakery) (acts.getD (Int.toNat x0_0) dk_impl_Act)).bind fun y4 =>
   if (x0_15 : List Int).length + ([y4.2] : List Int).length ≤ maxRow then
    J (wr (x0_0 + 1)) y4.1.Stock.Grams y4.1.Book.Events y4.1.Dough.Water y4.1.Dough.Salt y4.1.Dough.Leaven y4.1.Loaf.Weight y4.1.Loaf.Loss y4.1.Book.Rack.Fresh y4.1.Book.Rack.Day y4.1.Book.Rack.Old y4.1.Book.Baked y4.1.Book.Sold y4.1.Book.Thrown y4.1.Money (x0_15 ++ [y4.2]) else none else none)
 (some ((⟨(⟨x0_1⟩ : Stock), (⟨x0_3, x0_4, x0_5⟩ : Dough), (⟨x0_6, x0_7⟩ : Loaf), (⟨x0_2, (⟨x0_8, x0_9, x0_10⟩ : Rack), x0_11, x0_12, x0_13⟩ : Book), x0_14⟩ : Bakery), x0_15))
noncomputable def spec_RunActs_l0 (k : Nat) : Nat → Bakery → (List Deed) → Int → (List Int) → (List Event) → Int → Int → Int → Int → Int → Int → Int → Int → Int → Int → Int → Int → (List Int) → Option (Bakery × (List Int))
 | 0, b, acts, x0_0, x0_1, x0_2, x0_3, x0_4, x0_5, x0_6, x0_7, x0_8, x0_9, x0_10, x0_11, x0_12, x0_13, x0_14, x0_15 => spec_RunActs_s0 k b acts (fun _ _ _ _ _ _ _ _ _ _ _ _ _ _ _ _ => none) x0_0 x0_1 x0_2 x0_3 x0_4 x0_5 x0_6 x0_7 x0_8 x0_9 x0_10 x0_11 x0_12 x0_13 x0_14 x0_15
 | m + 1, b, acts, x0_0, x0_1, x0_2, x0_3, x0_4, x0_5, x0_6, x0_7, x0_8, x0_9, x0_10, x0_11, x0_12, x0_13, x0_14, x0_15 => spec_RunActs_s0 k b acts (spec_RunActs_l0 k m b acts) x0_0 x0_1 x0_2 x0_3 x0_4 x0_5 x0_6 x0_7 x0_8 x0_9 x0_10 x0_11 x0_12 x0_13 x0_14 x0_15
noncomputable def spec_RunActs_m (k : Nat) (J0 : Bakery → (List Deed) → Int → (List Int) → (List Event) → Int → Int → Int → Int → Int → Int → Int → Int → Int → Int → Int → Int → (List Int) → Option (Bakery × (List Int))) (b : Bakery) (acts : (List Deed)) : Option (Bakery × (List Int)) :=
 (spec_l38Copy k b).bind fun y1 =>
 (spec_BakeryOk k b).bind fun y2 =>
  cond (!y2)
   (some (y1, []))
   (cond (decide ((40 : Int) < ((acts).length : Int)))
    (some (y1, []))
    (J0 b acts 0 y1.Stock.Grams y1.Book.Events y1.Dough.Water y1.Dough.Salt y1.Dough.Leaven y1.Loaf.Weight y1.Loaf.Loss y1.Book.Rack.Fresh y1.Book.Rack.Day y1.Book.Rack.Old y1.Book.Baked y1.Book.Sold y1.Book.Thrown y1.Money ([])))
noncomputable def spec_RunActs (k : Nat) (b : Bakery) (acts : (List Deed)) : Option (Bakery × (List Int)) := spec_RunActs_m k (spec_RunActs_l0 k k) b acts
noncomputable def spec_RunActs_v : Nat → List Nat := fun t => match t with | 6 => [1, 4, 5, 6, 7, 8] | _ => []
noncomputable def spec_RunActs_O (k : Nat) : Oracle := ofL [(28, spec_l38Copy_x k), (29, spec_BakeryOk_x k), (7, spec_DoAct_x k)]
theorem spec_RunActs_Ok (k : Nat) : OkO (Ct Tryz.prog) (spec_RunActs_O k) := okO_cons (spec_l38Copy_ok k) (okO_cons (spec_BakeryOk_ok k) (okO_cons (spec_DoAct_ok k) (okO_nil)))
noncomputable def spec_RunActs_A (b : Bakery) (acts : (List Deed)) : Pk := ⟨[(.ag [(.sl 0), (.v (.int .i64 b.Dough.Water)), (.v (.int .i64 b.Dough.Salt)), (.v (.int .i64 b.Dough.Leaven)), (.v (.int .i64 b.Loaf.Weight)), (.v (.int .i64 b.Loaf.Loss)), (.sl 1), (.v (.int .i64 b.Book.Rack.Fresh)), (.v (.int .i64 b.Book.Rack.Day)), (.v (.int .i64 b.Book.Rack.Old)), (.v (.int .i64 b.Book.Baked)), (.v (.int .i64 b.Book.Sold)), (.v (.int .i64 b.Book.Thrown)), (.v (.int .i64 b.Money))]), (.sc (.sl 2))], [(.row false K.ki64 b.Stock.Grams), (.row false K.k_impl_Event b.Book.Events), (.row false K.k_impl_Act acts)]⟩
noncomputable def spec_RunActs_d : Rs → Option (Bakery × (List Int))
 | ⟨(.tp [(.ag [(.sl 3), (.v (.int .i64 r2)), (.v (.int .i64 r3)), (.v (.int .i64 r4)), (.v (.int .i64 r5)), (.v (.int .i64 r6)), (.sl 4), (.v (.int .i64 r8)), (.v (.int .i64 r9)), (.v (.int .i64 r10)), (.v (.int .i64 r11)), (.v (.int .i64 r12)), (.v (.int .i64 r13)), (.v (.int .i64 r14))]), (.sc (.sl 5))]), [.dead, .dead, .dead, (.row true K.ki64 r1), (.row true K.k_impl_Event r7), (.row true K.ki64 r15)]⟩ => some ((⟨(⟨r1⟩ : Stock), (⟨r2, r3, r4⟩ : Dough), (⟨r5, r6⟩ : Loaf), (⟨r7, (⟨r8, r9, r10⟩ : Rack), r11, r12, r13⟩ : Book), r14⟩ : Bakery), r15)
 | _ => none
theorem spec_RunActs_i {r : Rs} {y : Bakery × (List Int)} (h : spec_RunActs_d r = some y) : r = ⟨(.tp [(.ag [(.sl 3), (.v (.int .i64 y.1.Dough.Water)), (.v (.int .i64 y.1.Dough.Salt)), (.v (.int .i64 y.1.Dough.Leaven)), (.v (.int .i64 y.1.Loaf.Weight)), (.v (.int .i64 y.1.Loaf.Loss)), (.sl 4), (.v (.int .i64 y.1.Book.Rack.Fresh)), (.v (.int .i64 y.1.Book.Rack.Day)), (.v (.int .i64 y.1.Book.Rack.Old)), (.v (.int .i64 y.1.Book.Baked)), (.v (.int .i64 y.1.Book.Sold)), (.v (.int .i64 y.1.Book.Thrown)), (.v (.int .i64 y.1.Money))]), (.sc (.sl 5))]), [.dead, .dead, .dead, (.row true K.ki64 y.1.Stock.Grams), (.row true K.k_impl_Event y.1.Book.Events), (.row true K.ki64 y.2)]⟩ := by
 unfold spec_RunActs_d at h; split at h
 · cases h; rfl
 · cases h
noncomputable def spec_RunActs_h0 (k m : Nat) (b : Bakery) (acts : (List Deed)) (x0_0 : Int) (x0_1 : (List Int)) (x0_2 : (List Event)) (x0_3 : Int) (x0_4 : Int) (x0_5 : Int) (x0_6 : Int) (x0_7 : Int) (x0_8 : Int) (x0_9 : Int) (x0_10 : Int) (x0_11 : Int) (x0_12 : Int) (x0_13 : Int) (x0_14 : Int) (x0_15 : (List Int)) : Option (Bakery × (List Int)) := hdAt env (spec_RunActs_O k) spec_RunActs_v Tryz.f21 3 (fun r => spec_RunActs_d (r.fin 3 [])) [1, 1, 1, 1, 0, 1, 0] k m ⟨tmF [1, 4, 5, 6, 7, 8] [(.a (.sc (.sl 2))), (.a (.sc (.bp 5 0))), (.a (.sc .nl)), (.a (.sc (.bp 8 0))), (.a (.sc (.sl 9))), (.a (.sc (.v (.int .i64 x0_0))))], blF [(.row false K.ki64 b.Stock.Grams), (.row false K.k_impl_Event b.Book.Events), (.row false K.k_impl_Act acts), (.row true K.ki64 []), (.row true K.k_impl_Event []), (.box true [(.sl 3), (.v (.int .i64 0)), (.v (.int .i64 0)), (.v (.int .i64 0)), (.v (.int .i64 0)), (.v (.int .i64 0)), (.sl 4), (.v (.int .i64 0)), (.v (.int .i64 0)), (.v (.int .i64 0)), (.v (.int .i64 0)), (.v (.int .i64 0)), (.v (.int .i64 0)), (.v (.int .i64 0))]), (.row true K.ki64 x0_1), (.row true K.k_impl_Event x0_2), (.box true [(.sl 6), (.v (.int .i64 x0_3)), (.v (.int .i64 x0_4)), (.v (.int .i64 x0_5)), (.v (.int .i64 x0_6)), (.v (.int .i64 x0_7)), (.sl 7), (.v (.int .i64 x0_8)), (.v (.int .i64 x0_9)), (.v (.int .i64 x0_10)), (.v (.int .i64 x0_11)), (.v (.int .i64 x0_12)), (.v (.int .i64 x0_13)), (.v (.int .i64 x0_14))]), (.row true K.ki64 x0_15)]⟩
theorem spec_RunActs_z0 (k : Nat) (b : Bakery) (acts : (List Deed)) (x0_0 : Int) (x0_1 : (List Int)) (x0_2 : (List Event)) (x0_3 : Int) (x0_4 : Int) (x0_5 : Int) (x0_6 : Int) (x0_7 : Int) (x0_8 : Int) (x0_9 : Int) (x0_10 : Int) (x0_11 : Int) (x0_12 : Int) (x0_13 : Int) (x0_14 : Int) (x0_15 : (List Int)) : spec_RunActs_h0 k 0 b acts x0_0 x0_1 x0_2 x0_3 x0_4 x0_5 x0_6 x0_7 x0_8 x0_9 x0_10 x0_11 x0_12 x0_13 x0_14 x0_15 = spec_RunActs_s0 k b acts (fun _ _ _ _ _ _ _ _ _ _ _ _ _ _ _ _ => none) x0_0 x0_1 x0_2 x0_3 x0_4 x0_5 x0_6 x0_7 x0_8 x0_9 x0_10 x0_11 x0_12 x0_13 x0_14 x0_15 := by kernel_rfl
theorem spec_RunActs_g0 (k : Nat) (H : St → Option (Bakery × (List Int))) (b : Bakery) (acts : (List Deed)) (x0_0 : Int) (x0_1 : (List Int)) (x0_2 : (List Event)) (x0_3 : Int) (x0_4 : Int) (x0_5 : Int) (x0_6 : Int) (x0_7 : Int) (x0_8 : Int) (x0_9 : Int) (x0_10 : Int) (x0_11 : Int) (x0_12 : Int) (x0_13 : Int) (x0_14 : Int) (x0_15 : (List Int)) : rnd env (spec_RunActs_O k) spec_RunActs_v Tryz.f21 3 (fun r => spec_RunActs_d (r.fin 3 [])) [1, 1, 1, 1, 0, 1, 0] k H ⟨tmF [1, 4, 5, 6, 7, 8] [(.a (.sc (.sl 2))), (.a (.sc (.bp 5 0))), (.a (.sc .nl)), (.a (.sc (.bp 8 0))), (.a (.sc (.sl 9))), (.a (.sc (.v (.int .i64 x0_0))))], blF [(.row false K.ki64 b.Stock.Grams), (.row false K.k_impl_Event b.Book.Events), (.row false K.k_impl_Act acts), (.row true K.ki64 []), (.row true K.k_impl_Event []), (.box true [(.sl 3), (.v (.int .i64 0)), (.v (.int .i64 0)), (.v (.int .i64 0)), (.v (.int .i64 0)), (.v (.int .i64 0)), (.sl 4), (.v (.int .i64 0)), (.v (.int .i64 0)), (.v (.int .i64 0)), (.v (.int .i64 0)), (.v (.int .i64 0)), (.v (.int .i64 0)), (.v (.int .i64 0))]), (.row true K.ki64 x0_1), (.row true K.k_impl_Event x0_2), (.box true [(.sl 6), (.v (.int .i64 x0_3)), (.v (.int .i64 x0_4)), (.v (.int .i64 x0_5)), (.v (.int .i64 x0_6)), (.v (.int .i64 x0_7)), (.sl 7), (.v (.int .i64 x0_8)), (.v (.int .i64 x0_9)), (.v (.int .i64 x0_10)), (.v (.int .i64 x0_11)), (.v (.int .i64 x0_12)), (.v (.int .i64 x0_13)), (.v (.int .i64 x0_14))]), (.row true K.ki64 x0_15)]⟩ = spec_RunActs_s0 k b acts (fun x0_0 x0_1 x0_2 x0_3 x0_4 x0_5 x0_6 x0_7 x0_8 x0_9 x0_10 x0_11 x0_12 x0_13 x0_14 x0_15 => H ⟨tmF [1, 4, 5, 6, 7, 8] [(.a (.sc (.sl 2))), (.a (.sc (.bp 5 0))), (.a (.sc .nl)), (.a (.sc (.bp 8 0))), (.a (.sc (.sl 9))), (.a (.sc (.v (.int .i64 x0_0))))], blF [(.row false K.ki64 b.Stock.Grams), (.row false K.k_impl_Event b.Book.Events), (.row false K.k_impl_Act acts), (.row true K.ki64 []), (.row true K.k_impl_Event []), (.box true [(.sl 3), (.v (.int .i64 0)), (.v (.int .i64 0)), (.v (.int .i64 0)), (.v (.int .i64 0)), (.v (.int .i64 0)), (.sl 4), (.v (.int .i64 0)), (.v (.int .i64 0)), (.v (.int .i64 0)), (.v (.int .i64 0)), (.v (.int .i64 0)), (.v (.int .i64 0)), (.v (.int .i64 0))]), (.row true K.ki64 x0_1), (.row true K.k_impl_Event x0_2), (.box true [(.sl 6), (.v (.int .i64 x0_3)), (.v (.int .i64 x0_4)), (.v (.int .i64 x0_5)), (.v (.int .i64 x0_6)), (.v (.int .i64 x0_7)), (.sl 7), (.v (.int .i64 x0_8)), (.v (.int .i64 x0_9)), (.v (.int .i64 x0_10)), (.v (.int .i64 x0_11)), (.v (.int .i64 x0_12)), (.v (.int .i64 x0_13)), (.v (.int .i64 x0_14))]), (.row true K.ki64 x0_15)]⟩) x0_0 x0_1 x0_2 x0_3 x0_4 x0_5 x0_6 x0_7 x0_8 x0_9 x0_10 x0_11 x0_12 x0_13 x0_14 x0_15 := by kernel_rfl
theorem spec_RunActs_n0 (k m : Nat) (b : Bakery) (acts : (List Deed)) (x0_0 : Int) (x0_1 : (List Int)) (x0_2 : (List Event)) (x0_3 : Int) (x0_4 : Int) (x0_5 : Int) (x0_6 : Int) (x0_7 : Int) (x0_8 : Int) (x0_9 : Int) (x0_10 : Int) (x0_11 : Int) (x0_12 : Int) (x0_13 : Int) (x0_14 : Int) (x0_15 : (List Int)) : spec_RunActs_h0 k (m + 1) b acts x0_0 x0_1 x0_2 x0_3 x0_4 x0_5 x0_6 x0_7 x0_8 x0_9 x0_10 x0_11 x0_12 x0_13 x0_14 x0_15 = spec_RunActs_s0 k b acts (spec_RunActs_h0 k m b acts) x0_0 x0_1 x0_2 x0_3 x0_4 x0_5 x0_6 x0_7 x0_8 x0_9 x0_10 x0_11 x0_12 x0_13 x0_14 x0_15 := (hdAt_succ _ _ _ _ _ _ _ _ _ _).trans (spec_RunActs_g0 k _ b acts x0_0 x0_1 x0_2 x0_3 x0_4 x0_5 x0_6 x0_7 x0_8 x0_9 x0_10 x0_11 x0_12 x0_13 x0_14 x0_15)
theorem spec_RunActs_q0 (k : Nat) : ∀ m, spec_RunActs_h0 k m = spec_RunActs_l0 k m := by
 intro m
 induction m with
 | zero => funext b acts x0_0 x0_1 x0_2 x0_3 x0_4 x0_5 x0_6 x0_7 x0_8 x0_9 x0_10 x0_11 x0_12 x0_13 x0_14 x0_15; rw [spec_RunActs_z0]; rfl
 | succ m ih => funext b acts x0_0 x0_1 x0_2 x0_3 x0_4 x0_5 x0_6 x0_7 x0_8 x0_9 x0_10 x0_11 x0_12 x0_13 x0_14 x0_15; rw [spec_RunActs_n0, ih]; rfl
theorem spec_RunActs_e (k : Nat) (b : Bakery) (acts : (List Deed)) : callF env (spec_RunActs_O k) spec_RunActs_v Tryz.f21 (k + 1) (spec_RunActs_A b acts) (fun r => spec_RunActs_d (r.fin 3 [])) = spec_RunActs k b acts := by
 have e : callF env (spec_RunActs_O k) spec_RunActs_v Tryz.f21 (k + 1) (spec_RunActs_A b acts) (fun r => spec_RunActs_d (r.fin 3 [])) = spec_RunActs_m k (spec_RunActs_h0 k k) b acts := by kernel_rfl
 rw [e, spec_RunActs_q0]; rfl
noncomputable def spec_RunActs_x (k : Nat) : Ent1 := fun A R Q => match A with
 | ⟨[(.ag [(.sl 0), (.v (.int .i64 a2)), (.v (.int .i64 a3)), (.v (.int .i64 a4)), (.v (.int .i64 a5)), (.v (.int .i64 a6)), (.sl 1), (.v (.int .i64 a8)), (.v (.int .i64 a9)), (.v (.int .i64 a10)), (.v (.int .i64 a11)), (.v (.int .i64 a12)), (.v (.int .i64 a13)), (.v (.int .i64 a14))]), (.sc (.sl 2))], [(.row false K.ki64 a1), (.row false K.k_impl_Event a7), (.row false K.k_impl_Act a15)]⟩ => (spec_RunActs k (⟨(⟨a1⟩ : Stock), (⟨a2, a3, a4⟩ : Dough), (⟨a5, a6⟩ : Loaf), (⟨a7, (⟨a8, a9, a10⟩ : Rack), a11, a12, a13⟩ : Book), a14⟩ : Bakery) a15).bind fun y => Q ⟨(.tp [(.ag [(.sl 3), (.v (.int .i64 y.1.Dough.Water)), (.v (.int .i64 y.1.Dough.Salt)), (.v (.int .i64 y.1.Dough.Leaven)), (.v (.int .i64 y.1.Loaf.Weight)), (.v (.int .i64 y.1.Loaf.Loss)), (.sl 4), (.v (.int .i64 y.1.Book.Rack.Fresh)), (.v (.int .i64 y.1.Book.Rack.Day)), (.v (.int .i64 y.1.Book.Rack.Old)), (.v (.int .i64 y.1.Book.Baked)), (.v (.int .i64 y.1.Book.Sold)), (.v (.int .i64 y.1.Book.Thrown)), (.v (.int .i64 y.1.Money))]), (.sc (.sl 5))]), [.dead, .dead, .dead, (.row true K.ki64 y.1.Stock.Grams), (.row true K.k_impl_Event y.1.Book.Events), (.row true K.ki64 y.2)]⟩
 | _ => none
theorem spec_RunActs_ok (k : Nat) : OkE Tryz.prog 21 (spec_RunActs_x k) := by
 intro A R Q x h
 unfold spec_RunActs_x at h
 split at h
 · obtain ⟨y, hy, hK⟩ := Option.bind_eq_some_iff.1 h
   obtain ⟨r, hr, hd⟩ := callF_ok envOk (spec_RunActs_Ok k) follows Tryz.func21 (by kernel_rfl) ((spec_RunActs_e k _ _).trans hy)
   exact ⟨_, spec_RunActs_i hd ▸ hr.fin [], hK⟩
 · cases h
/-! ### spec.l39Ints: function 57 -/
noncomputable def spec_l39Ints_s0 (k : Nat)  (a : (List Int)) (b : (List Int)) (J : Int → Option (Bool)) (x0_0 : Int) : Option (Bool) :=
 cond (decide ((x0_0 : Int) < ((a).length : Int)))
 (if 0 ≤ (x0_0 : Int) ∧ (x0_0 : Int) < ((a).length : Int) then
  if 0 ≤ (x0_0 : Int) ∧ (x0_0 : Int) < ((b).length : Int) then
   cond (!(decide (((a.getD (Int.toNat x0_0) 0) : Int) = (b.getD (Int.toNat x0_0) 0))))
    (some false)
    (J (wr (x0_0 + 1))) else none else none)
 (some true)
noncomputable def spec_l39Ints_l0 (k : Nat) : Nat → (List Int) → (List Int) → Int → Option (Bool)
 | 0, a, b, x0_0 => spec_l39Ints_s0 k a b (fun _ => none) x0_0
 | m + 1, a, b, x0_0 => spec_l39Ints_s0 k a b (spec_l39Ints_l0 k m a b) x0_0
noncomputable def spec_l39Ints_m (k : Nat) (J0 : (List Int) → (List Int) → Int → Option (Bool)) (a : (List Int)) (b : (List Int)) : Option (Bool) :=
 cond (!(decide ((((a).length : Int) : Int) = ((b).length : Int))))
 (some false)
 (J0 a b 0)
noncomputable def spec_l39Ints (k : Nat) (a : (List Int)) (b : (List Int)) : Option (Bool) := spec_l39Ints_m k (spec_l39Ints_l0 k k) a b
noncomputable def spec_l39Ints_v : Nat → List Nat := fun t => match t with | 4 => [0, 1, 4, 5] | _ => []
noncomputable def spec_l39Ints_O (k : Nat) : Oracle := ofL []
theorem spec_l39Ints_Ok (k : Nat) : OkO (Ct Tryz.prog) (spec_l39Ints_O k) := okO_nil
noncomputable def spec_l39Ints_A (a : (List Int)) (b : (List Int)) : Pk := ⟨[(.sc (.sl 0)), (.sc (.sl 1))], [(.row false K.ki64 a), (.row false K.ki64 b)]⟩
noncomputable def spec_l39Ints_d : Rs → Option (Bool)
 | ⟨(.a (.sc (.v (.bool r1)))), [.dead, .dead]⟩ => some r1
 | _ => none
theorem spec_l39Ints_i {r : Rs} {y : Bool} (h : spec_l39Ints_d r = some y) : r = ⟨(.a (.sc (.v (.bool y)))), [.dead, .dead]⟩ := by
 unfold spec_l39Ints_d at h; split at h
 · cases h; rfl
 · cases h
noncomputable def spec_l39Ints_h0 (k m : Nat) (a : (List Int)) (b : (List Int)) (x0_0 : Int) : Option (Bool) := hdAt env (spec_l39Ints_O k) spec_l39Ints_v Tryz.f57 2 (fun r => spec_l39Ints_d (r.fin 2 [])) [1, 1, 0, 1, 0] k m ⟨tmF [0, 1, 4, 5] [(.a (.sc (.sl 0))), (.a (.sc (.sl 1))), (.a (.sc (.v (.bool false)))), (.a (.sc (.v (.int .i64 x0_0))))], blF [(.row false K.ki64 a), (.row false K.ki64 b)]⟩
theorem spec_l39Ints_z0 (k : Nat) (a : (List Int)) (b : (List Int)) (x0_0 : Int) : spec_l39Ints_h0 k 0 a b x0_0 = spec_l39Ints_s0 k a b (fun _ => none) x0_0 := by kernel_rfl
theorem spec_l39Ints_g0 (k : Nat) (H : St → Option (Bool)) (a : (List Int)) (b : (List Int)) (x0_0 : Int) : rnd env (spec_l39Ints_O k) spec_l39Ints_v Tryz.f57 2 (fun r => spec_l39Ints_d (r.fin 2 [])) [1, 1, 0, 1, 0] k H ⟨tmF [0, 1, 4, 5] [(.a (.sc (.sl 0))), (.a (.sc (.sl 1))), (.a (.sc (.v (.bool false)))), (.a (.sc (.v (.int .i64 x0_0))))], blF [(.row false K.ki64 a), (.row false K.ki64 b)]⟩ = spec_l39Ints_s0 k a b (fun x0_0 => H ⟨tmF [0, 1, 4, 5] [(.a (.sc (.sl 0))), (.a (.sc (.sl 1))), (.a (.sc (.v (.bool false)))), (.a (.sc (.v (.int .i64 x0_0))))], blF [(.row false K.ki64 a), (.row false K.ki64 b)]⟩) x0_0 := by kernel_rfl
theorem spec_l39Ints_n0 (k m : Nat) (a : (List Int)) (b : (List Int)) (x0_0 : Int) : spec_l39Ints_h0 k (m + 1) a b x0_0 = spec_l39Ints_s0 k a b (spec_l39Ints_h0 k m a b) x0_0 := (hdAt_succ _ _ _ _ _ _ _ _ _ _).trans (spec_l39Ints_g0 k _ a b x0_0)
theorem spec_l39Ints_q0 (k : Nat) : ∀ m, spec_l39Ints_h0 k m = spec_l39Ints_l0 k m := by
 intro m
 induction m with
 | zero => funext a b x0_0; rw [spec_l39Ints_z0]; rfl
 | succ m ih => funext a b x0_0; rw [spec_l39Ints_n0, ih]; rfl
theorem spec_l39Ints_e (k : Nat) (a : (List Int)) (b : (List Int)) : callF env (spec_l39Ints_O k) spec_l39Ints_v Tryz.f57 (k + 1) (spec_l39Ints_A a b) (fun r => spec_l39Ints_d (r.fin 2 [])) = spec_l39Ints k a b := by
 have e : callF env (spec_l39Ints_O k) spec_l39Ints_v Tryz.f57 (k + 1) (spec_l39Ints_A a b) (fun r => spec_l39Ints_d (r.fin 2 [])) = spec_l39Ints_m k (spec_l39Ints_h0 k k) a b := by kernel_rfl
 rw [e, spec_l39Ints_q0]; rfl
noncomputable def spec_l39Ints_x (k : Nat) : Ent1 := fun A R Q => match A with
 | ⟨[(.sc (.sl 0)), (.sc (.sl 1))], [(.row false K.ki64 a1), (.row false K.ki64 a2)]⟩ => (spec_l39Ints k a1 a2).bind fun y => Q ⟨(.a (.sc (.v (.bool y)))), [.dead, .dead]⟩
 | _ => none
theorem spec_l39Ints_ok (k : Nat) : OkE Tryz.prog 57 (spec_l39Ints_x k) := by
 intro A R Q x h
 unfold spec_l39Ints_x at h
 split at h
 · obtain ⟨y, hy, hK⟩ := Option.bind_eq_some_iff.1 h
   obtain ⟨r, hr, hd⟩ := callF_ok envOk (spec_l39Ints_Ok k) follows Tryz.func57 (by kernel_rfl) ((spec_l39Ints_e k _ _).trans hy)
   exact ⟨_, spec_l39Ints_i hd ▸ hr.fin [], hK⟩
 · cases h
/-! ### spec.IsReplay: function 15 -/
noncomputable def spec_IsReplay (k : Nat)  (b : Bakery) (acts : (List Deed)) (numbers : (List Int)) : Option (Bool) :=
 (spec_BakeryOk k b).bind fun y1 =>
 cond (!y1)
  (some false)
  (cond (decide ((40 : Int) < ((acts).length : Int)))
   (some false)
   ((spec_RunActs k b acts).bind fun y2 =>
    (spec_l39Ints k y2.2 numbers).bind fun y3 =>
     some y3))
noncomputable def spec_IsReplay_v : Nat → List Nat := fun t => match t with | _ => []
noncomputable def spec_IsReplay_O (k : Nat) : Oracle := ofL [(21, spec_RunActs_x k), (29, spec_BakeryOk_x k), (57, spec_l39Ints_x k)]
theorem spec_IsReplay_Ok (k : Nat) : OkO (Ct Tryz.prog) (spec_IsReplay_O k) := okO_cons (spec_RunActs_ok k) (okO_cons (spec_BakeryOk_ok k) (okO_cons (spec_l39Ints_ok k) (okO_nil)))
noncomputable def spec_IsReplay_A (b : Bakery) (acts : (List Deed)) (numbers : (List Int)) : Pk := ⟨[(.ag [(.sl 0), (.v (.int .i64 b.Dough.Water)), (.v (.int .i64 b.Dough.Salt)), (.v (.int .i64 b.Dough.Leaven)), (.v (.int .i64 b.Loaf.Weight)), (.v (.int .i64 b.Loaf.Loss)), (.sl 1), (.v (.int .i64 b.Book.Rack.Fresh)), (.v (.int .i64 b.Book.Rack.Day)), (.v (.int .i64 b.Book.Rack.Old)), (.v (.int .i64 b.Book.Baked)), (.v (.int .i64 b.Book.Sold)), (.v (.int .i64 b.Book.Thrown)), (.v (.int .i64 b.Money))]), (.sc (.sl 2)), (.sc (.sl 3))], [(.row false K.ki64 b.Stock.Grams), (.row false K.k_impl_Event b.Book.Events), (.row false K.k_impl_Act acts), (.row false K.ki64 numbers)]⟩
noncomputable def spec_IsReplay_d : Rs → Option (Bool)
 | ⟨(.a (.sc (.v (.bool r1)))), [.dead, .dead, .dead, .dead]⟩ => some r1
 | _ => none
theorem spec_IsReplay_i {r : Rs} {y : Bool} (h : spec_IsReplay_d r = some y) : r = ⟨(.a (.sc (.v (.bool y)))), [.dead, .dead, .dead, .dead]⟩ := by
 unfold spec_IsReplay_d at h; split at h
 · cases h; rfl
 · cases h
theorem spec_IsReplay_e (k : Nat) (b : Bakery) (acts : (List Deed)) (numbers : (List Int)) : callF env (spec_IsReplay_O k) spec_IsReplay_v Tryz.f15 (k + 1) (spec_IsReplay_A b acts numbers) (fun r => spec_IsReplay_d (r.fin 4 [])) = spec_IsReplay k b acts numbers := by kernel_rfl
noncomputable def spec_IsReplay_x (k : Nat) : Ent1 := fun A R Q => match A with
 | ⟨[(.ag [(.sl 0), (.v (.int .i64 a2)), (.v (.int .i64 a3)), (.v (.int .i64 a4)), (.v (.int .i64 a5)), (.v (.int .i64 a6)), (.sl 1), (.v (.int .i64 a8)), (.v (.int .i64 a9)), (.v (.int .i64 a10)), (.v (.int .i64 a11)), (.v (.int .i64 a12)), (.v (.int .i64 a13)), (.v (.int .i64 a14))]), (.sc (.sl 2)), (.sc (.sl 3))], [(.row false K.ki64 a1), (.row false K.k_impl_Event a7), (.row false K.k_impl_Act a15), (.row false K.ki64 a16)]⟩ => (spec_IsReplay k (⟨(⟨a1⟩ : Stock), (⟨a2, a3, a4⟩ : Dough), (⟨a5, a6⟩ : Loaf), (⟨a7, (⟨a8, a9, a10⟩ : Rack), a11, a12, a13⟩ : Book), a14⟩ : Bakery) a15 a16).bind fun y => Q ⟨(.a (.sc (.v (.bool y)))), [.dead, .dead, .dead, .dead]⟩
 | _ => none
theorem spec_IsReplay_ok (k : Nat) : OkE Tryz.prog 15 (spec_IsReplay_x k) := by
 intro A R Q x h
 unfold spec_IsReplay_x at h
 split at h
 · obtain ⟨y, hy, hK⟩ := Option.bind_eq_some_iff.1 h
   obtain ⟨r, hr, hd⟩ := callF_ok envOk (spec_IsReplay_Ok k) follows Tryz.func15 (by kernel_rfl) ((spec_IsReplay_e k _ _ _).trans hy)
   exact ⟨_, spec_IsReplay_i hd ▸ hr.fin [], hK⟩
 · cases h
/-! ### impl.RunActs: function 22 -/
noncomputable def impl_RunActs_s0 (k : Nat)  (b : Bakery) (acts : (List Deed)) (J : Int → (List Int) → (List Event) → Int → Int → Int → Int → Int → Int → Int → Int → Int → Int → Int → Int → (List Int) → Option (Bakery × (List Int))) (x0_0 : Int) (x0_1 : (List Int)) (x0_2 : (List Event)) (x0_3 : Int) (x0_4 : Int) (x0_5 : Int) (x0_6 : Int) (x0_7 : Int) (x0_8 : Int) (x0_9 : Int) (x0_10 : Int) (x0_11 : Int) (x0_12 : Int) (x0_13 : Int) (x0_14 : Int) (x0_15 : (List Int)) : Option (Bakery × (List Int)) :=
 cond (decide ((x0_0 : Int) < ((acts).length : Int)))
 (if 0 ≤ (x0_0 : Int) ∧ (x0_0 : Int) < ((acts).length : Int) then
  (impl_DoAct k (⟨(⟨x0_1⟩ : Stock), (⟨x0_3, x0_4, x0_5⟩ : Dough), (⟨x0_6, x0_7⟩ : Loaf), (⟨x0_2, (⟨x0_8, x0_9, x0_10⟩ : Rack), x0_11, x0_12, x0_13⟩ : Book), x0_14⟩ : Bakery) (acts.getD (Int.toNat x0_0) dk_impl_Act)).bind fun y4 =>
   if (x0_15 : List Int).length + ([y4.2] : List Int).length ≤ maxRow then
    J (wr (x0_0 + 1)) y4.1.Stock.Grams y4.1.Book.Events y4.1.Dough.Water y4.1.Dough.Salt y4.1.Dough.Leaven y4.1.Loaf.Weight y4.1.Loaf.Loss y4.1.Book.Rack.Fresh y4.1.Book.Rack.Day y4.1.Book.Rack.Old y4.1.Book.Baked y4.1.Book.Sold y4.1.Book.Thrown y4.1.Money (x0_15 ++ [y4.2]) else none else none)
 (some ((⟨(⟨x0_1⟩ : Stock), (⟨x0_3, x0_4, x0_5⟩ : Dough), (⟨x0_6, x0_7⟩ : Loaf), (⟨x0_2, (⟨x0_8, x0_9, x0_10⟩ : Rack), x0_11, x0_12, x0_13⟩ : Book), x0_14⟩ : Bakery), x0_15))
noncomputable def impl_RunActs_l0 (k : Nat) : Nat → Bakery → (List Deed) → Int → (List Int) → (List Event) → Int → Int → Int → Int → Int → Int → Int → Int → Int → Int → Int → Int → (List Int) → Option (Bakery × (List Int))
 | 0, b, acts, x0_0, x0_1, x0_2, x0_3, x0_4, x0_5, x0_6, x0_7, x0_8, x0_9, x0_10, x0_11, x0_12, x0_13, x0_14, x0_15 => impl_RunActs_s0 k b acts (fun _ _ _ _ _ _ _ _ _ _ _ _ _ _ _ _ => none) x0_0 x0_1 x0_2 x0_3 x0_4 x0_5 x0_6 x0_7 x0_8 x0_9 x0_10 x0_11 x0_12 x0_13 x0_14 x0_15
 | m + 1, b, acts, x0_0, x0_1, x0_2, x0_3, x0_4, x0_5, x0_6, x0_7, x0_8, x0_9, x0_10, x0_11, x0_12, x0_13, x0_14, x0_15 => impl_RunActs_s0 k b acts (impl_RunActs_l0 k m b acts) x0_0 x0_1 x0_2 x0_3 x0_4 x0_5 x0_6 x0_7 x0_8 x0_9 x0_10 x0_11 x0_12 x0_13 x0_14 x0_15
noncomputable def impl_RunActs_m (k : Nat) (J0 : Bakery → (List Deed) → Int → (List Int) → (List Event) → Int → Int → Int → Int → Int → Int → Int → Int → Int → Int → Int → Int → (List Int) → Option (Bakery × (List Int))) (b : Bakery) (acts : (List Deed)) : Option (Bakery × (List Int)) :=
 (impl_bakeryCopy k b).bind fun y1 =>
 (impl_BakeryOk k b).bind fun y2 =>
  cond (!y2)
   (some (y1, []))
   (cond (decide ((40 : Int) < ((acts).length : Int)))
    (some (y1, []))
    (J0 b acts 0 y1.Stock.Grams y1.Book.Events y1.Dough.Water y1.Dough.Salt y1.Dough.Leaven y1.Loaf.Weight y1.Loaf.Loss y1.Book.Rack.Fresh y1.Book.Rack.Day y1.Book.Rack.Old y1.Book.Baked y1.Book.Sold y1.Book.Thrown y1.Money ([])))
noncomputable def impl_RunActs (k : Nat) (b : Bakery) (acts : (List Deed)) : Option (Bakery × (List Int)) := impl_RunActs_m k (impl_RunActs_l0 k k) b acts
noncomputable def impl_RunActs_v : Nat → List Nat := fun t => match t with | 5 => [4, 5, 6, 7, 24, 25, 26] | _ => []
noncomputable def impl_RunActs_O (k : Nat) : Oracle := ofL [(10, impl_DoAct_x k), (41, impl_BakeryOk_x k), (43, impl_bakeryCopy_x k)]
theorem impl_RunActs_Ok (k : Nat) : OkO (Ct Tryz.prog) (impl_RunActs_O k) := okO_cons (impl_DoAct_ok k) (okO_cons (impl_BakeryOk_ok k) (okO_cons (impl_bakeryCopy_ok k) (okO_nil)))
noncomputable def impl_RunActs_A (b : Bakery) (acts : (List Deed)) : Pk := ⟨[(.ag [(.sl 0), (.v (.int .i64 b.Dough.Water)), (.v (.int .i64 b.Dough.Salt)), (.v (.int .i64 b.Dough.Leaven)), (.v (.int .i64 b.Loaf.Weight)), (.v (.int .i64 b.Loaf.Loss)), (.sl 1), (.v (.int .i64 b.Book.Rack.Fresh)), (.v (.int .i64 b.Book.Rack.Day)), (.v (.int .i64 b.Book.Rack.Old)), (.v (.int .i64 b.Book.Baked)), (.v (.int .i64 b.Book.Sold)), (.v (.int .i64 b.Book.Thrown)), (.v (.int .i64 b.Money))]), (.sc (.sl 2))], [(.row false K.ki64 b.Stock.Grams), (.row false K.k_impl_Event b.Book.Events), (.row false K.k_impl_Act acts)]⟩
noncomputable def impl_RunActs_d : Rs → Option (Bakery × (List Int))
 | ⟨(.tp [(.ag [(.sl 3), (.v (.int .i64 r2)), (.v (.int .i64 r3)), (.v (.int .i64 r4)), (.v (.int .i64 r5)), (.v (.int .i64 r6)), (.sl 4), (.v (.int .i64 r8)), (.v (.int .i64 r9)), (.v (.int .i64 r10)), (.v (.int .i64 r11)), (.v (.int .i64 r12)), (.v (.int .i64 r13)), (.v (.int .i64 r14))]), (.sc (.sl 5))]), [.dead, .dead, .dead, (.row true K.ki64 r1), (.row true K.k_impl_Event r7), (.row true K.ki64 r15)]⟩ => some ((⟨(⟨r1⟩ : Stock), (⟨r2, r3, r4⟩ : Dough), (⟨r5, r6⟩ : Loaf), (⟨r7, (⟨r8, r9, r10⟩ : Rack), r11, r12, r13⟩ : Book), r14⟩ : Bakery), r15)
 | _ => none
theorem impl_RunActs_i {r : Rs} {y : Bakery × (List Int)} (h : impl_RunActs_d r = some y) : r = ⟨(.tp [(.ag [(.sl 3), (.v (.int .i64 y.1.Dough.Water)), (.v (.int .i64 y.1.Dough.Salt)), (.v (.int .i64 y.1.Dough.Leaven)), (.v (.int .i64 y.1.Loaf.Weight)), (.v (.int .i64 y.1.Loaf.Loss)), (.sl 4), (.v (.int .i64 y.1.Book.Rack.Fresh)), (.v (.int .i64 y.1.Book.Rack.Day)), (.v (.int .i64 y.1.Book.Rack.Old)), (.v (.int .i64 y.1.Book.Baked)), (.v (.int .i64 y.1.Book.Sold)), (.v (.int .i64 y.1.Book.Thrown)), (.v (.int .i64 y.1.Money))]), (.sc (.sl 5))]), [.dead, .dead, .dead, (.row true K.ki64 y.1.Stock.Grams), (.row true K.k_impl_Event y.1.Book.Events), (.row true K.ki64 y.2)]⟩ := by
 unfold impl_RunActs_d at h; split at h
 · cases h; rfl
 · cases h
noncomputable def impl_RunActs_h0 (k m : Nat) (b : Bakery) (acts : (List Deed)) (x0_0 : Int) (x0_1 : (List Int)) (x0_2 : (List Event)) (x0_3 : Int) (x0_4 : Int) (x0_5 : Int) (x0_6 : Int) (x0_7 : Int) (x0_8 : Int) (x0_9 : Int) (x0_10 : Int) (x0_11 : Int) (x0_12 : Int) (x0_13 : Int) (x0_14 : Int) (x0_15 : (List Int)) : Option (Bakery × (List Int)) := hdAt env (impl_RunActs_O k) impl_RunActs_v Tryz.f22 3 (fun r => impl_RunActs_d (r.fin 3 [K.ki64])) [1, 1, 1, 0, 1, 0] k m ⟨tmF [4, 5, 6, 7, 24, 25, 26] [(.a (.sc (.bp 5 0))), (.a (.sc .nl)), (.a (.sc (.bp 8 0))), (.a (.sc (.sl 9))), (.a (.sc (.sl 2))), (.a (.sc (.v (.int .i64 ((acts).length : Int))))), (.a (.sc (.v (.int .i64 x0_0))))], blF [(.row false K.ki64 b.Stock.Grams), (.row false K.k_impl_Event b.Book.Events), (.row false K.k_impl_Act acts), (.row true K.ki64 []), (.row true K.k_impl_Event []), (.box true [(.sl 3), (.v (.int .i64 0)), (.v (.int .i64 0)), (.v (.int .i64 0)), (.v (.int .i64 0)), (.v (.int .i64 0)), (.sl 4), (.v (.int .i64 0)), (.v (.int .i64 0)), (.v (.int .i64 0)), (.v (.int .i64 0)), (.v (.int .i64 0)), (.v (.int .i64 0)), (.v (.int .i64 0))]), (.row true K.ki64 x0_1), (.row true K.k_impl_Event x0_2), (.box true [(.sl 6), (.v (.int .i64 x0_3)), (.v (.int .i64 x0_4)), (.v (.int .i64 x0_5)), (.v (.int .i64 x0_6)), (.v (.int .i64 x0_7)), (.sl 7), (.v (.int .i64 x0_8)), (.v (.int .i64 x0_9)), (.v (.int .i64 x0_10)), (.v (.int .i64 x0_11)), (.v (.int .i64 x0_12)), (.v (.int .i64 x0_13)), (.v (.int .i64 x0_14))]), (.row true K.ki64 x0_15)]⟩
theorem impl_RunActs_z0 (k : Nat) (b : Bakery) (acts : (List Deed)) (x0_0 : Int) (x0_1 : (List Int)) (x0_2 : (List Event)) (x0_3 : Int) (x0_4 : Int) (x0_5 : Int) (x0_6 : Int) (x0_7 : Int) (x0_8 : Int) (x0_9 : Int) (x0_10 : Int) (x0_11 : Int) (x0_12 : Int) (x0_13 : Int) (x0_14 : Int) (x0_15 : (List Int)) : impl_RunActs_h0 k 0 b acts x0_0 x0_1 x0_2 x0_3 x0_4 x0_5 x0_6 x0_7 x0_8 x0_9 x0_10 x0_11 x0_12 x0_13 x0_14 x0_15 = impl_RunActs_s0 k b acts (fun _ _ _ _ _ _ _ _ _ _ _ _ _ _ _ _ => none) x0_0 x0_1 x0_2 x0_3 x0_4 x0_5 x0_6 x0_7 x0_8 x0_9 x0_10 x0_11 x0_12 x0_13 x0_14 x0_15 := by kernel_rfl
theorem impl_RunActs_g0 (k : Nat) (H : St → Option (Bakery × (List Int))) (b : Bakery) (acts : (List Deed)) (x0_0 : Int) (x0_1 : (List Int)) (x0_2 : (List Event)) (x0_3 : Int) (x0_4 : Int) (x0_5 : Int) (x0_6 : Int) (x0_7 : Int) (x0_8 : Int) (x0_9 : Int) (x0_10 : Int) (x0_11 : Int) (x0_12 : Int) (x0_13 : Int) (x0_14 : Int) (x0_15 : (List Int)) : rnd env (impl_RunActs_O k) impl_RunActs_v Tryz.f22 3 (fun r => impl_RunActs_d (r.fin 3 [K.ki64])) [1, 1, 1, 0, 1, 0] k H ⟨tmF [4, 5, 6, 7, 24, 25, 26] [(.a (.sc (.bp 5 0))), (.a (.sc .nl)), (.a (.sc (.bp 8 0))), (.a (.sc (.sl 9))), (.a (.sc (.sl 2))), (.a (.sc (.v (.int .i64 ((acts).length : Int))))), (.a (.sc (.v (.int .i64 x0_0))))], blF [(.row false K.ki64 b.Stock.Grams), (.row false K.k_impl_Event b.Book.Events), (.row false K.k_impl_Act acts), (.row true K.ki64 []), (.row true K.k_impl_Event []), (.box true [(.sl 3), (.v (.int .i64 0)), (.v (.int .i64 0)), (.v (.int .i64 0)), (.v (.int .i64 0)), (.v (.int .i64 0)), (.sl 4), (.v (.int .i64 0)), (.v (.int .i64 0)), (.v (.int .i64 0)), (.v (.int .i64 0)), (.v (.int .i64 0)), (.v (.int .i64 0)), (.v (.int .i64 0))]), (.row true K.ki64 x0_1), (.row true K.k_impl_Event x0_2), (.box true [(.sl 6), (.v (.int .i64 x0_3)), (.v (.int .i64 x0_4)), (.v (.int .i64 x0_5)), (.v (.int .i64 x0_6)), (.v (.int .i64 x0_7)), (.sl 7), (.v (.int .i64 x0_8)), (.v (.int .i64 x0_9)), (.v (.int .i64 x0_10)), (.v (.int .i64 x0_11)), (.v (.int .i64 x0_12)), (.v (.int .i64 x0_13)), (.v (.int .i64 x0_14))]), (.row true K.ki64 x0_15)]⟩ = impl_RunActs_s0 k b acts (fun x0_0 x0_1 x0_2 x0_3 x0_4 x0_5 x0_6 x0_7 x0_8 x0_9 x0_10 x0_11 x0_12 x0_13 x0_14 x0_15 => H ⟨tmF [4, 5, 6, 7, 24, 25, 26] [(.a (.sc (.bp 5 0))), (.a (.sc .nl)), (.a (.sc (.bp 8 0))), (.a (.sc (.sl 9))), (.a (.sc (.sl 2))), (.a (.sc (.v (.int .i64 ((acts).length : Int))))), (.a (.sc (.v (.int .i64 x0_0))))], blF [(.row false K.ki64 b.Stock.Grams), (.row false K.k_impl_Event b.Book.Events), (.row false K.k_impl_Act acts), (.row true K.ki64 []), (.row true K.k_impl_Event []), (.box true [(.sl 3), (.v (.int .i64 0)), (.v (.int .i64 0)), (.v (.int .i64 0)), (.v (.int .i64 0)), (.v (.int .i64 0)), (.sl 4), (.v (.int .i64 0)), (.v (.int .i64 0)), (.v (.int .i64 0)), (.v (.int .i64 0)), (.v (.int .i64 0)), (.v (.int .i64 0)), (.v (.int .i64 0))]), (.row true K.ki64 x0_1), (.row true K.k_impl_Event x0_2), (.box true [(.sl 6), (.v (.int .i64 x0_3)), (.v (.int .i64 x0_4)), (.v (.int .i64 x0_5)), (.v (.int .i64 x0_6)), (.v (.int .i64 x0_7)), (.sl 7), (.v (.int .i64 x0_8)), (.v (.int .i64 x0_9)), (.v (.int .i64 x0_10)), (.v (.int .i64 x0_11)), (.v (.int .i64 x0_12)), (.v (.int .i64 x0_13)), (.v (.int .i64 x0_14))]), (.row true K.ki64 x0_15)]⟩) x0_0 x0_1 x0_2 x0_3 x0_4 x0_5 x0_6 x0_7 x0_8 x0_9 x0_10 x0_11 x0_12 x0_13 x0_14 x0_15 := by kernel_rfl
theorem impl_RunActs_n0 (k m : Nat) (b : Bakery) (acts : (List Deed)) (x0_0 : Int) (x0_1 : (List Int)) (x0_2 : (List Event)) (x0_3 : Int) (x0_4 : Int) (x0_5 : Int) (x0_6 : Int) (x0_7 : Int) (x0_8 : Int) (x0_9 : Int) (x0_10 : Int) (x0_11 : Int) (x0_12 : Int) (x0_13 : Int) (x0_14 : Int) (x0_15 : (List Int)) : impl_RunActs_h0 k (m + 1) b acts x0_0 x0_1 x0_2 x0_3 x0_4 x0_5 x0_6 x0_7 x0_8 x0_9 x0_10 x0_11 x0_12 x0_13 x0_14 x0_15 = impl_RunActs_s0 k b acts (impl_RunActs_h0 k m b acts) x0_0 x0_1 x0_2 x0_3 x0_4 x0_5 x0_6 x0_7 x0_8 x0_9 x0_10 x0_11 x0_12 x0_13 x0_14 x0_15 := (hdAt_succ _ _ _ _ _ _ _ _ _ _).trans (impl_RunActs_g0 k _ b acts x0_0 x0_1 x0_2 x0_3 x0_4 x0_5 x0_6 x0_7 x0_8 x0_9 x0_10 x0_11 x0_12 x0_13 x0_14 x0_15)
theorem impl_RunActs_q0 (k : Nat) : ∀ m, impl_RunActs_h0 k m = impl_RunActs_l0 k m := by
 intro m
 induction m with
 | zero => funext b acts x0_0 x0_1 x0_2 x0_3 x0_4 x0_5 x0_6 x0_7 x0_8 x0_9 x0_10 x0_11 x0_12 x0_13 x0_14 x0_15; rw [impl_RunActs_z0]; rfl
 | succ m ih => funext b acts x0_0 x0_1 x0_2 x0_3 x0_4 x0_5 x0_6 x0_7 x0_8 x0_9 x0_10 x0_11 x0_12 x0_13 x0_14 x0_15; rw [impl_RunActs_n0, ih]; rfl
theorem impl_RunActs_e (k : Nat) (b : Bakery) (acts : (List Deed)) : callF env (impl_RunActs_O k) impl_RunActs_v Tryz.f22 (k + 1) (impl_RunActs_A b acts) (fun r => impl_RunActs_d (r.fin 3 [K.ki64])) = impl_RunActs k b acts := by
 have e : callF env (impl_RunActs_O k) impl_RunActs_v Tryz.f22 (k + 1) (impl_RunActs_A b acts) (fun r => impl_RunActs_d (r.fin 3 [K.ki64])) = impl_RunActs_m k (impl_RunActs_h0 k k) b acts := by kernel_rfl
 rw [e, impl_RunActs_q0]; rfl
noncomputable def impl_RunActs_x (k : Nat) : Ent1 := fun A R Q => match A with
 | ⟨[(.ag [(.sl 0), (.v (.int .i64 a2)), (.v (.int .i64 a3)), (.v (.int .i64 a4)), (.v (.int .i64 a5)), (.v (.int .i64 a6)), (.sl 1), (.v (.int .i64 a8)), (.v (.int .i64 a9)), (.v (.int .i64 a10)), (.v (.int .i64 a11)), (.v (.int .i64 a12)), (.v (.int .i64 a13)), (.v (.int .i64 a14))]), (.sc (.sl 2))], [(.row false K.ki64 a1), (.row false K.k_impl_Event a7), (.row false K.k_impl_Act a15)]⟩ => (impl_RunActs k (⟨(⟨a1⟩ : Stock), (⟨a2, a3, a4⟩ : Dough), (⟨a5, a6⟩ : Loaf), (⟨a7, (⟨a8, a9, a10⟩ : Rack), a11, a12, a13⟩ : Book), a14⟩ : Bakery) a15).bind fun y => Q ⟨(.tp [(.ag [(.sl 3), (.v (.int .i64 y.1.Dough.Water)), (.v (.int .i64 y.1.Dough.Salt)), (.v (.int .i64 y.1.Dough.Leaven)), (.v (.int .i64 y.1.Loaf.Weight)), (.v (.int .i64 y.1.Loaf.Loss)), (.sl 4), (.v (.int .i64 y.1.Book.Rack.Fresh)), (.v (.int .i64 y.1.Book.Rack.Day)), (.v (.int .i64 y.1.Book.Rack.Old)), (.v (.int .i64 y.1.Book.Baked)), (.v (.int .i64 y.1.Book.Sold)), (.v (.int .i64 y.1.Book.Thrown)), (.v (.int .i64 y.1.Money))]), (.sc (.sl 5))]), [.dead, .dead, .dead, (.row true K.ki64 y.1.Stock.Grams), (.row true K.k_impl_Event y.1.Book.Events), (.row true K.ki64 y.2)]⟩
 | _ => none
theorem impl_RunActs_ok (k : Nat) : OkE Tryz.prog 22 (impl_RunActs_x k) := by
 intro A R Q x h
 unfold impl_RunActs_x at h
 split at h
 · obtain ⟨y, hy, hK⟩ := Option.bind_eq_some_iff.1 h
   obtain ⟨r, hr, hd⟩ := callF_ok envOk (impl_RunActs_Ok k) follows Tryz.func22 (by kernel_rfl) ((impl_RunActs_e k _ _).trans hy)
   exact ⟨_, impl_RunActs_i hd ▸ hr.fin [K.ki64], hK⟩
 · cases h
/-! ### slices.Equal[[]int,int]: function 58 -/
noncomputable def slices_Equal_int_int_s0 (k : Nat)  (s1 : (List Int)) (s2 : (List Int)) (J : Int → Option (Bool)) (x0_0 : Int) : Option (Bool) :=
 cond (decide ((x0_0 : Int) < ((s1).length : Int)))
 (if 0 ≤ (x0_0 : Int) ∧ (x0_0 : Int) < ((s1).length : Int) then
  if 0 ≤ (x0_0 : Int) ∧ (x0_0 : Int) < ((s2).length : Int) then
   cond (!(decide (((s1.getD (Int.toNat x0_0) 0) : Int) = (s2.getD (Int.toNat x0_0) 0))))
    (some false)
    (J (wr (x0_0 + 1))) else none else none)
 (some true)
noncomputable def slices_Equal_int_int_l0 (k : Nat) : Nat → (List Int) → (List Int) → Int → Option (Bool)
 | 0, s1, s2, x0_0 => slices_Equal_int_int_s0 k s1 s2 (fun _ => none) x0_0
 | m + 1, s1, s2, x0_0 => slices_Equal_int_int_s0 k s1 s2 (slices_Equal_int_int_l0 k m s1 s2) x0_0
noncomputable def slices_Equal_int_int_m (k : Nat) (J0 : (List Int) → (List Int) → Int → Option (Bool)) (s1 : (List Int)) (s2 : (List Int)) : Option (Bool) :=
 cond (!(decide ((((s1).length : Int) : Int) = ((s2).length : Int))))
 (some false)
 (J0 s1 s2 0)
noncomputable def slices_Equal_int_int (k : Nat) (s1 : (List Int)) (s2 : (List Int)) : Option (Bool) := slices_Equal_int_int_m k (slices_Equal_int_int_l0 k k) s1 s2
noncomputable def slices_Equal_int_int_v : Nat → List Nat := fun t => match t with | 4 => [0, 1, 4, 12, 13] | _ => []
noncomputable def slices_Equal_int_int_O (k : Nat) : Oracle := ofL []
theorem slices_Equal_int_int_Ok (k : Nat) : OkO (Ct Tryz.prog) (slices_Equal_int_int_O k) := okO_nil
noncomputable def slices_Equal_int_int_A (s1 : (List Int)) (s2 : (List Int)) : Pk := ⟨[(.sc (.sl 0)), (.sc (.sl 1))], [(.row false K.ki64 s1), (.row false K.ki64 s2)]⟩
noncomputable def slices_Equal_int_int_d : Rs → Option (Bool)
 | ⟨(.a (.sc (.v (.bool r1)))), [.dead, .dead]⟩ => some r1
 | _ => none
theorem slices_Equal_int_int_i {r : Rs} {y : Bool} (h : slices_Equal_int_int_d r = some y) : r = ⟨(.a (.sc (.v (.bool y)))), [.dead, .dead]⟩ := by
 unfold slices_Equal_int_int_d at h; split at h
 · cases h; rfl
 · cases h
noncomputable def slices_Equal_int_int_h0 (k m : Nat) (s1 : (List Int)) (s2 : (List Int)) (x0_0 : Int) : Option (Bool) := hdAt env (slices_Equal_int_int_O k) slices_Equal_int_int_v Tryz.f58 2 (fun r => slices_Equal_int_int_d (r.fin 2 [])) [1, 1, 0, 1, 0] k m ⟨tmF [0, 1, 4, 12, 13] [(.a (.sc (.sl 0))), (.a (.sc (.sl 1))), (.a (.sc (.v (.bool false)))), (.a (.sc (.v (.int .i64 ((s1).length : Int))))), (.a (.sc (.v (.int .i64 x0_0))))], blF [(.row false K.ki64 s1), (.row false K.ki64 s2)]⟩
theorem slices_Equal_int_int_z0 (k : Nat) (s1 : (List Int)) (s2 : (List Int)) (x0_0 : Int) : slices_Equal_int_int_h0 k 0 s1 s2 x0_0 = slices_Equal_int_int_s0 k s1 s2 (fun _ => none) x0_0 := by kernel_rfl
theorem slices_Equal_int_int_g0 (k : Nat) (H : St → Option (Bool)) (s1 : (List Int)) (s2 : (List Int)) (x0_0 : Int) : rnd env (slices_Equal_int_int_O k) slices_Equal_int_int_v Tryz.f58 2 (fun r => slices_Equal_int_int_d (r.fin 2 [])) [1, 1, 0, 1, 0] k H ⟨tmF [0, 1, 4, 12, 13] [(.a (.sc (.sl 0))), (.a (.sc (.sl 1))), (.a (.sc (.v (.bool false)))), (.a (.sc (.v (.int .i64 ((s1).length : Int))))), (.a (.sc (.v (.int .i64 x0_0))))], blF [(.row false K.ki64 s1), (.row false K.ki64 s2)]⟩ = slices_Equal_int_int_s0 k s1 s2 (fun x0_0 => H ⟨tmF [0, 1, 4, 12, 13] [(.a (.sc (.sl 0))), (.a (.sc (.sl 1))), (.a (.sc (.v (.bool false)))), (.a (.sc (.v (.int .i64 ((s1).length : Int))))), (.a (.sc (.v (.int .i64 x0_0))))], blF [(.row false K.ki64 s1), (.row false K.ki64 s2)]⟩) x0_0 := by kernel_rfl
theorem slices_Equal_int_int_n0 (k m : Nat) (s1 : (List Int)) (s2 : (List Int)) (x0_0 : Int) : slices_Equal_int_int_h0 k (m + 1) s1 s2 x0_0 = slices_Equal_int_int_s0 k s1 s2 (slices_Equal_int_int_h0 k m s1 s2) x0_0 := (hdAt_succ _ _ _ _ _ _ _ _ _ _).trans (slices_Equal_int_int_g0 k _ s1 s2 x0_0)
theorem slices_Equal_int_int_q0 (k : Nat) : ∀ m, slices_Equal_int_int_h0 k m = slices_Equal_int_int_l0 k m := by
 intro m
 induction m with
 | zero => funext s1 s2 x0_0; rw [slices_Equal_int_int_z0]; rfl
 | succ m ih => funext s1 s2 x0_0; rw [slices_Equal_int_int_n0, ih]; rfl
theorem slices_Equal_int_int_e (k : Nat) (s1 : (List Int)) (s2 : (List Int)) : callF env (slices_Equal_int_int_O k) slices_Equal_int_int_v Tryz.f58 (k + 1) (slices_Equal_int_int_A s1 s2) (fun r => slices_Equal_int_int_d (r.fin 2 [])) = slices_Equal_int_int k s1 s2 := by
 have e : callF env (slices_Equal_int_int_O k) slices_Equal_int_int_v Tryz.f58 (k + 1) (slices_Equal_int_int_A s1 s2) (fun r => slices_Equal_int_int_d (r.fin 2 [])) = slices_Equal_int_int_m k (slices_Equal_int_int_h0 k k) s1 s2 := by kernel_rfl
 rw [e, slices_Equal_int_int_q0]; rfl
noncomputable def slices_Equal_int_int_x (k : Nat) : Ent1 := fun A R Q => match A with
 | ⟨[(.sc (.sl 0)), (.sc (.sl 1))], [(.row false K.ki64 a1), (.row false K.ki64 a2)]⟩ => (slices_Equal_int_int k a1 a2).bind fun y => Q ⟨(.a (.sc (.v (.bool y)))), [.dead, .dead]⟩
 | _ => none
theorem slices_Equal_int_int_ok (k : Nat) : OkE Tryz.prog 58 (slices_Equal_int_int_x k) := by
 intro A R Q x h
 unfold slices_Equal_int_int_x at h
 split at h
 · obtain ⟨y, hy, hK⟩ := Option.bind_eq_some_iff.1 h
   obtain ⟨r, hr, hd⟩ := callF_ok envOk (slices_Equal_int_int_Ok k) follows Tryz.func58 (by kernel_rfl) ((slices_Equal_int_int_e k _ _).trans hy)
   exact ⟨_, slices_Equal_int_int_i hd ▸ hr.fin [], hK⟩
 · cases h
/-! ### impl.IsReplay: function 18 -/
noncomputable def impl_IsReplay (k : Nat)  (b : Bakery) (acts : (List Deed)) (numbers : (List Int)) : Option (Bool) :=
 (impl_BakeryOk k b).bind fun y1 =>
 cond (!y1)
  (some false)
  (cond (decide ((40 : Int) < ((acts).length : Int)))
   (some false)
   ((impl_RunActs k b acts).bind fun y2 =>
    (slices_Equal_int_int k y2.2 numbers).bind fun y3 =>
     some y3))
noncomputable def impl_IsReplay_v : Nat → List Nat := fun t => match t with | _ => []
noncomputable def impl_IsReplay_O (k : Nat) : Oracle := ofL [(22, impl_RunActs_x k), (41, impl_BakeryOk_x k), (58, slices_Equal_int_int_x k)]
theorem impl_IsReplay_Ok (k : Nat) : OkO (Ct Tryz.prog) (impl_IsReplay_O k) := okO_cons (impl_RunActs_ok k) (okO_cons (impl_BakeryOk_ok k) (okO_cons (slices_Equal_int_int_ok k) (okO_nil)))
noncomputable def impl_IsReplay_A (b : Bakery) (acts : (List Deed)) (numbers : (List Int)) : Pk := ⟨[(.ag [(.sl 0), (.v (.int .i64 b.Dough.Water)), (.v (.int .i64 b.Dough.Salt)), (.v (.int .i64 b.Dough.Leaven)), (.v (.int .i64 b.Loaf.Weight)), (.v (.int .i64 b.Loaf.Loss)), (.sl 1), (.v (.int .i64 b.Book.Rack.Fresh)), (.v (.int .i64 b.Book.Rack.Day)), (.v (.int .i64 b.Book.Rack.Old)), (.v (.int .i64 b.Book.Baked)), (.v (.int .i64 b.Book.Sold)), (.v (.int .i64 b.Book.Thrown)), (.v (.int .i64 b.Money))]), (.sc (.sl 2)), (.sc (.sl 3))], [(.row false K.ki64 b.Stock.Grams), (.row false K.k_impl_Event b.Book.Events), (.row false K.k_impl_Act acts), (.row false K.ki64 numbers)]⟩
noncomputable def impl_IsReplay_d : Rs → Option (Bool)
 | ⟨(.a (.sc (.v (.bool r1)))), [.dead, .dead, .dead, .dead]⟩ => some r1
 | _ => none
theorem impl_IsReplay_i {r : Rs} {y : Bool} (h : impl_IsReplay_d r = some y) : r = ⟨(.a (.sc (.v (.bool y)))), [.dead, .dead, .dead, .dead]⟩ := by
 unfold impl_IsReplay_d at h; split at h
 · cases h; rfl
 · cases h
theorem impl_IsReplay_e (k : Nat) (b : Bakery) (acts : (List Deed)) (numbers : (List Int)) : callF env (impl_IsReplay_O k) impl_IsReplay_v Tryz.f18 (k + 1) (impl_IsReplay_A b acts numbers) (fun r => impl_IsReplay_d (r.fin 4 [])) = impl_IsReplay k b acts numbers := by kernel_rfl
noncomputable def impl_IsReplay_x (k : Nat) : Ent1 := fun A R Q => match A with
 | ⟨[(.ag [(.sl 0), (.v (.int .i64 a2)), (.v (.int .i64 a3)), (.v (.int .i64 a4)), (.v (.int .i64 a5)), (.v (.int .i64 a6)), (.sl 1), (.v (.int .i64 a8)), (.v (.int .i64 a9)), (.v (.int .i64 a10)), (.v (.int .i64 a11)), (.v (.int .i64 a12)), (.v (.int .i64 a13)), (.v (.int .i64 a14))]), (.sc (.sl 2)), (.sc (.sl 3))], [(.row false K.ki64 a1), (.row false K.k_impl_Event a7), (.row false K.k_impl_Act a15), (.row false K.ki64 a16)]⟩ => (impl_IsReplay k (⟨(⟨a1⟩ : Stock), (⟨a2, a3, a4⟩ : Dough), (⟨a5, a6⟩ : Loaf), (⟨a7, (⟨a8, a9, a10⟩ : Rack), a11, a12, a13⟩ : Book), a14⟩ : Bakery) a15 a16).bind fun y => Q ⟨(.a (.sc (.v (.bool y)))), [.dead, .dead, .dead, .dead]⟩
 | _ => none
theorem impl_IsReplay_ok (k : Nat) : OkE Tryz.prog 18 (impl_IsReplay_x k) := by
 intro A R Q x h
 unfold impl_IsReplay_x at h
 split at h
 · obtain ⟨y, hy, hK⟩ := Option.bind_eq_some_iff.1 h
   obtain ⟨r, hr, hd⟩ := callF_ok envOk (impl_IsReplay_Ok k) follows Tryz.func18 (by kernel_rfl) ((impl_IsReplay_e k _ _ _).trans hy)
   exact ⟨_, impl_IsReplay_i hd ▸ hr.fin [], hK⟩
 · cases h
end Go.Proofs.YtlhcphoojiemmaaGreatX
