/- What functions of the program compute, as functions of numbers and lists, and that they do. (The file is written by wip/x/vxp.py of this repository.) -/
import Derived.Test.YtlhcphoojiemmaaGreatZ
namespace Go.Proofs.YtlhcphoojiemmaaGreatX
open Go Go.Proofs
set_option linter.unusedVariables false
set_option maxRecDepth 100000
/-! ### laws.szIntS: function 60 -/
noncomputable def laws_szIntS (k : Nat)  (a : (List Int)) (left : Int) : Option (Int) :=
 cond (decide (((wr (left - ((a).length : Int))) : Int) < 0))
 (some (-1))
 (some (wr (left - ((a).length : Int))))
noncomputable def laws_szIntS_v : Nat → List Nat := fun t => match t with | _ => []
noncomputable def laws_szIntS_O (k : Nat) : Oracle := ofL []
theorem laws_szIntS_Ok (k : Nat) : OkO (Ct Tryz.prog) (laws_szIntS_O k) := okO_nil
noncomputable def laws_szIntS_A (a : (List Int)) (left : Int) : Pk := ⟨[(.sc (.sl 0)), (.sc (.v (.int .i64 left)))], [(.row false K.ki64 a)]⟩
noncomputable def laws_szIntS_d : Rs → Option (Int)
 | ⟨(.a (.sc (.v (.int .i64 r1)))), [.dead]⟩ => some r1
 | _ => none
theorem laws_szIntS_i {r : Rs} {y : Int} (h : laws_szIntS_d r = some y) : r = ⟨(.a (.sc (.v (.int .i64 y)))), [.dead]⟩ := by
 unfold laws_szIntS_d at h; split at h
 · cases h; rfl
 · cases h
theorem laws_szIntS_e (k : Nat) (a : (List Int)) (left : Int) : callF env (laws_szIntS_O k) laws_szIntS_v Tryz.f60 (k + 1) (laws_szIntS_A a left) (fun r => laws_szIntS_d (r.fin 1 [])) = laws_szIntS k a left := by kernel_rfl
noncomputable def laws_szIntS_x (k : Nat) : Ent1 := fun A R Q => match A with
 | ⟨[(.sc (.sl 0)), (.sc (.v (.int .i64 a2)))], [(.row false K.ki64 a1)]⟩ => (laws_szIntS k a1 a2).bind fun y => Q ⟨(.a (.sc (.v (.int .i64 y)))), [.dead]⟩
 | _ => none
theorem laws_szIntS_ok (k : Nat) : OkE Tryz.prog 60 (laws_szIntS_x k) := by
 intro A R Q x h
 unfold laws_szIntS_x at h
 split at h
 · obtain ⟨y, hy, hK⟩ := Option.bind_eq_some_iff.1 h
   obtain ⟨r, hr, hd⟩ := callF_ok envOk (laws_szIntS_Ok k) follows Tryz.func60 (by kernel_rfl) ((laws_szIntS_e k _ _).trans hy)
   exact ⟨_, laws_szIntS_i hd ▸ hr.fin [], hK⟩
 · cases h
/-! ### laws.szStock: function 26 -/
noncomputable def laws_szStock (k : Nat)  (a : Stock) (left : Int) : Option (Int) :=
 (laws_szIntS k a.Grams left).bind fun y1 =>
 cond (decide ((y1 : Int) < 0))
  (some (-1))
  (some y1)
noncomputable def laws_szStock_v : Nat → List Nat := fun t => match t with | _ => []
noncomputable def laws_szStock_O (k : Nat) : Oracle := ofL [(60, laws_szIntS_x k)]
theorem laws_szStock_Ok (k : Nat) : OkO (Ct Tryz.prog) (laws_szStock_O k) := okO_cons (laws_szIntS_ok k) (okO_nil)
noncomputable def laws_szStock_A (a : Stock) (left : Int) : Pk := ⟨[(.ag [(.sl 0)]), (.sc (.v (.int .i64 left)))], [(.row false K.ki64 a.Grams)]⟩
noncomputable def laws_szStock_d : Rs → Option (Int)
 | ⟨(.a (.sc (.v (.int .i64 r1)))), [.dead]⟩ => some r1
 | _ => none
theorem laws_szStock_i {r : Rs} {y : Int} (h : laws_szStock_d r = some y) : r = ⟨(.a (.sc (.v (.int .i64 y)))), [.dead]⟩ := by
 unfold laws_szStock_d at h; split at h
 · cases h; rfl
 · cases h
theorem laws_szStock_e (k : Nat) (a : Stock) (left : Int) : callF env (laws_szStock_O k) laws_szStock_v Tryz.f26 (k + 1) (laws_szStock_A a left) (fun r => laws_szStock_d (r.fin 1 [])) = laws_szStock k a left := by kernel_rfl
noncomputable def laws_szStock_x (k : Nat) : Ent1 := fun A R Q => match A with
 | ⟨[(.ag [(.sl 0)]), (.sc (.v (.int .i64 a2)))], [(.row false K.ki64 a1)]⟩ => (laws_szStock k (⟨a1⟩ : Stock) a2).bind fun y => Q ⟨(.a (.sc (.v (.int .i64 y)))), [.dead]⟩
 | _ => none
theorem laws_szStock_ok (k : Nat) : OkE Tryz.prog 26 (laws_szStock_x k) := by
 intro A R Q x h
 unfold laws_szStock_x at h
 split at h
 · obtain ⟨y, hy, hK⟩ := Option.bind_eq_some_iff.1 h
   obtain ⟨r, hr, hd⟩ := callF_ok envOk (laws_szStock_Ok k) follows Tryz.func26 (by kernel_rfl) ((laws_szStock_e k _ _).trans hy)
   exact ⟨_, laws_szStock_i hd ▸ hr.fin [], hK⟩
 · cases h
/-! ### laws.szEventS: function 61 -/
noncomputable def laws_szEventS (k : Nat)  (a : (List Event)) (left : Int) : Option (Int) :=
 cond (decide (((wr (left - ((a).length : Int))) : Int) < 0))
 (some (-1))
 (some (wr (left - ((a).length : Int))))
noncomputable def laws_szEventS_v : Nat → List Nat := fun t => match t with | _ => []
noncomputable def laws_szEventS_O (k : Nat) : Oracle := ofL []
theorem laws_szEventS_Ok (k : Nat) : OkO (Ct Tryz.prog) (laws_szEventS_O k) := okO_nil
noncomputable def laws_szEventS_A (a : (List Event)) (left : Int) : Pk := ⟨[(.sc (.sl 0)), (.sc (.v (.int .i64 left)))], [(.row false K.k_laws_Event a)]⟩
noncomputable def laws_szEventS_d : Rs → Option (Int)
 | ⟨(.a (.sc (.v (.int .i64 r1)))), [.dead]⟩ => some r1
 | _ => none
theorem laws_szEventS_i {r : Rs} {y : Int} (h : laws_szEventS_d r = some y) : r = ⟨(.a (.sc (.v (.int .i64 y)))), [.dead]⟩ := by
 unfold laws_szEventS_d at h; split at h
 · cases h; rfl
 · cases h
theorem laws_szEventS_e (k : Nat) (a : (List Event)) (left : Int) : callF env (laws_szEventS_O k) laws_szEventS_v Tryz.f61 (k + 1) (laws_szEventS_A a left) (fun r => laws_szEventS_d (r.fin 1 [])) = laws_szEventS k a left := by kernel_rfl
noncomputable def laws_szEventS_x (k : Nat) : Ent1 := fun A R Q => match A with
 | ⟨[(.sc (.sl 0)), (.sc (.v (.int .i64 a2)))], [(.row false K.k_laws_Event a1)]⟩ => (laws_szEventS k a1 a2).bind fun y => Q ⟨(.a (.sc (.v (.int .i64 y)))), [.dead]⟩
 | _ => none
theorem laws_szEventS_ok (k : Nat) : OkE Tryz.prog 61 (laws_szEventS_x k) := by
 intro A R Q x h
 unfold laws_szEventS_x at h
 split at h
 · obtain ⟨y, hy, hK⟩ := Option.bind_eq_some_iff.1 h
   obtain ⟨r, hr, hd⟩ := callF_ok envOk (laws_szEventS_Ok k) follows Tryz.func61 (by kernel_rfl) ((laws_szEventS_e k _ _).trans hy)
   exact ⟨_, laws_szEventS_i hd ▸ hr.fin [], hK⟩
 · cases h
/-! ### laws.szBook: function 27 -/
noncomputable def laws_szBook (k : Nat)  (a : Book) (left : Int) : Option (Int) :=
 (laws_szEventS k a.Events left).bind fun y1 =>
 cond (decide ((y1 : Int) < 0))
  (some (-1))
  (some y1)
noncomputable def laws_szBook_v : Nat → List Nat := fun t => match t with | _ => []
noncomputable def laws_szBook_O (k : Nat) : Oracle := ofL [(61, laws_szEventS_x k)]
theorem laws_szBook_Ok (k : Nat) : OkO (Ct Tryz.prog) (laws_szBook_O k) := okO_cons (laws_szEventS_ok k) (okO_nil)
noncomputable def laws_szBook_A (a : Book) (left : Int) : Pk := ⟨[(.ag [(.sl 0), (.v (.int .i64 a.Rack.Fresh)), (.v (.int .i64 a.Rack.Day)), (.v (.int .i64 a.Rack.Old)), (.v (.int .i64 a.Baked)), (.v (.int .i64 a.Sold)), (.v (.int .i64 a.Thrown))]), (.sc (.v (.int .i64 left)))], [(.row false K.k_laws_Event a.Events)]⟩
noncomputable def laws_szBook_d : Rs → Option (Int)
 | ⟨(.a (.sc (.v (.int .i64 r1)))), [.dead]⟩ => some r1
 | _ => none
theorem laws_szBook_i {r : Rs} {y : Int} (h : laws_szBook_d r = some y) : r = ⟨(.a (.sc (.v (.int .i64 y)))), [.dead]⟩ := by
 unfold laws_szBook_d at h; split at h
 · cases h; rfl
 · cases h
theorem laws_szBook_e (k : Nat) (a : Book) (left : Int) : callF env (laws_szBook_O k) laws_szBook_v Tryz.f27 (k + 1) (laws_szBook_A a left) (fun r => laws_szBook_d (r.fin 1 [])) = laws_szBook k a left := by kernel_rfl
noncomputable def laws_szBook_x (k : Nat) : Ent1 := fun A R Q => match A with
 | ⟨[(.ag [(.sl 0), (.v (.int .i64 a2)), (.v (.int .i64 a3)), (.v (.int .i64 a4)), (.v (.int .i64 a5)), (.v (.int .i64 a6)), (.v (.int .i64 a7))]), (.sc (.v (.int .i64 a8)))], [(.row false K.k_laws_Event a1)]⟩ => (laws_szBook k (⟨a1, (⟨a2, a3, a4⟩ : Rack), a5, a6, a7⟩ : Book) a8).bind fun y => Q ⟨(.a (.sc (.v (.int .i64 y)))), [.dead]⟩
 | _ => none
theorem laws_szBook_ok (k : Nat) : OkE Tryz.prog 27 (laws_szBook_x k) := by
 intro A R Q x h
 unfold laws_szBook_x at h
 split at h
 · obtain ⟨y, hy, hK⟩ := Option.bind_eq_some_iff.1 h
   obtain ⟨r, hr, hd⟩ := callF_ok envOk (laws_szBook_Ok k) follows Tryz.func27 (by kernel_rfl) ((laws_szBook_e k _ _).trans hy)
   exact ⟨_, laws_szBook_i hd ▸ hr.fin [], hK⟩
 · cases h
/-! ### laws.szBakery: function 6 -/
noncomputable def laws_szBakery (k : Nat)  (a : Bakery) (left : Int) : Option (Int) :=
 (laws_szStock k a.Stock left).bind fun y1 =>
 cond (decide ((y1 : Int) < 0))
  (some (-1))
  ((laws_szBook k a.Book y1).bind fun y2 =>
   cond (decide ((y2 : Int) < 0))
    (some (-1))
    (some y2))
noncomputable def laws_szBakery_v : Nat → List Nat := fun t => match t with | _ => []
noncomputable def laws_szBakery_O (k : Nat) : Oracle := ofL [(26, laws_szStock_x k), (27, laws_szBook_x k)]
theorem laws_szBakery_Ok (k : Nat) : OkO (Ct Tryz.prog) (laws_szBakery_O k) := okO_cons (laws_szStock_ok k) (okO_cons (laws_szBook_ok k) (okO_nil))
noncomputable def laws_szBakery_A (a : Bakery) (left : Int) : Pk := ⟨[(.ag [(.sl 0), (.v (.int .i64 a.Dough.Water)), (.v (.int .i64 a.Dough.Salt)), (.v (.int .i64 a.Dough.Leaven)), (.v (.int .i64 a.Loaf.Weight)), (.v (.int .i64 a.Loaf.Loss)), (.sl 1), (.v (.int .i64 a.Book.Rack.Fresh)), (.v (.int .i64 a.Book.Rack.Day)), (.v (.int .i64 a.Book.Rack.Old)), (.v (.int .i64 a.Book.Baked)), (.v (.int .i64 a.Book.Sold)), (.v (.int .i64 a.Book.Thrown)), (.v (.int .i64 a.Money))]), (.sc (.v (.int .i64 left)))], [(.row false K.ki64 a.Stock.Grams), (.row false K.k_laws_Event a.Book.Events)]⟩
noncomputable def laws_szBakery_d : Rs → Option (Int)
 | ⟨(.a (.sc (.v (.int .i64 r1)))), [.dead, .dead]⟩ => some r1
 | _ => none
theorem laws_szBakery_i {r : Rs} {y : Int} (h : laws_szBakery_d r = some y) : r = ⟨(.a (.sc (.v (.int .i64 y)))), [.dead, .dead]⟩ := by
 unfold laws_szBakery_d at h; split at h
 · cases h; rfl
 · cases h
theorem laws_szBakery_e (k : Nat) (a : Bakery) (left : Int) : callF env (laws_szBakery_O k) laws_szBakery_v Tryz.f6 (k + 1) (laws_szBakery_A a left) (fun r => laws_szBakery_d (r.fin 2 [])) = laws_szBakery k a left := by kernel_rfl
noncomputable def laws_szBakery_x (k : Nat) : Ent1 := fun A R Q => match A with
 | ⟨[(.ag [(.sl 0), (.v (.int .i64 a2)), (.v (.int .i64 a3)), (.v (.int .i64 a4)), (.v (.int .i64 a5)), (.v (.int .i64 a6)), (.sl 1), (.v (.int .i64 a8)), (.v (.int .i64 a9)), (.v (.int .i64 a10)), (.v (.int .i64 a11)), (.v (.int .i64 a12)), (.v (.int .i64 a13)), (.v (.int .i64 a14))]), (.sc (.v (.int .i64 a15)))], [(.row false K.ki64 a1), (.row false K.k_laws_Event a7)]⟩ => (laws_szBakery k (⟨(⟨a1⟩ : Stock), (⟨a2, a3, a4⟩ : Dough), (⟨a5, a6⟩ : Loaf), (⟨a7, (⟨a8, a9, a10⟩ : Rack), a11, a12, a13⟩ : Book), a14⟩ : Bakery) a15).bind fun y => Q ⟨(.a (.sc (.v (.int .i64 y)))), [.dead, .dead]⟩
 | _ => none
theorem laws_szBakery_ok (k : Nat) : OkE Tryz.prog 6 (laws_szBakery_x k) := by
 intro A R Q x h
 unfold laws_szBakery_x at h
 split at h
 · obtain ⟨y, hy, hK⟩ := Option.bind_eq_some_iff.1 h
   obtain ⟨r, hr, hd⟩ := callF_ok envOk (laws_szBakery_Ok k) follows Tryz.func6 (by kernel_rfl) ((laws_szBakery_e k _ _).trans hy)
   exact ⟨_, laws_szBakery_i hd ▸ hr.fin [], hK⟩
 · cases h
/-! ### laws.toIntS: function 17 -/
noncomputable def laws_toIntS_s0 (k : Nat)  (a : (List Int)) (J : Int → (List Int) → Option ((List Int))) (x0_0 : Int) (x0_1 : (List Int)) : Option ((List Int)) :=
 cond (decide ((x0_0 : Int) < ((a).length : Int)))
 (if 0 ≤ (x0_0 : Int) ∧ (x0_0 : Int) < ((a).length : Int) then
  if 0 ≤ (x0_0 : Int) ∧ (x0_0 : Int) < ((x0_1).length : Int) then
   J (wr (x0_0 + 1)) (x0_1.set (Int.toNat x0_0) (a.getD (Int.toNat x0_0) 0)) else none else none)
 (some x0_1)
noncomputable def laws_toIntS_l0 (k : Nat) : Nat → (List Int) → Int → (List Int) → Option ((List Int))
 | 0, a, x0_0, x0_1 => laws_toIntS_s0 k a (fun _ _ => none) x0_0 x0_1
 | m + 1, a, x0_0, x0_1 => laws_toIntS_s0 k a (laws_toIntS_l0 k m a) x0_0 x0_1
noncomputable def laws_toIntS_m (k : Nat) (J0 : (List Int) → Int → (List Int) → Option ((List Int))) (a : (List Int)) : Option ((List Int)) :=
 if 0 ≤ (((a).length : Int) : Int) ∧ (((a).length : Int) : Int) ≤ (maxRow : Int) then
 J0 a 0 (List.replicate (Int.toNat ((a).length : Int)) 0) else none
noncomputable def laws_toIntS (k : Nat) (a : (List Int)) : Option ((List Int)) := laws_toIntS_m k (laws_toIntS_l0 k k) a
noncomputable def laws_toIntS_v : Nat → List Nat := fun t => match t with | 3 => [0, 2, 3, 4] | _ => []
noncomputable def laws_toIntS_O (k : Nat) : Oracle := ofL []
theorem laws_toIntS_Ok (k : Nat) : OkO (Ct Tryz.prog) (laws_toIntS_O k) := okO_nil
noncomputable def laws_toIntS_A (a : (List Int)) : Pk := ⟨[(.sc (.sl 0))], [(.row false K.ki64 a)]⟩
noncomputable def laws_toIntS_d : Rs → Option ((List Int))
 | ⟨(.a (.sc (.sl 1))), [.dead, (.row true K.ki64 r1)]⟩ => some r1
 | _ => none
theorem laws_toIntS_i {r : Rs} {y : (List Int)} (h : laws_toIntS_d r = some y) : r = ⟨(.a (.sc (.sl 1))), [.dead, (.row true K.ki64 y)]⟩ := by
 unfold laws_toIntS_d at h; split at h
 · cases h; rfl
 · cases h
noncomputable def laws_toIntS_h0 (k m : Nat) (a : (List Int)) (x0_0 : Int) (x0_1 : (List Int)) : Option ((List Int)) := hdAt env (laws_toIntS_O k) laws_toIntS_v Tryz.f17 1 (fun r => laws_toIntS_d (r.fin 1 [])) [1, 1, 0, 1, 0] k m ⟨tmF [0, 2, 3, 4] [(.a (.sc (.sl 0))), (.a (.sc .nl)), (.a (.sc (.sl 1))), (.a (.sc (.v (.int .i64 x0_0))))], blF [(.row false K.ki64 a), (.row true K.ki64 x0_1)]⟩
theorem laws_toIntS_z0 (k : Nat) (a : (List Int)) (x0_0 : Int) (x0_1 : (List Int)) : laws_toIntS_h0 k 0 a x0_0 x0_1 = laws_toIntS_s0 k a (fun _ _ => none) x0_0 x0_1 := by kernel_rfl
theorem laws_toIntS_g0 (k : Nat) (H : St → Option ((List Int))) (a : (List Int)) (x0_0 : Int) (x0_1 : (List Int)) : rnd env (laws_toIntS_O k) laws_toIntS_v Tryz.f17 1 (fun r => laws_toIntS_d (r.fin 1 [])) [1, 1, 0, 1, 0] k H ⟨tmF [0, 2, 3, 4] [(.a (.sc (.sl 0))), (.a (.sc .nl)), (.a (.sc (.sl 1))), (.a (.sc (.v (.int .i64 x0_0))))], blF [(.row false K.ki64 a), (.row true K.ki64 x0_1)]⟩ = laws_toIntS_s0 k a (fun x0_0 x0_1 => H ⟨tmF [0, 2, 3, 4] [(.a (.sc (.sl 0))), (.a (.sc .nl)), (.a (.sc (.sl 1))), (.a (.sc (.v (.int .i64 x0_0))))], blF [(.row false K.ki64 a), (.row true K.ki64 x0_1)]⟩) x0_0 x0_1 := by kernel_rfl
theorem laws_toIntS_n0 (k m : Nat) (a : (List Int)) (x0_0 : Int) (x0_1 : (List Int)) : laws_toIntS_h0 k (m + 1) a x0_0 x0_1 = laws_toIntS_s0 k a (laws_toIntS_h0 k m a) x0_0 x0_1 := (hdAt_succ _ _ _ _ _ _ _ _ _ _).trans (laws_toIntS_g0 k _ a x0_0 x0_1)
theorem laws_toIntS_q0 (k : Nat) : ∀ m, laws_toIntS_h0 k m = laws_toIntS_l0 k m := by
 intro m
 induction m with
 | zero => funext a x0_0 x0_1; rw [laws_toIntS_z0]; rfl
 | succ m ih => funext a x0_0 x0_1; rw [laws_toIntS_n0, ih]; rfl
theorem laws_toIntS_e (k : Nat) (a : (List Int)) : callF env (laws_toIntS_O k) laws_toIntS_v Tryz.f17 (k + 1) (laws_toIntS_A a) (fun r => laws_toIntS_d (r.fin 1 [])) = laws_toIntS k a := by
 have e : callF env (laws_toIntS_O k) laws_toIntS_v Tryz.f17 (k + 1) (laws_toIntS_A a) (fun r => laws_toIntS_d (r.fin 1 [])) = laws_toIntS_m k (laws_toIntS_h0 k k) a := by kernel_rfl
 rw [e, laws_toIntS_q0]; rfl
noncomputable def laws_toIntS_x (k : Nat) : Ent1 := fun A R Q => match A with
 | ⟨[(.sc (.sl 0))], [(.row false K.ki64 a1)]⟩ => (laws_toIntS k a1).bind fun y => Q ⟨(.a (.sc (.sl 1))), [.dead, (.row true K.ki64 y)]⟩
 | _ => none
theorem laws_toIntS_ok (k : Nat) : OkE Tryz.prog 17 (laws_toIntS_x k) := by
 intro A R Q x h
 unfold laws_toIntS_x at h
 split at h
 · obtain ⟨y, hy, hK⟩ := Option.bind_eq_some_iff.1 h
   obtain ⟨r, hr, hd⟩ := callF_ok envOk (laws_toIntS_Ok k) follows Tryz.func17 (by kernel_rfl) ((laws_toIntS_e k _).trans hy)
   exact ⟨_, laws_toIntS_i hd ▸ hr.fin [], hK⟩
 · cases h
/-! ### laws.toStock: function 37 -/
noncomputable def laws_toStock (k : Nat)  (a : Stock) : Option (Stock) :=
 (laws_toIntS k a.Grams).bind fun y1 =>
 some (⟨y1⟩ : Stock)
noncomputable def laws_toStock_v : Nat → List Nat := fun t => match t with | _ => []
noncomputable def laws_toStock_O (k : Nat) : Oracle := ofL [(17, laws_toIntS_x k)]
theorem laws_toStock_Ok (k : Nat) : OkO (Ct Tryz.prog) (laws_toStock_O k) := okO_cons (laws_toIntS_ok k) (okO_nil)
noncomputable def laws_toStock_A (a : Stock) : Pk := ⟨[(.ag [(.sl 0)])], [(.row false K.ki64 a.Grams)]⟩
noncomputable def laws_toStock_d : Rs → Option (Stock)
 | ⟨(.a (.ag [(.sl 1)])), [.dead, (.row true K.ki64 r1)]⟩ => some (⟨r1⟩ : Stock)
 | _ => none
theorem laws_toStock_i {r : Rs} {y : Stock} (h : laws_toStock_d r = some y) : r = ⟨(.a (.ag [(.sl 1)])), [.dead, (.row true K.ki64 y.Grams)]⟩ := by
 unfold laws_toStock_d at h; split at h
 · cases h; rfl
 · cases h
theorem laws_toStock_e (k : Nat) (a : Stock) : callF env (laws_toStock_O k) laws_toStock_v Tryz.f37 (k + 1) (laws_toStock_A a) (fun r => laws_toStock_d (r.fin 1 [])) = laws_toStock k a := by kernel_rfl
noncomputable def laws_toStock_x (k : Nat) : Ent1 := fun A R Q => match A with
 | ⟨[(.ag [(.sl 0)])], [(.row false K.ki64 a1)]⟩ => (laws_toStock k (⟨a1⟩ : Stock)).bind fun y => Q ⟨(.a (.ag [(.sl 1)])), [.dead, (.row true K.ki64 y.Grams)]⟩
 | _ => none
theorem laws_toStock_ok (k : Nat) : OkE Tryz.prog 37 (laws_toStock_x k) := by
 intro A R Q x h
 unfold laws_toStock_x at h
 split at h
 · obtain ⟨y, hy, hK⟩ := Option.bind_eq_some_iff.1 h
   obtain ⟨r, hr, hd⟩ := callF_ok envOk (laws_toStock_Ok k) follows Tryz.func37 (by kernel_rfl) ((laws_toStock_e k _).trans hy)
   exact ⟨_, laws_toStock_i hd ▸ hr.fin [], hK⟩
 · cases h
/-! ### laws.toDough: function 38 -/
noncomputable def laws_toDough (k : Nat)  (a : Dough) : Option (Dough) :=
 some a
noncomputable def laws_toDough_v : Nat → List Nat := fun t => match t with | _ => []
noncomputable def laws_toDough_O (k : Nat) : Oracle := ofL []
theorem laws_toDough_Ok (k : Nat) : OkO (Ct Tryz.prog) (laws_toDough_O k) := okO_nil
noncomputable def laws_toDough_A (a : Dough) : Pk := ⟨[(.ag [(.v (.int .i64 a.Water)), (.v (.int .i64 a.Salt)), (.v (.int .i64 a.Leaven))])], []⟩
noncomputable def laws_toDough_d : Rs → Option (Dough)
 | ⟨(.a (.ag [(.v (.int .i64 r1)), (.v (.int .i64 r2)), (.v (.int .i64 r3))])), []⟩ => some (⟨r1, r2, r3⟩ : Dough)
 | _ => none
theorem laws_toDough_i {r : Rs} {y : Dough} (h : laws_toDough_d r = some y) : r = ⟨(.a (.ag [(.v (.int .i64 y.Water)), (.v (.int .i64 y.Salt)), (.v (.int .i64 y.Leaven))])), []⟩ := by
 unfold laws_toDough_d at h; split at h
 · cases h; rfl
 · cases h
theorem laws_toDough_e (k : Nat) (a : Dough) : callF env (laws_toDough_O k) laws_toDough_v Tryz.f38 (k + 1) (laws_toDough_A a) (fun r => laws_toDough_d (r.fin 0 [])) = laws_toDough k a := by kernel_rfl
noncomputable def laws_toDough_x (k : Nat) : Ent1 := fun A R Q => match A with
 | ⟨[(.ag [(.v (.int .i64 a1)), (.v (.int .i64 a2)), (.v (.int .i64 a3))])], []⟩ => (laws_toDough k (⟨a1, a2, a3⟩ : Dough)).bind fun y => Q ⟨(.a (.ag [(.v (.int .i64 y.Water)), (.v (.int .i64 y.Salt)), (.v (.int .i64 y.Leaven))])), []⟩
 | _ => none
theorem laws_toDough_ok (k : Nat) : OkE Tryz.prog 38 (laws_toDough_x k) := by
 intro A R Q x h
 unfold laws_toDough_x at h
 split at h
 · obtain ⟨y, hy, hK⟩ := Option.bind_eq_some_iff.1 h
   obtain ⟨r, hr, hd⟩ := callF_ok envOk (laws_toDough_Ok k) follows Tryz.func38 (by kernel_rfl) ((laws_toDough_e k _).trans hy)
   exact ⟨_, laws_toDough_i hd ▸ hr.fin [], hK⟩
 · cases h
/-! ### laws.toLoaf: function 39 -/
noncomputable def laws_toLoaf (k : Nat)  (a : Loaf) : Option (Loaf) :=
 some a
noncomputable def laws_toLoaf_v : Nat → List Nat := fun t => match t with | _ => []
noncomputable def laws_toLoaf_O (k : Nat) : Oracle := ofL []
theorem laws_toLoaf_Ok (k : Nat) : OkO (Ct Tryz.prog) (laws_toLoaf_O k) := okO_nil
noncomputable def laws_toLoaf_A (a : Loaf) : Pk := ⟨[(.ag [(.v (.int .i64 a.Weight)), (.v (.int .i64 a.Loss))])], []⟩
noncomputable def laws_toLoaf_d : Rs → Option (Loaf)
 | ⟨(.a (.ag [(.v (.int .i64 r1)), (.v (.int .i64 r2))])), []⟩ => some (⟨r1, r2⟩ : Loaf)
 | _ => none
theorem laws_toLoaf_i {r : Rs} {y : Loaf} (h : laws_toLoaf_d r = some y) : r = ⟨(.a (.ag [(.v (.int .i64 y.Weight)), (.v (.int .i64 y.Loss))])), []⟩ := by
 unfold laws_toLoaf_d at h; split at h
 · cases h; rfl
 · cases h
theorem laws_toLoaf_e (k : Nat) (a : Loaf) : callF env (laws_toLoaf_O k) laws_toLoaf_v Tryz.f39 (k + 1) (laws_toLoaf_A a) (fun r => laws_toLoaf_d (r.fin 0 [])) = laws_toLoaf k a := by kernel_rfl
noncomputable def laws_toLoaf_x (k : Nat) : Ent1 := fun A R Q => match A with
 | ⟨[(.ag [(.v (.int .i64 a1)), (.v (.int .i64 a2))])], []⟩ => (laws_toLoaf k (⟨a1, a2⟩ : Loaf)).bind fun y => Q ⟨(.a (.ag [(.v (.int .i64 y.Weight)), (.v (.int .i64 y.Loss))])), []⟩
 | _ => none
theorem laws_toLoaf_ok (k : Nat) : OkE Tryz.prog 39 (laws_toLoaf_x k) := by
 intro A R Q x h
 unfold laws_toLoaf_x at h
 split at h
 · obtain ⟨y, hy, hK⟩ := Option.bind_eq_some_iff.1 h
   obtain ⟨r, hr, hd⟩ := callF_ok envOk (laws_toLoaf_Ok k) follows Tryz.func39 (by kernel_rfl) ((laws_toLoaf_e k _).trans hy)
   exact ⟨_, laws_toLoaf_i hd ▸ hr.fin [], hK⟩
 · cases h
/-! ### laws.toEvent: function 104 -/
noncomputable def laws_toEvent (k : Nat)  (a : Event) : Option (Event) :=
 some a
noncomputable def laws_toEvent_v : Nat → List Nat := fun t => match t with | _ => []
noncomputable def laws_toEvent_O (k : Nat) : Oracle := ofL []
theorem laws_toEvent_Ok (k : Nat) : OkO (Ct Tryz.prog) (laws_toEvent_O k) := okO_nil
noncomputable def laws_toEvent_A (a : Event) : Pk := ⟨[(.ag [(.v (.int .i64 a.Kind)), (.v (.int .i64 a.Loaves))])], []⟩
noncomputable def laws_toEvent_d : Rs → Option (Event)
 | ⟨(.a (.ag [(.v (.int .i64 r1)), (.v (.int .i64 r2))])), []⟩ => some (⟨r1, r2⟩ : Event)
 | _ => none
theorem laws_toEvent_i {r : Rs} {y : Event} (h : laws_toEvent_d r = some y) : r = ⟨(.a (.ag [(.v (.int .i64 y.Kind)), (.v (.int .i64 y.Loaves))])), []⟩ := by
 unfold laws_toEvent_d at h; split at h
 · cases h; rfl
 · cases h
theorem laws_toEvent_e (k : Nat) (a : Event) : callF env (laws_toEvent_O k) laws_toEvent_v Tryz.f104 (k + 1) (laws_toEvent_A a) (fun r => laws_toEvent_d (r.fin 0 [])) = laws_toEvent k a := by kernel_rfl
noncomputable def laws_toEvent_x (k : Nat) : Ent1 := fun A R Q => match A with
 | ⟨[(.ag [(.v (.int .i64 a1)), (.v (.int .i64 a2))])], []⟩ => (laws_toEvent k (⟨a1, a2⟩ : Event)).bind fun y => Q ⟨(.a (.ag [(.v (.int .i64 y.Kind)), (.v (.int .i64 y.Loaves))])), []⟩
 | _ => none
theorem laws_toEvent_ok (k : Nat) : OkE Tryz.prog 104 (laws_toEvent_x k) := by
 intro A R Q x h
 unfold laws_toEvent_x at h
 split at h
 · obtain ⟨y, hy, hK⟩ := Option.bind_eq_some_iff.1 h
   obtain ⟨r, hr, hd⟩ := callF_ok envOk (laws_toEvent_Ok k) follows Tryz.func104 (by kernel_rfl) ((laws_toEvent_e k _).trans hy)
   exact ⟨_, laws_toEvent_i hd ▸ hr.fin [], hK⟩
 · cases h
/-! ### laws.toEventS: function 74 -/
noncomputable def laws_toEventS_s0 (k : Nat)  (a : (List Event)) (J : Int → (List Event) → Option ((List Event))) (x0_0 : Int) (x0_1 : (List Event)) : Option ((List Event)) :=
 cond (decide ((x0_0 : Int) < ((a).length : Int)))
 (if 0 ≤ (x0_0 : Int) ∧ (x0_0 : Int) < ((a).length : Int) then
  (laws_toEvent k (a.getD (Int.toNat x0_0) dk_laws_Event)).bind fun y2 =>
   if 0 ≤ (x0_0 : Int) ∧ (x0_0 : Int) < ((x0_1).length : Int) then
    J (wr (x0_0 + 1)) (x0_1.set (Int.toNat x0_0) y2) else none else none)
 (some x0_1)
noncomputable def laws_toEventS_l0 (k : Nat) : Nat → (List Event) → Int → (List Event) → Option ((List Event))
 | 0, a, x0_0, x0_1 => laws_toEventS_s0 k a (fun _ _ => none) x0_0 x0_1
 | m + 1, a, x0_0, x0_1 => laws_toEventS_s0 k a (laws_toEventS_l0 k m a) x0_0 x0_1
noncomputable def laws_toEventS_m (k : Nat) (J0 : (List Event) → Int → (List Event) → Option ((List Event))) (a : (List Event)) : Option ((List Event)) :=
 if 0 ≤ (((a).length : Int) : Int) ∧ (((a).length : Int) : Int) ≤ (maxRow : Int) then
 J0 a 0 (List.replicate (Int.toNat ((a).length : Int)) dk_impl_Event) else none
noncomputable def laws_toEventS (k : Nat) (a : (List Event)) : Option ((List Event)) := laws_toEventS_m k (laws_toEventS_l0 k k) a
noncomputable def laws_toEventS_v : Nat → List Nat := fun t => match t with | 3 => [0, 2, 3, 4] | _ => []
noncomputable def laws_toEventS_O (k : Nat) : Oracle := ofL [(104, laws_toEvent_x k)]
theorem laws_toEventS_Ok (k : Nat) : OkO (Ct Tryz.prog) (laws_toEventS_O k) := okO_cons (laws_toEvent_ok k) (okO_nil)
noncomputable def laws_toEventS_A (a : (List Event)) : Pk := ⟨[(.sc (.sl 0))], [(.row false K.k_laws_Event a)]⟩
noncomputable def laws_toEventS_d : Rs → Option ((List Event))
 | ⟨(.a (.sc (.sl 1))), [.dead, (.row true K.k_impl_Event r1)]⟩ => some r1
 | _ => none
theorem laws_toEventS_i {r : Rs} {y : (List Event)} (h : laws_toEventS_d r = some y) : r = ⟨(.a (.sc (.sl 1))), [.dead, (.row true K.k_impl_Event y)]⟩ := by
 unfold laws_toEventS_d at h; split at h
 · cases h; rfl
 · cases h
noncomputable def laws_toEventS_h0 (k m : Nat) (a : (List Event)) (x0_0 : Int) (x0_1 : (List Event)) : Option ((List Event)) := hdAt env (laws_toEventS_O k) laws_toEventS_v Tryz.f74 1 (fun r => laws_toEventS_d (r.fin 1 [])) [1, 1, 0, 1, 0] k m ⟨tmF [0, 2, 3, 4] [(.a (.sc (.sl 0))), (.a (.sc .nl)), (.a (.sc (.sl 1))), (.a (.sc (.v (.int .i64 x0_0))))], blF [(.row false K.k_laws_Event a), (.row true K.k_impl_Event x0_1)]⟩
theorem laws_toEventS_z0 (k : Nat) (a : (List Event)) (x0_0 : Int) (x0_1 : (List Event)) : laws_toEventS_h0 k 0 a x0_0 x0_1 = laws_toEventS_s0 k a (fun _ _ => none) x0_0 x0_1 := by kernel_rfl
theorem laws_toEventS_g0 (k : Nat) (H : St → Option ((List Event))) (a : (List Event)) (x0_0 : Int) (x0_1 : (List Event)) : rnd env (laws_toEventS_O k) laws_toEventS_v Tryz.f74 1 (fun r => laws_toEventS_d (r.fin 1 [])) [1, 1, 0, 1, 0] k H ⟨tmF [0, 2, 3, 4] [(.a (.sc (.sl 0))), (.a (.sc .nl)), (.a (.sc (.sl 1))), (.a (.sc (.v (.int .i64 x0_0))))], blF [(.row false K.k_laws_Event a), (.row true K.k_impl_Event x0_1)]⟩ = laws_toEventS_s0 k a (fun x0_0 x0_1 => H ⟨tmF [0, 2, 3, 4] [(.a (.sc (.sl 0))), (.a (.sc .nl)), (.a (.sc (.sl 1))), (.a (.sc (.v (.int .i64 x0_0))))], blF [(.row false K.k_laws_Event a), (.row true K.k_impl_Event x0_1)]⟩) x0_0 x0_1 := by kernel_rfl
theorem laws_toEventS_n0 (k m : Nat) (a : (List Event)) (x0_0 : Int) (x0_1 : (List Event)) : laws_toEventS_h0 k (m + 1) a x0_0 x0_1 = laws_toEventS_s0 k a (laws_toEventS_h0 k m a) x0_0 x0_1 := (hdAt_succ _ _ _ _ _ _ _ _ _ _).trans (laws_toEventS_g0 k _ a x0_0 x0_1)
theorem laws_toEventS_q0 (k : Nat) : ∀ m, laws_toEventS_h0 k m = laws_toEventS_l0 k m := by
 intro m
 induction m with
 | zero => funext a x0_0 x0_1; rw [laws_toEventS_z0]; rfl
 | succ m ih => funext a x0_0 x0_1; rw [laws_toEventS_n0, ih]; rfl
theorem laws_toEventS_e (k : Nat) (a : (List Event)) : callF env (laws_toEventS_O k) laws_toEventS_v Tryz.f74 (k + 1) (laws_toEventS_A a) (fun r => laws_toEventS_d (r.fin 1 [])) = laws_toEventS k a := by
 have e : callF env (laws_toEventS_O k) laws_toEventS_v Tryz.f74 (k + 1) (laws_toEventS_A a) (fun r => laws_toEventS_d (r.fin 1 [])) = laws_toEventS_m k (laws_toEventS_h0 k k) a := by kernel_rfl
 rw [e, laws_toEventS_q0]; rfl
noncomputable def laws_toEventS_x (k : Nat) : Ent1 := fun A R Q => match A with
 | ⟨[(.sc (.sl 0))], [(.row false K.k_laws_Event a1)]⟩ => (laws_toEventS k a1).bind fun y => Q ⟨(.a (.sc (.sl 1))), [.dead, (.row true K.k_impl_Event y)]⟩
 | _ => none
theorem laws_toEventS_ok (k : Nat) : OkE Tryz.prog 74 (laws_toEventS_x k) := by
 intro A R Q x h
 unfold laws_toEventS_x at h
 split at h
 · obtain ⟨y, hy, hK⟩ := Option.bind_eq_some_iff.1 h
   obtain ⟨r, hr, hd⟩ := callF_ok envOk (laws_toEventS_Ok k) follows Tryz.func74 (by kernel_rfl) ((laws_toEventS_e k _).trans hy)
   exact ⟨_, laws_toEventS_i hd ▸ hr.fin [], hK⟩
 · cases h
/-! ### laws.toRack: function 75 -/
noncomputable def laws_toRack (k : Nat)  (a : Rack) : Option (Rack) :=
 some a
noncomputable def laws_toRack_v : Nat → List Nat := fun t => match t with | _ => []
noncomputable def laws_toRack_O (k : Nat) : Oracle := ofL []
theorem laws_toRack_Ok (k : Nat) : OkO (Ct Tryz.prog) (laws_toRack_O k) := okO_nil
noncomputable def laws_toRack_A (a : Rack) : Pk := ⟨[(.ag [(.v (.int .i64 a.Fresh)), (.v (.int .i64 a.Day)), (.v (.int .i64 a.Old))])], []⟩
noncomputable def laws_toRack_d : Rs → Option (Rack)
 | ⟨(.a (.ag [(.v (.int .i64 r1)), (.v (.int .i64 r2)), (.v (.int .i64 r3))])), []⟩ => some (⟨r1, r2, r3⟩ : Rack)
 | _ => none
theorem laws_toRack_i {r : Rs} {y : Rack} (h : laws_toRack_d r = some y) : r = ⟨(.a (.ag [(.v (.int .i64 y.Fresh)), (.v (.int .i64 y.Day)), (.v (.int .i64 y.Old))])), []⟩ := by
 unfold laws_toRack_d at h; split at h
 · cases h; rfl
 · cases h
theorem laws_toRack_e (k : Nat) (a : Rack) : callF env (laws_toRack_O k) laws_toRack_v Tryz.f75 (k + 1) (laws_toRack_A a) (fun r => laws_toRack_d (r.fin 0 [])) = laws_toRack k a := by kernel_rfl
noncomputable def laws_toRack_x (k : Nat) : Ent1 := fun A R Q => match A with
 | ⟨[(.ag [(.v (.int .i64 a1)), (.v (.int .i64 a2)), (.v (.int .i64 a3))])], []⟩ => (laws_toRack k (⟨a1, a2, a3⟩ : Rack)).bind fun y => Q ⟨(.a (.ag [(.v (.int .i64 y.Fresh)), (.v (.int .i64 y.Day)), (.v (.int .i64 y.Old))])), []⟩
 | _ => none
theorem laws_toRack_ok (k : Nat) : OkE Tryz.prog 75 (laws_toRack_x k) := by
 intro A R Q x h
 unfold laws_toRack_x at h
 split at h
 · obtain ⟨y, hy, hK⟩ := Option.bind_eq_some_iff.1 h
   obtain ⟨r, hr, hd⟩ := callF_ok envOk (laws_toRack_Ok k) follows Tryz.func75 (by kernel_rfl) ((laws_toRack_e k _).trans hy)
   exact ⟨_, laws_toRack_i hd ▸ hr.fin [], hK⟩
 · cases h
/-! ### laws.toBook: function 40 -/
noncomputable def laws_toBook (k : Nat)  (a : Book) : Option (Book) :=
 (laws_toEventS k a.Events).bind fun y1 =>
 (laws_toRack k a.Rack).bind fun y2 =>
  some (⟨y1, y2, a.Baked, a.Sold, a.Thrown⟩ : Book)
noncomputable def laws_toBook_v : Nat → List Nat := fun t => match t with | _ => []
noncomputable def laws_toBook_O (k : Nat) : Oracle := ofL [(74, laws_toEventS_x k), (75, laws_toRack_x k)]
theorem laws_toBook_Ok (k : Nat) : OkO (Ct Tryz.prog) (laws_toBook_O k) := okO_cons (laws_toEventS_ok k) (okO_cons (laws_toRack_ok k) (okO_nil))
noncomputable def laws_toBook_A (a : Book) : Pk := ⟨[(.ag [(.sl 0), (.v (.int .i64 a.Rack.Fresh)), (.v (.int .i64 a.Rack.Day)), (.v (.int .i64 a.Rack.Old)), (.v (.int .i64 a.Baked)), (.v (.int .i64 a.Sold)), (.v (.int .i64 a.Thrown))])], [(.row false K.k_laws_Event a.Events)]⟩
noncomputable def laws_toBook_d : Rs → Option (Book)
 | ⟨(.a (.ag [(.sl 1), (.v (.int .i64 r2)), (.v (.int .i64 r3)), (.v (.int .i64 r4)), (.v (.int .i64 r5)), (.v (.int .i64 r6)), (.v (.int .i64 r7))])), [.dead, (.row true K.k_impl_Event r1)]⟩ => some (⟨r1, (⟨r2, r3, r4⟩ : Rack), r5, r6, r7⟩ : Book)
 | _ => none
theorem laws_toBook_i {r : Rs} {y : Book} (h : laws_toBook_d r = some y) : r = ⟨(.a (.ag [(.sl 1), (.v (.int .i64 y.Rack.Fresh)), (.v (.int .i64 y.Rack.Day)), (.v (.int .i64 y.Rack.Old)), (.v (.int .i64 y.Baked)), (.v (.int .i64 y.Sold)), (.v (.int .i64 y.Thrown))])), [.dead, (.row true K.k_impl_Event y.Events)]⟩ := by
 unfold laws_toBook_d at h; split at h
 · cases h; rfl
 · cases h
theorem laws_toBook_e (k : Nat) (a : Book) : callF env (laws_toBook_O k) laws_toBook_v Tryz.f40 (k + 1) (laws_toBook_A a) (fun r => laws_toBook_d (r.fin 1 [])) = laws_toBook k a := by kernel_rfl
noncomputable def laws_toBook_x (k : Nat) : Ent1 := fun A R Q => match A with
 | ⟨[(.ag [(.sl 0), (.v (.int .i64 a2)), (.v (.int .i64 a3)), (.v (.int .i64 a4)), (.v (.int .i64 a5)), (.v (.int .i64 a6)), (.v (.int .i64 a7))])], [(.row false K.k_laws_Event a1)]⟩ => (laws_toBook k (⟨a1, (⟨a2, a3, a4⟩ : Rack), a5, a6, a7⟩ : Book)).bind fun y => Q ⟨(.a (.ag [(.sl 1), (.v (.int .i64 y.Rack.Fresh)), (.v (.int .i64 y.Rack.Day)), (.v (.int .i64 y.Rack.Old)), (.v (.int .i64 y.Baked)), (.v (.int .i64 y.Sold)), (.v (.int .i64 y.Thrown))])), [.dead, (.row true K.k_impl_Event y.Events)]⟩
 | _ => none
theorem laws_toBook_ok (k : Nat) : OkE Tryz.prog 40 (laws_toBook_x k) := by
 intro A R Q x h
 unfold laws_toBook_x at h
 split at h
 · obtain ⟨y, hy, hK⟩ := Option.bind_eq_some_iff.1 h
   obtain ⟨r, hr, hd⟩ := callF_ok envOk (laws_toBook_Ok k) follows Tryz.func40 (by kernel_rfl) ((laws_toBook_e k _).trans hy)
   exact ⟨_, laws_toBook_i hd ▸ hr.fin [], hK⟩
 · cases h
/-! ### laws.toBakery: function 8 -/
noncomputable def laws_toBakery (k : Nat)  (a : Bakery) : Option (Bakery) :=
 (laws_toStock k a.Stock).bind fun y1 =>
 (laws_toDough k a.Dough).bind fun y2 =>
  (laws_toLoaf k a.Loaf).bind fun y3 =>
   (laws_toBook k a.Book).bind fun y4 =>
    some (⟨y1, y2, y3, y4, a.Money⟩ : Bakery)
noncomputable def laws_toBakery_v : Nat → List Nat := fun t => match t with | _ => []
noncomputable def laws_toBakery_O (k : Nat) : Oracle := ofL [(37, laws_toStock_x k), (38, laws_toDough_x k), (39, laws_toLoaf_x k), (40, laws_toBook_x k)]
theorem laws_toBakery_Ok (k : Nat) : OkO (Ct Tryz.prog) (laws_toBakery_O k) := okO_cons (laws_toStock_ok k) (okO_cons (laws_toDough_ok k) (okO_cons (laws_toLoaf_ok k) (okO_cons (laws_toBook_ok k) (okO_nil))))
noncomputable def laws_toBakery_A (a : Bakery) : Pk := ⟨[(.ag [(.sl 0), (.v (.int .i64 a.Dough.Water)), (.v (.int .i64 a.Dough.Salt)), (.v (.int .i64 a.Dough.Leaven)), (.v (.int .i64 a.Loaf.Weight)), (.v (.int .i64 a.Loaf.Loss)), (.sl 1), (.v (.int .i64 a.Book.Rack.Fresh)), (.v (.int .i64 a.Book.Rack.Day)), (.v (.int .i64 a.Book.Rack.Old)), (.v (.int .i64 a.Book.Baked)), (.v (.int .i64 a.Book.Sold)), (.v (.int .i64 a.Book.Thrown)), (.v (.int .i64 a.Money))])], [(.row false K.ki64 a.Stock.Grams), (.row false K.k_laws_Event a.Book.Events)]⟩
noncomputable def laws_toBakery_d : Rs → Option (Bakery)
 | ⟨(.a (.ag [(.sl 2), (.v (.int .i64 r2)), (.v (.int .i64 r3)), (.v (.int .i64 r4)), (.v (.int .i64 r5)), (.v (.int .i64 r6)), (.sl 3), (.v (.int .i64 r8)), (.v (.int .i64 r9)), (.v (.int .i64 r10)), (.v (.int .i64 r11)), (.v (.int .i64 r12)), (.v (.int .i64 r13)), (.v (.int .i64 r14))])), [.dead, .dead, (.row true K.ki64 r1), (.row true K.k_impl_Event r7)]⟩ => some (⟨(⟨r1⟩ : Stock), (⟨r2, r3, r4⟩ : Dough), (⟨r5, r6⟩ : Loaf), (⟨r7, (⟨r8, r9, r10⟩ : Rack), r11, r12, r13⟩ : Book), r14⟩ : Bakery)
 | _ => none
theorem laws_toBakery_i {r : Rs} {y : Bakery} (h : laws_toBakery_d r = some y) : r = ⟨(.a (.ag [(.sl 2), (.v (.int .i64 y.Dough.Water)), (.v (.int .i64 y.Dough.Salt)), (.v (.int .i64 y.Dough.Leaven)), (.v (.int .i64 y.Loaf.Weight)), (.v (.int .i64 y.Loaf.Loss)), (.sl 3), (.v (.int .i64 y.Book.Rack.Fresh)), (.v (.int .i64 y.Book.Rack.Day)), (.v (.int .i64 y.Book.Rack.Old)), (.v (.int .i64 y.Book.Baked)), (.v (.int .i64 y.Book.Sold)), (.v (.int .i64 y.Book.Thrown)), (.v (.int .i64 y.Money))])), [.dead, .dead, (.row true K.ki64 y.Stock.Grams), (.row true K.k_impl_Event y.Book.Events)]⟩ := by
 unfold laws_toBakery_d at h; split at h
 · cases h; rfl
 · cases h
theorem laws_toBakery_e (k : Nat) (a : Bakery) : callF env (laws_toBakery_O k) laws_toBakery_v Tryz.f8 (k + 1) (laws_toBakery_A a) (fun r => laws_toBakery_d (r.fin 2 [])) = laws_toBakery k a := by kernel_rfl
noncomputable def laws_toBakery_x (k : Nat) : Ent1 := fun A R Q => match A with
 | ⟨[(.ag [(.sl 0), (.v (.int .i64 a2)), (.v (.int .i64 a3)), (.v (.int .i64 a4)), (.v (.int .i64 a5)), (.v (.int .i64 a6)), (.sl 1), (.v (.int .i64 a8)), (.v (.int .i64 a9)), (.v (.int .i64 a10)), (.v (.int .i64 a11)), (.v (.int .i64 a12)), (.v (.int .i64 a13)), (.v (.int .i64 a14))])], [(.row false K.ki64 a1), (.row false K.k_laws_Event a7)]⟩ => (laws_toBakery k (⟨(⟨a1⟩ : Stock), (⟨a2, a3, a4⟩ : Dough), (⟨a5, a6⟩ : Loaf), (⟨a7, (⟨a8, a9, a10⟩ : Rack), a11, a12, a13⟩ : Book), a14⟩ : Bakery)).bind fun y => Q ⟨(.a (.ag [(.sl 2), (.v (.int .i64 y.Dough.Water)), (.v (.int .i64 y.Dough.Salt)), (.v (.int .i64 y.Dough.Leaven)), (.v (.int .i64 y.Loaf.Weight)), (.v (.int .i64 y.Loaf.Loss)), (.sl 3), (.v (.int .i64 y.Book.Rack.Fresh)), (.v (.int .i64 y.Book.Rack.Day)), (.v (.int .i64 y.Book.Rack.Old)), (.v (.int .i64 y.Book.Baked)), (.v (.int .i64 y.Book.Sold)), (.v (.int .i64 y.Book.Thrown)), (.v (.int .i64 y.Money))])), [.dead, .dead, (.row true K.ki64 y.Stock.Grams), (.row true K.k_impl_Event y.Book.Events)]⟩
 | _ => none
theorem laws_toBakery_ok (k : Nat) : OkE Tryz.prog 8 (laws_toBakery_x k) := by
 intro A R Q x h
 unfold laws_toBakery_x at h
 split at h
 · obtain ⟨y, hy, hK⟩ := Option.bind_eq_some_iff.1 h
   obtain ⟨r, hr, hd⟩ := callF_ok envOk (laws_toBakery_Ok k) follows Tryz.func8 (by kernel_rfl) ((laws_toBakery_e k _).trans hy)
   exact ⟨_, laws_toBakery_i hd ▸ hr.fin [], hK⟩
 · cases h
/-! ### laws.toAct: function 9 -/
noncomputable def laws_toAct (k : Nat)  (a : Deed) : Option (Deed) :=
 some a
noncomputable def laws_toAct_v : Nat → List Nat := fun t => match t with | _ => []
noncomputable def laws_toAct_O (k : Nat) : Oracle := ofL []
theorem laws_toAct_Ok (k : Nat) : OkO (Ct Tryz.prog) (laws_toAct_O k) := okO_nil
noncomputable def laws_toAct_A (a : Deed) : Pk := ⟨[(.ag [(.v (.int .i64 a.Kind)), (.v (.int .i64 a.A)), (.v (.int .i64 a.B))])], []⟩
noncomputable def laws_toAct_d : Rs → Option (Deed)
 | ⟨(.a (.ag [(.v (.int .i64 r1)), (.v (.int .i64 r2)), (.v (.int .i64 r3))])), []⟩ => some (⟨r1, r2, r3⟩ : Deed)
 | _ => none
theorem laws_toAct_i {r : Rs} {y : Deed} (h : laws_toAct_d r = some y) : r = ⟨(.a (.ag [(.v (.int .i64 y.Kind)), (.v (.int .i64 y.A)), (.v (.int .i64 y.B))])), []⟩ := by
 unfold laws_toAct_d at h; split at h
 · cases h; rfl
 · cases h
theorem laws_toAct_e (k : Nat) (a : Deed) : callF env (laws_toAct_O k) laws_toAct_v Tryz.f9 (k + 1) (laws_toAct_A a) (fun r => laws_toAct_d (r.fin 0 [])) = laws_toAct k a := by kernel_rfl
noncomputable def laws_toAct_x (k : Nat) : Ent1 := fun A R Q => match A with
 | ⟨[(.ag [(.v (.int .i64 a1)), (.v (.int .i64 a2)), (.v (.int .i64 a3))])], []⟩ => (laws_toAct k (⟨a1, a2, a3⟩ : Deed)).bind fun y => Q ⟨(.a (.ag [(.v (.int .i64 y.Kind)), (.v (.int .i64 y.A)), (.v (.int .i64 y.B))])), []⟩
 | _ => none
theorem laws_toAct_ok (k : Nat) : OkE Tryz.prog 9 (laws_toAct_x k) := by
 intro A R Q x h
 unfold laws_toAct_x at h
 split at h
 · obtain ⟨y, hy, hK⟩ := Option.bind_eq_some_iff.1 h
   obtain ⟨r, hr, hd⟩ := callF_ok envOk (laws_toAct_Ok k) follows Tryz.func9 (by kernel_rfl) ((laws_toAct_e k _).trans hy)
   exact ⟨_, laws_toAct_i hd ▸ hr.fin [], hK⟩
 · cases h
/-! ### spec.l36Copy: function 62 -/
noncomputable def spec_l36Copy (k : Nat)  (s : Stock) : Option (Stock) :=
 if ([] : List Int).length + (s.Grams : List Int).length ≤ maxRow then
 some (⟨([] ++ s.Grams)⟩ : Stock) else none
noncomputable def spec_l36Copy_v : Nat → List Nat := fun t => match t with | _ => []
noncomputable def spec_l36Copy_O (k : Nat) : Oracle := ofL []
theorem spec_l36Copy_Ok (k : Nat) : OkO (Ct Tryz.prog) (spec_l36Copy_O k) := okO_nil
noncomputable def spec_l36Copy_A (s : Stock) : Pk := ⟨[(.ag [(.sl 0)])], [(.row false K.ki64 s.Grams)]⟩
noncomputable def spec_l36Copy_d : Rs → Option (Stock)
 | ⟨(.a (.ag [(.sl 1)])), [.dead, (.row true K.ki64 r1)]⟩ => some (⟨r1⟩ : Stock)
 | _ => none
theorem spec_l36Copy_i {r : Rs} {y : Stock} (h : spec_l36Copy_d r = some y) : r = ⟨(.a (.ag [(.sl 1)])), [.dead, (.row true K.ki64 y.Grams)]⟩ := by
 unfold spec_l36Copy_d at h; split at h
 · cases h; rfl
 · cases h
theorem spec_l36Copy_e (k : Nat) (s : Stock) : callF env (spec_l36Copy_O k) spec_l36Copy_v Tryz.f62 (k + 1) (spec_l36Copy_A s) (fun r => spec_l36Copy_d (r.fin 1 [])) = spec_l36Copy k s := by kernel_rfl
noncomputable def spec_l36Copy_x (k : Nat) : Ent1 := fun A R Q => match A with
 | ⟨[(.ag [(.sl 0)])], [(.row false K.ki64 a1)]⟩ => (spec_l36Copy k (⟨a1⟩ : Stock)).bind fun y => Q ⟨(.a (.ag [(.sl 1)])), [.dead, (.row true K.ki64 y.Grams)]⟩
 | _ => none
theorem spec_l36Copy_ok (k : Nat) : OkE Tryz.prog 62 (spec_l36Copy_x k) := by
 intro A R Q x h
 unfold spec_l36Copy_x at h
 split at h
 · obtain ⟨y, hy, hK⟩ := Option.bind_eq_some_iff.1 h
   obtain ⟨r, hr, hd⟩ := callF_ok envOk (spec_l36Copy_Ok k) follows Tryz.func62 (by kernel_rfl) ((spec_l36Copy_e k _).trans hy)
   exact ⟨_, spec_l36Copy_i hd ▸ hr.fin [], hK⟩
 · cases h
/-! ### spec.l37Copy: function 63 -/
noncomputable def spec_l37Copy (k : Nat)  (b : Book) : Option (Book) :=
 if ([] : List Event).length + (b.Events : List Event).length ≤ maxRow then
 some (⟨([] ++ b.Events), b.Rack, b.Baked, b.Sold, b.Thrown⟩ : Book) else none
noncomputable def spec_l37Copy_v : Nat → List Nat := fun t => match t with | _ => []
noncomputable def spec_l37Copy_O (k : Nat) : Oracle := ofL []
theorem spec_l37Copy_Ok (k : Nat) : OkO (Ct Tryz.prog) (spec_l37Copy_O k) := okO_nil
noncomputable def spec_l37Copy_A (b : Book) : Pk := ⟨[(.ag [(.sl 0), (.v (.int .i64 b.Rack.Fresh)), (.v (.int .i64 b.Rack.Day)), (.v (.int .i64 b.Rack.Old)), (.v (.int .i64 b.Baked)), (.v (.int .i64 b.Sold)), (.v (.int .i64 b.Thrown))])], [(.row false K.k_impl_Event b.Events)]⟩
noncomputable def spec_l37Copy_d : Rs → Option (Book)
 | ⟨(.a (.ag [(.sl 1), (.v (.int .i64 r2)), (.v (.int .i64 r3)), (.v (.int .i64 r4)), (.v (.int .i64 r5)), (.v (.int .i64 r6)), (.v (.int .i64 r7))])), [.dead, (.row true K.k_impl_Event r1)]⟩ => some (⟨r1, (⟨r2, r3, r4⟩ : Rack), r5, r6, r7⟩ : Book)
 | _ => none
theorem spec_l37Copy_i {r : Rs} {y : Book} (h : spec_l37Copy_d r = some y) : r = ⟨(.a (.ag [(.sl 1), (.v (.int .i64 y.Rack.Fresh)), (.v (.int .i64 y.Rack.Day)), (.v (.int .i64 y.Rack.Old)), (.v (.int .i64 y.Baked)), (.v (.int .i64 y.Sold)), (.v (.int .i64 y.Thrown))])), [.dead, (.row true K.k_impl_Event y.Events)]⟩ := by
 unfold spec_l37Copy_d at h; split at h
 · cases h; rfl
 · cases h
theorem spec_l37Copy_e (k : Nat) (b : Book) : callF env (spec_l37Copy_O k) spec_l37Copy_v Tryz.f63 (k + 1) (spec_l37Copy_A b) (fun r => spec_l37Copy_d (r.fin 1 [])) = spec_l37Copy k b := by kernel_rfl
noncomputable def spec_l37Copy_x (k : Nat) : Ent1 := fun A R Q => match A with
 | ⟨[(.ag [(.sl 0), (.v (.int .i64 a2)), (.v (.int .i64 a3)), (.v (.int .i64 a4)), (.v (.int .i64 a5)), (.v (.int .i64 a6)), (.v (.int .i64 a7))])], [(.row false K.k_impl_Event a1)]⟩ => (spec_l37Copy k (⟨a1, (⟨a2, a3, a4⟩ : Rack), a5, a6, a7⟩ : Book)).bind fun y => Q ⟨(.a (.ag [(.sl 1), (.v (.int .i64 y.Rack.Fresh)), (.v (.int .i64 y.Rack.Day)), (.v (.int .i64 y.Rack.Old)), (.v (.int .i64 y.Baked)), (.v (.int .i64 y.Sold)), (.v (.int .i64 y.Thrown))])), [.dead, (.row true K.k_impl_Event y.Events)]⟩
 | _ => none
theorem spec_l37Copy_ok (k : Nat) : OkE Tryz.prog 63 (spec_l37Copy_x k) := by
 intro A R Q x h
 unfold spec_l37Copy_x at h
 split at h
 · obtain ⟨y, hy, hK⟩ := Option.bind_eq_some_iff.1 h
   obtain ⟨r, hr, hd⟩ := callF_ok envOk (spec_l37Copy_Ok k) follows Tryz.func63 (by kernel_rfl) ((spec_l37Copy_e k _).trans hy)
   exact ⟨_, spec_l37Copy_i hd ▸ hr.fin [], hK⟩
 · cases h
/-! ### spec.l38Copy: function 28 -/
noncomputable def spec_l38Copy (k : Nat)  (b : Bakery) : Option (Bakery) :=
 (spec_l36Copy k b.Stock).bind fun y1 =>
 (spec_l37Copy k b.Book).bind fun y2 =>
  some (⟨y1, b.Dough, b.Loaf, y2, b.Money⟩ : Bakery)
noncomputable def spec_l38Copy_v : Nat → List Nat := fun t => match t with | _ => []
noncomputable def spec_l38Copy_O (k : Nat) : Oracle := ofL [(62, spec_l36Copy_x k), (63, spec_l37Copy_x k)]
theorem spec_l38Copy_Ok (k : Nat) : OkO (Ct Tryz.prog) (spec_l38Copy_O k) := okO_cons (spec_l36Copy_ok k) (okO_cons (spec_l37Copy_ok k) (okO_nil))
noncomputable def spec_l38Copy_A (b : Bakery) : Pk := ⟨[(.ag [(.sl 0), (.v (.int .i64 b.Dough.Water)), (.v (.int .i64 b.Dough.Salt)), (.v (.int .i64 b.Dough.Leaven)), (.v (.int .i64 b.Loaf.Weight)), (.v (.int .i64 b.Loaf.Loss)), (.sl 1), (.v (.int .i64 b.Book.Rack.Fresh)), (.v (.int .i64 b.Book.Rack.Day)), (.v (.int .i64 b.Book.Rack.Old)), (.v (.int .i64 b.Book.Baked)), (.v (.int .i64 b.Book.Sold)), (.v (.int .i64 b.Book.Thrown)), (.v (.int .i64 b.Money))])], [(.row false K.ki64 b.Stock.Grams), (.row false K.k_impl_Event b.Book.Events)]⟩
noncomputable def spec_l38Copy_d : Rs → Option (Bakery)
 | ⟨(.a (.ag [(.sl 2), (.v (.int .i64 r2)), (.v (.int .i64 r3)), (.v (.int .i64 r4)), (.v (.int .i64 r5)), (.v (.int .i64 r6)), (.sl 3), (.v (.int .i64 r8)), (.v (.int .i64 r9)), (.v (.int .i64 r10)), (.v (.int .i64 r11)), (.v (.int .i64 r12)), (.v (.int .i64 r13)), (.v (.int .i64 r14))])), [.dead, .dead, (.row true K.ki64 r1), (.row true K.k_impl_Event r7)]⟩ => some (⟨(⟨r1⟩ : Stock), (⟨r2, r3, r4⟩ : Dough), (⟨r5, r6⟩ : Loaf), (⟨r7, (⟨r8, r9, r10⟩ : Rack), r11, r12, r13⟩ : Book), r14⟩ : Bakery)
 | _ => none
theorem spec_l38Copy_i {r : Rs} {y : Bakery} (h : spec_l38Copy_d r = some y) : r = ⟨(.a (.ag [(.sl 2), (.v (.int .i64 y.Dough.Water)), (.v (.int .i64 y.Dough.Salt)), (.v (.int .i64 y.Dough.Leaven)), (.v (.int .i64 y.Loaf.Weight)), (.v (.int .i64 y.Loaf.Loss)), (.sl 3), (.v (.int .i64 y.Book.Rack.Fresh)), (.v (.int .i64 y.Book.Rack.Day)), (.v (.int .i64 y.Book.Rack.Old)), (.v (.int .i64 y.Book.Baked)), (.v (.int .i64 y.Book.Sold)), (.v (.int .i64 y.Book.Thrown)), (.v (.int .i64 y.Money))])), [.dead, .dead, (.row true K.ki64 y.Stock.Grams), (.row true K.k_impl_Event y.Book.Events)]⟩ := by
 unfold spec_l38Copy_d at h; split at h
 · cases h; rfl
 · cases h
theorem spec_l38Copy_e (k : Nat) (b : Bakery) : callF env (spec_l38Copy_O k) spec_l38Copy_v Tryz.f28 (k + 1) (spec_l38Copy_A b) (fun r => spec_l38Copy_d (r.fin 2 [])) = spec_l38Copy k b := by kernel_rfl
noncomputable def spec_l38Copy_x (k : Nat) : Ent1 := fun A R Q => match A with
 | ⟨[(.ag [(.sl 0), (.v (.int .i64 a2)), (.v (.int .i64 a3)), (.v (.int .i64 a4)), (.v (.int .i64 a5)), (.v (.int .i64 a6)), (.sl 1), (.v (.int .i64 a8)), (.v (.int .i64 a9)), (.v (.int .i64 a10)), (.v (.int .i64 a11)), (.v (.int .i64 a12)), (.v (.int .i64 a13)), (.v (.int .i64 a14))])], [(.row false K.ki64 a1), (.row false K.k_impl_Event a7)]⟩ => (spec_l38Copy k (⟨(⟨a1⟩ : Stock), (⟨a2, a3, a4⟩ : Dough), (⟨a5, a6⟩ : Loaf), (⟨a7, (⟨a8, a9, a10⟩ : Rack), a11, a12, a13⟩ : Book), a14⟩ : Bakery)).bind fun y => Q ⟨(.a (.ag [(.sl 2), (.v (.int .i64 y.Dough.Water)), (.v (.int .i64 y.Dough.Salt)), (.v (.int .i64 y.Dough.Leaven)), (.v (.int .i64 y.Loaf.Weight)), (.v (.int .i64 y.Loaf.Loss)), (.sl 3), (.v (.int .i64 y.Book.Rack.Fresh)), (.v (.int .i64 y.Book.Rack.Day)), (.v (.int .i64 y.Book.Rack.Old)), (.v (.int .i64 y.Book.Baked)), (.v (.int .i64 y.Book.Sold)), (.v (.int .i64 y.Book.Thrown)), (.v (.int .i64 y.Money))])), [.dead, .dead, (.row true K.ki64 y.Stock.Grams), (.row true K.k_impl_Event y.Book.Events)]⟩
 | _ => none
theorem spec_l38Copy_ok (k : Nat) : OkE Tryz.prog 28 (spec_l38Copy_x k) := by
 intro A R Q x h
 unfold spec_l38Copy_x at h
 split at h
 · obtain ⟨y, hy, hK⟩ := Option.bind_eq_some_iff.1 h
   obtain ⟨r, hr, hd⟩ := callF_ok envOk (spec_l38Copy_Ok k) follows Tryz.func28 (by kernel_rfl) ((spec_l38Copy_e k _).trans hy)
   exact ⟨_, spec_l38Copy_i hd ▸ hr.fin [], hK⟩
 · cases h
/-! ### spec.l01In: function 68 -/
noncomputable def spec_l01In (k : Nat)  (x : Int) (least : Int) (most : Int) : Option (Bool) :=
 cond (decide ((least : Int) ≤ x))
 (some (decide ((x : Int) ≤ most)))
 (some false)
noncomputable def spec_l01In_v : Nat → List Nat := fun t => match t with | _ => []
noncomputable def spec_l01In_O (k : Nat) : Oracle := ofL []
theorem spec_l01In_Ok (k : Nat) : OkO (Ct Tryz.prog) (spec_l01In_O k) := okO_nil
noncomputable def spec_l01In_A (x : Int) (least : Int) (most : Int) : Pk := ⟨[(.sc (.v (.int .i64 x))), (.sc (.v (.int .i64 least))), (.sc (.v (.int .i64 most)))], []⟩
noncomputable def spec_l01In_d : Rs → Option (Bool)
 | ⟨(.a (.sc (.v (.bool r1)))), []⟩ => some r1
 | _ => none
theorem spec_l01In_i {r : Rs} {y : Bool} (h : spec_l01In_d r = some y) : r = ⟨(.a (.sc (.v (.bool y)))), []⟩ := by
 unfold spec_l01In_d at h; split at h
 · cases h; rfl
 · cases h
theorem spec_l01In_e (k : Nat) (x : Int) (least : Int) (most : Int) : callF env (spec_l01In_O k) spec_l01In_v Tryz.f68 (k + 1) (spec_l01In_A x least most) (fun r => spec_l01In_d (r.fin 0 [])) = spec_l01In k x least most := by kernel_rfl
noncomputable def spec_l01In_x (k : Nat) : Ent1 := fun A R Q => match A with
 | ⟨[(.sc (.v (.int .i64 a1))), (.sc (.v (.int .i64 a2))), (.sc (.v (.int .i64 a3)))], []⟩ => (spec_l01In k a1 a2 a3).bind fun y => Q ⟨(.a (.sc (.v (.bool y)))), []⟩
 | _ => none
theorem spec_l01In_ok (k : Nat) : OkE Tryz.prog 68 (spec_l01In_x k) := by
 intro A R Q x h
 unfold spec_l01In_x at h
 split at h
 · obtain ⟨y, hy, hK⟩ := Option.bind_eq_some_iff.1 h
   obtain ⟨r, hr, hd⟩ := callF_ok envOk (spec_l01In_Ok k) follows Tryz.func68 (by kernel_rfl) ((spec_l01In_e k _ _ _).trans hy)
   exact ⟨_, spec_l01In_i hd ▸ hr.fin [], hK⟩
 · cases h
/-! ### spec.StoreOk: function 64 -/
noncomputable def spec_StoreOk_s0 (k : Nat)  (s : Stock) (J : Int → Option (Bool)) (x0_0 : Int) : Option (Bool) :=
 cond (decide ((x0_0 : Int) < ((s.Grams).length : Int)))
 (if 0 ≤ (x0_0 : Int) ∧ (x0_0 : Int) < ((s.Grams).length : Int) then
  (spec_l01In k (s.Grams.getD (Int.toNat x0_0) 0) 0 1000000).bind fun y2 =>
   cond (!y2)
    (some false)
    (J (wr (x0_0 + 1))) else none)
 (some (decide ((((s.Grams).length : Int) : Int) = 4)))
noncomputable def spec_StoreOk_l0 (k : Nat) : Nat → Stock → Int → Option (Bool)
 | 0, s, x0_0 => spec_StoreOk_s0 k s (fun _ => none) x0_0
 | m + 1, s, x0_0 => spec_StoreOk_s0 k s (spec_StoreOk_l0 k m s) x0_0
noncomputable def spec_StoreOk_m (k : Nat) (J0 : Stock → Int → Option (Bool)) (s : Stock) : Option (Bool) :=
 J0 s 0
noncomputable def spec_StoreOk (k : Nat) (s : Stock) : Option (Bool) := spec_StoreOk_m k (spec_StoreOk_l0 k k) s
noncomputable def spec_StoreOk_v : Nat → List Nat := fun t => match t with | 2 => [1, 2, 3] | _ => []
noncomputable def spec_StoreOk_O (k : Nat) : Oracle := ofL [(68, spec_l01In_x k)]
theorem spec_StoreOk_Ok (k : Nat) : OkO (Ct Tryz.prog) (spec_StoreOk_O k) := okO_cons (spec_l01In_ok k) (okO_nil)
noncomputable def spec_StoreOk_A (s : Stock) : Pk := ⟨[(.ag [(.sl 0)])], [(.row false K.ki64 s.Grams)]⟩
noncomputable def spec_StoreOk_d : Rs → Option (Bool)
 | ⟨(.a (.sc (.v (.bool r1)))), [.dead]⟩ => some r1
 | _ => none
theorem spec_StoreOk_i {r : Rs} {y : Bool} (h : spec_StoreOk_d r = some y) : r = ⟨(.a (.sc (.v (.bool y)))), [.dead]⟩ := by
 unfold spec_StoreOk_d at h; split at h
 · cases h; rfl
 · cases h
noncomputable def spec_StoreOk_h0 (k m : Nat) (s : Stock) (x0_0 : Int) : Option (Bool) := hdAt env (spec_StoreOk_O k) spec_StoreOk_v Tryz.f64 1 (fun r => spec_StoreOk_d (r.fin 1 [])) [1, 0, 1, 0] k m ⟨tmF [1, 2, 3] [(.a (.sc (.bp 1 0))), (.a (.sc (.v (.bool false)))), (.a (.sc (.v (.int .i64 x0_0))))], blF [(.row false K.ki64 s.Grams), (.box true [(.sl 0)])]⟩
theorem spec_StoreOk_z0 (k : Nat) (s : Stock) (x0_0 : Int) : spec_StoreOk_h0 k 0 s x0_0 = spec_StoreOk_s0 k s (fun _ => none) x0_0 := by kernel_rfl
theorem spec_StoreOk_g0 (k : Nat) (H : St → Option (Bool)) (s : Stock) (x0_0 : Int) : rnd env (spec_StoreOk_O k) spec_StoreOk_v Tryz.f64 1 (fun r => spec_StoreOk_d (r.fin 1 [])) [1, 0, 1, 0] k H ⟨tmF [1, 2, 3] [(.a (.sc (.bp 1 0))), (.a (.sc (.v (.bool false)))), (.a (.sc (.v (.int .i64 x0_0))))], blF [(.row false K.ki64 s.Grams), (.box true [(.sl 0)])]⟩ = spec_StoreOk_s0 k s (fun x0_0 => H ⟨tmF [1, 2, 3] [(.a (.sc (.bp 1 0))), (.a (.sc (.v (.bool false)))), (.a (.sc (.v (.int .i64 x0_0))))], blF [(.row false K.ki64 s.Grams), (.box true [(.sl 0)])]⟩) x0_0 := by kernel_rfl
theorem spec_StoreOk_n0 (k m : Nat) (s : Stock) (x0_0 : Int) : spec_StoreOk_h0 k (m + 1) s x0_0 = spec_StoreOk_s0 k s (spec_StoreOk_h0 k m s) x0_0 := (hdAt_succ _ _ _ _ _ _ _ _ _ _).trans (spec_StoreOk_g0 k _ s x0_0)
theorem spec_StoreOk_q0 (k : Nat) : ∀ m, spec_StoreOk_h0 k m = spec_StoreOk_l0 k m := by
 intro m
 induction m with
 | zero => funext s x0_0; rw [spec_StoreOk_z0]; rfl
 | succ m ih => funext s x0_0; rw [spec_StoreOk_n0, ih]; rfl
theorem spec_StoreOk_e (k : Nat) (s : Stock) : callF env (spec_StoreOk_O k) spec_StoreOk_v Tryz.f64 (k + 1) (spec_StoreOk_A s) (fun r => spec_StoreOk_d (r.fin 1 [])) = spec_StoreOk k s := by
 have e : callF env (spec_StoreOk_O k) spec_StoreOk_v Tryz.f64 (k + 1) (spec_StoreOk_A s) (fun r => spec_StoreOk_d (r.fin 1 [])) = spec_StoreOk_m k (spec_StoreOk_h0 k k) s := by kernel_rfl
 rw [e, spec_StoreOk_q0]; rfl
noncomputable def spec_StoreOk_x (k : Nat) : Ent1 := fun A R Q => match A with
 | ⟨[(.ag [(.sl 0)])], [(.row false K.ki64 a1)]⟩ => (spec_StoreOk k (⟨a1⟩ : Stock)).bind fun y => Q ⟨(.a (.sc (.v (.bool y)))), [.dead]⟩
 | _ => none
theorem spec_StoreOk_ok (k : Nat) : OkE Tryz.prog 64 (spec_StoreOk_x k) := by
 intro A R Q x h
 unfold spec_StoreOk_x at h
 split at h
 · obtain ⟨y, hy, hK⟩ := Option.bind_eq_some_iff.1 h
   obtain ⟨r, hr, hd⟩ := callF_ok envOk (spec_StoreOk_Ok k) follows Tryz.func64 (by kernel_rfl) ((spec_StoreOk_e k _).trans hy)
   exact ⟨_, spec_StoreOk_i hd ▸ hr.fin [], hK⟩
 · cases h
/-! ### spec.DoughOk: function 65 -/
noncomputable def spec_DoughOk (k : Nat)  (d : Dough) : Option (Bool) :=
 (spec_l01In k d.Water 300 1200).bind fun y1 =>
 cond y1
  ((spec_l01In k d.Salt 0 50).bind fun y2 =>
   cond y2
    ((spec_l01In k d.Leaven 0 500).bind fun y3 =>
     some y3)
    (some false))
  (some false)
noncomputable def spec_DoughOk_v : Nat → List Nat := fun t => match t with | _ => []
noncomputable def spec_DoughOk_O (k : Nat) : Oracle := ofL [(68, spec_l01In_x k)]
theorem spec_DoughOk_Ok (k : Nat) : OkO (Ct Tryz.prog) (spec_DoughOk_O k) := okO_cons (spec_l01In_ok k) (okO_nil)
noncomputable def spec_DoughOk_A (d : Dough) : Pk := ⟨[(.ag [(.v (.int .i64 d.Water)), (.v (.int .i64 d.Salt)), (.v (.int .i64 d.Leaven))])], []⟩
noncomputable def spec_DoughOk_d : Rs → Option (Bool)
 | ⟨(.a (.sc (.v (.bool r1)))), []⟩ => some r1
 | _ => none
theorem spec_DoughOk_i {r : Rs} {y : Bool} (h : spec_DoughOk_d r = some y) : r = ⟨(.a (.sc (.v (.bool y)))), []⟩ := by
 unfold spec_DoughOk_d at h; split at h
 · cases h; rfl
 · cases h
theorem spec_DoughOk_e (k : Nat) (d : Dough) : callF env (spec_DoughOk_O k) spec_DoughOk_v Tryz.f65 (k + 1) (spec_DoughOk_A d) (fun r => spec_DoughOk_d (r.fin 0 [])) = spec_DoughOk k d := by kernel_rfl
noncomputable def spec_DoughOk_x (k : Nat) : Ent1 := fun A R Q => match A with
 | ⟨[(.ag [(.v (.int .i64 a1)), (.v (.int .i64 a2)), (.v (.int .i64 a3))])], []⟩ => (spec_DoughOk k (⟨a1, a2, a3⟩ : Dough)).bind fun y => Q ⟨(.a (.sc (.v (.bool y)))), []⟩
 | _ => none
theorem spec_DoughOk_ok (k : Nat) : OkE Tryz.prog 65 (spec_DoughOk_x k) := by
 intro A R Q x h
 unfold spec_DoughOk_x at h
 split at h
 · obtain ⟨y, hy, hK⟩ := Option.bind_eq_some_iff.1 h
   obtain ⟨r, hr, hd⟩ := callF_ok envOk (spec_DoughOk_Ok k) follows Tryz.func65 (by kernel_rfl) ((spec_DoughOk_e k _).trans hy)
   exact ⟨_, spec_DoughOk_i hd ▸ hr.fin [], hK⟩
 · cases h
/-! ### spec.LoafOk: function 66 -/
noncomputable def spec_LoafOk (k : Nat)  (l : Loaf) : Option (Bool) :=
 (spec_l01In k l.Weight 10 5000).bind fun y1 =>
 cond y1
  ((spec_l01In k l.Loss 0 40).bind fun y2 =>
   some y2)
  (some false)
noncomputable def spec_LoafOk_v : Nat → List Nat := fun t => match t with | _ => []
noncomputable def spec_LoafOk_O (k : Nat) : Oracle := ofL [(68, spec_l01In_x k)]
theorem spec_LoafOk_Ok (k : Nat) : OkO (Ct Tryz.prog) (spec_LoafOk_O k) := okO_cons (spec_l01In_ok k) (okO_nil)
noncomputable def spec_LoafOk_A (l : Loaf) : Pk := ⟨[(.ag [(.v (.int .i64 l.Weight)), (.v (.int .i64 l.Loss))])], []⟩
noncomputable def spec_LoafOk_d : Rs → Option (Bool)
 | ⟨(.a (.sc (.v (.bool r1)))), []⟩ => some r1
 | _ => none
theorem spec_LoafOk_i {r : Rs} {y : Bool} (h : spec_LoafOk_d r = some y) : r = ⟨(.a (.sc (.v (.bool y)))), []⟩ := by
 unfold spec_LoafOk_d at h; split at h
 · cases h; rfl
 · cases h
theorem spec_LoafOk_e (k : Nat) (l : Loaf) : callF env (spec_LoafOk_O k) spec_LoafOk_v Tryz.f66 (k + 1) (spec_LoafOk_A l) (fun r => spec_LoafOk_d (r.fin 0 [])) = spec_LoafOk k l := by kernel_rfl
noncomputable def spec_LoafOk_x (k : Nat) : Ent1 := fun A R Q => match A with
 | ⟨[(.ag [(.v (.int .i64 a1)), (.v (.int .i64 a2))])], []⟩ => (spec_LoafOk k (⟨a1, a2⟩ : Loaf)).bind fun y => Q ⟨(.a (.sc (.v (.bool y)))), []⟩
 | _ => none
theorem spec_LoafOk_ok (k : Nat) : OkE Tryz.prog 66 (spec_LoafOk_x k) := by
 intro A R Q x h
 unfold spec_LoafOk_x at h
 split at h
 · obtain ⟨y, hy, hK⟩ := Option.bind_eq_some_iff.1 h
   obtain ⟨r, hr, hd⟩ := callF_ok envOk (spec_LoafOk_Ok k) follows Tryz.func66 (by kernel_rfl) ((spec_LoafOk_e k _).trans hy)
   exact ⟨_, spec_LoafOk_i hd ▸ hr.fin [], hK⟩
 · cases h
/-! ### spec.RackOk: function 119 -/
noncomputable def spec_RackOk (k : Nat)  (r : Rack) : Option (Bool) :=
 (spec_l01In k r.Fresh 0 10000).bind fun y1 =>
 cond y1
  ((spec_l01In k r.Day 0 10000).bind fun y2 =>
   cond y2
    ((spec_l01In k r.Old 0 10000).bind fun y3 =>
     some y3)
    (some false))
  (some false)
noncomputable def spec_RackOk_v : Nat → List Nat := fun t => match t with | _ => []
noncomputable def spec_RackOk_O (k : Nat) : Oracle := ofL [(68, spec_l01In_x k)]
theorem spec_RackOk_Ok (k : Nat) : OkO (Ct Tryz.prog) (spec_RackOk_O k) := okO_cons (spec_l01In_ok k) (okO_nil)
noncomputable def spec_RackOk_A (r : Rack) : Pk := ⟨[(.ag [(.v (.int .i64 r.Fresh)), (.v (.int .i64 r.Day)), (.v (.int .i64 r.Old))])], []⟩
noncomputable def spec_RackOk_d : Rs → Option (Bool)
 | ⟨(.a (.sc (.v (.bool r1)))), []⟩ => some r1
 | _ => none
theorem spec_RackOk_i {r : Rs} {y : Bool} (h : spec_RackOk_d r = some y) : r = ⟨(.a (.sc (.v (.bool y)))), []⟩ := by
 unfold spec_RackOk_d at h; split at h
 · cases h; rfl
 · cases h
theorem spec_RackOk_e (k : Nat) (r : Rack) : callF env (spec_RackOk_O k) spec_RackOk_v Tryz.f119 (k + 1) (spec_RackOk_A r) (fun r => spec_RackOk_d (r.fin 0 [])) = spec_RackOk k r := by kernel_rfl
noncomputable def spec_RackOk_x (k : Nat) : Ent1 := fun A R Q => match A with
 | ⟨[(.ag [(.v (.int .i64 a1)), (.v (.int .i64 a2)), (.v (.int .i64 a3))])], []⟩ => (spec_RackOk k (⟨a1, a2, a3⟩ : Rack)).bind fun y => Q ⟨(.a (.sc (.v (.bool y)))), []⟩
 | _ => none
theorem spec_RackOk_ok (k : Nat) : OkE Tryz.prog 119 (spec_RackOk_x k) := by
 intro A R Q x h
 unfold spec_RackOk_x at h
 split at h
 · obtain ⟨y, hy, hK⟩ := Option.bind_eq_some_iff.1 h
   obtain ⟨r, hr, hd⟩ := callF_ok envOk (spec_RackOk_Ok k) follows Tryz.func119 (by kernel_rfl) ((spec_RackOk_e k _).trans hy)
   exact ⟨_, spec_RackOk_i hd ▸ hr.fin [], hK⟩
 · cases h
/-! ### spec.SellFresh: function 120 -/
noncomputable def spec_SellFresh (k : Nat)  (r : Rack) (n : Int) : Option (Rack × Int) :=
 (spec_RackOk k r).bind fun y1 =>
 cond (!y1)
  (some (r, (-1)))
  ((spec_l01In k n 0 10000).bind fun y2 =>
   cond (!y2)
    (some (r, (-1)))
    (some ((⟨(wr (r.Fresh - (mn n r.Fresh))), (wr (r.Day - (mn (wr (n - (mn n r.Fresh))) r.Day))), r.Old⟩ : Rack), (wr ((mn n r.Fresh) + (mn (wr (n - (mn n r.Fresh))) r.Day))))))
noncomputable def spec_SellFresh_v : Nat → List Nat := fun t => match t with | _ => []
noncomputable def spec_SellFresh_O (k : Nat) : Oracle := ofL [(119, spec_RackOk_x k), (68, spec_l01In_x k)]
theorem spec_SellFresh_Ok (k : Nat) : OkO (Ct Tryz.prog) (spec_SellFresh_O k) := okO_cons (spec_RackOk_ok k) (okO_cons (spec_l01In_ok k) (okO_nil))
noncomputable def spec_SellFresh_A (r : Rack) (n : Int) : Pk := ⟨[(.ag [(.v (.int .i64 r.Fresh)), (.v (.int .i64 r.Day)), (.v (.int .i64 r.Old))]), (.sc (.v (.int .i64 n)))], []⟩
noncomputable def spec_SellFresh_d : Rs → Option (Rack × Int)
 | ⟨(.tp [(.ag [(.v (.int .i64 r1)), (.v (.int .i64 r2)), (.v (.int .i64 r3))]), (.sc (.v (.int .i64 r4)))]), []⟩ => some ((⟨r1, r2, r3⟩ : Rack), r4)
 | _ => none
theorem spec_SellFresh_i {r : Rs} {y : Rack × Int} (h : spec_SellFresh_d r = some y) : r = ⟨(.tp [(.ag [(.v (.int .i64 y.1.Fresh)), (.v (.int .i64 y.1.Day)), (.v (.int .i64 y.1.Old))]), (.sc (.v (.int .i64 y.2)))]), []⟩ := by
 unfold spec_SellFresh_d at h; split at h
 · cases h; rfl
 · cases h
theorem spec_SellFresh_e (k : Nat) (r : Rack) (n : Int) : callF env (spec_SellFresh_O k) spec_SellFresh_v Tryz.f120 (k + 1) (spec_SellFresh_A r n) (fun r => spec_SellFresh_d (r.fin 0 [])) = spec_SellFresh k r n := by kernel_rfl
noncomputable def spec_SellFresh_x (k : Nat) : Ent1 := fun A R Q => match A with
 | ⟨[(.ag [(.v (.int .i64 a1)), (.v (.int .i64 a2)), (.v (.int .i64 a3))]), (.sc (.v (.int .i64 a4)))], []⟩ => (spec_SellFresh k (⟨a1, a2, a3⟩ : Rack) a4).bind fun y => Q ⟨(.tp [(.ag [(.v (.int .i64 y.1.Fresh)), (.v (.int .i64 y.1.Day)), (.v (.int .i64 y.1.Old))]), (.sc (.v (.int .i64 y.2)))]), []⟩
 | _ => none
theorem spec_SellFresh_ok (k : Nat) : OkE Tryz.prog 120 (spec_SellFresh_x k) := by
 intro A R Q x h
 unfold spec_SellFresh_x at h
 split at h
 · obtain ⟨y, hy, hK⟩ := Option.bind_eq_some_iff.1 h
   obtain ⟨r, hr, hd⟩ := callF_ok envOk (spec_SellFresh_Ok k) follows Tryz.func120 (by kernel_rfl) ((spec_SellFresh_e k _ _).trans hy)
   exact ⟨_, spec_SellFresh_i hd ▸ hr.fin [], hK⟩
 · cases h
/-! ### spec.SellCheap: function 121 -/
noncomputable def spec_SellCheap (k : Nat)  (r : Rack) (n : Int) : Option (Rack × Int) :=
 (spec_RackOk k r).bind fun y1 =>
 cond (!y1)
  (some (r, (-1)))
  ((spec_l01In k n 0 10000).bind fun y2 =>
   cond (!y2)
    (some (r, (-1)))
    (some ((⟨r.Fresh, (wr (r.Day - (mn (wr (n - (mn n r.Old))) r.Day))), (wr (r.Old - (mn n r.Old)))⟩ : Rack), (wr ((mn n r.Old) + (mn (wr (n - (mn n r.Old))) r.Day))))))
noncomputable def spec_SellCheap_v : Nat → List Nat := fun t => match t with | _ => []
noncomputable def spec_SellCheap_O (k : Nat) : Oracle := ofL [(119, spec_RackOk_x k), (68, spec_l01In_x k)]
theorem spec_SellCheap_Ok (k : Nat) : OkO (Ct Tryz.prog) (spec_SellCheap_O k) := okO_cons (spec_RackOk_ok k) (okO_cons (spec_l01In_ok k) (okO_nil))
noncomputable def spec_SellCheap_A (r : Rack) (n : Int) : Pk := ⟨[(.ag [(.v (.int .i64 r.Fresh)), (.v (.int .i64 r.Day)), (.v (.int .i64 r.Old))]), (.sc (.v (.int .i64 n)))], []⟩
noncomputable def spec_SellCheap_d : Rs → Option (Rack × Int)
 | ⟨(.tp [(.ag [(.v (.int .i64 r1)), (.v (.int .i64 r2)), (.v (.int .i64 r3))]), (.sc (.v (.int .i64 r4)))]), []⟩ => some ((⟨r1, r2, r3⟩ : Rack), r4)
 | _ => none
theorem spec_SellCheap_i {r : Rs} {y : Rack × Int} (h : spec_SellCheap_d r = some y) : r = ⟨(.tp [(.ag [(.v (.int .i64 y.1.Fresh)), (.v (.int .i64 y.1.Day)), (.v (.int .i64 y.1.Old))]), (.sc (.v (.int .i64 y.2)))]), []⟩ := by
 unfold spec_SellCheap_d at h; split at h
 · cases h; rfl
 · cases h
theorem spec_SellCheap_e (k : Nat) (r : Rack) (n : Int) : callF env (spec_SellCheap_O k) spec_SellCheap_v Tryz.f121 (k + 1) (spec_SellCheap_A r n) (fun r => spec_SellCheap_d (r.fin 0 [])) = spec_SellCheap k r n := by kernel_rfl
noncomputable def spec_SellCheap_x (k : Nat) : Ent1 := fun A R Q => match A with
 | ⟨[(.ag [(.v (.int .i64 a1)), (.v (.int .i64 a2)), (.v (.int .i64 a3))]), (.sc (.v (.int .i64 a4)))], []⟩ => (spec_SellCheap k (⟨a1, a2, a3⟩ : Rack) a4).bind fun y => Q ⟨(.tp [(.ag [(.v (.int .i64 y.1.Fresh)), (.v (.int .i64 y.1.Day)), (.v (.int .i64 y.1.Old))]), (.sc (.v (.int .i64 y.2)))]), []⟩
 | _ => none
theorem spec_SellCheap_ok (k : Nat) : OkE Tryz.prog 121 (spec_SellCheap_x k) := by
 intro A R Q x h
 unfold spec_SellCheap_x at h
 split at h
 · obtain ⟨y, hy, hK⟩ := Option.bind_eq_some_iff.1 h
   obtain ⟨r, hr, hd⟩ := callF_ok envOk (spec_SellCheap_Ok k) follows Tryz.func121 (by kernel_rfl) ((spec_SellCheap_e k _ _).trans hy)
   exact ⟨_, spec_SellCheap_i hd ▸ hr.fin [], hK⟩
 · cases h
end Go.Proofs.YtlhcphoojiemmaaGreatX
