/- What functions of the program compute, as functions of numbers and lists, and that they do. (The file is written by wip/x/vxp.py of this repository.) -/
import Derived.Test.YtlhcphoojiemmaaGreatF6
namespace Go.Proofs.YtlhcphoojiemmaaGreatX
open Go Go.Proofs
set_option linter.unusedVariables false
set_option maxRecDepth 100000
/-! ### laws.eqAct: function 59 -/
noncomputable def laws_eqAct (k : Nat)  (a : Deed) (b : Deed) : Option (Bool) :=
 cond (!(decide ((a.Kind : Int) = b.Kind)))
 (some false)
 (cond (!(decide ((a.A : Int) = b.A)))
  (some false)
  (cond (!(decide ((a.B : Int) = b.B)))
   (some false)
   (some true)))
noncomputable def laws_eqAct_v : Nat → List Nat := fun t => match t with | _ => []
noncomputable def laws_eqAct_O (k : Nat) : Oracle := ofL []
theorem laws_eqAct_Ok (k : Nat) : OkO (Ct Tryz.prog) (laws_eqAct_O k) := okO_nil
noncomputable def laws_eqAct_A (a : Deed) (b : Deed) : Pk := ⟨[(.ag [(.v (.int .i64 a.Kind)), (.v (.int .i64 a.A)), (.v (.int .i64 a.B))]), (.ag [(.v (.int .i64 b.Kind)), (.v (.int .i64 b.A)), (.v (.int .i64 b.B))])], []⟩
noncomputable def laws_eqAct_d : Rs → Option (Bool)
 | ⟨(.a (.sc (.v (.bool r1)))), []⟩ => some r1
 | _ => none
theorem laws_eqAct_i {r : Rs} {y : Bool} (h : laws_eqAct_d r = some y) : r = ⟨(.a (.sc (.v (.bool y)))), []⟩ := by
 unfold laws_eqAct_d at h; split at h
 · cases h; rfl
 · cases h
theorem laws_eqAct_e (k : Nat) (a : Deed) (b : Deed) : callF env (laws_eqAct_O k) laws_eqAct_v Tryz.f59 (k + 1) (laws_eqAct_A a b) (fun r => laws_eqAct_d (r.fin 0 [])) = laws_eqAct k a b := by kernel_rfl
noncomputable def laws_eqAct_x (k : Nat) : Ent1 := fun A R Q => match A with
 | ⟨[(.ag [(.v (.int .i64 a1)), (.v (.int .i64 a2)), (.v (.int .i64 a3))]), (.ag [(.v (.int .i64 a4)), (.v (.int .i64 a5)), (.v (.int .i64 a6))])], []⟩ => (laws_eqAct k (⟨a1, a2, a3⟩ : Deed) (⟨a4, a5, a6⟩ : Deed)).bind fun y => Q ⟨(.a (.sc (.v (.bool y)))), []⟩
 | _ => none
theorem laws_eqAct_ok (k : Nat) : OkE Tryz.prog 59 (laws_eqAct_x k) := by
 intro A R Q x h
 unfold laws_eqAct_x at h
 split at h
 · obtain ⟨y, hy, hK⟩ := Option.bind_eq_some_iff.1 h
   obtain ⟨r, hr, hd⟩ := callF_ok envOk (laws_eqAct_Ok k) follows Tryz.func59 (by kernel_rfl) ((laws_eqAct_e k _ _).trans hy)
   exact ⟨_, laws_eqAct_i hd ▸ hr.fin [], hK⟩
 · cases h
/-! ### laws.eqActS: function 19 -/
noncomputable def laws_eqActS_s0 (k : Nat)  (a : (List Deed)) (b : (List Deed)) (J : Int → Option (Bool)) (x0_0 : Int) : Option (Bool) :=
 cond (decide ((x0_0 : Int) < ((a).length : Int)))
 (if 0 ≤ (x0_0 : Int) ∧ (x0_0 : Int) < ((a).length : Int) then
  if 0 ≤ (x0_0 : Int) ∧ (x0_0 : Int) < ((b).length : Int) then
   (laws_eqAct k (a.getD (Int.toNat x0_0) dk_impl_Act) (b.getD (Int.toNat x0_0) dk_impl_Act)).bind fun y2 =>
    cond (!y2)
     (some false)
     (J (wr (x0_0 + 1))) else none else none)
 (some true)
noncomputable def laws_eqActS_l0 (k : Nat) : Nat → (List Deed) → (List Deed) → Int → Option (Bool)
 | 0, a, b, x0_0 => laws_eqActS_s0 k a b (fun _ => none) x0_0
 | m + 1, a, b, x0_0 => laws_eqActS_s0 k a b (laws_eqActS_l0 k m a b) x0_0
noncomputable def laws_eqActS_m (k : Nat) (J0 : (List Deed) → (List Deed) → Int → Option (Bool)) (a : (List Deed)) (b : (List Deed)) : Option (Bool) :=
 cond (!(decide ((((a).length : Int) : Int) = ((b).length : Int))))
 (some false)
 (J0 a b 0)
noncomputable def laws_eqActS (k : Nat) (a : (List Deed)) (b : (List Deed)) : Option (Bool) := laws_eqActS_m k (laws_eqActS_l0 k k) a b
noncomputable def laws_eqActS_v : Nat → List Nat := fun t => match t with | 4 => [0, 1, 4, 5] | _ => []
noncomputable def laws_eqActS_O (k : Nat) : Oracle := ofL [(59, laws_eqAct_x k)]
theorem laws_eqActS_Ok (k : Nat) : OkO (Ct Tryz.prog) (laws_eqActS_O k) := okO_cons (laws_eqAct_ok k) (okO_nil)
noncomputable def laws_eqActS_A (a : (List Deed)) (b : (List Deed)) : Pk := ⟨[(.sc (.sl 0)), (.sc (.sl 1))], [(.row false K.k_impl_Act a), (.row false K.k_impl_Act b)]⟩
noncomputable def laws_eqActS_d : Rs → Option (Bool)
 | ⟨(.a (.sc (.v (.bool r1)))), [.dead, .dead]⟩ => some r1
 | _ => none
theorem laws_eqActS_i {r : Rs} {y : Bool} (h : laws_eqActS_d r = some y) : r = ⟨(.a (.sc (.v (.bool y)))), [.dead, .dead]⟩ := by
 unfold laws_eqActS_d at h; split at h
 · cases h; rfl
 · cases h
noncomputable def laws_eqActS_h0 (k m : Nat) (a : (List Deed)) (b : (List Deed)) (x0_0 : Int) : Option (Bool) := hdAt env (laws_eqActS_O k) laws_eqActS_v Tryz.f19 2 (fun r => laws_eqActS_d (r.fin 2 [])) [1, 1, 0, 1, 0] k m ⟨tmF [0, 1, 4, 5] [(.a (.sc (.sl 0))), (.a (.sc (.sl 1))), (.a (.sc (.v (.bool false)))), (.a (.sc (.v (.int .i64 x0_0))))], blF [(.row false K.k_impl_Act a), (.row false K.k_impl_Act b)]⟩
theorem laws_eqActS_z0 (k : Nat) (a : (List Deed)) (b : (List Deed)) (x0_0 : Int) : laws_eqActS_h0 k 0 a b x0_0 = laws_eqActS_s0 k a b (fun _ => none) x0_0 := by kernel_rfl
theorem laws_eqActS_g0 (k : Nat) (H : St → Option (Bool)) (a : (List Deed)) (b : (List Deed)) (x0_0 : Int) : rnd env (laws_eqActS_O k) laws_eqActS_v Tryz.f19 2 (fun r => laws_eqActS_d (r.fin 2 [])) [1, 1, 0, 1, 0] k H ⟨tmF [0, 1, 4, 5] [(.a (.sc (.sl 0))), (.a (.sc (.sl 1))), (.a (.sc (.v (.bool false)))), (.a (.sc (.v (.int .i64 x0_0))))], blF [(.row false K.k_impl_Act a), (.row false K.k_impl_Act b)]⟩ = laws_eqActS_s0 k a b (fun x0_0 => H ⟨tmF [0, 1, 4, 5] [(.a (.sc (.sl 0))), (.a (.sc (.sl 1))), (.a (.sc (.v (.bool false)))), (.a (.sc (.v (.int .i64 x0_0))))], blF [(.row false K.k_impl_Act a), (.row false K.k_impl_Act b)]⟩) x0_0 := by kernel_rfl
theorem laws_eqActS_n0 (k m : Nat) (a : (List Deed)) (b : (List Deed)) (x0_0 : Int) : laws_eqActS_h0 k (m + 1) a b x0_0 = laws_eqActS_s0 k a b (laws_eqActS_h0 k m a b) x0_0 := (hdAt_succ _ _ _ _ _ _ _ _ _ _).trans (laws_eqActS_g0 k _ a b x0_0)
theorem laws_eqActS_q0 (k : Nat) : ∀ m, laws_eqActS_h0 k m = laws_eqActS_l0 k m := by
 intro m
 induction m with
 | zero => funext a b x0_0; rw [laws_eqActS_z0]; rfl
 | succ m ih => funext a b x0_0; rw [laws_eqActS_n0, ih]; rfl
theorem laws_eqActS_e (k : Nat) (a : (List Deed)) (b : (List Deed)) : callF env (laws_eqActS_O k) laws_eqActS_v Tryz.f19 (k + 1) (laws_eqActS_A a b) (fun r => laws_eqActS_d (r.fin 2 [])) = laws_eqActS k a b := by
 have e : callF env (laws_eqActS_O k) laws_eqActS_v Tryz.f19 (k + 1) (laws_eqActS_A a b) (fun r => laws_eqActS_d (r.fin 2 [])) = laws_eqActS_m k (laws_eqActS_h0 k k) a b := by kernel_rfl
 rw [e, laws_eqActS_q0]; rfl
noncomputable def laws_eqActS_x (k : Nat) : Ent1 := fun A R Q => match A with
 | ⟨[(.sc (.sl 0)), (.sc (.sl 1))], [(.row false K.k_impl_Act a1), (.row false K.k_impl_Act a2)]⟩ => (laws_eqActS k a1 a2).bind fun y => Q ⟨(.a (.sc (.v (.bool y)))), [.dead, .dead]⟩
 | _ => none
theorem laws_eqActS_ok (k : Nat) : OkE Tryz.prog 19 (laws_eqActS_x k) := by
 intro A R Q x h
 unfold laws_eqActS_x at h
 split at h
 · obtain ⟨y, hy, hK⟩ := Option.bind_eq_some_iff.1 h
   obtain ⟨r, hr, hd⟩ := callF_ok envOk (laws_eqActS_Ok k) follows Tryz.func19 (by kernel_rfl) ((laws_eqActS_e k _ _).trans hy)
   exact ⟨_, laws_eqActS_i hd ▸ hr.fin [], hK⟩
 · cases h
/-! ### laws.FnExactIsReplay: function 4 -/
noncomputable def laws_FnExactIsReplay (k : Nat)  (aB : Bakery) (aActs : (List Deed)) (aNumbers : (List Int)) : Option (Bool) :=
 cond (decide ((1048576 : Int) < ((aNumbers).length : Int)))
 (some true)
 ((laws_szBakery k aB 1048576).bind fun y1 =>
  cond (decide ((y1 : Int) < 0))
   (some true)
   ((laws_szActS k aActs y1).bind fun y2 =>
    cond (decide ((y2 : Int) < 0))
     (some true)
     ((laws_toBakery k aB).bind fun y3 =>
      (laws_toActS k aActs).bind fun y4 =>
       (laws_toIntS k aNumbers).bind fun y5 =>
        (spec_IsReplay k y3 y4 y5).bind fun y6 =>
        (laws_toBakery k aB).bind fun y7 =>
        (laws_toActS k aActs).bind fun y8 =>
        (laws_toIntS k aNumbers).bind fun y9 =>
        (impl_IsReplay k y7 y8 y9).bind fun y10 =>
        cond (!(y10 == y6))
        (some false)
        ((laws_toBakery k aB).bind fun y11 =>
        (laws_eqBakery k y7 y11).bind fun y12 =>
        cond (!y12)
        (some false)
        ((laws_toActS k aActs).bind fun y13 =>
        (laws_eqActS k y8 y13).bind fun y14 =>
        cond (!y14)
        (some false)
        ((laws_toIntS k aNumbers).bind fun y15 =>
        (laws_eqIntS k y9 y15).bind fun y16 =>
        cond (!y16)
        (some false)
        (some true)))))))
noncomputable def laws_FnExactIsReplay_v : Nat → List Nat := fun t => match t with | _ => []
noncomputable def laws_FnExactIsReplay_O (k : Nat) : Oracle := ofL [(11, laws_eqBakery_x k), (14, laws_szActS_x k), (15, spec_IsReplay_x k), (16, laws_toActS_x k), (17, laws_toIntS_x k), (18, impl_IsReplay_x k), (19, laws_eqActS_x k), (20, laws_eqIntS_x k), (6, laws_szBakery_x k), (8, laws_toBakery_x k)]
theorem laws_FnExactIsReplay_Ok (k : Nat) : OkO (Ct Tryz.prog) (laws_FnExactIsReplay_O k) := okO_cons (laws_eqBakery_ok k) (okO_cons (laws_szActS_ok k) (okO_cons (spec_IsReplay_ok k) (okO_cons (laws_toActS_ok k) (okO_cons (laws_toIntS_ok k) (okO_cons (impl_IsReplay_ok k) (okO_cons (laws_eqActS_ok k) (okO_cons (laws_eqIntS_ok k) (okO_cons (laws_szBakery_ok k) (okO_cons (laws_toBakery_ok k) (okO_nil))))))))))
noncomputable def laws_FnExactIsReplay_A (aB : Bakery) (aActs : (List Deed)) (aNumbers : (List Int)) : Pk := ⟨[(.ag [(.sl 0), (.v (.int .i64 aB.Dough.Water)), (.v (.int .i64 aB.Dough.Salt)), (.v (.int .i64 aB.Dough.Leaven)), (.v (.int .i64 aB.Loaf.Weight)), (.v (.int .i64 aB.Loaf.Loss)), (.sl 1), (.v (.int .i64 aB.Book.Rack.Fresh)), (.v (.int .i64 aB.Book.Rack.Day)), (.v (.int .i64 aB.Book.Rack.Old)), (.v (.int .i64 aB.Book.Baked)), (.v (.int .i64 aB.Book.Sold)), (.v (.int .i64 aB.Book.Thrown)), (.v (.int .i64 aB.Money))]), (.sc (.sl 2)), (.sc (.sl 3))], [(.row false K.ki64 aB.Stock.Grams), (.row false K.k_laws_Event aB.Book.Events), (.row false K.k_laws_Act aActs), (.row false K.ki64 aNumbers)]⟩
noncomputable def laws_FnExactIsReplay_d : Rs → Option (Bool)
 | ⟨(.a (.sc (.v (.bool r1)))), [.dead, .dead, .dead, .dead]⟩ => some r1
 | _ => none
theorem laws_FnExactIsReplay_i {r : Rs} {y : Bool} (h : laws_FnExactIsReplay_d r = some y) : r = ⟨(.a (.sc (.v (.bool y)))), [.dead, .dead, .dead, .dead]⟩ := by
 unfold laws_FnExactIsReplay_d at h; split at h
 · cases h; rfl
 · cases h
theorem laws_FnExactIsReplay_e (k : Nat) (aB : Bakery) (aActs : (List Deed)) (aNumbers : (List Int)) : callF env (laws_FnExactIsReplay_O k) laws_FnExactIsReplay_v Tryz.f4 (k + 1) (laws_FnExactIsReplay_A aB aActs aNumbers) (fun r => laws_FnExactIsReplay_d (r.fin 4 [])) = laws_FnExactIsReplay k aB aActs aNumbers := by kernel_rfl
noncomputable def laws_FnExactIsReplay_x (k : Nat) : Ent1 := fun A R Q => match A with
 | ⟨[(.ag [(.sl 0), (.v (.int .i64 a2)), (.v (.int .i64 a3)), (.v (.int .i64 a4)), (.v (.int .i64 a5)), (.v (.int .i64 a6)), (.sl 1), (.v (.int .i64 a8)), (.v (.int .i64 a9)), (.v (.int .i64 a10)), (.v (.int .i64 a11)), (.v (.int .i64 a12)), (.v (.int .i64 a13)), (.v (.int .i64 a14))]), (.sc (.sl 2)), (.sc (.sl 3))], [(.row false K.ki64 a1), (.row false K.k_laws_Event a7), (.row false K.k_laws_Act a15), (.row false K.ki64 a16)]⟩ => (laws_FnExactIsReplay k (⟨(⟨a1⟩ : Stock), (⟨a2, a3, a4⟩ : Dough), (⟨a5, a6⟩ : Loaf), (⟨a7, (⟨a8, a9, a10⟩ : Rack), a11, a12, a13⟩ : Book), a14⟩ : Bakery) a15 a16).bind fun y => Q ⟨(.a (.sc (.v (.bool y)))), [.dead, .dead, .dead, .dead]⟩
 | _ => none
theorem laws_FnExactIsReplay_ok (k : Nat) : OkE Tryz.prog 4 (laws_FnExactIsReplay_x k) := by
 intro A R Q x h
 unfold laws_FnExactIsReplay_x at h
 split at h
 · obtain ⟨y, hy, hK⟩ := Option.bind_eq_some_iff.1 h
   obtain ⟨r, hr, hd⟩ := callF_ok envOk (laws_FnExactIsReplay_Ok k) follows Tryz.func4 (by kernel_rfl) ((laws_FnExactIsReplay_e k _ _ _).trans hy)
   exact ⟨_, laws_FnExactIsReplay_i hd ▸ hr.fin [], hK⟩
 · cases h
/-! ### laws.markActS: function 23 -/
noncomputable def laws_markActS_s0 (k : Nat)  (J : Int → Int → (List Deed) → Option (Int × (List Deed))) (x0_0 : Int) (x0_1 : Int) (x0_2 : (List Deed)) : Option (Int × (List Deed)) :=
 cond (decide ((x0_1 : Int) < ((x0_2).length : Int)))
 (if 0 ≤ (x0_1 : Int) ∧ (x0_1 : Int) < ((x0_2).length : Int) then
  if 0 ≤ (x0_1 : Int) ∧ (x0_1 : Int) < (((x0_2.set (Int.toNat x0_1) (⟨x0_0, (x0_2.getD (Int.toNat x0_1) dk_impl_Act).A, (x0_2.getD (Int.toNat x0_1) dk_impl_Act).B⟩ : Deed))).length : Int) then
   if 0 ≤ (x0_1 : Int) ∧ (x0_1 : Int) < ((((x0_2.set (Int.toNat x0_1) (⟨x0_0, (x0_2.getD (Int.toNat x0_1) dk_impl_Act).A, (x0_2.getD (Int.toNat x0_1) dk_impl_Act).B⟩ : Deed)).set (Int.toNat x0_1) (⟨((x0_2.set (Int.toNat x0_1) (⟨x0_0, (x0_2.getD (Int.toNat x0_1) dk_impl_Act).A, (x0_2.getD (Int.toNat x0_1) dk_impl_Act).B⟩ : Deed)).getD (Int.toNat x0_1) dk_impl_Act).Kind, (wr (x0_0 + 1)), ((x0_2.set (Int.toNat x0_1) (⟨x0_0, (x0_2.getD (Int.toNat x0_1) dk_impl_Act).A, (x0_2.getD (Int.toNat x0_1) dk_impl_Act).B⟩ : Deed)).getD (Int.toNat x0_1) dk_impl_Act).B⟩ : Deed))).length : Int) then
    J (wr ((wr ((wr (x0_0 + 1)) + 1)) + 1)) (wr (x0_1 + 1)) (((x0_2.set (Int.toNat x0_1) (⟨x0_0, (x0_2.getD (Int.toNat x0_1) dk_impl_Act).A, (x0_2.getD (Int.toNat x0_1) dk_impl_Act).B⟩ : Deed)).set (Int.toNat x0_1) (⟨((x0_2.set (Int.toNat x0_1) (⟨x0_0, (x0_2.getD (Int.toNat x0_1) dk_impl_Act).A, (x0_2.getD (Int.toNat x0_1) dk_impl_Act).B⟩ : Deed)).getD (Int.toNat x0_1) dk_impl_Act).Kind, (wr (x0_0 + 1)), ((x0_2.set (Int.toNat x0_1) (⟨x0_0, (x0_2.getD (Int.toNat x0_1) dk_impl_Act).A, (x0_2.getD (Int.toNat x0_1) dk_impl_Act).B⟩ : Deed)).getD (Int.toNat x0_1) dk_impl_Act).B⟩ : Deed)).set (Int.toNat x0_1) (⟨(((x0_2.set (Int.toNat x0_1) (⟨x0_0, (x0_2.getD (Int.toNat x0_1) dk_impl_Act).A, (x0_2.getD (Int.toNat x0_1) dk_impl_Act).B⟩ : Deed)).set (Int.toNat x0_1) (⟨((x0_2.set (Int.toNat x0_1) (⟨x0_0, (x0_2.getD (Int.toNat x0_1) dk_impl_Act).A, (x0_2.getD (Int.toNat x0_1) dk_impl_Act).B⟩ : Deed)).getD (Int.toNat x0_1) dk_impl_Act).Kind, (wr (x0_0 + 1)), ((x0_2.set (Int.toNat x0_1) (⟨x0_0, (x0_2.getD (Int.toNat x0_1) dk_impl_Act).A, (x0_2.getD (Int.toNat x0_1) dk_impl_Act).B⟩ : Deed)).getD (Int.toNat x0_1) dk_impl_Act).B⟩ : Deed)).getD (Int.toNat x0_1) dk_impl_Act).Kind, (((x0_2.set (Int.toNat x0_1) (⟨x0_0, (x0_2.getD (Int.toNat x0_1) dk_impl_Act).A, (x0_2.getD (Int.toNat x0_1) dk_impl_Act).B⟩ : Deed)).set (Int.toNat x0_1) (⟨((x0_2.set (Int.toNat x0_1) (⟨x0_0, (x0_2.getD (Int.toNat x0_1) dk_impl_Act).A, (x0_2.getD (Int.toNat x0_1) dk_impl_Act).B⟩ : Deed)).getD (Int.toNat x0_1) dk_impl_Act).Kind, (wr (x0_0 + 1)), ((x0_2.set (Int.toNat x0_1) (⟨x0_0, (x0_2.getD (Int.toNat x0_1) dk_impl_Act).A, (x0_2.getD (Int.toNat x0_1) dk_impl_Act).B⟩ : Deed)).getD (Int.toNat x0_1) dk_impl_Act).B⟩ : Deed)).getD (Int.toNat x0_1) dk_impl_Act).A, (wr ((wr (x0_0 + 1)) + 1))⟩ : Deed)) else none else none else none)
 (some (x0_0, x0_2))
noncomputable def laws_markActS_l0 (k : Nat) : Nat → Int → Int → (List Deed) → Option (Int × (List Deed))
 | 0, x0_0, x0_1, x0_2 => laws_markActS_s0 k (fun _ _ _ => none) x0_0 x0_1 x0_2
 | m + 1, x0_0, x0_1, x0_2 => laws_markActS_s0 k (laws_markActS_l0 k m) x0_0 x0_1 x0_2
noncomputable def laws_markActS_m (k : Nat) (J0 : Int → Int → (List Deed) → Option (Int × (List Deed))) (a : (List Deed)) (k_ : Int) : Option (Int × (List Deed)) :=
 J0 k_ 0 a
noncomputable def laws_markActS (k : Nat) (a : (List Deed)) (k_ : Int) : Option (Int × (List Deed)) := laws_markActS_m k (laws_markActS_l0 k k) a k_
noncomputable def laws_markActS_v : Nat → List Nat := fun t => match t with | 2 => [0, 1, 4, 5] | _ => []
noncomputable def laws_markActS_O (k : Nat) : Oracle := ofL []
theorem laws_markActS_Ok (k : Nat) : OkO (Ct Tryz.prog) (laws_markActS_O k) := okO_nil
noncomputable def laws_markActS_A (a : (List Deed)) (k_ : Int) : Pk := ⟨[(.sc (.sl 0)), (.sc (.v (.int .i64 k_)))], [(.row true K.k_impl_Act a)]⟩
noncomputable def laws_markActS_d : Rs → Option (Int × (List Deed))
 | ⟨(.a (.sc (.v (.int .i64 r1)))), [(.row true K.k_impl_Act r2)]⟩ => some (r1, r2)
 | _ => none
theorem laws_markActS_i {r : Rs} {y : Int × (List Deed)} (h : laws_markActS_d r = some y) : r = ⟨(.a (.sc (.v (.int .i64 y.1)))), [(.row true K.k_impl_Act y.2)]⟩ := by
 unfold laws_markActS_d at h; split at h
 · cases h; rfl
 · cases h
noncomputable def laws_markActS_h0 (k m : Nat) (x0_0 : Int) (x0_1 : Int) (x0_2 : (List Deed)) : Option (Int × (List Deed)) := hdAt env (laws_markActS_O k) laws_markActS_v Tryz.f23 1 (fun r => laws_markActS_d (r.fin 1 [])) [1, 0, 1, 0] k m ⟨tmF [0, 1, 4, 5] [(.a (.sc (.sl 0))), (.a (.sc (.v (.int .i64 x0_0)))), (.a (.sc (.v (.int .i64 0)))), (.a (.sc (.v (.int .i64 x0_1))))], blF [(.row true K.k_impl_Act x0_2)]⟩
theorem laws_markActS_z0 (k : Nat) (x0_0 : Int) (x0_1 : Int) (x0_2 : (List Deed)) : laws_markActS_h0 k 0 x0_0 x0_1 x0_2 = laws_markActS_s0 k (fun _ _ _ => none) x0_0 x0_1 x0_2 := by kernel_rfl
theorem laws_markActS_g0 (k : Nat) (H : St → Option (Int × (List Deed))) (x0_0 : Int) (x0_1 : Int) (x0_2 : (List Deed)) : rnd env (laws_markActS_O k) laws_markActS_v Tryz.f23 1 (fun r => laws_markActS_d (r.fin 1 [])) [1, 0, 1, 0] k H ⟨tmF [0, 1, 4, 5] [(.a (.sc (.sl 0))), (.a (.sc (.v (.int .i64 x0_0)))), (.a (.sc (.v (.int .i64 0)))), (.a (.sc (.v (.int .i64 x0_1))))], blF [(.row true K.k_impl_Act x0_2)]⟩ = laws_markActS_s0 k (fun x0_0 x0_1 x0_2 => H ⟨tmF [0, 1, 4, 5] [(.a (.sc (.sl 0))), (.a (.sc (.v (.int .i64 x0_0)))), (.a (.sc (.v (.int .i64 0)))), (.a (.sc (.v (.int .i64 x0_1))))], blF [(.row true K.k_impl_Act x0_2)]⟩) x0_0 x0_1 x0_2 := by kernel_rfl
theorem laws_markActS_n0 (k m : Nat) (x0_0 : Int) (x0_1 : Int) (x0_2 : (List Deed)) : laws_markActS_h0 k (m + 1) x0_0 x0_1 x0_2 = laws_markActS_s0 k (laws_markActS_h0 k m) x0_0 x0_1 x0_2 := (hdAt_succ _ _ _ _ _ _ _ _ _ _).trans (laws_markActS_g0 k _ x0_0 x0_1 x0_2)
theorem laws_markActS_q0 (k : Nat) : ∀ m, laws_markActS_h0 k m = laws_markActS_l0 k m := by
 intro m
 induction m with
 | zero => funext x0_0 x0_1 x0_2; rw [laws_markActS_z0]; rfl
 | succ m ih => funext x0_0 x0_1 x0_2; rw [laws_markActS_n0, ih]; rfl
theorem laws_markActS_e (k : Nat) (a : (List Deed)) (k_ : Int) : callF env (laws_markActS_O k) laws_markActS_v Tryz.f23 (k + 1) (laws_markActS_A a k_) (fun r => laws_markActS_d (r.fin 1 [])) = laws_markActS k a k_ := by
 have e : callF env (laws_markActS_O k) laws_markActS_v Tryz.f23 (k + 1) (laws_markActS_A a k_) (fun r => laws_markActS_d (r.fin 1 [])) = laws_markActS_m k (laws_markActS_h0 k k) a k_ := by kernel_rfl
 rw [e, laws_markActS_q0]; rfl
noncomputable def laws_markActS_x (k : Nat) : Ent1 := fun A R Q => match A with
 | ⟨[(.sc (.sl 0)), (.sc (.v (.int .i64 a2)))], [(.row true K.k_impl_Act a1)]⟩ => (laws_markActS k a1 a2).bind fun y => Q ⟨(.a (.sc (.v (.int .i64 y.1)))), [(.row true K.k_impl_Act y.2)]⟩
 | _ => none
theorem laws_markActS_ok (k : Nat) : OkE Tryz.prog 23 (laws_markActS_x k) := by
 intro A R Q x h
 unfold laws_markActS_x at h
 split at h
 · obtain ⟨y, hy, hK⟩ := Option.bind_eq_some_iff.1 h
   obtain ⟨r, hr, hd⟩ := callF_ok envOk (laws_markActS_Ok k) follows Tryz.func23 (by kernel_rfl) ((laws_markActS_e k _ _).trans hy)
   exact ⟨_, laws_markActS_i hd ▸ hr.fin [], hK⟩
 · cases h
/-! ### laws.FnExactRunActs: function 5 -/
noncomputable def laws_FnExactRunActs (k : Nat)  (aB : Bakery) (aActs : (List Deed)) : Option (Bool) :=
 (laws_szBakery k aB 1048576).bind fun y1 =>
 cond (decide ((y1 : Int) < 0))
  (some true)
  ((laws_szActS k aActs y1).bind fun y2 =>
   cond (decide ((y2 : Int) < 0))
    (some true)
    ((laws_toBakery k aB).bind fun y3 =>
     (laws_toActS k aActs).bind fun y4 =>
      (spec_RunActs k y3 y4).bind fun y5 =>
       (laws_toBakery k aB).bind fun y6 =>
        (laws_toActS k aActs).bind fun y7 =>
        (impl_RunActs k y6 y7).bind fun y8 =>
        (laws_eqBakery k y8.1 y5.1).bind fun y9 =>
        cond (!y9)
        (some false)
        ((laws_eqIntS k y8.2 y5.2).bind fun y10 =>
        cond (!y10)
        (some false)
        ((laws_toBakery k aB).bind fun y11 =>
        (laws_eqBakery k y6 y11).bind fun y12 =>
        cond (!y12)
        (some false)
        ((laws_toActS k aActs).bind fun y13 =>
        (laws_eqActS k y7 y13).bind fun y14 =>
        cond (!y14)
        (some false)
        ((laws_markBakery k y6 1).bind fun y15 =>
        (laws_markActS k y7 y15.1).bind fun y16 =>
        cond (decide ((y16.1 : Int) < 0))
        (some false)
        ((laws_eqBakery k y8.1 y5.1).bind fun y17 =>
        cond (!y17)
        (some false)
        ((laws_eqIntS k y8.2 y5.2).bind fun y18 =>
        cond (!y18)
        (some false)
        ((laws_markBakery k y8.1 1).bind fun y19 =>
        (laws_markIntS k y8.2 y19.1).bind fun y20 =>
        (laws_heldBakery k (⟨(⟨y19.2.1⟩ : Stock), y8.1.Dough, y8.1.Loaf, (⟨y19.2.2, y8.1.Book.Rack, y8.1.Book.Baked, y8.1.Book.Sold, y8.1.Book.Thrown⟩ : Book), y8.1.Money⟩ : Bakery) 1).bind fun y21 =>
        cond (decide ((y21 : Int) < 0))
        (some false)
        ((laws_heldIntS k y20.2 y21).bind fun y22 =>
        cond (decide ((y22 : Int) < 0))
        (some false)
        (cond (!(decide ((y22 : Int) = y20.1)))
        (some false)
        ((laws_toBakery k aB).bind fun y23 =>
        (laws_toActS k aActs).bind fun y24 =>
        (impl_RunActs k y23 y24).bind fun y25 =>
        (laws_eqBakery k y25.1 y5.1).bind fun y26 =>
        cond (!y26)
        (some false)
        ((laws_eqIntS k y25.2 y5.2).bind fun y27 =>
        cond (!y27)
        (some false)
        ((laws_heldBakery k (⟨(⟨y19.2.1⟩ : Stock), y8.1.Dough, y8.1.Loaf, (⟨y19.2.2, y8.1.Book.Rack, y8.1.Book.Baked, y8.1.Book.Sold, y8.1.Book.Thrown⟩ : Book), y8.1.Money⟩ : Bakery) 1).bind fun y28 =>
        cond (decide ((y28 : Int) < 0))
        (some false)
        ((laws_heldIntS k y20.2 y28).bind fun y29 =>
        cond (decide ((y29 : Int) < 0))
        (some false)
        (cond (!(decide ((y29 : Int) = y20.1)))
        (some false)
        (some true)))))))))))))))))
noncomputable def laws_FnExactRunActs_v : Nat → List Nat := fun t => match t with | _ => []
noncomputable def laws_FnExactRunActs_O (k : Nat) : Oracle := ofL [(11, laws_eqBakery_x k), (12, laws_markBakery_x k), (13, laws_heldBakery_x k), (14, laws_szActS_x k), (16, laws_toActS_x k), (19, laws_eqActS_x k), (20, laws_eqIntS_x k), (21, spec_RunActs_x k), (22, impl_RunActs_x k), (23, laws_markActS_x k), (24, laws_markIntS_x k), (25, laws_heldIntS_x k), (6, laws_szBakery_x k), (8, laws_toBakery_x k)]
theorem laws_FnExactRunActs_Ok (k : Nat) : OkO (Ct Tryz.prog) (laws_FnExactRunActs_O k) := okO_cons (laws_eqBakery_ok k) (okO_cons (laws_markBakery_ok k) (okO_cons (laws_heldBakery_ok k) (okO_cons (laws_szActS_ok k) (okO_cons (laws_toActS_ok k) (okO_cons (laws_eqActS_ok k) (okO_cons (laws_eqIntS_ok k) (okO_cons (spec_RunActs_ok k) (okO_cons (impl_RunActs_ok k) (okO_cons (laws_markActS_ok k) (okO_cons (laws_markIntS_ok k) (okO_cons (laws_heldIntS_ok k) (okO_cons (laws_szBakery_ok k) (okO_cons (laws_toBakery_ok k) (okO_nil))))))))))))))
noncomputable def laws_FnExactRunActs_A (aB : Bakery) (aActs : (List Deed)) : Pk := ⟨[(.ag [(.sl 0), (.v (.int .i64 aB.Dough.Water)), (.v (.int .i64 aB.Dough.Salt)), (.v (.int .i64 aB.Dough.Leaven)), (.v (.int .i64 aB.Loaf.Weight)), (.v (.int .i64 aB.Loaf.Loss)), (.sl 1), (.v (.int .i64 aB.Book.Rack.Fresh)), (.v (.int .i64 aB.Book.Rack.Day)), (.v (.int .i64 aB.Book.Rack.Old)), (.v (.int .i64 aB.Book.Baked)), (.v (.int .i64 aB.Book.Sold)), (.v (.int .i64 aB.Book.Thrown)), (.v (.int .i64 aB.Money))]), (.sc (.sl 2))], [(.row false K.ki64 aB.Stock.Grams), (.row false K.k_laws_Event aB.Book.Events), (.row false K.k_laws_Act aActs)]⟩
noncomputable def laws_FnExactRunActs_d : Rs → Option (Bool)
 | ⟨(.a (.sc (.v (.bool r1)))), [.dead, .dead, .dead]⟩ => some r1
 | _ => none
theorem laws_FnExactRunActs_i {r : Rs} {y : Bool} (h : laws_FnExactRunActs_d r = some y) : r = ⟨(.a (.sc (.v (.bool y)))), [.dead, .dead, .dead]⟩ := by
 unfold laws_FnExactRunActs_d at h; split at h
 · cases h; rfl
 · cases h
theorem laws_FnExactRunActs_e (k : Nat) (aB : Bakery) (aActs : (List Deed)) : callF env (laws_FnExactRunActs_O k) laws_FnExactRunActs_v Tryz.f5 (k + 1) (laws_FnExactRunActs_A aB aActs) (fun r => laws_FnExactRunActs_d (r.fin 3 [])) = laws_FnExactRunActs k aB aActs := by kernel_rfl
noncomputable def laws_FnExactRunActs_x (k : Nat) : Ent1 := fun A R Q => match A with
 | ⟨[(.ag [(.sl 0), (.v (.int .i64 a2)), (.v (.int .i64 a3)), (.v (.int .i64 a4)), (.v (.int .i64 a5)), (.v (.int .i64 a6)), (.sl 1), (.v (.int .i64 a8)), (.v (.int .i64 a9)), (.v (.int .i64 a10)), (.v (.int .i64 a11)), (.v (.int .i64 a12)), (.v (.int .i64 a13)), (.v (.int .i64 a14))]), (.sc (.sl 2))], [(.row false K.ki64 a1), (.row false K.k_laws_Event a7), (.row false K.k_laws_Act a15)]⟩ => (laws_FnExactRunActs k (⟨(⟨a1⟩ : Stock), (⟨a2, a3, a4⟩ : Dough), (⟨a5, a6⟩ : Loaf), (⟨a7, (⟨a8, a9, a10⟩ : Rack), a11, a12, a13⟩ : Book), a14⟩ : Bakery) a15).bind fun y => Q ⟨(.a (.sc (.v (.bool y)))), [.dead, .dead, .dead]⟩
 | _ => none
theorem laws_FnExactRunActs_ok (k : Nat) : OkE Tryz.prog 5 (laws_FnExactRunActs_x k) := by
 intro A R Q x h
 unfold laws_FnExactRunActs_x at h
 split at h
 · obtain ⟨y, hy, hK⟩ := Option.bind_eq_some_iff.1 h
   obtain ⟨r, hr, hd⟩ := callF_ok envOk (laws_FnExactRunActs_Ok k) follows Tryz.func5 (by kernel_rfl) ((laws_FnExactRunActs_e k _ _).trans hy)
   exact ⟨_, laws_FnExactRunActs_i hd ▸ hr.fin [], hK⟩
 · cases h
end Go.Proofs.YtlhcphoojiemmaaGreatX
