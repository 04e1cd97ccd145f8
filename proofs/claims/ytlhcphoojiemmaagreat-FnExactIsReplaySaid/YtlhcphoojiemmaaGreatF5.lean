/- What functions of the program compute, as functions of numbers and lists, and that they do. (The file is written by wip/x/vxp.py of this repository.) -/
import Derived.Test.YtlhcphoojiemmaaGreatF4
namespace Go.Proofs.YtlhcphoojiemmaaGreatX
open Go Go.Proofs
set_option linter.unusedVariables false
set_option maxRecDepth 100000
/-! ### impl.BuyStock: function 47 -/
noncomputable def impl_BuyStock (k : Nat)  (b : Bakery) (k_ : Int) (grams : Int) : Option (Bakery × Bool) :=
 (impl_changed_89 k b k_ grams).bind fun y1 =>
 some (y1.1, y1.2)
noncomputable def impl_BuyStock_v : Nat → List Nat := fun t => match t with | _ => []
noncomputable def impl_BuyStock_O (k : Nat) : Oracle := ofL [(83, impl_changed_89_x k)]
theorem impl_BuyStock_Ok (k : Nat) : OkO (Ct Tryz.prog) (impl_BuyStock_O k) := okO_cons (impl_changed_89_ok k) (okO_nil)
noncomputable def impl_BuyStock_A (b : Bakery) (k_ : Int) (grams : Int) : Pk := ⟨[(.ag [(.sl 0), (.v (.int .i64 b.Dough.Water)), (.v (.int .i64 b.Dough.Salt)), (.v (.int .i64 b.Dough.Leaven)), (.v (.int .i64 b.Loaf.Weight)), (.v (.int .i64 b.Loaf.Loss)), (.sl 1), (.v (.int .i64 b.Book.Rack.Fresh)), (.v (.int .i64 b.Book.Rack.Day)), (.v (.int .i64 b.Book.Rack.Old)), (.v (.int .i64 b.Book.Baked)), (.v (.int .i64 b.Book.Sold)), (.v (.int .i64 b.Book.Thrown)), (.v (.int .i64 b.Money))]), (.sc (.v (.int .i64 k_))), (.sc (.v (.int .i64 grams)))], [(.row false K.ki64 b.Stock.Grams), (.row false K.k_impl_Event b.Book.Events)]⟩
noncomputable def impl_BuyStock_d : Rs → Option (Bakery × Bool)
 | ⟨(.tp [(.ag [(.sl 2), (.v (.int .i64 r2)), (.v (.int .i64 r3)), (.v (.int .i64 r4)), (.v (.int .i64 r5)), (.v (.int .i64 r6)), (.sl 3), (.v (.int .i64 r8)), (.v (.int .i64 r9)), (.v (.int .i64 r10)), (.v (.int .i64 r11)), (.v (.int .i64 r12)), (.v (.int .i64 r13)), (.v (.int .i64 r14))]), (.sc (.v (.bool r15)))]), [.dead, .dead, (.row true K.ki64 r1), (.row true K.k_impl_Event r7)]⟩ => some ((⟨(⟨r1⟩ : Stock), (⟨r2, r3, r4⟩ : Dough), (⟨r5, r6⟩ : Loaf), (⟨r7, (⟨r8, r9, r10⟩ : Rack), r11, r12, r13⟩ : Book), r14⟩ : Bakery), r15)
 | _ => none
theorem impl_BuyStock_i {r : Rs} {y : Bakery × Bool} (h : impl_BuyStock_d r = some y) : r = ⟨(.tp [(.ag [(.sl 2), (.v (.int .i64 y.1.Dough.Water)), (.v (.int .i64 y.1.Dough.Salt)), (.v (.int .i64 y.1.Dough.Leaven)), (.v (.int .i64 y.1.Loaf.Weight)), (.v (.int .i64 y.1.Loaf.Loss)), (.sl 3), (.v (.int .i64 y.1.Book.Rack.Fresh)), (.v (.int .i64 y.1.Book.Rack.Day)), (.v (.int .i64 y.1.Book.Rack.Old)), (.v (.int .i64 y.1.Book.Baked)), (.v (.int .i64 y.1.Book.Sold)), (.v (.int .i64 y.1.Book.Thrown)), (.v (.int .i64 y.1.Money))]), (.sc (.v (.bool y.2)))]), [.dead, .dead, (.row true K.ki64 y.1.Stock.Grams), (.row true K.k_impl_Event y.1.Book.Events)]⟩ := by
 unfold impl_BuyStock_d at h; split at h
 · cases h; rfl
 · cases h
theorem impl_BuyStock_e (k : Nat) (b : Bakery) (k_ : Int) (grams : Int) : callF env (impl_BuyStock_O k) impl_BuyStock_v Tryz.f47 (k + 1) (impl_BuyStock_A b k_ grams) (fun r => impl_BuyStock_d (r.fin 2 [])) = impl_BuyStock k b k_ grams := by kernel_rfl
noncomputable def impl_BuyStock_x (k : Nat) : Ent1 := fun A R Q => match A with
 | ⟨[(.ag [(.sl 0), (.v (.int .i64 a2)), (.v (.int .i64 a3)), (.v (.int .i64 a4)), (.v (.int .i64 a5)), (.v (.int .i64 a6)), (.sl 1), (.v (.int .i64 a8)), (.v (.int .i64 a9)), (.v (.int .i64 a10)), (.v (.int .i64 a11)), (.v (.int .i64 a12)), (.v (.int .i64 a13)), (.v (.int .i64 a14))]), (.sc (.v (.int .i64 a15))), (.sc (.v (.int .i64 a16)))], [(.row false K.ki64 a1), (.row false K.k_impl_Event a7)]⟩ => (impl_BuyStock k (⟨(⟨a1⟩ : Stock), (⟨a2, a3, a4⟩ : Dough), (⟨a5, a6⟩ : Loaf), (⟨a7, (⟨a8, a9, a10⟩ : Rack), a11, a12, a13⟩ : Book), a14⟩ : Bakery) a15 a16).bind fun y => Q ⟨(.tp [(.ag [(.sl 2), (.v (.int .i64 y.1.Dough.Water)), (.v (.int .i64 y.1.Dough.Salt)), (.v (.int .i64 y.1.Dough.Leaven)), (.v (.int .i64 y.1.Loaf.Weight)), (.v (.int .i64 y.1.Loaf.Loss)), (.sl 3), (.v (.int .i64 y.1.Book.Rack.Fresh)), (.v (.int .i64 y.1.Book.Rack.Day)), (.v (.int .i64 y.1.Book.Rack.Old)), (.v (.int .i64 y.1.Book.Baked)), (.v (.int .i64 y.1.Book.Sold)), (.v (.int .i64 y.1.Book.Thrown)), (.v (.int .i64 y.1.Money))]), (.sc (.v (.bool y.2)))]), [.dead, .dead, (.row true K.ki64 y.1.Stock.Grams), (.row true K.k_impl_Event y.1.Book.Events)]⟩
 | _ => none
theorem impl_BuyStock_ok (k : Nat) : OkE Tryz.prog 47 (impl_BuyStock_x k) := by
 intro A R Q x h
 unfold impl_BuyStock_x at h
 split at h
 · obtain ⟨y, hy, hK⟩ := Option.bind_eq_some_iff.1 h
   obtain ⟨r, hr, hd⟩ := callF_ok envOk (impl_BuyStock_Ok k) follows Tryz.func47 (by kernel_rfl) ((impl_BuyStock_e k _ _ _).trans hy)
   exact ⟨_, impl_BuyStock_i hd ▸ hr.fin [], hK⟩
 · cases h
/-! ### impl.DoAct: function 10 -/
noncomputable def impl_DoAct (k : Nat)  (b : Bakery) (a : Deed) : Option (Bakery × Int) :=
 (impl_BakeryOk k b).bind fun y1 =>
 cond (!y1)
  ((impl_bakeryCopy k b).bind fun y3 =>
   some (y3, (-1)))
  ((impl_ActOk k a).bind fun y2 =>
   cond (!y2)
    ((impl_bakeryCopy k b).bind fun y4 =>
     some (y4, (-1)))
    (cond (decide ((a.Kind : Int) = 1))
     ((impl_BakeLoaves k b a.A).bind fun y5 =>
      cond y5.2
       (some (y5.1, 1))
       (some (y5.1, 0)))
     (cond (decide ((a.Kind : Int) = 2))
      ((impl_SellLoaves k b a.A false).bind fun y6 =>
       cond y6.2
        (some (y6.1, 1))
        (some (y6.1, 0)))
      (cond (decide ((a.Kind : Int) = 3))
       ((impl_SellLoaves k b a.A true).bind fun y7 =>
        cond y7.2
        (some (y7.1, 1))
        (some (y7.1, 0)))
       (cond (decide ((a.Kind : Int) = 4))
        ((impl_NightOver k b).bind fun y8 =>
        cond y8.2
        (some (y8.1, 1))
        (some (y8.1, 0)))
        (cond (decide ((a.Kind : Int) = 5))
        ((impl_BuyStock k b a.A a.B).bind fun y9 =>
        cond y9.2
        (some (y9.1, 1))
        (some (y9.1, 0)))
        ((impl_bakeryCopy k b).bind fun y10 =>
        (impl_FlourNeeded k b a.A).bind fun y11 =>
        some (y10, y11))))))))
noncomputable def impl_DoAct_v : Nat → List Nat := fun t => match t with | _ => []
noncomputable def impl_DoAct_O (k : Nat) : Oracle := ofL [(41, impl_BakeryOk_x k), (42, impl_ActOk_x k), (43, impl_bakeryCopy_x k), (44, impl_BakeLoaves_x k), (45, impl_SellLoaves_x k), (46, impl_NightOver_x k), (47, impl_BuyStock_x k), (48, impl_FlourNeeded_x k)]
theorem impl_DoAct_Ok (k : Nat) : OkO (Ct Tryz.prog) (impl_DoAct_O k) := okO_cons (impl_BakeryOk_ok k) (okO_cons (impl_ActOk_ok k) (okO_cons (impl_bakeryCopy_ok k) (okO_cons (impl_BakeLoaves_ok k) (okO_cons (impl_SellLoaves_ok k) (okO_cons (impl_NightOver_ok k) (okO_cons (impl_BuyStock_ok k) (okO_cons (impl_FlourNeeded_ok k) (okO_nil))))))))
noncomputable def impl_DoAct_A (b : Bakery) (a : Deed) : Pk := ⟨[(.ag [(.sl 0), (.v (.int .i64 b.Dough.Water)), (.v (.int .i64 b.Dough.Salt)), (.v (.int .i64 b.Dough.Leaven)), (.v (.int .i64 b.Loaf.Weight)), (.v (.int .i64 b.Loaf.Loss)), (.sl 1), (.v (.int .i64 b.Book.Rack.Fresh)), (.v (.int .i64 b.Book.Rack.Day)), (.v (.int .i64 b.Book.Rack.Old)), (.v (.int .i64 b.Book.Baked)), (.v (.int .i64 b.Book.Sold)), (.v (.int .i64 b.Book.Thrown)), (.v (.int .i64 b.Money))]), (.ag [(.v (.int .i64 a.Kind)), (.v (.int .i64 a.A)), (.v (.int .i64 a.B))])], [(.row false K.ki64 b.Stock.Grams), (.row false K.k_impl_Event b.Book.Events)]⟩
noncomputable def impl_DoAct_d : Rs → Option (Bakery × Int)
 | ⟨(.tp [(.ag [(.sl 2), (.v (.int .i64 r2)), (.v (.int .i64 r3)), (.v (.int .i64 r4)), (.v (.int .i64 r5)), (.v (.int .i64 r6)), (.sl 3), (.v (.int .i64 r8)), (.v (.int .i64 r9)), (.v (.int .i64 r10)), (.v (.int .i64 r11)), (.v (.int .i64 r12)), (.v (.int .i64 r13)), (.v (.int .i64 r14))]), (.sc (.v (.int .i64 r15)))]), [.dead, .dead, (.row true K.ki64 r1), (.row true K.k_impl_Event r7)]⟩ => some ((⟨(⟨r1⟩ : Stock), (⟨r2, r3, r4⟩ : Dough), (⟨r5, r6⟩ : Loaf), (⟨r7, (⟨r8, r9, r10⟩ : Rack), r11, r12, r13⟩ : Book), r14⟩ : Bakery), r15)
 | _ => none
theorem impl_DoAct_i {r : Rs} {y : Bakery × Int} (h : impl_DoAct_d r = some y) : r = ⟨(.tp [(.ag [(.sl 2), (.v (.int .i64 y.1.Dough.Water)), (.v (.int .i64 y.1.Dough.Salt)), (.v (.int .i64 y.1.Dough.Leaven)), (.v (.int .i64 y.1.Loaf.Weight)), (.v (.int .i64 y.1.Loaf.Loss)), (.sl 3), (.v (.int .i64 y.1.Book.Rack.Fresh)), (.v (.int .i64 y.1.Book.Rack.Day)), (.v (.int .i64 y.1.Book.Rack.Old)), (.v (.int .i64 y.1.Book.Baked)), (.v (.int .i64 y.1.Book.Sold)), (.v (.int .i64 y.1.Book.Thrown)), (.v (.int .i64 y.1.Money))]), (.sc (.v (.int .i64 y.2)))]), [.dead, .dead, (.row true K.ki64 y.1.Stock.Grams), (.row true K.k_impl_Event y.1.Book.Events)]⟩ := by
 unfold impl_DoAct_d at h; split at h
 · cases h; rfl
 · cases h
theorem impl_DoAct_e (k : Nat) (b : Bakery) (a : Deed) : callF env (impl_DoAct_O k) impl_DoAct_v Tryz.f10 (k + 1) (impl_DoAct_A b a) (fun r => impl_DoAct_d (r.fin 2 [])) = impl_DoAct k b a := by kernel_rfl
noncomputable def impl_DoAct_x (k : Nat) : Ent1 := fun A R Q => match A with
 | ⟨[(.ag [(.sl 0), (.v (.int .i64 a2)), (.v (.int .i64 a3)), (.v (.int .i64 a4)), (.v (.int .i64 a5)), (.v (.int .i64 a6)), (.sl 1), (.v (.int .i64 a8)), (.v (.int .i64 a9)), (.v (.int .i64 a10)), (.v (.int .i64 a11)), (.v (.int .i64 a12)), (.v (.int .i64 a13)), (.v (.int .i64 a14))]), (.ag [(.v (.int .i64 a15)), (.v (.int .i64 a16)), (.v (.int .i64 a17))])], [(.row false K.ki64 a1), (.row false K.k_impl_Event a7)]⟩ => (impl_DoAct k (⟨(⟨a1⟩ : Stock), (⟨a2, a3, a4⟩ : Dough), (⟨a5, a6⟩ : Loaf), (⟨a7, (⟨a8, a9, a10⟩ : Rack), a11, a12, a13⟩ : Book), a14⟩ : Bakery) (⟨a15, a16, a17⟩ : Deed)).bind fun y => Q ⟨(.tp [(.ag [(.sl 2), (.v (.int .i64 y.1.Dough.Water)), (.v (.int .i64 y.1.Dough.Salt)), (.v (.int .i64 y.1.Dough.Leaven)), (.v (.int .i64 y.1.Loaf.Weight)), (.v (.int .i64 y.1.Loaf.Loss)), (.sl 3), (.v (.int .i64 y.1.Book.Rack.Fresh)), (.v (.int .i64 y.1.Book.Rack.Day)), (.v (.int .i64 y.1.Book.Rack.Old)), (.v (.int .i64 y.1.Book.Baked)), (.v (.int .i64 y.1.Book.Sold)), (.v (.int .i64 y.1.Book.Thrown)), (.v (.int .i64 y.1.Money))]), (.sc (.v (.int .i64 y.2)))]), [.dead, .dead, (.row true K.ki64 y.1.Stock.Grams), (.row true K.k_impl_Event y.1.Book.Events)]⟩
 | _ => none
theorem impl_DoAct_ok (k : Nat) : OkE Tryz.prog 10 (impl_DoAct_x k) := by
 intro A R Q x h
 unfold impl_DoAct_x at h
 split at h
 · obtain ⟨y, hy, hK⟩ := Option.bind_eq_some_iff.1 h
   obtain ⟨r, hr, hd⟩ := callF_ok envOk (impl_DoAct_Ok k) follows Tryz.func10 (by kernel_rfl) ((impl_DoAct_e k _ _).trans hy)
   exact ⟨_, impl_DoAct_i hd ▸ hr.fin [], hK⟩
 · cases h
/-! ### laws.eqIntS: function 20 -/
noncomputable def laws_eqIntS_s0 (k : Nat)  (a : (List Int)) (b : (List Int)) (J : Int → Option (Bool)) (x0_0 : Int) : Option (Bool) :=
 cond (decide ((x0_0 : Int) < ((a).length : Int)))
 (if 0 ≤ (x0_0 : Int) ∧ (x0_0 : Int) < ((a).length : Int) then
  if 0 ≤ (x0_0 : Int) ∧ (x0_0 : Int) < ((b).length : Int) then
   cond (!(decide (((a.getD (Int.toNat x0_0) 0) : Int) = (b.getD (Int.toNat x0_0) 0))))
    (some false)
    (J (wr (x0_0 + 1))) else none else none)
 (some true)
noncomputable def laws_eqIntS_l0 (k : Nat) : Nat → (List Int) → (List Int) → Int → Option (Bool)
 | 0, a, b, x0_0 => laws_eqIntS_s0 k a b (fun _ => none) x0_0
 | m + 1, a, b, x0_0 => laws_eqIntS_s0 k a b (laws_eqIntS_l0 k m a b) x0_0
noncomputable def laws_eqIntS_m (k : Nat) (J0 : (List Int) → (List Int) → Int → Option (Bool)) (a : (List Int)) (b : (List Int)) : Option (Bool) :=
 cond (!(decide ((((a).length : Int) : Int) = ((b).length : Int))))
 (some false)
 (J0 a b 0)
noncomputable def laws_eqIntS (k : Nat) (a : (List Int)) (b : (List Int)) : Option (Bool) := laws_eqIntS_m k (laws_eqIntS_l0 k k) a b
noncomputable def laws_eqIntS_v : Nat → List Nat := fun t => match t with | 4 => [0, 1, 4, 5] | _ => []
noncomputable def laws_eqIntS_O (k : Nat) : Oracle := ofL []
theorem laws_eqIntS_Ok (k : Nat) : OkO (Ct Tryz.prog) (laws_eqIntS_O k) := okO_nil
noncomputable def laws_eqIntS_A (a : (List Int)) (b : (List Int)) : Pk := ⟨[(.sc (.sl 0)), (.sc (.sl 1))], [(.row false K.ki64 a), (.row false K.ki64 b)]⟩
noncomputable def laws_eqIntS_d : Rs → Option (Bool)
 | ⟨(.a (.sc (.v (.bool r1)))), [.dead, .dead]⟩ => some r1
 | _ => none
theorem laws_eqIntS_i {r : Rs} {y : Bool} (h : laws_eqIntS_d r = some y) : r = ⟨(.a (.sc (.v (.bool y)))), [.dead, .dead]⟩ := by
 unfold laws_eqIntS_d at h; split at h
 · cases h; rfl
 · cases h
noncomputable def laws_eqIntS_h0 (k m : Nat) (a : (List Int)) (b : (List Int)) (x0_0 : Int) : Option (Bool) := hdAt env (laws_eqIntS_O k) laws_eqIntS_v Tryz.f20 2 (fun r => laws_eqIntS_d (r.fin 2 [])) [1, 1, 0, 1, 0] k m ⟨tmF [0, 1, 4, 5] [(.a (.sc (.sl 0))), (.a (.sc (.sl 1))), (.a (.sc (.v (.bool false)))), (.a (.sc (.v (.int .i64 x0_0))))], blF [(.row false K.ki64 a), (.row false K.ki64 b)]⟩
theorem laws_eqIntS_z0 (k : Nat) (a : (List Int)) (b : (List Int)) (x0_0 : Int) : laws_eqIntS_h0 k 0 a b x0_0 = laws_eqIntS_s0 k a b (fun _ => none) x0_0 := by kernel_rfl
theorem laws_eqIntS_g0 (k : Nat) (H : St → Option (Bool)) (a : (List Int)) (b : (List Int)) (x0_0 : Int) : rnd env (laws_eqIntS_O k) laws_eqIntS_v Tryz.f20 2 (fun r => laws_eqIntS_d (r.fin 2 [])) [1, 1, 0, 1, 0] k H ⟨tmF [0, 1, 4, 5] [(.a (.sc (.sl 0))), (.a (.sc (.sl 1))), (.a (.sc (.v (.bool false)))), (.a (.sc (.v (.int .i64 x0_0))))], blF [(.row false K.ki64 a), (.row false K.ki64 b)]⟩ = laws_eqIntS_s0 k a b (fun x0_0 => H ⟨tmF [0, 1, 4, 5] [(.a (.sc (.sl 0))), (.a (.sc (.sl 1))), (.a (.sc (.v (.bool false)))), (.a (.sc (.v (.int .i64 x0_0))))], blF [(.row false K.ki64 a), (.row false K.ki64 b)]⟩) x0_0 := by kernel_rfl
theorem laws_eqIntS_n0 (k m : Nat) (a : (List Int)) (b : (List Int)) (x0_0 : Int) : laws_eqIntS_h0 k (m + 1) a b x0_0 = laws_eqIntS_s0 k a b (laws_eqIntS_h0 k m a b) x0_0 := (hdAt_succ _ _ _ _ _ _ _ _ _ _).trans (laws_eqIntS_g0 k _ a b x0_0)
theorem laws_eqIntS_q0 (k : Nat) : ∀ m, laws_eqIntS_h0 k m = laws_eqIntS_l0 k m := by
 intro m
 induction m with
 | zero => funext a b x0_0; rw [laws_eqIntS_z0]; rfl
 | succ m ih => funext a b x0_0; rw [laws_eqIntS_n0, ih]; rfl
theorem laws_eqIntS_e (k : Nat) (a : (List Int)) (b : (List Int)) : callF env (laws_eqIntS_O k) laws_eqIntS_v Tryz.f20 (k + 1) (laws_eqIntS_A a b) (fun r => laws_eqIntS_d (r.fin 2 [])) = laws_eqIntS k a b := by
 have e : callF env (laws_eqIntS_O k) laws_eqIntS_v Tryz.f20 (k + 1) (laws_eqIntS_A a b) (fun r => laws_eqIntS_d (r.fin 2 [])) = laws_eqIntS_m k (laws_eqIntS_h0 k k) a b := by kernel_rfl
 rw [e, laws_eqIntS_q0]; rfl
noncomputable def laws_eqIntS_x (k : Nat) : Ent1 := fun A R Q => match A with
 | ⟨[(.sc (.sl 0)), (.sc (.sl 1))], [(.row false K.ki64 a1), (.row false K.ki64 a2)]⟩ => (laws_eqIntS k a1 a2).bind fun y => Q ⟨(.a (.sc (.v (.bool y)))), [.dead, .dead]⟩
 | _ => none
theorem laws_eqIntS_ok (k : Nat) : OkE Tryz.prog 20 (laws_eqIntS_x k) := by
 intro A R Q x h
 unfold laws_eqIntS_x at h
 split at h
 · obtain ⟨y, hy, hK⟩ := Option.bind_eq_some_iff.1 h
   obtain ⟨r, hr, hd⟩ := callF_ok envOk (laws_eqIntS_Ok k) follows Tryz.func20 (by kernel_rfl) ((laws_eqIntS_e k _ _).trans hy)
   exact ⟨_, laws_eqIntS_i hd ▸ hr.fin [], hK⟩
 · cases h
/-! ### laws.eqStock: function 49 -/
noncomputable def laws_eqStock (k : Nat)  (a : Stock) (b : Stock) : Option (Bool) :=
 (laws_eqIntS k a.Grams b.Grams).bind fun y1 =>
 cond (!y1)
  (some false)
  (some true)
noncomputable def laws_eqStock_v : Nat → List Nat := fun t => match t with | _ => []
noncomputable def laws_eqStock_O (k : Nat) : Oracle := ofL [(20, laws_eqIntS_x k)]
theorem laws_eqStock_Ok (k : Nat) : OkO (Ct Tryz.prog) (laws_eqStock_O k) := okO_cons (laws_eqIntS_ok k) (okO_nil)
noncomputable def laws_eqStock_A (a : Stock) (b : Stock) : Pk := ⟨[(.ag [(.sl 0)]), (.ag [(.sl 1)])], [(.row false K.ki64 a.Grams), (.row false K.ki64 b.Grams)]⟩
noncomputable def laws_eqStock_d : Rs → Option (Bool)
 | ⟨(.a (.sc (.v (.bool r1)))), [.dead, .dead]⟩ => some r1
 | _ => none
theorem laws_eqStock_i {r : Rs} {y : Bool} (h : laws_eqStock_d r = some y) : r = ⟨(.a (.sc (.v (.bool y)))), [.dead, .dead]⟩ := by
 unfold laws_eqStock_d at h; split at h
 · cases h; rfl
 · cases h
theorem laws_eqStock_e (k : Nat) (a : Stock) (b : Stock) : callF env (laws_eqStock_O k) laws_eqStock_v Tryz.f49 (k + 1) (laws_eqStock_A a b) (fun r => laws_eqStock_d (r.fin 2 [])) = laws_eqStock k a b := by kernel_rfl
noncomputable def laws_eqStock_x (k : Nat) : Ent1 := fun A R Q => match A with
 | ⟨[(.ag [(.sl 0)]), (.ag [(.sl 1)])], [(.row false K.ki64 a1), (.row false K.ki64 a2)]⟩ => (laws_eqStock k (⟨a1⟩ : Stock) (⟨a2⟩ : Stock)).bind fun y => Q ⟨(.a (.sc (.v (.bool y)))), [.dead, .dead]⟩
 | _ => none
theorem laws_eqStock_ok (k : Nat) : OkE Tryz.prog 49 (laws_eqStock_x k) := by
 intro A R Q x h
 unfold laws_eqStock_x at h
 split at h
 · obtain ⟨y, hy, hK⟩ := Option.bind_eq_some_iff.1 h
   obtain ⟨r, hr, hd⟩ := callF_ok envOk (laws_eqStock_Ok k) follows Tryz.func49 (by kernel_rfl) ((laws_eqStock_e k _ _).trans hy)
   exact ⟨_, laws_eqStock_i hd ▸ hr.fin [], hK⟩
 · cases h
/-! ### laws.eqDough: function 50 -/
noncomputable def laws_eqDough (k : Nat)  (a : Dough) (b : Dough) : Option (Bool) :=
 cond (!(decide ((a.Water : Int) = b.Water)))
 (some false)
 (cond (!(decide ((a.Salt : Int) = b.Salt)))
  (some false)
  (cond (!(decide ((a.Leaven : Int) = b.Leaven)))
   (some false)
   (some true)))
noncomputable def laws_eqDough_v : Nat → List Nat := fun t => match t with | _ => []
noncomputable def laws_eqDough_O (k : Nat) : Oracle := ofL []
theorem laws_eqDough_Ok (k : Nat) : OkO (Ct Tryz.prog) (laws_eqDough_O k) := okO_nil
noncomputable def laws_eqDough_A (a : Dough) (b : Dough) : Pk := ⟨[(.ag [(.v (.int .i64 a.Water)), (.v (.int .i64 a.Salt)), (.v (.int .i64 a.Leaven))]), (.ag [(.v (.int .i64 b.Water)), (.v (.int .i64 b.Salt)), (.v (.int .i64 b.Leaven))])], []⟩
noncomputable def laws_eqDough_d : Rs → Option (Bool)
 | ⟨(.a (.sc (.v (.bool r1)))), []⟩ => some r1
 | _ => none
theorem laws_eqDough_i {r : Rs} {y : Bool} (h : laws_eqDough_d r = some y) : r = ⟨(.a (.sc (.v (.bool y)))), []⟩ := by
 unfold laws_eqDough_d at h; split at h
 · cases h; rfl
 · cases h
theorem laws_eqDough_e (k : Nat) (a : Dough) (b : Dough) : callF env (laws_eqDough_O k) laws_eqDough_v Tryz.f50 (k + 1) (laws_eqDough_A a b) (fun r => laws_eqDough_d (r.fin 0 [])) = laws_eqDough k a b := by kernel_rfl
noncomputable def laws_eqDough_x (k : Nat) : Ent1 := fun A R Q => match A with
 | ⟨[(.ag [(.v (.int .i64 a1)), (.v (.int .i64 a2)), (.v (.int .i64 a3))]), (.ag [(.v (.int .i64 a4)), (.v (.int .i64 a5)), (.v (.int .i64 a6))])], []⟩ => (laws_eqDough k (⟨a1, a2, a3⟩ : Dough) (⟨a4, a5, a6⟩ : Dough)).bind fun y => Q ⟨(.a (.sc (.v (.bool y)))), []⟩
 | _ => none
theorem laws_eqDough_ok (k : Nat) : OkE Tryz.prog 50 (laws_eqDough_x k) := by
 intro A R Q x h
 unfold laws_eqDough_x at h
 split at h
 · obtain ⟨y, hy, hK⟩ := Option.bind_eq_some_iff.1 h
   obtain ⟨r, hr, hd⟩ := callF_ok envOk (laws_eqDough_Ok k) follows Tryz.func50 (by kernel_rfl) ((laws_eqDough_e k _ _).trans hy)
   exact ⟨_, laws_eqDough_i hd ▸ hr.fin [], hK⟩
 · cases h
/-! ### laws.eqLoaf: function 51 -/
noncomputable def laws_eqLoaf (k : Nat)  (a : Loaf) (b : Loaf) : Option (Bool) :=
 cond (!(decide ((a.Weight : Int) = b.Weight)))
 (some false)
 (cond (!(decide ((a.Loss : Int) = b.Loss)))
  (some false)
  (some true))
noncomputable def laws_eqLoaf_v : Nat → List Nat := fun t => match t with | _ => []
noncomputable def laws_eqLoaf_O (k : Nat) : Oracle := ofL []
theorem laws_eqLoaf_Ok (k : Nat) : OkO (Ct Tryz.prog) (laws_eqLoaf_O k) := okO_nil
noncomputable def laws_eqLoaf_A (a : Loaf) (b : Loaf) : Pk := ⟨[(.ag [(.v (.int .i64 a.Weight)), (.v (.int .i64 a.Loss))]), (.ag [(.v (.int .i64 b.Weight)), (.v (.int .i64 b.Loss))])], []⟩
noncomputable def laws_eqLoaf_d : Rs → Option (Bool)
 | ⟨(.a (.sc (.v (.bool r1)))), []⟩ => some r1
 | _ => none
theorem laws_eqLoaf_i {r : Rs} {y : Bool} (h : laws_eqLoaf_d r = some y) : r = ⟨(.a (.sc (.v (.bool y)))), []⟩ := by
 unfold laws_eqLoaf_d at h; split at h
 · cases h; rfl
 · cases h
theorem laws_eqLoaf_e (k : Nat) (a : Loaf) (b : Loaf) : callF env (laws_eqLoaf_O k) laws_eqLoaf_v Tryz.f51 (k + 1) (laws_eqLoaf_A a b) (fun r => laws_eqLoaf_d (r.fin 0 [])) = laws_eqLoaf k a b := by kernel_rfl
noncomputable def laws_eqLoaf_x (k : Nat) : Ent1 := fun A R Q => match A with
 | ⟨[(.ag [(.v (.int .i64 a1)), (.v (.int .i64 a2))]), (.ag [(.v (.int .i64 a3)), (.v (.int .i64 a4))])], []⟩ => (laws_eqLoaf k (⟨a1, a2⟩ : Loaf) (⟨a3, a4⟩ : Loaf)).bind fun y => Q ⟨(.a (.sc (.v (.bool y)))), []⟩
 | _ => none
theorem laws_eqLoaf_ok (k : Nat) : OkE Tryz.prog 51 (laws_eqLoaf_x k) := by
 intro A R Q x h
 unfold laws_eqLoaf_x at h
 split at h
 · obtain ⟨y, hy, hK⟩ := Option.bind_eq_some_iff.1 h
   obtain ⟨r, hr, hd⟩ := callF_ok envOk (laws_eqLoaf_Ok k) follows Tryz.func51 (by kernel_rfl) ((laws_eqLoaf_e k _ _).trans hy)
   exact ⟨_, laws_eqLoaf_i hd ▸ hr.fin [], hK⟩
 · cases h
/-! ### laws.eqEvent: function 112 -/
noncomputable def laws_eqEvent (k : Nat)  (a : Event) (b : Event) : Option (Bool) :=
 cond (!(decide ((a.Kind : Int) = b.Kind)))
 (some false)
 (cond (!(decide ((a.Loaves : Int) = b.Loaves)))
  (some false)
  (some true))
noncomputable def laws_eqEvent_v : Nat → List Nat := fun t => match t with | _ => []
noncomputable def laws_eqEvent_O (k : Nat) : Oracle := ofL []
theorem laws_eqEvent_Ok (k : Nat) : OkO (Ct Tryz.prog) (laws_eqEvent_O k) := okO_nil
noncomputable def laws_eqEvent_A (a : Event) (b : Event) : Pk := ⟨[(.ag [(.v (.int .i64 a.Kind)), (.v (.int .i64 a.Loaves))]), (.ag [(.v (.int .i64 b.Kind)), (.v (.int .i64 b.Loaves))])], []⟩
noncomputable def laws_eqEvent_d : Rs → Option (Bool)
 | ⟨(.a (.sc (.v (.bool r1)))), []⟩ => some r1
 | _ => none
theorem laws_eqEvent_i {r : Rs} {y : Bool} (h : laws_eqEvent_d r = some y) : r = ⟨(.a (.sc (.v (.bool y)))), []⟩ := by
 unfold laws_eqEvent_d at h; split at h
 · cases h; rfl
 · cases h
theorem laws_eqEvent_e (k : Nat) (a : Event) (b : Event) : callF env (laws_eqEvent_O k) laws_eqEvent_v Tryz.f112 (k + 1) (laws_eqEvent_A a b) (fun r => laws_eqEvent_d (r.fin 0 [])) = laws_eqEvent k a b := by kernel_rfl
noncomputable def laws_eqEvent_x (k : Nat) : Ent1 := fun A R Q => match A with
 | ⟨[(.ag [(.v (.int .i64 a1)), (.v (.int .i64 a2))]), (.ag [(.v (.int .i64 a3)), (.v (.int .i64 a4))])], []⟩ => (laws_eqEvent k (⟨a1, a2⟩ : Event) (⟨a3, a4⟩ : Event)).bind fun y => Q ⟨(.a (.sc (.v (.bool y)))), []⟩
 | _ => none
theorem laws_eqEvent_ok (k : Nat) : OkE Tryz.prog 112 (laws_eqEvent_x k) := by
 intro A R Q x h
 unfold laws_eqEvent_x at h
 split at h
 · obtain ⟨y, hy, hK⟩ := Option.bind_eq_some_iff.1 h
   obtain ⟨r, hr, hd⟩ := callF_ok envOk (laws_eqEvent_Ok k) follows Tryz.func112 (by kernel_rfl) ((laws_eqEvent_e k _ _).trans hy)
   exact ⟨_, laws_eqEvent_i hd ▸ hr.fin [], hK⟩
 · cases h
/-! ### laws.eqEventS: function 94 -/
noncomputable def laws_eqEventS_s0 (k : Nat)  (a : (List Event)) (b : (List Event)) (J : Int → Option (Bool)) (x0_0 : Int) : Option (Bool) :=
 cond (decide ((x0_0 : Int) < ((a).length : Int)))
 (if 0 ≤ (x0_0 : Int) ∧ (x0_0 : Int) < ((a).length : Int) then
  if 0 ≤ (x0_0 : Int) ∧ (x0_0 : Int) < ((b).length : Int) then
   (laws_eqEvent k (a.getD (Int.toNat x0_0) dk_impl_Event) (b.getD (Int.toNat x0_0) dk_impl_Event)).bind fun y2 =>
    cond (!y2)
     (some false)
     (J (wr (x0_0 + 1))) else none else none)
 (some true)
noncomputable def laws_eqEventS_l0 (k : Nat) : Nat → (List Event) → (List Event) → Int → Option (Bool)
 | 0, a, b, x0_0 => laws_eqEventS_s0 k a b (fun _ => none) x0_0
 | m + 1, a, b, x0_0 => laws_eqEventS_s0 k a b (laws_eqEventS_l0 k m a b) x0_0
noncomputable def laws_eqEventS_m (k : Nat) (J0 : (List Event) → (List Event) → Int → Option (Bool)) (a : (List Event)) (b : (List Event)) : Option (Bool) :=
 cond (!(decide ((((a).length : Int) : Int) = ((b).length : Int))))
 (some false)
 (J0 a b 0)
noncomputable def laws_eqEventS (k : Nat) (a : (List Event)) (b : (List Event)) : Option (Bool) := laws_eqEventS_m k (laws_eqEventS_l0 k k) a b
noncomputable def laws_eqEventS_v : Nat → List Nat := fun t => match t with | 4 => [0, 1, 4, 5] | _ => []
noncomputable def laws_eqEventS_O (k : Nat) : Oracle := ofL [(112, laws_eqEvent_x k)]
theorem laws_eqEventS_Ok (k : Nat) : OkO (Ct Tryz.prog) (laws_eqEventS_O k) := okO_cons (laws_eqEvent_ok k) (okO_nil)
noncomputable def laws_eqEventS_A (a : (List Event)) (b : (List Event)) : Pk := ⟨[(.sc (.sl 0)), (.sc (.sl 1))], [(.row false K.k_impl_Event a), (.row false K.k_impl_Event b)]⟩
noncomputable def laws_eqEventS_d : Rs → Option (Bool)
 | ⟨(.a (.sc (.v (.bool r1)))), [.dead, .dead]⟩ => some r1
 | _ => none
theorem laws_eqEventS_i {r : Rs} {y : Bool} (h : laws_eqEventS_d r = some y) : r = ⟨(.a (.sc (.v (.bool y)))), [.dead, .dead]⟩ := by
 unfold laws_eqEventS_d at h; split at h
 · cases h; rfl
 · cases h
noncomputable def laws_eqEventS_h0 (k m : Nat) (a : (List Event)) (b : (List Event)) (x0_0 : Int) : Option (Bool) := hdAt env (laws_eqEventS_O k) laws_eqEventS_v Tryz.f94 2 (fun r => laws_eqEventS_d (r.fin 2 [])) [1, 1, 0, 1, 0] k m ⟨tmF [0, 1, 4, 5] [(.a (.sc (.sl 0))), (.a (.sc (.sl 1))), (.a (.sc (.v (.bool false)))), (.a (.sc (.v (.int .i64 x0_0))))], blF [(.row false K.k_impl_Event a), (.row false K.k_impl_Event b)]⟩
theorem laws_eqEventS_z0 (k : Nat) (a : (List Event)) (b : (List Event)) (x0_0 : Int) : laws_eqEventS_h0 k 0 a b x0_0 = laws_eqEventS_s0 k a b (fun _ => none) x0_0 := by kernel_rfl
theorem laws_eqEventS_g0 (k : Nat) (H : St → Option (Bool)) (a : (List Event)) (b : (List Event)) (x0_0 : Int) : rnd env (laws_eqEventS_O k) laws_eqEventS_v Tryz.f94 2 (fun r => laws_eqEventS_d (r.fin 2 [])) [1, 1, 0, 1, 0] k H ⟨tmF [0, 1, 4, 5] [(.a (.sc (.sl 0))), (.a (.sc (.sl 1))), (.a (.sc (.v (.bool false)))), (.a (.sc (.v (.int .i64 x0_0))))], blF [(.row false K.k_impl_Event a), (.row false K.k_impl_Event b)]⟩ = laws_eqEventS_s0 k a b (fun x0_0 => H ⟨tmF [0, 1, 4, 5] [(.a (.sc (.sl 0))), (.a (.sc (.sl 1))), (.a (.sc (.v (.bool false)))), (.a (.sc (.v (.int .i64 x0_0))))], blF [(.row false K.k_impl_Event a), (.row false K.k_impl_Event b)]⟩) x0_0 := by kernel_rfl
theorem laws_eqEventS_n0 (k m : Nat) (a : (List Event)) (b : (List Event)) (x0_0 : Int) : laws_eqEventS_h0 k (m + 1) a b x0_0 = laws_eqEventS_s0 k a b (laws_eqEventS_h0 k m a b) x0_0 := (hdAt_succ _ _ _ _ _ _ _ _ _ _).trans (laws_eqEventS_g0 k _ a b x0_0)
theorem laws_eqEventS_q0 (k : Nat) : ∀ m, laws_eqEventS_h0 k m = laws_eqEventS_l0 k m := by
 intro m
 induction m with
 | zero => funext a b x0_0; rw [laws_eqEventS_z0]; rfl
 | succ m ih => funext a b x0_0; rw [laws_eqEventS_n0, ih]; rfl
theorem laws_eqEventS_e (k : Nat) (a : (List Event)) (b : (List Event)) : callF env (laws_eqEventS_O k) laws_eqEventS_v Tryz.f94 (k + 1) (laws_eqEventS_A a b) (fun r => laws_eqEventS_d (r.fin 2 [])) = laws_eqEventS k a b := by
 have e : callF env (laws_eqEventS_O k) laws_eqEventS_v Tryz.f94 (k + 1) (laws_eqEventS_A a b) (fun r => laws_eqEventS_d (r.fin 2 [])) = laws_eqEventS_m k (laws_eqEventS_h0 k k) a b := by kernel_rfl
 rw [e, laws_eqEventS_q0]; rfl
noncomputable def laws_eqEventS_x (k : Nat) : Ent1 := fun A R Q => match A with
 | ⟨[(.sc (.sl 0)), (.sc (.sl 1))], [(.row false K.k_impl_Event a1), (.row false K.k_impl_Event a2)]⟩ => (laws_eqEventS k a1 a2).bind fun y => Q ⟨(.a (.sc (.v (.bool y)))), [.dead, .dead]⟩
 | _ => none
theorem laws_eqEventS_ok (k : Nat) : OkE Tryz.prog 94 (laws_eqEventS_x k) := by
 intro A R Q x h
 unfold laws_eqEventS_x at h
 split at h
 · obtain ⟨y, hy, hK⟩ := Option.bind_eq_some_iff.1 h
   obtain ⟨r, hr, hd⟩ := callF_ok envOk (laws_eqEventS_Ok k) follows Tryz.func94 (by kernel_rfl) ((laws_eqEventS_e k _ _).trans hy)
   exact ⟨_, laws_eqEventS_i hd ▸ hr.fin [], hK⟩
 · cases h
/-! ### laws.eqRack: function 95 -/
noncomputable def laws_eqRack (k : Nat)  (a : Rack) (b : Rack) : Option (Bool) :=
 cond (!(decide ((a.Fresh : Int) = b.Fresh)))
 (some false)
 (cond (!(decide ((a.Day : Int) = b.Day)))
  (some false)
  (cond (!(decide ((a.Old : Int) = b.Old)))
   (some false)
   (some true)))
noncomputable def laws_eqRack_v : Nat → List Nat := fun t => match t with | _ => []
noncomputable def laws_eqRack_O (k : Nat) : Oracle := ofL []
theorem laws_eqRack_Ok (k : Nat) : OkO (Ct Tryz.prog) (laws_eqRack_O k) := okO_nil
noncomputable def laws_eqRack_A (a : Rack) (b : Rack) : Pk := ⟨[(.ag [(.v (.int .i64 a.Fresh)), (.v (.int .i64 a.Day)), (.v (.int .i64 a.Old))]), (.ag [(.v (.int .i64 b.Fresh)), (.v (.int .i64 b.Day)), (.v (.int .i64 b.Old))])], []⟩
noncomputable def laws_eqRack_d : Rs → Option (Bool)
 | ⟨(.a (.sc (.v (.bool r1)))), []⟩ => some r1
 | _ => none
theorem laws_eqRack_i {r : Rs} {y : Bool} (h : laws_eqRack_d r = some y) : r = ⟨(.a (.sc (.v (.bool y)))), []⟩ := by
 unfold laws_eqRack_d at h; split at h
 · cases h; rfl
 · cases h
theorem laws_eqRack_e (k : Nat) (a : Rack) (b : Rack) : callF env (laws_eqRack_O k) laws_eqRack_v Tryz.f95 (k + 1) (laws_eqRack_A a b) (fun r => laws_eqRack_d (r.fin 0 [])) = laws_eqRack k a b := by kernel_rfl
noncomputable def laws_eqRack_x (k : Nat) : Ent1 := fun A R Q => match A with
 | ⟨[(.ag [(.v (.int .i64 a1)), (.v (.int .i64 a2)), (.v (.int .i64 a3))]), (.ag [(.v (.int .i64 a4)), (.v (.int .i64 a5)), (.v (.int .i64 a6))])], []⟩ => (laws_eqRack k (⟨a1, a2, a3⟩ : Rack) (⟨a4, a5, a6⟩ : Rack)).bind fun y => Q ⟨(.a (.sc (.v (.bool y)))), []⟩
 | _ => none
theorem laws_eqRack_ok (k : Nat) : OkE Tryz.prog 95 (laws_eqRack_x k) := by
 intro A R Q x h
 unfold laws_eqRack_x at h
 split at h
 · obtain ⟨y, hy, hK⟩ := Option.bind_eq_some_iff.1 h
   obtain ⟨r, hr, hd⟩ := callF_ok envOk (laws_eqRack_Ok k) follows Tryz.func95 (by kernel_rfl) ((laws_eqRack_e k _ _).trans hy)
   exact ⟨_, laws_eqRack_i hd ▸ hr.fin [], hK⟩
 · cases h
/-! ### laws.eqBook: function 52 -/
noncomputable def laws_eqBook (k : Nat)  (a : Book) (b : Book) : Option (Bool) :=
 (laws_eqEventS k a.Events b.Events).bind fun y1 =>
 cond (!y1)
  (some false)
  ((laws_eqRack k a.Rack b.Rack).bind fun y2 =>
   cond (!y2)
    (some false)
    (cond (!(decide ((a.Baked : Int) = b.Baked)))
     (some false)
     (cond (!(decide ((a.Sold : Int) = b.Sold)))
      (some false)
      (cond (!(decide ((a.Thrown : Int) = b.Thrown)))
       (some false)
       (some true)))))
noncomputable def laws_eqBook_v : Nat → List Nat := fun t => match t with | _ => []
noncomputable def laws_eqBook_O (k : Nat) : Oracle := ofL [(94, laws_eqEventS_x k), (95, laws_eqRack_x k)]
theorem laws_eqBook_Ok (k : Nat) : OkO (Ct Tryz.prog) (laws_eqBook_O k) := okO_cons (laws_eqEventS_ok k) (okO_cons (laws_eqRack_ok k) (okO_nil))
noncomputable def laws_eqBook_A (a : Book) (b : Book) : Pk := ⟨[(.ag [(.sl 0), (.v (.int .i64 a.Rack.Fresh)), (.v (.int .i64 a.Rack.Day)), (.v (.int .i64 a.Rack.Old)), (.v (.int .i64 a.Baked)), (.v (.int .i64 a.Sold)), (.v (.int .i64 a.Thrown))]), (.ag [(.sl 1), (.v (.int .i64 b.Rack.Fresh)), (.v (.int .i64 b.Rack.Day)), (.v (.int .i64 b.Rack.Old)), (.v (.int .i64 b.Baked)), (.v (.int .i64 b.Sold)), (.v (.int .i64 b.Thrown))])], [(.row false K.k_impl_Event a.Events), (.row false K.k_impl_Event b.Events)]⟩
noncomputable def laws_eqBook_d : Rs → Option (Bool)
 | ⟨(.a (.sc (.v (.bool r1)))), [.dead, .dead]⟩ => some r1
 | _ => none
theorem laws_eqBook_i {r : Rs} {y : Bool} (h : laws_eqBook_d r = some y) : r = ⟨(.a (.sc (.v (.bool y)))), [.dead, .dead]⟩ := by
 unfold laws_eqBook_d at h; split at h
 · cases h; rfl
 · cases h
theorem laws_eqBook_e (k : Nat) (a : Book) (b : Book) : callF env (laws_eqBook_O k) laws_eqBook_v Tryz.f52 (k + 1) (laws_eqBook_A a b) (fun r => laws_eqBook_d (r.fin 2 [])) = laws_eqBook k a b := by kernel_rfl
noncomputable def laws_eqBook_x (k : Nat) : Ent1 := fun A R Q => match A with
 | ⟨[(.ag [(.sl 0), (.v (.int .i64 a2)), (.v (.int .i64 a3)), (.v (.int .i64 a4)), (.v (.int .i64 a5)), (.v (.int .i64 a6)), (.v (.int .i64 a7))]), (.ag [(.sl 1), (.v (.int .i64 a9)), (.v (.int .i64 a10)), (.v (.int .i64 a11)), (.v (.int .i64 a12)), (.v (.int .i64 a13)), (.v (.int .i64 a14))])], [(.row false K.k_impl_Event a1), (.row false K.k_impl_Event a8)]⟩ => (laws_eqBook k (⟨a1, (⟨a2, a3, a4⟩ : Rack), a5, a6, a7⟩ : Book) (⟨a8, (⟨a9, a10, a11⟩ : Rack), a12, a13, a14⟩ : Book)).bind fun y => Q ⟨(.a (.sc (.v (.bool y)))), [.dead, .dead]⟩
 | _ => none
theorem laws_eqBook_ok (k : Nat) : OkE Tryz.prog 52 (laws_eqBook_x k) := by
 intro A R Q x h
 unfold laws_eqBook_x at h
 split at h
 · obtain ⟨y, hy, hK⟩ := Option.bind_eq_some_iff.1 h
   obtain ⟨r, hr, hd⟩ := callF_ok envOk (laws_eqBook_Ok k) follows Tryz.func52 (by kernel_rfl) ((laws_eqBook_e k _ _).trans hy)
   exact ⟨_, laws_eqBook_i hd ▸ hr.fin [], hK⟩
 · cases h
/-! ### laws.eqBakery: function 11 -/
noncomputable def laws_eqBakery (k : Nat)  (a : Bakery) (b : Bakery) : Option (Bool) :=
 (laws_eqStock k a.Stock b.Stock).bind fun y1 =>
 cond (!y1)
  (some false)
  ((laws_eqDough k a.Dough b.Dough).bind fun y2 =>
   cond (!y2)
    (some false)
    ((laws_eqLoaf k a.Loaf b.Loaf).bind fun y3 =>
     cond (!y3)
      (some false)
      ((laws_eqBook k a.Book b.Book).bind fun y4 =>
       cond (!y4)
        (some false)
        (cond (!(decide ((a.Money : Int) = b.Money)))
        (some false)
        (some true)))))
noncomputable def laws_eqBakery_v : Nat → List Nat := fun t => match t with | _ => []
noncomputable def laws_eqBakery_O (k : Nat) : Oracle := ofL [(49, laws_eqStock_x k), (50, laws_eqDough_x k), (51, laws_eqLoaf_x k), (52, laws_eqBook_x k)]
theorem laws_eqBakery_Ok (k : Nat) : OkO (Ct Tryz.prog) (laws_eqBakery_O k) := okO_cons (laws_eqStock_ok k) (okO_cons (laws_eqDough_ok k) (okO_cons (laws_eqLoaf_ok k) (okO_cons (laws_eqBook_ok k) (okO_nil))))
noncomputable def laws_eqBakery_A (a : Bakery) (b : Bakery) : Pk := ⟨[(.ag [(.sl 0), (.v (.int .i64 a.Dough.Water)), (.v (.int .i64 a.Dough.Salt)), (.v (.int .i64 a.Dough.Leaven)), (.v (.int .i64 a.Loaf.Weight)), (.v (.int .i64 a.Loaf.Loss)), (.sl 1), (.v (.int .i64 a.Book.Rack.Fresh)), (.v (.int .i64 a.Book.Rack.Day)), (.v (.int .i64 a.Book.Rack.Old)), (.v (.int .i64 a.Book.Baked)), (.v (.int .i64 a.Book.Sold)), (.v (.int .i64 a.Book.Thrown)), (.v (.int .i64 a.Money))]), (.ag [(.sl 2), (.v (.int .i64 b.Dough.Water)), (.v (.int .i64 b.Dough.Salt)), (.v (.int .i64 b.Dough.Leaven)), (.v (.int .i64 b.Loaf.Weight)), (.v (.int .i64 b.Loaf.Loss)), (.sl 3), (.v (.int .i64 b.Book.Rack.Fresh)), (.v (.int .i64 b.Book.Rack.Day)), (.v (.int .i64 b.Book.Rack.Old)), (.v (.int .i64 b.Book.Baked)), (.v (.int .i64 b.Book.Sold)), (.v (.int .i64 b.Book.Thrown)), (.v (.int .i64 b.Money))])], [(.row false K.ki64 a.Stock.Grams), (.row false K.k_impl_Event a.Book.Events), (.row false K.ki64 b.Stock.Grams), (.row false K.k_impl_Event b.Book.Events)]⟩
noncomputable def laws_eqBakery_d : Rs → Option (Bool)
 | ⟨(.a (.sc (.v (.bool r1)))), [.dead, .dead, .dead, .dead]⟩ => some r1
 | _ => none
theorem laws_eqBakery_i {r : Rs} {y : Bool} (h : laws_eqBakery_d r = some y) : r = ⟨(.a (.sc (.v (.bool y)))), [.dead, .dead, .dead, .dead]⟩ := by
 unfold laws_eqBakery_d at h; split at h
 · cases h; rfl
 · cases h
theorem laws_eqBakery_e (k : Nat) (a : Bakery) (b : Bakery) : callF env (laws_eqBakery_O k) laws_eqBakery_v Tryz.f11 (k + 1) (laws_eqBakery_A a b) (fun r => laws_eqBakery_d (r.fin 4 [])) = laws_eqBakery k a b := by kernel_rfl
noncomputable def laws_eqBakery_x (k : Nat) : Ent1 := fun A R Q => match A with
 | ⟨[(.ag [(.sl 0), (.v (.int .i64 a2)), (.v (.int .i64 a3)), (.v (.int .i64 a4)), (.v (.int .i64 a5)), (.v (.int .i64 a6)), (.sl 1), (.v (.int .i64 a8)), (.v (.int .i64 a9)), (.v (.int .i64 a10)), (.v (.int .i64 a11)), (.v (.int .i64 a12)), (.v (.int .i64 a13)), (.v (.int .i64 a14))]), (.ag [(.sl 2), (.v (.int .i64 a16)), (.v (.int .i64 a17)), (.v (.int .i64 a18)), (.v (.int .i64 a19)), (.v (.int .i64 a20)), (.sl 3), (.v (.int .i64 a22)), (.v (.int .i64 a23)), (.v (.int .i64 a24)), (.v (.int .i64 a25)), (.v (.int .i64 a26)), (.v (.int .i64 a27)), (.v (.int .i64 a28))])], [(.row false K.ki64 a1), (.row false K.k_impl_Event a7), (.row false K.ki64 a15), (.row false K.k_impl_Event a21)]⟩ => (laws_eqBakery k (⟨(⟨a1⟩ : Stock), (⟨a2, a3, a4⟩ : Dough), (⟨a5, a6⟩ : Loaf), (⟨a7, (⟨a8, a9, a10⟩ : Rack), a11, a12, a13⟩ : Book), a14⟩ : Bakery) (⟨(⟨a15⟩ : Stock), (⟨a16, a17, a18⟩ : Dough), (⟨a19, a20⟩ : Loaf), (⟨a21, (⟨a22, a23, a24⟩ : Rack), a25, a26, a27⟩ : Book), a28⟩ : Bakery)).bind fun y => Q ⟨(.a (.sc (.v (.bool y)))), [.dead, .dead, .dead, .dead]⟩
 | _ => none
theorem laws_eqBakery_ok (k : Nat) : OkE Tryz.prog 11 (laws_eqBakery_x k) := by
 intro A R Q x h
 unfold laws_eqBakery_x at h
 split at h
 · obtain ⟨y, hy, hK⟩ := Option.bind_eq_some_iff.1 h
   obtain ⟨r, hr, hd⟩ := callF_ok envOk (laws_eqBakery_Ok k) follows Tryz.func11 (by kernel_rfl) ((laws_eqBakery_e k _ _).trans hy)
   exact ⟨_, laws_eqBakery_i hd ▸ hr.fin [], hK⟩
 · cases h
/-! ### laws.markIntS: function 24 -/
noncomputable def laws_markIntS_s0 (k : Nat)  (J : Int → Int → (List Int) → Option (Int × (List Int))) (x0_0 : Int) (x0_1 : Int) (x0_2 : (List Int)) : Option (Int × (List Int)) :=
 cond (decide ((x0_1 : Int) < ((x0_2).length : Int)))
 (if 0 ≤ (x0_1 : Int) ∧ (x0_1 : Int) < ((x0_2).length : Int) then
  J (wr (x0_0 + 1)) (wr (x0_1 + 1)) (x0_2.set (Int.toNat x0_1) x0_0) else none)
 (some (x0_0, x0_2))
noncomputable def laws_markIntS_l0 (k : Nat) : Nat → Int → Int → (List Int) → Option (Int × (List Int))
 | 0, x0_0, x0_1, x0_2 => laws_markIntS_s0 k (fun _ _ _ => none) x0_0 x0_1 x0_2
 | m + 1, x0_0, x0_1, x0_2 => laws_markIntS_s0 k (laws_markIntS_l0 k m) x0_0 x0_1 x0_2
noncomputable def laws_markIntS_m (k : Nat) (J0 : Int → Int → (List Int) → Option (Int × (List Int))) (a : (List Int)) (k_ : Int) : Option (Int × (List Int)) :=
 J0 k_ 0 a
noncomputable def laws_markIntS (k : Nat) (a : (List Int)) (k_ : Int) : Option (Int × (List Int)) := laws_markIntS_m k (laws_markIntS_l0 k k) a k_
noncomputable def laws_markIntS_v : Nat → List Nat := fun t => match t with | 2 => [0, 1, 4, 5] | _ => []
noncomputable def laws_markIntS_O (k : Nat) : Oracle := ofL []
theorem laws_markIntS_Ok (k : Nat) : OkO (Ct Tryz.prog) (laws_markIntS_O k) := okO_nil
noncomputable def laws_markIntS_A (a : (List Int)) (k_ : Int) : Pk := ⟨[(.sc (.sl 0)), (.sc (.v (.int .i64 k_)))], [(.row true K.ki64 a)]⟩
noncomputable def laws_markIntS_d : Rs → Option (Int × (List Int))
 | ⟨(.a (.sc (.v (.int .i64 r1)))), [(.row true K.ki64 r2)]⟩ => some (r1, r2)
 | _ => none
theorem laws_markIntS_i {r : Rs} {y : Int × (List Int)} (h : laws_markIntS_d r = some y) : r = ⟨(.a (.sc (.v (.int .i64 y.1)))), [(.row true K.ki64 y.2)]⟩ := by
 unfold laws_markIntS_d at h; split at h
 · cases h; rfl
 · cases h
noncomputable def laws_markIntS_h0 (k m : Nat) (x0_0 : Int) (x0_1 : Int) (x0_2 : (List Int)) : Option (Int × (List Int)) := hdAt env (laws_markIntS_O k) laws_markIntS_v Tryz.f24 1 (fun r => laws_markIntS_d (r.fin 1 [])) [1, 0, 1, 0] k m ⟨tmF [0, 1, 4, 5] [(.a (.sc (.sl 0))), (.a (.sc (.v (.int .i64 x0_0)))), (.a (.sc (.v (.int .i64 0)))), (.a (.sc (.v (.int .i64 x0_1))))], blF [(.row true K.ki64 x0_2)]⟩
theorem laws_markIntS_z0 (k : Nat) (x0_0 : Int) (x0_1 : Int) (x0_2 : (List Int)) : laws_markIntS_h0 k 0 x0_0 x0_1 x0_2 = laws_markIntS_s0 k (fun _ _ _ => none) x0_0 x0_1 x0_2 := by kernel_rfl
theorem laws_markIntS_g0 (k : Nat) (H : St → Option (Int × (List Int))) (x0_0 : Int) (x0_1 : Int) (x0_2 : (List Int)) : rnd env (laws_markIntS_O k) laws_markIntS_v Tryz.f24 1 (fun r => laws_markIntS_d (r.fin 1 [])) [1, 0, 1, 0] k H ⟨tmF [0, 1, 4, 5] [(.a (.sc (.sl 0))), (.a (.sc (.v (.int .i64 x0_0)))), (.a (.sc (.v (.int .i64 0)))), (.a (.sc (.v (.int .i64 x0_1))))], blF [(.row true K.ki64 x0_2)]⟩ = laws_markIntS_s0 k (fun x0_0 x0_1 x0_2 => H ⟨tmF [0, 1, 4, 5] [(.a (.sc (.sl 0))), (.a (.sc (.v (.int .i64 x0_0)))), (.a (.sc (.v (.int .i64 0)))), (.a (.sc (.v (.int .i64 x0_1))))], blF [(.row true K.ki64 x0_2)]⟩) x0_0 x0_1 x0_2 := by kernel_rfl
theorem laws_markIntS_n0 (k m : Nat) (x0_0 : Int) (x0_1 : Int) (x0_2 : (List Int)) : laws_markIntS_h0 k (m + 1) x0_0 x0_1 x0_2 = laws_markIntS_s0 k (laws_markIntS_h0 k m) x0_0 x0_1 x0_2 := (hdAt_succ _ _ _ _ _ _ _ _ _ _).trans (laws_markIntS_g0 k _ x0_0 x0_1 x0_2)
theorem laws_markIntS_q0 (k : Nat) : ∀ m, laws_markIntS_h0 k m = laws_markIntS_l0 k m := by
 intro m
 induction m with
 | zero => funext x0_0 x0_1 x0_2; rw [laws_markIntS_z0]; rfl
 | succ m ih => funext x0_0 x0_1 x0_2; rw [laws_markIntS_n0, ih]; rfl
theorem laws_markIntS_e (k : Nat) (a : (List Int)) (k_ : Int) : callF env (laws_markIntS_O k) laws_markIntS_v Tryz.f24 (k + 1) (laws_markIntS_A a k_) (fun r => laws_markIntS_d (r.fin 1 [])) = laws_markIntS k a k_ := by
 have e : callF env (laws_markIntS_O k) laws_markIntS_v Tryz.f24 (k + 1) (laws_markIntS_A a k_) (fun r => laws_markIntS_d (r.fin 1 [])) = laws_markIntS_m k (laws_markIntS_h0 k k) a k_ := by kernel_rfl
 rw [e, laws_markIntS_q0]; rfl
noncomputable def laws_markIntS_x (k : Nat) : Ent1 := fun A R Q => match A with
 | ⟨[(.sc (.sl 0)), (.sc (.v (.int .i64 a2)))], [(.row true K.ki64 a1)]⟩ => (laws_markIntS k a1 a2).bind fun y => Q ⟨(.a (.sc (.v (.int .i64 y.1)))), [(.row true K.ki64 y.2)]⟩
 | _ => none
theorem laws_markIntS_ok (k : Nat) : OkE Tryz.prog 24 (laws_markIntS_x k) := by
 intro A R Q x h
 unfold laws_markIntS_x at h
 split at h
 · obtain ⟨y, hy, hK⟩ := Option.bind_eq_some_iff.1 h
   obtain ⟨r, hr, hd⟩ := callF_ok envOk (laws_markIntS_Ok k) follows Tryz.func24 (by kernel_rfl) ((laws_markIntS_e k _ _).trans hy)
   exact ⟨_, laws_markIntS_i hd ▸ hr.fin [], hK⟩
 · cases h
/-! ### laws.markStock: function 53 -/
noncomputable def laws_markStock (k : Nat)  (a : Stock) (k_ : Int) : Option (Int × (List Int)) :=
 (laws_markIntS k a.Grams k_).bind fun y1 =>
 some (y1.1, y1.2)
noncomputable def laws_markStock_v : Nat → List Nat := fun t => match t with | _ => []
noncomputable def laws_markStock_O (k : Nat) : Oracle := ofL [(24, laws_markIntS_x k)]
theorem laws_markStock_Ok (k : Nat) : OkO (Ct Tryz.prog) (laws_markStock_O k) := okO_cons (laws_markIntS_ok k) (okO_nil)
noncomputable def laws_markStock_A (a : Stock) (k_ : Int) : Pk := ⟨[(.ag [(.sl 0)]), (.sc (.v (.int .i64 k_)))], [(.row true K.ki64 a.Grams)]⟩
noncomputable def laws_markStock_d : Rs → Option (Int × (List Int))
 | ⟨(.a (.sc (.v (.int .i64 r1)))), [(.row true K.ki64 r2)]⟩ => some (r1, r2)
 | _ => none
theorem laws_markStock_i {r : Rs} {y : Int × (List Int)} (h : laws_markStock_d r = some y) : r = ⟨(.a (.sc (.v (.int .i64 y.1)))), [(.row true K.ki64 y.2)]⟩ := by
 unfold laws_markStock_d at h; split at h
 · cases h; rfl
 · cases h
theorem laws_markStock_e (k : Nat) (a : Stock) (k_ : Int) : callF env (laws_markStock_O k) laws_markStock_v Tryz.f53 (k + 1) (laws_markStock_A a k_) (fun r => laws_markStock_d (r.fin 1 [])) = laws_markStock k a k_ := by kernel_rfl
noncomputable def laws_markStock_x (k : Nat) : Ent1 := fun A R Q => match A with
 | ⟨[(.ag [(.sl 0)]), (.sc (.v (.int .i64 a2)))], [(.row true K.ki64 a1)]⟩ => (laws_markStock k (⟨a1⟩ : Stock) a2).bind fun y => Q ⟨(.a (.sc (.v (.int .i64 y.1)))), [(.row true K.ki64 y.2)]⟩
 | _ => none
theorem laws_markStock_ok (k : Nat) : OkE Tryz.prog 53 (laws_markStock_x k) := by
 intro A R Q x h
 unfold laws_markStock_x at h
 split at h
 · obtain ⟨y, hy, hK⟩ := Option.bind_eq_some_iff.1 h
   obtain ⟨r, hr, hd⟩ := callF_ok envOk (laws_markStock_Ok k) follows Tryz.func53 (by kernel_rfl) ((laws_markStock_e k _ _).trans hy)
   exact ⟨_, laws_markStock_i hd ▸ hr.fin [], hK⟩
 · cases h
/-! ### laws.markEventS: function 96 -/
noncomputable def laws_markEventS_s0 (k : Nat)  (J : Int → Int → (List Event) → Option (Int × (List Event))) (x0_0 : Int) (x0_1 : Int) (x0_2 : (List Event)) : Option (Int × (List Event)) :=
 cond (decide ((x0_1 : Int) < ((x0_2).length : Int)))
 (if 0 ≤ (x0_1 : Int) ∧ (x0_1 : Int) < ((x0_2).length : Int) then
  if 0 ≤ (x0_1 : Int) ∧ (x0_1 : Int) < (((x0_2.set (Int.toNat x0_1) (⟨x0_0, (x0_2.getD (Int.toNat x0_1) dk_impl_Event).Loaves⟩ : Event))).length : Int) then
   J (wr ((wr (x0_0 + 1)) + 1)) (wr (x0_1 + 1)) ((x0_2.set (Int.toNat x0_1) (⟨x0_0, (x0_2.getD (Int.toNat x0_1) dk_impl_Event).Loaves⟩ : Event)).set (Int.toNat x0_1) (⟨((x0_2.set (Int.toNat x0_1) (⟨x0_0, (x0_2.getD (Int.toNat x0_1) dk_impl_Event).Loaves⟩ : Event)).getD (Int.toNat x0_1) dk_impl_Event).Kind, (wr (x0_0 + 1))⟩ : Event)) else none else none)
 (some (x0_0, x0_2))
noncomputable def laws_markEventS_l0 (k : Nat) : Nat → Int → Int → (List Event) → Option (Int × (List Event))
 | 0, x0_0, x0_1, x0_2 => laws_markEventS_s0 k (fun _ _ _ => none) x0_0 x0_1 x0_2
 | m + 1, x0_0, x0_1, x0_2 => laws_markEventS_s0 k (laws_markEventS_l0 k m) x0_0 x0_1 x0_2
noncomputable def laws_markEventS_m (k : Nat) (J0 : Int → Int → (List Event) → Option (Int × (List Event))) (a : (List Event)) (k_ : Int) : Option (Int × (List Event)) :=
 J0 k_ 0 a
noncomputable def laws_markEventS (k : Nat) (a : (List Event)) (k_ : Int) : Option (Int × (List Event)) := laws_markEventS_m k (laws_markEventS_l0 k k) a k_
noncomputable def laws_markEventS_v : Nat → List Nat := fun t => match t with | 2 => [0, 1, 4, 5] | _ => []
noncomputable def laws_markEventS_O (k : Nat) : Oracle := ofL []
theorem laws_markEventS_Ok (k : Nat) : OkO (Ct Tryz.prog) (laws_markEventS_O k) := okO_nil
noncomputable def laws_markEventS_A (a : (List Event)) (k_ : Int) : Pk := ⟨[(.sc (.sl 0)), (.sc (.v (.int .i64 k_)))], [(.row true K.k_impl_Event a)]⟩
noncomputable def laws_markEventS_d : Rs → Option (Int × (List Event))
 | ⟨(.a (.sc (.v (.int .i64 r1)))), [(.row true K.k_impl_Event r2)]⟩ => some (r1, r2)
 | _ => none
theorem laws_markEventS_i {r : Rs} {y : Int × (List Event)} (h : laws_markEventS_d r = some y) : r = ⟨(.a (.sc (.v (.int .i64 y.1)))), [(.row true K.k_impl_Event y.2)]⟩ := by
 unfold laws_markEventS_d at h; split at h
 · cases h; rfl
 · cases h
noncomputable def laws_markEventS_h0 (k m : Nat) (x0_0 : Int) (x0_1 : Int) (x0_2 : (List Event)) : Option (Int × (List Event)) := hdAt env (laws_markEventS_O k) laws_markEventS_v Tryz.f96 1 (fun r => laws_markEventS_d (r.fin 1 [])) [1, 0, 1, 0] k m ⟨tmF [0, 1, 4, 5] [(.a (.sc (.sl 0))), (.a (.sc (.v (.int .i64 x0_0)))), (.a (.sc (.v (.int .i64 0)))), (.a (.sc (.v (.int .i64 x0_1))))], blF [(.row true K.k_impl_Event x0_2)]⟩
theorem laws_markEventS_z0 (k : Nat) (x0_0 : Int) (x0_1 : Int) (x0_2 : (List Event)) : laws_markEventS_h0 k 0 x0_0 x0_1 x0_2 = laws_markEventS_s0 k (fun _ _ _ => none) x0_0 x0_1 x0_2 := by kernel_rfl
theorem laws_markEventS_g0 (k : Nat) (H : St → Option (Int × (List Event))) (x0_0 : Int) (x0_1 : Int) (x0_2 : (List Event)) : rnd env (laws_markEventS_O k) laws_markEventS_v Tryz.f96 1 (fun r => laws_markEventS_d (r.fin 1 [])) [1, 0, 1, 0] k H ⟨tmF [0, 1, 4, 5] [(.a (.sc (.sl 0))), (.a (.sc (.v (.int .i64 x0_0)))), (.a (.sc (.v (.int .i64 0)))), (.a (.sc (.v (.int .i64 x0_1))))], blF [(.row true K.k_impl_Event x0_2)]⟩ = laws_markEventS_s0 k (fun x0_0 x0_1 x0_2 => H ⟨tmF [0, 1, 4, 5] [(.a (.sc (.sl 0))), (.a (.sc (.v (.int .i64 x0_0)))), (.a (.sc (.v (.int .i64 0)))), (.a (.sc (.v (.int .i64 x0_1))))], blF [(.row true K.k_impl_Event x0_2)]⟩) x0_0 x0_1 x0_2 := by kernel_rfl
theorem laws_markEventS_n0 (k m : Nat) (x0_0 : Int) (x0_1 : Int) (x0_2 : (List Event)) : laws_markEventS_h0 k (m + 1) x0_0 x0_1 x0_2 = laws_markEventS_s0 k (laws_markEventS_h0 k m) x0_0 x0_1 x0_2 := (hdAt_succ _ _ _ _ _ _ _ _ _ _).trans (laws_markEventS_g0 k _ x0_0 x0_1 x0_2)
theorem laws_markEventS_q0 (k : Nat) : ∀ m, laws_markEventS_h0 k m = laws_markEventS_l0 k m := by
 intro m
 induction m with
 | zero => funext x0_0 x0_1 x0_2; rw [laws_markEventS_z0]; rfl
 | succ m ih => funext x0_0 x0_1 x0_2; rw [laws_markEventS_n0, ih]; rfl
theorem laws_markEventS_e (k : Nat) (a : (List Event)) (k_ : Int) : callF env (laws_markEventS_O k) laws_markEventS_v Tryz.f96 (k + 1) (laws_markEventS_A a k_) (fun r => laws_markEventS_d (r.fin 1 [])) = laws_markEventS k a k_ := by
 have e : callF env (laws_markEventS_O k) laws_markEventS_v Tryz.f96 (k + 1) (laws_markEventS_A a k_) (fun r => laws_markEventS_d (r.fin 1 [])) = laws_markEventS_m k (laws_markEventS_h0 k k) a k_ := by kernel_rfl
 rw [e, laws_markEventS_q0]; rfl
noncomputable def laws_markEventS_x (k : Nat) : Ent1 := fun A R Q => match A with
 | ⟨[(.sc (.sl 0)), (.sc (.v (.int .i64 a2)))], [(.row true K.k_impl_Event a1)]⟩ => (laws_markEventS k a1 a2).bind fun y => Q ⟨(.a (.sc (.v (.int .i64 y.1)))), [(.row true K.k_impl_Event y.2)]⟩
 | _ => none
theorem laws_markEventS_ok (k : Nat) : OkE Tryz.prog 96 (laws_markEventS_x k) := by
 intro A R Q x h
 unfold laws_markEventS_x at h
 split at h
 · obtain ⟨y, hy, hK⟩ := Option.bind_eq_some_iff.1 h
   obtain ⟨r, hr, hd⟩ := callF_ok envOk (laws_markEventS_Ok k) follows Tryz.func96 (by kernel_rfl) ((laws_markEventS_e k _ _).trans hy)
   exact ⟨_, laws_markEventS_i hd ▸ hr.fin [], hK⟩
 · cases h
/-! ### laws.markBook: function 54 -/
noncomputable def laws_markBook (k : Nat)  (a : Book) (k_ : Int) : Option (Int × (List Event)) :=
 (laws_markEventS k a.Events k_).bind fun y1 =>
 some (y1.1, y1.2)
noncomputable def laws_markBook_v : Nat → List Nat := fun t => match t with | _ => []
noncomputable def laws_markBook_O (k : Nat) : Oracle := ofL [(96, laws_markEventS_x k)]
theorem laws_markBook_Ok (k : Nat) : OkO (Ct Tryz.prog) (laws_markBook_O k) := okO_cons (laws_markEventS_ok k) (okO_nil)
noncomputable def laws_markBook_A (a : Book) (k_ : Int) : Pk := ⟨[(.ag [(.sl 0), (.v (.int .i64 a.Rack.Fresh)), (.v (.int .i64 a.Rack.Day)), (.v (.int .i64 a.Rack.Old)), (.v (.int .i64 a.Baked)), (.v (.int .i64 a.Sold)), (.v (.int .i64 a.Thrown))]), (.sc (.v (.int .i64 k_)))], [(.row true K.k_impl_Event a.Events)]⟩
noncomputable def laws_markBook_d : Rs → Option (Int × (List Event))
 | ⟨(.a (.sc (.v (.int .i64 r1)))), [(.row true K.k_impl_Event r2)]⟩ => some (r1, r2)
 | _ => none
theorem laws_markBook_i {r : Rs} {y : Int × (List Event)} (h : laws_markBook_d r = some y) : r = ⟨(.a (.sc (.v (.int .i64 y.1)))), [(.row true K.k_impl_Event y.2)]⟩ := by
 unfold laws_markBook_d at h; split at h
 · cases h; rfl
 · cases h
theorem laws_markBook_e (k : Nat) (a : Book) (k_ : Int) : callF env (laws_markBook_O k) laws_markBook_v Tryz.f54 (k + 1) (laws_markBook_A a k_) (fun r => laws_markBook_d (r.fin 1 [])) = laws_markBook k a k_ := by kernel_rfl
noncomputable def laws_markBook_x (k : Nat) : Ent1 := fun A R Q => match A with
 | ⟨[(.ag [(.sl 0), (.v (.int .i64 a2)), (.v (.int .i64 a3)), (.v (.int .i64 a4)), (.v (.int .i64 a5)), (.v (.int .i64 a6)), (.v (.int .i64 a7))]), (.sc (.v (.int .i64 a8)))], [(.row true K.k_impl_Event a1)]⟩ => (laws_markBook k (⟨a1, (⟨a2, a3, a4⟩ : Rack), a5, a6, a7⟩ : Book) a8).bind fun y => Q ⟨(.a (.sc (.v (.int .i64 y.1)))), [(.row true K.k_impl_Event y.2)]⟩
 | _ => none
theorem laws_markBook_ok (k : Nat) : OkE Tryz.prog 54 (laws_markBook_x k) := by
 intro A R Q x h
 unfold laws_markBook_x at h
 split at h
 · obtain ⟨y, hy, hK⟩ := Option.bind_eq_some_iff.1 h
   obtain ⟨r, hr, hd⟩ := callF_ok envOk (laws_markBook_Ok k) follows Tryz.func54 (by kernel_rfl) ((laws_markBook_e k _ _).trans hy)
   exact ⟨_, laws_markBook_i hd ▸ hr.fin [], hK⟩
 · cases h
/-! ### laws.markBakery: function 12 -/
noncomputable def laws_markBakery (k : Nat)  (a : Bakery) (k_ : Int) : Option (Int × (List Int) × (List Event)) :=
 (laws_markStock k a.Stock k_).bind fun y1 =>
 (laws_markBook k a.Book y1.1).bind fun y2 =>
  some (y2.1, y1.2, y2.2)
noncomputable def laws_markBakery_v : Nat → List Nat := fun t => match t with | _ => []
noncomputable def laws_markBakery_O (k : Nat) : Oracle := ofL [(53, laws_markStock_x k), (54, laws_markBook_x k)]
theorem laws_markBakery_Ok (k : Nat) : OkO (Ct Tryz.prog) (laws_markBakery_O k) := okO_cons (laws_markStock_ok k) (okO_cons (laws_markBook_ok k) (okO_nil))
noncomputable def laws_markBakery_A (a : Bakery) (k_ : Int) : Pk := ⟨[(.ag [(.sl 0), (.v (.int .i64 a.Dough.Water)), (.v (.int .i64 a.Dough.Salt)), (.v (.int .i64 a.Dough.Leaven)), (.v (.int .i64 a.Loaf.Weight)), (.v (.int .i64 a.Loaf.Loss)), (.sl 1), (.v (.int .i64 a.Book.Rack.Fresh)), (.v (.int .i64 a.Book.Rack.Day)), (.v (.int .i64 a.Book.Rack.Old)), (.v (.int .i64 a.Book.Baked)), (.v (.int .i64 a.Book.Sold)), (.v (.int .i64 a.Book.Thrown)), (.v (.int .i64 a.Money))]), (.sc (.v (.int .i64 k_)))], [(.row true K.ki64 a.Stock.Grams), (.row true K.k_impl_Event a.Book.Events)]⟩
noncomputable def laws_markBakery_d : Rs → Option (Int × (List Int) × (List Event))
 | ⟨(.a (.sc (.v (.int .i64 r1)))), [(.row true K.ki64 r2), (.row true K.k_impl_Event r3)]⟩ => some (r1, r2, r3)
 | _ => none
theorem laws_markBakery_i {r : Rs} {y : Int × (List Int) × (List Event)} (h : laws_markBakery_d r = some y) : r = ⟨(.a (.sc (.v (.int .i64 y.1)))), [(.row true K.ki64 y.2.1), (.row true K.k_impl_Event y.2.2)]⟩ := by
 unfold laws_markBakery_d at h; split at h
 · cases h; rfl
 · cases h
theorem laws_markBakery_e (k : Nat) (a : Bakery) (k_ : Int) : callF env (laws_markBakery_O k) laws_markBakery_v Tryz.f12 (k + 1) (laws_markBakery_A a k_) (fun r => laws_markBakery_d (r.fin 2 [])) = laws_markBakery k a k_ := by kernel_rfl
noncomputable def laws_markBakery_x (k : Nat) : Ent1 := fun A R Q => match A with
 | ⟨[(.ag [(.sl 0), (.v (.int .i64 a2)), (.v (.int .i64 a3)), (.v (.int .i64 a4)), (.v (.int .i64 a5)), (.v (.int .i64 a6)), (.sl 1), (.v (.int .i64 a8)), (.v (.int .i64 a9)), (.v (.int .i64 a10)), (.v (.int .i64 a11)), (.v (.int .i64 a12)), (.v (.int .i64 a13)), (.v (.int .i64 a14))]), (.sc (.v (.int .i64 a15)))], [(.row true K.ki64 a1), (.row true K.k_impl_Event a7)]⟩ => (laws_markBakery k (⟨(⟨a1⟩ : Stock), (⟨a2, a3, a4⟩ : Dough), (⟨a5, a6⟩ : Loaf), (⟨a7, (⟨a8, a9, a10⟩ : Rack), a11, a12, a13⟩ : Book), a14⟩ : Bakery) a15).bind fun y => Q ⟨(.a (.sc (.v (.int .i64 y.1)))), [(.row true K.ki64 y.2.1), (.row true K.k_impl_Event y.2.2)]⟩
 | _ => none
theorem laws_markBakery_ok (k : Nat) : OkE Tryz.prog 12 (laws_markBakery_x k) := by
 intro A R Q x h
 unfold laws_markBakery_x at h
 split at h
 · obtain ⟨y, hy, hK⟩ := Option.bind_eq_some_iff.1 h
   obtain ⟨r, hr, hd⟩ := callF_ok envOk (laws_markBakery_Ok k) follows Tryz.func12 (by kernel_rfl) ((laws_markBakery_e k _ _).trans hy)
   exact ⟨_, laws_markBakery_i hd ▸ hr.fin [], hK⟩
 · cases h
/-! ### laws.heldIntS: function 25 -/
noncomputable def laws_heldIntS_s0 (k : Nat)  (a : (List Int)) (J : Int → Int → Option (Int)) (x0_0 : Int) (x0_1 : Int) : Option (Int) :=
 cond (decide ((x0_1 : Int) < ((a).length : Int)))
 (if 0 ≤ (x0_1 : Int) ∧ (x0_1 : Int) < ((a).length : Int) then
  cond (!(decide (((a.getD (Int.toNat x0_1) 0) : Int) = x0_0)))
   (some (-1))
   (J (wr (x0_0 + 1)) (wr (x0_1 + 1))) else none)
 (some x0_0)
noncomputable def laws_heldIntS_l0 (k : Nat) : Nat → (List Int) → Int → Int → Option (Int)
 | 0, a, x0_0, x0_1 => laws_heldIntS_s0 k a (fun _ _ => none) x0_0 x0_1
 | m + 1, a, x0_0, x0_1 => laws_heldIntS_s0 k a (laws_heldIntS_l0 k m a) x0_0 x0_1
noncomputable def laws_heldIntS_m (k : Nat) (J0 : (List Int) → Int → Int → Option (Int)) (a : (List Int)) (k_ : Int) : Option (Int) :=
 J0 a k_ 0
noncomputable def laws_heldIntS (k : Nat) (a : (List Int)) (k_ : Int) : Option (Int) := laws_heldIntS_m k (laws_heldIntS_l0 k k) a k_
noncomputable def laws_heldIntS_v : Nat → List Nat := fun t => match t with | 2 => [0, 1, 4, 5] | _ => []
noncomputable def laws_heldIntS_O (k : Nat) : Oracle := ofL []
theorem laws_heldIntS_Ok (k : Nat) : OkO (Ct Tryz.prog) (laws_heldIntS_O k) := okO_nil
noncomputable def laws_heldIntS_A (a : (List Int)) (k_ : Int) : Pk := ⟨[(.sc (.sl 0)), (.sc (.v (.int .i64 k_)))], [(.row false K.ki64 a)]⟩
noncomputable def laws_heldIntS_d : Rs → Option (Int)
 | ⟨(.a (.sc (.v (.int .i64 r1)))), [.dead]⟩ => some r1
 | _ => none
theorem laws_heldIntS_i {r : Rs} {y : Int} (h : laws_heldIntS_d r = some y) : r = ⟨(.a (.sc (.v (.int .i64 y)))), [.dead]⟩ := by
 unfold laws_heldIntS_d at h; split at h
 · cases h; rfl
 · cases h
noncomputable def laws_heldIntS_h0 (k m : Nat) (a : (List Int)) (x0_0 : Int) (x0_1 : Int) : Option (Int) := hdAt env (laws_heldIntS_O k) laws_heldIntS_v Tryz.f25 1 (fun r => laws_heldIntS_d (r.fin 1 [])) [1, 0, 1, 0] k m ⟨tmF [0, 1, 4, 5] [(.a (.sc (.sl 0))), (.a (.sc (.v (.int .i64 x0_0)))), (.a (.sc (.v (.int .i64 0)))), (.a (.sc (.v (.int .i64 x0_1))))], blF [(.row false K.ki64 a)]⟩
theorem laws_heldIntS_z0 (k : Nat) (a : (List Int)) (x0_0 : Int) (x0_1 : Int) : laws_heldIntS_h0 k 0 a x0_0 x0_1 = laws_heldIntS_s0 k a (fun _ _ => none) x0_0 x0_1 := by kernel_rfl
theorem laws_heldIntS_g0 (k : Nat) (H : St → Option (Int)) (a : (List Int)) (x0_0 : Int) (x0_1 : Int) : rnd env (laws_heldIntS_O k) laws_heldIntS_v Tryz.f25 1 (fun r => laws_heldIntS_d (r.fin 1 [])) [1, 0, 1, 0] k H ⟨tmF [0, 1, 4, 5] [(.a (.sc (.sl 0))), (.a (.sc (.v (.int .i64 x0_0)))), (.a (.sc (.v (.int .i64 0)))), (.a (.sc (.v (.int .i64 x0_1))))], blF [(.row false K.ki64 a)]⟩ = laws_heldIntS_s0 k a (fun x0_0 x0_1 => H ⟨tmF [0, 1, 4, 5] [(.a (.sc (.sl 0))), (.a (.sc (.v (.int .i64 x0_0)))), (.a (.sc (.v (.int .i64 0)))), (.a (.sc (.v (.int .i64 x0_1))))], blF [(.row false K.ki64 a)]⟩) x0_0 x0_1 := by kernel_rfl
theorem laws_heldIntS_n0 (k m : Nat) (a : (List Int)) (x0_0 : Int) (x0_1 : Int) : laws_heldIntS_h0 k (m + 1) a x0_0 x0_1 = laws_heldIntS_s0 k a (laws_heldIntS_h0 k m a) x0_0 x0_1 := (hdAt_succ _ _ _ _ _ _ _ _ _ _).trans (laws_heldIntS_g0 k _ a x0_0 x0_1)
theorem laws_heldIntS_q0 (k : Nat) : ∀ m, laws_heldIntS_h0 k m = laws_heldIntS_l0 k m := by
 intro m
 induction m with
 | zero => funext a x0_0 x0_1; rw [laws_heldIntS_z0]; rfl
 | succ m ih => funext a x0_0 x0_1; rw [laws_heldIntS_n0, ih]; rfl
theorem laws_heldIntS_e (k : Nat) (a : (List Int)) (k_ : Int) : callF env (laws_heldIntS_O k) laws_heldIntS_v Tryz.f25 (k + 1) (laws_heldIntS_A a k_) (fun r => laws_heldIntS_d (r.fin 1 [])) = laws_heldIntS k a k_ := by
 have e : callF env (laws_heldIntS_O k) laws_heldIntS_v Tryz.f25 (k + 1) (laws_heldIntS_A a k_) (fun r => laws_heldIntS_d (r.fin 1 [])) = laws_heldIntS_m k (laws_heldIntS_h0 k k) a k_ := by kernel_rfl
 rw [e, laws_heldIntS_q0]; rfl
noncomputable def laws_heldIntS_x (k : Nat) : Ent1 := fun A R Q => match A with
 | ⟨[(.sc (.sl 0)), (.sc (.v (.int .i64 a2)))], [(.row false K.ki64 a1)]⟩ => (laws_heldIntS k a1 a2).bind fun y => Q ⟨(.a (.sc (.v (.int .i64 y)))), [.dead]⟩
 | _ => none
theorem laws_heldIntS_ok (k : Nat) : OkE Tryz.prog 25 (laws_heldIntS_x k) := by
 intro A R Q x h
 unfold laws_heldIntS_x at h
 split at h
 · obtain ⟨y, hy, hK⟩ := Option.bind_eq_some_iff.1 h
   obtain ⟨r, hr, hd⟩ := callF_ok envOk (laws_heldIntS_Ok k) follows Tryz.func25 (by kernel_rfl) ((laws_heldIntS_e k _ _).trans hy)
   exact ⟨_, laws_heldIntS_i hd ▸ hr.fin [], hK⟩
 · cases h
/-! ### laws.heldStock: function 55 -/
noncomputable def laws_heldStock (k : Nat)  (a : Stock) (k_ : Int) : Option (Int) :=
 (laws_heldIntS k a.Grams k_).bind fun y1 =>
 cond (decide ((y1 : Int) < 0))
  (some (-1))
  (some y1)
noncomputable def laws_heldStock_v : Nat → List Nat := fun t => match t with | _ => []
noncomputable def laws_heldStock_O (k : Nat) : Oracle := ofL [(25, laws_heldIntS_x k)]
theorem laws_heldStock_Ok (k : Nat) : OkO (Ct Tryz.prog) (laws_heldStock_O k) := okO_cons (laws_heldIntS_ok k) (okO_nil)
noncomputable def laws_heldStock_A (a : Stock) (k_ : Int) : Pk := ⟨[(.ag [(.sl 0)]), (.sc (.v (.int .i64 k_)))], [(.row false K.ki64 a.Grams)]⟩
noncomputable def laws_heldStock_d : Rs → Option (Int)
 | ⟨(.a (.sc (.v (.int .i64 r1)))), [.dead]⟩ => some r1
 | _ => none
theorem laws_heldStock_i {r : Rs} {y : Int} (h : laws_heldStock_d r = some y) : r = ⟨(.a (.sc (.v (.int .i64 y)))), [.dead]⟩ := by
 unfold laws_heldStock_d at h; split at h
 · cases h; rfl
 · cases h
theorem laws_heldStock_e (k : Nat) (a : Stock) (k_ : Int) : callF env (laws_heldStock_O k) laws_heldStock_v Tryz.f55 (k + 1) (laws_heldStock_A a k_) (fun r => laws_heldStock_d (r.fin 1 [])) = laws_heldStock k a k_ := by kernel_rfl
noncomputable def laws_heldStock_x (k : Nat) : Ent1 := fun A R Q => match A with
 | ⟨[(.ag [(.sl 0)]), (.sc (.v (.int .i64 a2)))], [(.row false K.ki64 a1)]⟩ => (laws_heldStock k (⟨a1⟩ : Stock) a2).bind fun y => Q ⟨(.a (.sc (.v (.int .i64 y)))), [.dead]⟩
 | _ => none
theorem laws_heldStock_ok (k : Nat) : OkE Tryz.prog 55 (laws_heldStock_x k) := by
 intro A R Q x h
 unfold laws_heldStock_x at h
 split at h
 · obtain ⟨y, hy, hK⟩ := Option.bind_eq_some_iff.1 h
   obtain ⟨r, hr, hd⟩ := callF_ok envOk (laws_heldStock_Ok k) follows Tryz.func55 (by kernel_rfl) ((laws_heldStock_e k _ _).trans hy)
   exact ⟨_, laws_heldStock_i hd ▸ hr.fin [], hK⟩
 · cases h
/-! ### laws.heldEventS: function 97 -/
noncomputable def laws_heldEventS_s0 (k : Nat)  (a : (List Event)) (J : Int → Int → Option (Int)) (x0_0 : Int) (x0_1 : Int) : Option (Int) :=
 cond (decide ((x0_1 : Int) < ((a).length : Int)))
 (if 0 ≤ (x0_1 : Int) ∧ (x0_1 : Int) < ((a).length : Int) then
  cond (!(decide (((a.getD (Int.toNat x0_1) dk_impl_Event).Kind : Int) = x0_0)))
   (some (-1))
   (if 0 ≤ (x0_1 : Int) ∧ (x0_1 : Int) < ((a).length : Int) then
    cond (!(decide (((a.getD (Int.toNat x0_1) dk_impl_Event).Loaves : Int) = (wr (x0_0 + 1)))))
     (some (-1))
     (J (wr ((wr (x0_0 + 1)) + 1)) (wr (x0_1 + 1))) else none) else none)
 (some x0_0)
noncomputable def laws_heldEventS_l0 (k : Nat) : Nat → (List Event) → Int → Int → Option (Int)
 | 0, a, x0_0, x0_1 => laws_heldEventS_s0 k a (fun _ _ => none) x0_0 x0_1
 | m + 1, a, x0_0, x0_1 => laws_heldEventS_s0 k a (laws_heldEventS_l0 k m a) x0_0 x0_1
noncomputable def laws_heldEventS_m (k : Nat) (J0 : (List Event) → Int → Int → Option (Int)) (a : (List Event)) (k_ : Int) : Option (Int) :=
 J0 a k_ 0
noncomputable def laws_heldEventS (k : Nat) (a : (List Event)) (k_ : Int) : Option (Int) := laws_heldEventS_m k (laws_heldEventS_l0 k k) a k_
noncomputable def laws_heldEventS_v : Nat → List Nat := fun t => match t with | 2 => [0, 1, 4, 5] | _ => []
noncomputable def laws_heldEventS_O (k : Nat) : Oracle := ofL []
theorem laws_heldEventS_Ok (k : Nat) : OkO (Ct Tryz.prog) (laws_heldEventS_O k) := okO_nil
noncomputable def laws_heldEventS_A (a : (List Event)) (k_ : Int) : Pk := ⟨[(.sc (.sl 0)), (.sc (.v (.int .i64 k_)))], [(.row false K.k_impl_Event a)]⟩
noncomputable def laws_heldEventS_d : Rs → Option (Int)
 | ⟨(.a (.sc (.v (.int .i64 r1)))), [.dead]⟩ => some r1
 | _ => none
theorem laws_heldEventS_i {r : Rs} {y : Int} (h : laws_heldEventS_d r = some y) : r = ⟨(.a (.sc (.v (.int .i64 y)))), [.dead]⟩ := by
 unfold laws_heldEventS_d at h; split at h
 · cases h; rfl
 · cases h
noncomputable def laws_heldEventS_h0 (k m : Nat) (a : (List Event)) (x0_0 : Int) (x0_1 : Int) : Option (Int) := hdAt env (laws_heldEventS_O k) laws_heldEventS_v Tryz.f97 1 (fun r => laws_heldEventS_d (r.fin 1 [])) [1, 0, 1, 0] k m ⟨tmF [0, 1, 4, 5] [(.a (.sc (.sl 0))), (.a (.sc (.v (.int .i64 x0_0)))), (.a (.sc (.v (.int .i64 0)))), (.a (.sc (.v (.int .i64 x0_1))))], blF [(.row false K.k_impl_Event a)]⟩
theorem laws_heldEventS_z0 (k : Nat) (a : (List Event)) (x0_0 : Int) (x0_1 : Int) : laws_heldEventS_h0 k 0 a x0_0 x0_1 = laws_heldEventS_s0 k a (fun _ _ => none) x0_0 x0_1 := by kernel_rfl
theorem laws_heldEventS_g0 (k : Nat) (H : St → Option (Int)) (a : (List Event)) (x0_0 : Int) (x0_1 : Int) : rnd env (laws_heldEventS_O k) laws_heldEventS_v Tryz.f97 1 (fun r => laws_heldEventS_d (r.fin 1 [])) [1, 0, 1, 0] k H ⟨tmF [0, 1, 4, 5] [(.a (.sc (.sl 0))), (.a (.sc (.v (.int .i64 x0_0)))), (.a (.sc (.v (.int .i64 0)))), (.a (.sc (.v (.int .i64 x0_1))))], blF [(.row false K.k_impl_Event a)]⟩ = laws_heldEventS_s0 k a (fun x0_0 x0_1 => H ⟨tmF [0, 1, 4, 5] [(.a (.sc (.sl 0))), (.a (.sc (.v (.int .i64 x0_0)))), (.a (.sc (.v (.int .i64 0)))), (.a (.sc (.v (.int .i64 x0_1))))], blF [(.row false K.k_impl_Event a)]⟩) x0_0 x0_1 := by kernel_rfl
theorem laws_heldEventS_n0 (k m : Nat) (a : (List Event)) (x0_0 : Int) (x0_1 : Int) : laws_heldEventS_h0 k (m + 1) a x0_0 x0_1 = laws_heldEventS_s0 k a (laws_heldEventS_h0 k m a) x0_0 x0_1 := (hdAt_succ _ _ _ _ _ _ _ _ _ _).trans (laws_heldEventS_g0 k _ a x0_0 x0_1)
theorem laws_heldEventS_q0 (k : Nat) : ∀ m, laws_heldEventS_h0 k m = laws_heldEventS_l0 k m := by
 intro m
 induction m with
 | zero => funext a x0_0 x0_1; rw [laws_heldEventS_z0]; rfl
 | succ m ih => funext a x0_0 x0_1; rw [laws_heldEventS_n0, ih]; rfl
theorem laws_heldEventS_e (k : Nat) (a : (List Event)) (k_ : Int) : callF env (laws_heldEventS_O k) laws_heldEventS_v Tryz.f97 (k + 1) (laws_heldEventS_A a k_) (fun r => laws_heldEventS_d (r.fin 1 [])) = laws_heldEventS k a k_ := by
 have e : callF env (laws_heldEventS_O k) laws_heldEventS_v Tryz.f97 (k + 1) (laws_heldEventS_A a k_) (fun r => laws_heldEventS_d (r.fin 1 [])) = laws_heldEventS_m k (laws_heldEventS_h0 k k) a k_ := by kernel_rfl
 rw [e, laws_heldEventS_q0]; rfl
noncomputable def laws_heldEventS_x (k : Nat) : Ent1 := fun A R Q => match A with
 | ⟨[(.sc (.sl 0)), (.sc (.v (.int .i64 a2)))], [(.row false K.k_impl_Event a1)]⟩ => (laws_heldEventS k a1 a2).bind fun y => Q ⟨(.a (.sc (.v (.int .i64 y)))), [.dead]⟩
 | _ => none
theorem laws_heldEventS_ok (k : Nat) : OkE Tryz.prog 97 (laws_heldEventS_x k) := by
 intro A R Q x h
 unfold laws_heldEventS_x at h
 split at h
 · obtain ⟨y, hy, hK⟩ := Option.bind_eq_some_iff.1 h
   obtain ⟨r, hr, hd⟩ := callF_ok envOk (laws_heldEventS_Ok k) follows Tryz.func97 (by kernel_rfl) ((laws_heldEventS_e k _ _).trans hy)
   exact ⟨_, laws_heldEventS_i hd ▸ hr.fin [], hK⟩
 · cases h
end Go.Proofs.YtlhcphoojiemmaaGreatX
