/- What functions of the program compute, as functions of numbers and lists, and that they do. (The file is written by wip/x/vxp.py of this repository.) -/
import Derived.Test.YtlenacakmmikiaaGreatDoorF2
import Derived.Test.YtlenacakmmikiaaGreatDoorX18
namespace Go.Proofs.YtlenacakmmikiaaGreatDoorX
open Go Go.Proofs
set_option linter.unusedVariables false
set_option maxRecDepth 100000
/-! ### spec.FormatBakery: function 23 -/
noncomputable def spec_FormatBakery (k : Nat)  (b : Bakery) : Option ((List ByteArray)) :=
 (spec_BakeryOk k b).bind fun y1 =>
 cond (!y1)
  (some ([]))
  ((spec_l39Line k (ByteArray.mk #[115, 116, 111, 99, 107]) b.Stock.Grams).bind fun y2 =>
   (spec_l39Line k (ByteArray.mk #[114, 97, 99, 107]) ([b.Book.Rack.Fresh, b.Book.Rack.Day, b.Book.Rack.Old])).bind fun y3 =>
    (spec_l39Line k (ByteArray.mk #[98, 111, 111, 107]) ([b.Book.Baked, b.Book.Sold, b.Book.Thrown])).bind fun y4 =>
     (spec_l39Line k (ByteArray.mk #[109, 111, 110, 101, 121]) ([b.Money])).bind fun y5 =>
      some ([y2, y3, y4, y5]))
noncomputable def spec_FormatBakery_v : Nat → List Nat := fun t => match t with | _ => []
noncomputable def spec_FormatBakery_O (k : Nat) : Oracle := ofL [(44, spec_BakeryOk_x k), (48, spec_l39Line_x k)]
theorem spec_FormatBakery_Ok (k : Nat) : OkO (Ct Tryz.prog) (spec_FormatBakery_O k) := okO_cons (spec_BakeryOk_ok k) (okO_cons (spec_l39Line_ok k) (okO_nil))
noncomputable def spec_FormatBakery_A (b : Bakery) : Pk := ⟨[(.ag [(.sl 0), (.v (.int .i64 b.Dough.Water)), (.v (.int .i64 b.Dough.Salt)), (.v (.int .i64 b.Dough.Leaven)), (.v (.int .i64 b.Loaf.Weight)), (.v (.int .i64 b.Loaf.Loss)), (.sl 1), (.v (.int .i64 b.Book.Rack.Fresh)), (.v (.int .i64 b.Book.Rack.Day)), (.v (.int .i64 b.Book.Rack.Old)), (.v (.int .i64 b.Book.Baked)), (.v (.int .i64 b.Book.Sold)), (.v (.int .i64 b.Book.Thrown)), (.v (.int .i64 b.Money))])], [(.row false K.ki64 b.Stock.Grams), (.row false K.k_impl_Event b.Book.Events)]⟩
noncomputable def spec_FormatBakery_d : Rs → Option ((List ByteArray))
 | ⟨(.a (.sc (.sl 2))), [.dead, .dead, (.row true K.kstr r1)]⟩ => some r1
 | _ => none
theorem spec_FormatBakery_i {r : Rs} {y : (List ByteArray)} (h : spec_FormatBakery_d r = some y) : r = ⟨(.a (.sc (.sl 2))), [.dead, .dead, (.row true K.kstr y)]⟩ := by
 unfold spec_FormatBakery_d at h; split at h
 · cases h; rfl
 · cases h
theorem spec_FormatBakery_e (k : Nat) (b : Bakery) : callF env (spec_FormatBakery_O k) spec_FormatBakery_v Tryz.f23 (k + 1) (spec_FormatBakery_A b) (fun r => spec_FormatBakery_d (r.fin 2 [])) = spec_FormatBakery k b := by kernel_rfl
noncomputable def spec_FormatBakery_x (k : Nat) : Ent1 := fun A R Q => match A with
 | ⟨[(.ag [(.sl 0), (.v (.int .i64 a2)), (.v (.int .i64 a3)), (.v (.int .i64 a4)), (.v (.int .i64 a5)), (.v (.int .i64 a6)), (.sl 1), (.v (.int .i64 a8)), (.v (.int .i64 a9)), (.v (.int .i64 a10)), (.v (.int .i64 a11)), (.v (.int .i64 a12)), (.v (.int .i64 a13)), (.v (.int .i64 a14))])], [(.row false K.ki64 a1), (.row false K.k_impl_Event a7)]⟩ => (spec_FormatBakery k (⟨(⟨a1⟩ : Stock), (⟨a2, a3, a4⟩ : Dough), (⟨a5, a6⟩ : Loaf), (⟨a7, (⟨a8, a9, a10⟩ : Rack), a11, a12, a13⟩ : Book), a14⟩ : Bakery)).bind fun y => Q ⟨(.a (.sc (.sl 2))), [.dead, .dead, (.row true K.kstr y)]⟩
 | _ => none
theorem spec_FormatBakery_ok (k : Nat) : OkE Tryz.prog 23 (spec_FormatBakery_x k) := by
 intro A R Q x h
 unfold spec_FormatBakery_x at h
 split at h
 · obtain ⟨y, hy, hK⟩ := Option.bind_eq_some_iff.1 h
   obtain ⟨r, hr, hd⟩ := callF_ok envOk (spec_FormatBakery_Ok k) follows Tryz.func23 (by kernel_rfl) ((spec_FormatBakery_e k _).trans hy)
   exact ⟨_, spec_FormatBakery_i hd ▸ hr.fin [], hK⟩
 · cases h
/-! ### spec.RunScript: function 5 -/
noncomputable def spec_RunScript_s1 (k : Nat)  (y20 : Bakery × (List Int)) (J : Int → (List ByteArray) → Option ((List ByteArray) × Bool)) (x1_0 : Int) (x1_1 : (List ByteArray)) : Option ((List ByteArray) × Bool) :=
 cond (decide ((x1_0 : Int) < ((y20.2).length : Int)))
 (if 0 ≤ (x1_0 : Int) ∧ (x1_0 : Int) < ((y20.2).length : Int) then
  (spec_FormatInt k (y20.2.getD (Int.toNat x1_0) 0)).bind fun y23 =>
   if (x1_1 : List ByteArray).length + ([y23] : List ByteArray).length ≤ maxRow then
    J (wr (x1_0 + 1)) (x1_1 ++ [y23]) else none else none)
 ((spec_FormatBakery k y20.1).bind fun y24 =>
  if (x1_1 : List ByteArray).length + (y24 : List ByteArray).length ≤ maxRow then
   some ((x1_1 ++ y24), true) else none)
noncomputable def spec_RunScript_l1 (k : Nat) : Nat → Bakery × (List Int) → Int → (List ByteArray) → Option ((List ByteArray) × Bool)
 | 0, y20, x1_0, x1_1 => spec_RunScript_s1 k y20 (fun _ _ => none) x1_0 x1_1
 | m + 1, y20, x1_0, x1_1 => spec_RunScript_s1 k y20 (spec_RunScript_l1 k m y20) x1_0 x1_1
noncomputable def spec_RunScript_s0 (k : Nat) (J1 : Bakery × (List Int) → Int → (List ByteArray) → Option ((List ByteArray) × Bool)) (text : ByteArray) (J : Int → Int → (List Deed) → Option ((List ByteArray) × Bool)) (x0_0 : Int) (x0_1 : Int) (x0_2 : (List Deed)) : Option ((List ByteArray) × Bool) :=
 cond (decide ((x0_1 : Int) ≤ ((text).size : Int)))
 (cond (decide ((x0_1 : Int) < ((text).size : Int)))
  (if 0 ≤ (x0_1 : Int) ∧ (x0_1 : Int) < ((text).size : Int) then
   cond (!(decide (((byteAt text (Int.toNat x0_1)) : Int) = 10)))
    (J x0_0 (wr (x0_1 + 1)) x0_2)
    (if (0 : Int) ≤ x0_0 ∧ x0_0 ≤ x0_1 ∧ x0_1 ≤ ((text).size : Int) then
     (spec_SplitFields k (text.extract (Int.toNat x0_0) (Int.toNat x0_1))).bind fun y13 =>
      cond y13.2
       (cond (decide ((((y13.1).length : Int) : Int) = 0))
        (J (wr (x0_1 + 1)) (wr (x0_1 + 1)) x0_2)
        ((spec_ParseAct k (text.extract (Int.toNat x0_0) (Int.toNat x0_1))).bind fun y15 =>
        cond (!y15.2)
        (some ([], false))
        (if (x0_2 : List Deed).length + ([y15.1] : List Deed).length ≤ maxRow then
        J (wr (x0_1 + 1)) (wr (x0_1 + 1)) (x0_2 ++ [y15.1]) else none)))
       ((spec_ParseAct k (text.extract (Int.toNat x0_0) (Int.toNat x0_1))).bind fun y16 =>
        cond (!y16.2)
        (some ([], false))
        (if (x0_2 : List Deed).length + ([y16.1] : List Deed).length ≤ maxRow then
        J (wr (x0_1 + 1)) (wr (x0_1 + 1)) (x0_2 ++ [y16.1]) else none)) else none) else none)
  (if (0 : Int) ≤ x0_0 ∧ x0_0 ≤ x0_1 ∧ x0_1 ≤ ((text).size : Int) then
   (spec_SplitFields k (text.extract (Int.toNat x0_0) (Int.toNat x0_1))).bind fun y14 =>
    cond y14.2
     (cond (decide ((((y14.1).length : Int) : Int) = 0))
      (J (wr (x0_1 + 1)) (wr (x0_1 + 1)) x0_2)
      ((spec_ParseAct k (text.extract (Int.toNat x0_0) (Int.toNat x0_1))).bind fun y17 =>
       cond (!y17.2)
        (some ([], false))
        (if (x0_2 : List Deed).length + ([y17.1] : List Deed).length ≤ maxRow then
        J (wr (x0_1 + 1)) (wr (x0_1 + 1)) (x0_2 ++ [y17.1]) else none)))
     ((spec_ParseAct k (text.extract (Int.toNat x0_0) (Int.toNat x0_1))).bind fun y18 =>
      cond (!y18.2)
       (some ([], false))
       (if (x0_2 : List Deed).length + ([y18.1] : List Deed).length ≤ maxRow then
        J (wr (x0_1 + 1)) (wr (x0_1 + 1)) (x0_2 ++ [y18.1]) else none)) else none))
 (cond (decide ((40 : Int) < ((x0_2).length : Int)))
  (some ([], false))
  ((spec_SampleBakery k).bind fun y19 =>
   (spec_RunActs k y19 x0_2).bind fun y20 =>
    J1 y20 0 ([])))
noncomputable def spec_RunScript_l0 (k : Nat) : Nat → ByteArray → Int → Int → (List Deed) → Option ((List ByteArray) × Bool)
 | 0, text, x0_0, x0_1, x0_2 => spec_RunScript_s0 k (spec_RunScript_l1 k k) text (fun _ _ _ => none) x0_0 x0_1 x0_2
 | m + 1, text, x0_0, x0_1, x0_2 => spec_RunScript_s0 k (spec_RunScript_l1 k k) text (spec_RunScript_l0 k m text) x0_0 x0_1 x0_2
noncomputable def spec_RunScript_m (k : Nat) (J0 : ByteArray → Int → Int → (List Deed) → Option ((List ByteArray) × Bool)) (text : ByteArray) : Option ((List ByteArray) × Bool) :=
 cond (decide ((20000 : Int) < ((text).size : Int)))
 (some ([], false))
 (J0 text 0 0 ([]))
noncomputable def spec_RunScript (k : Nat) (text : ByteArray) : Option ((List ByteArray) × Bool) := spec_RunScript_m k (spec_RunScript_l0 k k) text
noncomputable def spec_RunScript_v : Nat → List Nat := fun t => match t with | 7 => [0, 2, 3, 4, 5, 6, 7] | 23 => [2, 3, 13, 14, 15, 16] | _ => []
noncomputable def spec_RunScript_O (k : Nat) : Oracle := ofL [(18, spec_SplitFields_x k), (19, spec_ParseAct_x k), (20, spec_RunActs_x k), (21, spec_SampleBakery_x k), (22, spec_FormatInt_x k), (23, spec_FormatBakery_x k)]
theorem spec_RunScript_Ok (k : Nat) : OkO (Ct Tryz.prog) (spec_RunScript_O k) := okO_cons (spec_SplitFields_ok k) (okO_cons (spec_ParseAct_ok k) (okO_cons (spec_RunActs_ok k) (okO_cons (spec_SampleBakery_ok k) (okO_cons (spec_FormatInt_ok k) (okO_cons (spec_FormatBakery_ok k) (okO_nil))))))
noncomputable def spec_RunScript_A (text : ByteArray) : Pk := ⟨[(.sc (.v (.string text)))], []⟩
noncomputable def spec_RunScript_d : Rs → Option ((List ByteArray) × Bool)
 | ⟨(.tp [(.sc (.sl 0)), (.sc (.v (.bool r2)))]), [(.row true K.kstr r1)]⟩ => some (r1, r2)
 | _ => none
theorem spec_RunScript_i {r : Rs} {y : (List ByteArray) × Bool} (h : spec_RunScript_d r = some y) : r = ⟨(.tp [(.sc (.sl 0)), (.sc (.v (.bool y.2)))]), [(.row true K.kstr y.1)]⟩ := by
 unfold spec_RunScript_d at h; split at h
 · cases h; rfl
 · cases h
noncomputable def spec_RunScript_h1 (k m : Nat) (y20 : Bakery × (List Int)) (x1_0 : Int) (x1_1 : (List ByteArray)) : Option ((List ByteArray) × Bool) := hdAt env (spec_RunScript_O k) spec_RunScript_v Tryz.f5 0 (fun r => spec_RunScript_d (r.fin 0 [])) [1, 1, 1, 1, 1, 1, 1, 1, 1, 0, 1, 0] k m ⟨tmF [2, 3, 13, 14, 15, 16] [(.a (.sc .nl)), (.a (.sc (.v (.bool false)))), (.a (.sc (.bp 2 0))), (.a (.sc (.sl 3))), (.a (.sc (.sl 4))), (.a (.sc (.v (.int .i64 x1_0))))], blF [(.row true K.ki64 y20.1.Stock.Grams), (.row true K.k_impl_Event y20.1.Book.Events), (.box true [(.sl 0), (.v (.int .i64 y20.1.Dough.Water)), (.v (.int .i64 y20.1.Dough.Salt)), (.v (.int .i64 y20.1.Dough.Leaven)), (.v (.int .i64 y20.1.Loaf.Weight)), (.v (.int .i64 y20.1.Loaf.Loss)), (.sl 1), (.v (.int .i64 y20.1.Book.Rack.Fresh)), (.v (.int .i64 y20.1.Book.Rack.Day)), (.v (.int .i64 y20.1.Book.Rack.Old)), (.v (.int .i64 y20.1.Book.Baked)), (.v (.int .i64 y20.1.Book.Sold)), (.v (.int .i64 y20.1.Book.Thrown)), (.v (.int .i64 y20.1.Money))]), (.row true K.ki64 y20.2), (.row true K.kstr x1_1)]⟩
theorem spec_RunScript_z1 (k : Nat) (y20 : Bakery × (List Int)) (x1_0 : Int) (x1_1 : (List ByteArray)) : spec_RunScript_h1 k 0 y20 x1_0 x1_1 = spec_RunScript_s1 k y20 (fun _ _ => none) x1_0 x1_1 := by kernel_rfl
theorem spec_RunScript_g1 (k : Nat) (H : St → Option ((List ByteArray) × Bool)) (y20 : Bakery × (List Int)) (x1_0 : Int) (x1_1 : (List ByteArray)) : rnd env (spec_RunScript_O k) spec_RunScript_v Tryz.f5 0 (fun r => spec_RunScript_d (r.fin 0 [])) [1, 1, 1, 1, 1, 1, 1, 1, 1, 0, 1, 0] k H ⟨tmF [2, 3, 13, 14, 15, 16] [(.a (.sc .nl)), (.a (.sc (.v (.bool false)))), (.a (.sc (.bp 2 0))), (.a (.sc (.sl 3))), (.a (.sc (.sl 4))), (.a (.sc (.v (.int .i64 x1_0))))], blF [(.row true K.ki64 y20.1.Stock.Grams), (.row true K.k_impl_Event y20.1.Book.Events), (.box true [(.sl 0), (.v (.int .i64 y20.1.Dough.Water)), (.v (.int .i64 y20.1.Dough.Salt)), (.v (.int .i64 y20.1.Dough.Leaven)), (.v (.int .i64 y20.1.Loaf.Weight)), (.v (.int .i64 y20.1.Loaf.Loss)), (.sl 1), (.v (.int .i64 y20.1.Book.Rack.Fresh)), (.v (.int .i64 y20.1.Book.Rack.Day)), (.v (.int .i64 y20.1.Book.Rack.Old)), (.v (.int .i64 y20.1.Book.Baked)), (.v (.int .i64 y20.1.Book.Sold)), (.v (.int .i64 y20.1.Book.Thrown)), (.v (.int .i64 y20.1.Money))]), (.row true K.ki64 y20.2), (.row true K.kstr x1_1)]⟩ = spec_RunScript_s1 k y20 (fun x1_0 x1_1 => H ⟨tmF [2, 3, 13, 14, 15, 16] [(.a (.sc .nl)), (.a (.sc (.v (.bool false)))), (.a (.sc (.bp 2 0))), (.a (.sc (.sl 3))), (.a (.sc (.sl 4))), (.a (.sc (.v (.int .i64 x1_0))))], blF [(.row true K.ki64 y20.1.Stock.Grams), (.row true K.k_impl_Event y20.1.Book.Events), (.box true [(.sl 0), (.v (.int .i64 y20.1.Dough.Water)), (.v (.int .i64 y20.1.Dough.Salt)), (.v (.int .i64 y20.1.Dough.Leaven)), (.v (.int .i64 y20.1.Loaf.Weight)), (.v (.int .i64 y20.1.Loaf.Loss)), (.sl 1), (.v (.int .i64 y20.1.Book.Rack.Fresh)), (.v (.int .i64 y20.1.Book.Rack.Day)), (.v (.int .i64 y20.1.Book.Rack.Old)), (.v (.int .i64 y20.1.Book.Baked)), (.v (.int .i64 y20.1.Book.Sold)), (.v (.int .i64 y20.1.Book.Thrown)), (.v (.int .i64 y20.1.Money))]), (.row true K.ki64 y20.2), (.row true K.kstr x1_1)]⟩) x1_0 x1_1 := by kernel_rfl
theorem spec_RunScript_n1 (k m : Nat) (y20 : Bakery × (List Int)) (x1_0 : Int) (x1_1 : (List ByteArray)) : spec_RunScript_h1 k (m + 1) y20 x1_0 x1_1 = spec_RunScript_s1 k y20 (spec_RunScript_h1 k m y20) x1_0 x1_1 := (hdAt_succ _ _ _ _ _ _ _ _ _ _).trans (spec_RunScript_g1 k _ y20 x1_0 x1_1)
theorem spec_RunScript_q1 (k : Nat) : ∀ m, spec_RunScript_h1 k m = spec_RunScript_l1 k m := by
 intro m
 induction m with
 | zero => funext y20 x1_0 x1_1; rw [spec_RunScript_z1]; rfl
 | succ m ih => funext y20 x1_0 x1_1; rw [spec_RunScript_n1, ih]; rfl
noncomputable def spec_RunScript_h0 (k m : Nat) (text : ByteArray) (x0_0 : Int) (x0_1 : Int) (x0_2 : (List Deed)) : Option ((List ByteArray) × Bool) := hdAt env (spec_RunScript_O k) spec_RunScript_v Tryz.f5 0 (fun r => spec_RunScript_d (r.fin 0 [])) [1, 1, 1, 1, 1, 0, 1, 0] k m ⟨tmF [0, 2, 3, 4, 5, 6, 7] [(.a (.sc (.v (.string text)))), (.a (.sc .nl)), (.a (.sc (.v (.bool false)))), (.a (.sc (.sl 0))), (.a (.sc (.sl 1))), (.a (.sc (.v (.int .i64 x0_0)))), (.a (.sc (.v (.int .i64 x0_1))))], blF [(.row true K.kstr []), (.row true K.k_impl_Act x0_2)]⟩
theorem spec_RunScript_z0 (k : Nat) (text : ByteArray) (x0_0 : Int) (x0_1 : Int) (x0_2 : (List Deed)) : spec_RunScript_h0 k 0 text x0_0 x0_1 x0_2 = spec_RunScript_s0 k (spec_RunScript_h1 k k) text (fun _ _ _ => none) x0_0 x0_1 x0_2 := by kernel_rfl
theorem spec_RunScript_g0 (k : Nat) (H : St → Option ((List ByteArray) × Bool)) (text : ByteArray) (x0_0 : Int) (x0_1 : Int) (x0_2 : (List Deed)) : rnd env (spec_RunScript_O k) spec_RunScript_v Tryz.f5 0 (fun r => spec_RunScript_d (r.fin 0 [])) [1, 1, 1, 1, 1, 0, 1, 0] k H ⟨tmF [0, 2, 3, 4, 5, 6, 7] [(.a (.sc (.v (.string text)))), (.a (.sc .nl)), (.a (.sc (.v (.bool false)))), (.a (.sc (.sl 0))), (.a (.sc (.sl 1))), (.a (.sc (.v (.int .i64 x0_0)))), (.a (.sc (.v (.int .i64 x0_1))))], blF [(.row true K.kstr []), (.row true K.k_impl_Act x0_2)]⟩ = spec_RunScript_s0 k (spec_RunScript_h1 k k) text (fun x0_0 x0_1 x0_2 => H ⟨tmF [0, 2, 3, 4, 5, 6, 7] [(.a (.sc (.v (.string text)))), (.a (.sc .nl)), (.a (.sc (.v (.bool false)))), (.a (.sc (.sl 0))), (.a (.sc (.sl 1))), (.a (.sc (.v (.int .i64 x0_0)))), (.a (.sc (.v (.int .i64 x0_1))))], blF [(.row true K.kstr []), (.row true K.k_impl_Act x0_2)]⟩) x0_0 x0_1 x0_2 := by kernel_rfl
theorem spec_RunScript_n0 (k m : Nat) (text : ByteArray) (x0_0 : Int) (x0_1 : Int) (x0_2 : (List Deed)) : spec_RunScript_h0 k (m + 1) text x0_0 x0_1 x0_2 = spec_RunScript_s0 k (spec_RunScript_h1 k k) text (spec_RunScript_h0 k m text) x0_0 x0_1 x0_2 := (hdAt_succ _ _ _ _ _ _ _ _ _ _).trans (spec_RunScript_g0 k _ text x0_0 x0_1 x0_2)
theorem spec_RunScript_q0 (k : Nat) : ∀ m, spec_RunScript_h0 k m = spec_RunScript_l0 k m := by
 intro m
 induction m with
 | zero => funext text x0_0 x0_1 x0_2; rw [spec_RunScript_z0, spec_RunScript_q1]; rfl
 | succ m ih => funext text x0_0 x0_1 x0_2; rw [spec_RunScript_n0, ih, spec_RunScript_q1]; rfl
theorem spec_RunScript_e (k : Nat) (text : ByteArray) : callF env (spec_RunScript_O k) spec_RunScript_v Tryz.f5 (k + 1) (spec_RunScript_A text) (fun r => spec_RunScript_d (r.fin 0 [])) = spec_RunScript k text := by
 have e : ∀ H : St → Option ((List ByteArray) × Bool), callE env (spec_RunScript_O k) spec_RunScript_v Tryz.f5 (k + 1) (spec_RunScript_A text) [1, 1, 1, 1, 1, 0, 1, 0] (fun r => spec_RunScript_d (r.fin 0 [])) H = spec_RunScript_m k (fun text x0_0 x0_1 x0_2 => H ⟨tmF [0, 2, 3, 4, 5, 6, 7] [(.a (.sc (.v (.string text)))), (.a (.sc .nl)), (.a (.sc (.v (.bool false)))), (.a (.sc (.sl 0))), (.a (.sc (.sl 1))), (.a (.sc (.v (.int .i64 x0_0)))), (.a (.sc (.v (.int .i64 x0_1))))], blF [(.row true K.kstr []), (.row true K.k_impl_Act x0_2)]⟩) text := fun H => by kernel_rfl
 exact (callE_eq env (spec_RunScript_O k) spec_RunScript_v Tryz.f5 k (spec_RunScript_A text) [1, 1, 1, 1, 1, 0, 1, 0] 0 (fun r => spec_RunScript_d (r.fin 0 [])) rfl (by kernel_rfl)).trans ((e (hdAt env (spec_RunScript_O k) spec_RunScript_v Tryz.f5 0 (fun r => spec_RunScript_d (r.fin 0 [])) [1, 1, 1, 1, 1, 0, 1, 0] k k)).trans (by
  show spec_RunScript_m k (spec_RunScript_h0 k k) text = _
  rw [spec_RunScript_q0]; rfl))
noncomputable def spec_RunScript_x (k : Nat) : Ent1 := fun A R Q => match A with
 | ⟨[(.sc (.v (.string a1)))], []⟩ => (spec_RunScript k a1).bind fun y => Q ⟨(.tp [(.sc (.sl 0)), (.sc (.v (.bool y.2)))]), [(.row true K.kstr y.1)]⟩
 | _ => none
theorem spec_RunScript_ok (k : Nat) : OkE Tryz.prog 5 (spec_RunScript_x k) := by
 intro A R Q x h
 unfold spec_RunScript_x at h
 split at h
 · obtain ⟨y, hy, hK⟩ := Option.bind_eq_some_iff.1 h
   obtain ⟨r, hr, hd⟩ := callF_ok envOk (spec_RunScript_Ok k) follows Tryz.func5 (by kernel_rfl) ((spec_RunScript_e k _).trans hy)
   exact ⟨_, spec_RunScript_i hd ▸ hr.fin [], hK⟩
 · cases h
/-! ### impl.SplitFields: function 25 -/
noncomputable def impl_SplitFields_s0 (k : Nat)  (line : ByteArray) (J : Int → Option ((List ByteArray) × Bool)) (x0_0 : Int) : Option ((List ByteArray) × Bool) :=
 cond (decide ((x0_0 : Int) < ((line).size : Int)))
 (if 0 ≤ (x0_0 : Int) ∧ (x0_0 : Int) < ((line).size : Int) then
  cond (decide (((byteAt line (Int.toNat x0_0)) : Int) < 32))
   (some ([], false))
   (if 0 ≤ (x0_0 : Int) ∧ (x0_0 : Int) < ((line).size : Int) then
    cond (decide ((126 : Int) < (byteAt line (Int.toNat x0_0))))
     (some ([], false))
     (J (wr (x0_0 + 1))) else none) else none)
 ((strings_FieldsFunc k line).bind fun y2 =>
  cond (decide ((24 : Int) < ((y2).length : Int)))
   (some ([], false))
   (some (y2, true)))
noncomputable def impl_SplitFields_l0 (k : Nat) : Nat → ByteArray → Int → Option ((List ByteArray) × Bool)
 | 0, line, x0_0 => impl_SplitFields_s0 k line (fun _ => none) x0_0
 | m + 1, line, x0_0 => impl_SplitFields_s0 k line (impl_SplitFields_l0 k m line) x0_0
noncomputable def impl_SplitFields_m (k : Nat) (J0 : ByteArray → Int → Option ((List ByteArray) × Bool)) (line : ByteArray) : Option ((List ByteArray) × Bool) :=
 cond (decide ((600 : Int) < ((line).size : Int)))
 (some ([], false))
 (J0 line 0)
noncomputable def impl_SplitFields (k : Nat) (line : ByteArray) : Option ((List ByteArray) × Bool) := impl_SplitFields_m k (impl_SplitFields_l0 k k) line
noncomputable def impl_SplitFields_v : Nat → List Nat := fun t => match t with | 4 => [0, 2, 3, 10, 11] | _ => []
noncomputable def impl_SplitFields_O (k : Nat) : Oracle := ofL [(50, strings_FieldsFunc_x k)]
theorem impl_SplitFields_Ok (k : Nat) : OkO (Ct Tryz.prog) (impl_SplitFields_O k) := okO_cons (strings_FieldsFunc_ok k) (okO_nil)
noncomputable def impl_SplitFields_A (line : ByteArray) : Pk := ⟨[(.sc (.v (.string line)))], []⟩
noncomputable def impl_SplitFields_d : Rs → Option ((List ByteArray) × Bool)
 | ⟨(.tp [(.sc (.sl 0)), (.sc (.v (.bool r2)))]), [(.row true K.kstr r1)]⟩ => some (r1, r2)
 | _ => none
theorem impl_SplitFields_i {r : Rs} {y : (List ByteArray) × Bool} (h : impl_SplitFields_d r = some y) : r = ⟨(.tp [(.sc (.sl 0)), (.sc (.v (.bool y.2)))]), [(.row true K.kstr y.1)]⟩ := by
 unfold impl_SplitFields_d at h; split at h
 · cases h; rfl
 · cases h
noncomputable def impl_SplitFields_h0 (k m : Nat) (line : ByteArray) (x0_0 : Int) : Option ((List ByteArray) × Bool) := hdAt env (impl_SplitFields_O k) impl_SplitFields_v Tryz.f25 0 (fun r => impl_SplitFields_d (r.fin 0 [K.kstr])) [1, 1, 0, 1, 0] k m ⟨tmF [0, 2, 3, 10, 11] [(.a (.sc (.v (.string line)))), (.a (.sc .nl)), (.a (.sc (.v (.bool false)))), (.a (.sc (.v (.int .i64 ((line).size : Int))))), (.a (.sc (.v (.int .i64 x0_0))))], blF []⟩
theorem impl_SplitFields_z0 (k : Nat) (line : ByteArray) (x0_0 : Int) : impl_SplitFields_h0 k 0 line x0_0 = impl_SplitFields_s0 k line (fun _ => none) x0_0 := by kernel_rfl
theorem impl_SplitFields_g0 (k : Nat) (H : St → Option ((List ByteArray) × Bool)) (line : ByteArray) (x0_0 : Int) : rnd env (impl_SplitFields_O k) impl_SplitFields_v Tryz.f25 0 (fun r => impl_SplitFields_d (r.fin 0 [K.kstr])) [1, 1, 0, 1, 0] k H ⟨tmF [0, 2, 3, 10, 11] [(.a (.sc (.v (.string line)))), (.a (.sc .nl)), (.a (.sc (.v (.bool false)))), (.a (.sc (.v (.int .i64 ((line).size : Int))))), (.a (.sc (.v (.int .i64 x0_0))))], blF []⟩ = impl_SplitFields_s0 k line (fun x0_0 => H ⟨tmF [0, 2, 3, 10, 11] [(.a (.sc (.v (.string line)))), (.a (.sc .nl)), (.a (.sc (.v (.bool false)))), (.a (.sc (.v (.int .i64 ((line).size : Int))))), (.a (.sc (.v (.int .i64 x0_0))))], blF []⟩) x0_0 := by kernel_rfl
theorem impl_SplitFields_n0 (k m : Nat) (line : ByteArray) (x0_0 : Int) : impl_SplitFields_h0 k (m + 1) line x0_0 = impl_SplitFields_s0 k line (impl_SplitFields_h0 k m line) x0_0 := (hdAt_succ _ _ _ _ _ _ _ _ _ _).trans (impl_SplitFields_g0 k _ line x0_0)
theorem impl_SplitFields_q0 (k : Nat) : ∀ m, impl_SplitFields_h0 k m = impl_SplitFields_l0 k m := by
 intro m
 induction m with
 | zero => funext line x0_0; rw [impl_SplitFields_z0]; rfl
 | succ m ih => funext line x0_0; rw [impl_SplitFields_n0, ih]; rfl
theorem impl_SplitFields_e (k : Nat) (line : ByteArray) : callF env (impl_SplitFields_O k) impl_SplitFields_v Tryz.f25 (k + 1) (impl_SplitFields_A line) (fun r => impl_SplitFields_d (r.fin 0 [K.kstr])) = impl_SplitFields k line := by
 have e : ∀ H : St → Option ((List ByteArray) × Bool), callE env (impl_SplitFields_O k) impl_SplitFields_v Tryz.f25 (k + 1) (impl_SplitFields_A line) [1, 1, 0, 1, 0] (fun r => impl_SplitFields_d (r.fin 0 [K.kstr])) H = impl_SplitFields_m k (fun line x0_0 => H ⟨tmF [0, 2, 3, 10, 11] [(.a (.sc (.v (.string line)))), (.a (.sc .nl)), (.a (.sc (.v (.bool false)))), (.a (.sc (.v (.int .i64 ((line).size : Int))))), (.a (.sc (.v (.int .i64 x0_0))))], blF []⟩) line := fun H => by kernel_rfl
 exact (callE_eq env (impl_SplitFields_O k) impl_SplitFields_v Tryz.f25 k (impl_SplitFields_A line) [1, 1, 0, 1, 0] 0 (fun r => impl_SplitFields_d (r.fin 0 [K.kstr])) rfl (by kernel_rfl)).trans ((e (hdAt env (impl_SplitFields_O k) impl_SplitFields_v Tryz.f25 0 (fun r => impl_SplitFields_d (r.fin 0 [K.kstr])) [1, 1, 0, 1, 0] k k)).trans (by
  show impl_SplitFields_m k (impl_SplitFields_h0 k k) line = _
  rw [impl_SplitFields_q0]; rfl))
noncomputable def impl_SplitFields_x (k : Nat) : Ent1 := fun A R Q => match A with
 | ⟨[(.sc (.v (.string a1)))], []⟩ => (impl_SplitFields k a1).bind fun y => Q ⟨(.tp [(.sc (.sl 0)), (.sc (.v (.bool y.2)))]), [(.row true K.kstr y.1)]⟩
 | _ => none
theorem impl_SplitFields_ok (k : Nat) : OkE Tryz.prog 25 (impl_SplitFields_x k) := by
 intro A R Q x h
 unfold impl_SplitFields_x at h
 split at h
 · obtain ⟨y, hy, hK⟩ := Option.bind_eq_some_iff.1 h
   obtain ⟨r, hr, hd⟩ := callF_ok envOk (impl_SplitFields_Ok k) follows Tryz.func25 (by kernel_rfl) ((impl_SplitFields_e k _).trans hy)
   exact ⟨_, impl_SplitFields_i hd ▸ hr.fin [K.kstr], hK⟩
 · cases h
/-! ### impl.actWords: function 53 -/
noncomputable def impl_actWords (k : Nat)  : Option ((List ByteArray)) :=
 some ([(ByteArray.mk #[98, 97, 107, 101]), (ByteArray.mk #[115, 101, 108, 108]), (ByteArray.mk #[99, 104, 101, 97, 112]), (ByteArray.mk #[109, 111, 114, 110, 105, 110, 103]), (ByteArray.mk #[98, 117, 121]), (ByteArray.mk #[102, 108, 111, 117, 114])])
noncomputable def impl_actWords_v : Nat → List Nat := fun t => match t with | _ => []
noncomputable def impl_actWords_O (k : Nat) : Oracle := ofL []
theorem impl_actWords_Ok (k : Nat) : OkO (Ct Tryz.prog) (impl_actWords_O k) := okO_nil
noncomputable def impl_actWords_A : Pk := ⟨[], []⟩
noncomputable def impl_actWords_d : Rs → Option ((List ByteArray))
 | ⟨(.a (.sc (.sl 0))), [(.row true K.kstr r1)]⟩ => some r1
 | _ => none
theorem impl_actWords_i {r : Rs} {y : (List ByteArray)} (h : impl_actWords_d r = some y) : r = ⟨(.a (.sc (.sl 0))), [(.row true K.kstr y)]⟩ := by
 unfold impl_actWords_d at h; split at h
 · cases h; rfl
 · cases h
theorem impl_actWords_e (k : Nat) : callF env (impl_actWords_O k) impl_actWords_v Tryz.f53 (k + 1) (impl_actWords_A) (fun r => impl_actWords_d (r.fin 0 [])) = impl_actWords k := by kernel_rfl
noncomputable def impl_actWords_x (k : Nat) : Ent1 := fun A R Q => match A with
 | ⟨[], []⟩ => (impl_actWords k).bind fun y => Q ⟨(.a (.sc (.sl 0))), [(.row true K.kstr y)]⟩
 | _ => none
theorem impl_actWords_ok (k : Nat) : OkE Tryz.prog 53 (impl_actWords_x k) := by
 intro A R Q x h
 unfold impl_actWords_x at h
 split at h
 · obtain ⟨y, hy, hK⟩ := Option.bind_eq_some_iff.1 h
   obtain ⟨r, hr, hd⟩ := callF_ok envOk (impl_actWords_Ok k) follows Tryz.func53 (by kernel_rfl) ((impl_actWords_e k).trans hy)
   exact ⟨_, impl_actWords_i hd ▸ hr.fin [], hK⟩
 · cases h
/-! ### impl.actNumbers: function 54 -/
noncomputable def impl_actNumbers (k : Nat)  : Option ((List Int)) :=
 some ([1, 1, 1, 0, 2, 1])
noncomputable def impl_actNumbers_v : Nat → List Nat := fun t => match t with | _ => []
noncomputable def impl_actNumbers_O (k : Nat) : Oracle := ofL []
theorem impl_actNumbers_Ok (k : Nat) : OkO (Ct Tryz.prog) (impl_actNumbers_O k) := okO_nil
noncomputable def impl_actNumbers_A : Pk := ⟨[], []⟩
noncomputable def impl_actNumbers_d : Rs → Option ((List Int))
 | ⟨(.a (.sc (.sl 0))), [(.row true K.ki64 r1)]⟩ => some r1
 | _ => none
theorem impl_actNumbers_i {r : Rs} {y : (List Int)} (h : impl_actNumbers_d r = some y) : r = ⟨(.a (.sc (.sl 0))), [(.row true K.ki64 y)]⟩ := by
 unfold impl_actNumbers_d at h; split at h
 · cases h; rfl
 · cases h
theorem impl_actNumbers_e (k : Nat) : callF env (impl_actNumbers_O k) impl_actNumbers_v Tryz.f54 (k + 1) (impl_actNumbers_A) (fun r => impl_actNumbers_d (r.fin 0 [])) = impl_actNumbers k := by kernel_rfl
noncomputable def impl_actNumbers_x (k : Nat) : Ent1 := fun A R Q => match A with
 | ⟨[], []⟩ => (impl_actNumbers k).bind fun y => Q ⟨(.a (.sc (.sl 0))), [(.row true K.ki64 y)]⟩
 | _ => none
theorem impl_actNumbers_ok (k : Nat) : OkE Tryz.prog 54 (impl_actNumbers_x k) := by
 intro A R Q x h
 unfold impl_actNumbers_x at h
 split at h
 · obtain ⟨y, hy, hK⟩ := Option.bind_eq_some_iff.1 h
   obtain ⟨r, hr, hd⟩ := callF_ok envOk (impl_actNumbers_Ok k) follows Tryz.func54 (by kernel_rfl) ((impl_actNumbers_e k).trans hy)
   exact ⟨_, impl_actNumbers_i hd ▸ hr.fin [], hK⟩
 · cases h
/-! ### impl.in: function 68 -/
noncomputable def impl_in (k : Nat)  (n : Int) (low : Int) (high : Int) : Option (Bool) :=
 cond (decide ((low : Int) ≤ n))
 (some (decide ((n : Int) ≤ high)))
 (some false)
noncomputable def impl_in_v : Nat → List Nat := fun t => match t with | _ => []
noncomputable def impl_in_O (k : Nat) : Oracle := ofL []
theorem impl_in_Ok (k : Nat) : OkO (Ct Tryz.prog) (impl_in_O k) := okO_nil
noncomputable def impl_in_A (n : Int) (low : Int) (high : Int) : Pk := ⟨[(.sc (.v (.int .i64 n))), (.sc (.v (.int .i64 low))), (.sc (.v (.int .i64 high)))], []⟩
noncomputable def impl_in_d : Rs → Option (Bool)
 | ⟨(.a (.sc (.v (.bool r1)))), []⟩ => some r1
 | _ => none
theorem impl_in_i {r : Rs} {y : Bool} (h : impl_in_d r = some y) : r = ⟨(.a (.sc (.v (.bool y)))), []⟩ := by
 unfold impl_in_d at h; split at h
 · cases h; rfl
 · cases h
theorem impl_in_e (k : Nat) (n : Int) (low : Int) (high : Int) : callF env (impl_in_O k) impl_in_v Tryz.f68 (k + 1) (impl_in_A n low high) (fun r => impl_in_d (r.fin 0 [])) = impl_in k n low high := by kernel_rfl
noncomputable def impl_in_x (k : Nat) : Ent1 := fun A R Q => match A with
 | ⟨[(.sc (.v (.int .i64 a1))), (.sc (.v (.int .i64 a2))), (.sc (.v (.int .i64 a3)))], []⟩ => (impl_in k a1 a2 a3).bind fun y => Q ⟨(.a (.sc (.v (.bool y)))), []⟩
 | _ => none
theorem impl_in_ok (k : Nat) : OkE Tryz.prog 68 (impl_in_x k) := by
 intro A R Q x h
 unfold impl_in_x at h
 split at h
 · obtain ⟨y, hy, hK⟩ := Option.bind_eq_some_iff.1 h
   obtain ⟨r, hr, hd⟩ := callF_ok envOk (impl_in_Ok k) follows Tryz.func68 (by kernel_rfl) ((impl_in_e k _ _ _).trans hy)
   exact ⟨_, impl_in_i hd ▸ hr.fin [], hK⟩
 · cases h
/-! ### impl.ActOk: function 56 -/
noncomputable def impl_ActOk (k : Nat)  (a : Deed) : Option (Bool) :=
 cond (decide ((a.Kind : Int) = 1))
 (cond (decide ((a.Kind : Int) = 1))
  ((impl_in k a.A 0 1000).bind fun y1 =>
   cond y1
    (some (decide ((a.B : Int) = 0)))
    (some false))
  (cond (decide ((a.Kind : Int) = 4))
   (cond (decide ((a.A : Int) = 0))
    (some (decide ((a.B : Int) = 0)))
    (some false))
   (cond (decide ((a.Kind : Int) = 5))
    ((impl_in k a.A 0 3).bind fun y2 =>
     cond y2
      ((impl_in k a.B 0 100000).bind fun y3 =>
       some y3)
      (some false))
    (some false))))
 (cond (decide ((a.Kind : Int) = 2))
  (cond (decide ((a.Kind : Int) = 2))
   ((impl_in k a.A 0 1000).bind fun y4 =>
    cond y4
     (some (decide ((a.B : Int) = 0)))
     (some false))
   (cond (decide ((a.Kind : Int) = 4))
    (cond (decide ((a.A : Int) = 0))
     (some (decide ((a.B : Int) = 0)))
     (some false))
    (cond (decide ((a.Kind : Int) = 5))
     ((impl_in k a.A 0 3).bind fun y5 =>
      cond y5
       ((impl_in k a.B 0 100000).bind fun y6 =>
        some y6)
       (some false))
     (some false))))
  (cond (decide ((a.Kind : Int) = 3))
   (cond (decide ((a.Kind : Int) = 3))
    ((impl_in k a.A 0 1000).bind fun y7 =>
     cond y7
      (some (decide ((a.B : Int) = 0)))
      (some false))
    (cond (decide ((a.Kind : Int) = 4))
     (cond (decide ((a.A : Int) = 0))
      (some (decide ((a.B : Int) = 0)))
      (some false))
     (cond (decide ((a.Kind : Int) = 5))
      ((impl_in k a.A 0 3).bind fun y8 =>
       cond y8
        ((impl_in k a.B 0 100000).bind fun y9 =>
        some y9)
        (some false))
      (some false))))
   (cond (decide ((a.Kind : Int) = 6))
    ((impl_in k a.A 0 1000).bind fun y10 =>
     cond y10
      (some (decide ((a.B : Int) = 0)))
      (some false))
    (cond (decide ((a.Kind : Int) = 4))
     (cond (decide ((a.A : Int) = 0))
      (some (decide ((a.B : Int) = 0)))
      (some false))
     (cond (decide ((a.Kind : Int) = 5))
      ((impl_in k a.A 0 3).bind fun y11 =>
       cond y11
        ((impl_in k a.B 0 100000).bind fun y12 =>
        some y12)
        (some false))
      (some false))))))
noncomputable def impl_ActOk_v : Nat → List Nat := fun t => match t with | _ => []
noncomputable def impl_ActOk_O (k : Nat) : Oracle := ofL [(68, impl_in_x k)]
theorem impl_ActOk_Ok (k : Nat) : OkO (Ct Tryz.prog) (impl_ActOk_O k) := okO_cons (impl_in_ok k) (okO_nil)
noncomputable def impl_ActOk_A (a : Deed) : Pk := ⟨[(.ag [(.v (.int .i64 a.Kind)), (.v (.int .i64 a.A)), (.v (.int .i64 a.B))])], []⟩
noncomputable def impl_ActOk_d : Rs → Option (Bool)
 | ⟨(.a (.sc (.v (.bool r1)))), []⟩ => some r1
 | _ => none
theorem impl_ActOk_i {r : Rs} {y : Bool} (h : impl_ActOk_d r = some y) : r = ⟨(.a (.sc (.v (.bool y)))), []⟩ := by
 unfold impl_ActOk_d at h; split at h
 · cases h; rfl
 · cases h
theorem impl_ActOk_e (k : Nat) (a : Deed) : callF env (impl_ActOk_O k) impl_ActOk_v Tryz.f56 (k + 1) (impl_ActOk_A a) (fun r => impl_ActOk_d (r.fin 0 [])) = impl_ActOk k a := by kernel_rfl
noncomputable def impl_ActOk_x (k : Nat) : Ent1 := fun A R Q => match A with
 | ⟨[(.ag [(.v (.int .i64 a1)), (.v (.int .i64 a2)), (.v (.int .i64 a3))])], []⟩ => (impl_ActOk k (⟨a1, a2, a3⟩ : Deed)).bind fun y => Q ⟨(.a (.sc (.v (.bool y)))), []⟩
 | _ => none
theorem impl_ActOk_ok (k : Nat) : OkE Tryz.prog 56 (impl_ActOk_x k) := by
 intro A R Q x h
 unfold impl_ActOk_x at h
 split at h
 · obtain ⟨y, hy, hK⟩ := Option.bind_eq_some_iff.1 h
   obtain ⟨r, hr, hd⟩ := callF_ok envOk (impl_ActOk_Ok k) follows Tryz.func56 (by kernel_rfl) ((impl_ActOk_e k _).trans hy)
   exact ⟨_, impl_ActOk_i hd ▸ hr.fin [], hK⟩
 · cases h
/-! ### impl.ParseAct: function 26 -/
noncomputable def impl_ParseAct_s0 (k : Nat)  (y1 : (List ByteArray) × Bool) (y3 : Int × (List ByteArray)) (J : Int → Int → Int → Option (Deed × Bool)) (x0_0 : Int) (x0_1 : Int) (x0_2 : Int) : Option (Deed × Bool) :=
 cond (decide ((x0_0 : Int) < ((((y1.1.take (Int.toNat ((y1.1).length : Int))).drop 1)).length : Int)))
 (if 0 ≤ (x0_0 : Int) ∧ (x0_0 : Int) < ((((y1.1.take (Int.toNat ((y1.1).length : Int))).drop 1)).length : Int) then
  (impl_ParseUint k (((y1.1.take (Int.toNat ((y1.1).length : Int))).drop 1).getD (Int.toNat x0_0) (ByteArray.mk #[]))).bind fun y7 =>
   cond (!y7.2)
    (some ((⟨0, 0, 0⟩ : Deed), false))
    (if 0 ≤ (x0_0 : Int) ∧ (x0_0 : Int) < (2 : Int) then
     cond (decide ((x0_0 : Int) = 0))
      (J (wr (x0_0 + 1)) y7.1 x0_2)
      (cond (decide ((x0_0 : Int) = 1))
       (J (wr (x0_0 + 1)) x0_1 y7.1)
       (none)) else none) else none)
 (if 0 ≤ (0 : Int) ∧ (0 : Int) < (2 : Int) then
  if 0 ≤ (1 : Int) ∧ (1 : Int) < (2 : Int) then
   (impl_ActOk k (⟨(wr (y3.1 + 1)), x0_1, x0_2⟩ : Deed)).bind fun y8 =>
    cond (!y8)
     (some ((⟨0, 0, 0⟩ : Deed), false))
     (some ((⟨(wr (y3.1 + 1)), x0_1, x0_2⟩ : Deed), true)) else none else none)
noncomputable def impl_ParseAct_l0 (k : Nat) : Nat → (List ByteArray) × Bool → Int × (List ByteArray) → Int → Int → Int → Option (Deed × Bool)
 | 0, y1, y3, x0_0, x0_1, x0_2 => impl_ParseAct_s0 k y1 y3 (fun _ _ _ => none) x0_0 x0_1 x0_2
 | m + 1, y1, y3, x0_0, x0_1, x0_2 => impl_ParseAct_s0 k y1 y3 (impl_ParseAct_l0 k m y1 y3) x0_0 x0_1 x0_2
noncomputable def impl_ParseAct_m (k : Nat) (J0 : (List ByteArray) × Bool → Int × (List ByteArray) → Int → Int → Int → Option (Deed × Bool)) (line : ByteArray) : Option (Deed × Bool) :=
 (impl_SplitFields k line).bind fun y1 =>
 cond (!y1.2)
  (some ((⟨0, 0, 0⟩ : Deed), false))
  (cond (decide ((((y1.1).length : Int) : Int) = 0))
   (some ((⟨0, 0, 0⟩ : Deed), false))
   ((impl_actWords k).bind fun y2 =>
    if 0 ≤ (0 : Int) ∧ (0 : Int) < ((y1.1).length : Int) then
     (slices_Index_string_string k y2 (y1.1.getD 0 (ByteArray.mk #[]))).bind fun y3 =>
      cond (decide ((y3.1 : Int) < 0))
       (some ((⟨0, 0, 0⟩ : Deed), false))
       ((impl_actNumbers k).bind fun y4 =>
        if 0 ≤ (y3.1 : Int) ∧ (y3.1 : Int) < ((y4).length : Int) then
        cond (!(decide ((((y1.1).length : Int) : Int) = (wr ((y4.getD (Int.toNat y3.1) 0) + 1)))))
        (some ((⟨0, 0, 0⟩ : Deed), false))
        (if (0 : Int) ≤ 1 ∧ 1 ≤ ((y1.1).length : Int) ∧ ((y1.1).length : Int) ≤ ((y1.1).length : Int) then
        J0 y1 y3 0 0 0 else none) else none) else none))
noncomputable def impl_ParseAct (k : Nat) (line : ByteArray) : Option (Deed × Bool) := impl_ParseAct_m k (impl_ParseAct_l0 k k) line
noncomputable def impl_ParseAct_v : Nat → List Nat := fun t => match t with | 9 => [2, 3, 6, 7, 46, 47, 48] | _ => []
noncomputable def impl_ParseAct_O (k : Nat) : Oracle := ofL [(25, impl_SplitFields_x k), (52, slices_Index_string_string_x k), (53, impl_actWords_x k), (54, impl_actNumbers_x k), (55, impl_ParseUint_x k), (56, impl_ActOk_x k)]
theorem impl_ParseAct_Ok (k : Nat) : OkO (Ct Tryz.prog) (impl_ParseAct_O k) := okO_cons (impl_SplitFields_ok k) (okO_cons (slices_Index_string_string_ok k) (okO_cons (impl_actWords_ok k) (okO_cons (impl_actNumbers_ok k) (okO_cons (impl_ParseUint_ok k) (okO_cons (impl_ActOk_ok k) (okO_nil))))))
noncomputable def impl_ParseAct_A (line : ByteArray) : Pk := ⟨[(.sc (.v (.string line)))], []⟩
noncomputable def impl_ParseAct_d : Rs → Option (Deed × Bool)
 | ⟨(.tp [(.ag [(.v (.int .i64 r1)), (.v (.int .i64 r2)), (.v (.int .i64 r3))]), (.sc (.v (.bool r4)))]), []⟩ => some ((⟨r1, r2, r3⟩ : Deed), r4)
 | _ => none
theorem impl_ParseAct_i {r : Rs} {y : Deed × Bool} (h : impl_ParseAct_d r = some y) : r = ⟨(.tp [(.ag [(.v (.int .i64 y.1.Kind)), (.v (.int .i64 y.1.A)), (.v (.int .i64 y.1.B))]), (.sc (.v (.bool y.2)))]), []⟩ := by
 unfold impl_ParseAct_d at h; split at h
 · cases h; rfl
 · cases h
noncomputable def impl_ParseAct_h0 (k m : Nat) (y1 : (List ByteArray) × Bool) (y3 : Int × (List ByteArray)) (x0_0 : Int) (x0_1 : Int) (x0_2 : Int) : Option (Deed × Bool) := hdAt env (impl_ParseAct_O k) impl_ParseAct_v Tryz.f26 0 (fun r => impl_ParseAct_d (r.fin 0 [])) [1, 1, 1, 1, 1, 1, 0, 1, 0] k m ⟨tmF [2, 3, 6, 7, 46, 47, 48] [(.a (.sc (.bp 0 0))), (.a (.sc (.v (.bool false)))), (.a (.sc (.v (.int .i64 y3.1)))), (.a (.sc (.bp 1 0))), (.a (.sc (.sl 2))), (.a (.sc (.v (.int .i64 ((((y1.1.take (Int.toNat ((y1.1).length : Int))).drop 1)).length : Int))))), (.a (.sc (.v (.int .i64 x0_0))))], blF [(.box true [(.v (.int .i64 0)), (.v (.int .i64 0)), (.v (.int .i64 0))]), (.box true [(.v (.int .i64 x0_1)), (.v (.int .i64 x0_2))]), (.row false K.kstr ((y1.1.take (Int.toNat ((y1.1).length : Int))).drop 1))]⟩
theorem impl_ParseAct_z0 (k : Nat) (y1 : (List ByteArray) × Bool) (y3 : Int × (List ByteArray)) (x0_0 : Int) (x0_1 : Int) (x0_2 : Int) : impl_ParseAct_h0 k 0 y1 y3 x0_0 x0_1 x0_2 = impl_ParseAct_s0 k y1 y3 (fun _ _ _ => none) x0_0 x0_1 x0_2 := by kernel_rfl
theorem impl_ParseAct_g0 (k : Nat) (H : St → Option (Deed × Bool)) (y1 : (List ByteArray) × Bool) (y3 : Int × (List ByteArray)) (x0_0 : Int) (x0_1 : Int) (x0_2 : Int) : rnd env (impl_ParseAct_O k) impl_ParseAct_v Tryz.f26 0 (fun r => impl_ParseAct_d (r.fin 0 [])) [1, 1, 1, 1, 1, 1, 0, 1, 0] k H ⟨tmF [2, 3, 6, 7, 46, 47, 48] [(.a (.sc (.bp 0 0))), (.a (.sc (.v (.bool false)))), (.a (.sc (.v (.int .i64 y3.1)))), (.a (.sc (.bp 1 0))), (.a (.sc (.sl 2))), (.a (.sc (.v (.int .i64 ((((y1.1.take (Int.toNat ((y1.1).length : Int))).drop 1)).length : Int))))), (.a (.sc (.v (.int .i64 x0_0))))], blF [(.box true [(.v (.int .i64 0)), (.v (.int .i64 0)), (.v (.int .i64 0))]), (.box true [(.v (.int .i64 x0_1)), (.v (.int .i64 x0_2))]), (.row false K.kstr ((y1.1.take (Int.toNat ((y1.1).length : Int))).drop 1))]⟩ = impl_ParseAct_s0 k y1 y3 (fun x0_0 x0_1 x0_2 => H ⟨tmF [2, 3, 6, 7, 46, 47, 48] [(.a (.sc (.bp 0 0))), (.a (.sc (.v (.bool false)))), (.a (.sc (.v (.int .i64 y3.1)))), (.a (.sc (.bp 1 0))), (.a (.sc (.sl 2))), (.a (.sc (.v (.int .i64 ((((y1.1.take (Int.toNat ((y1.1).length : Int))).drop 1)).length : Int))))), (.a (.sc (.v (.int .i64 x0_0))))], blF [(.box true [(.v (.int .i64 0)), (.v (.int .i64 0)), (.v (.int .i64 0))]), (.box true [(.v (.int .i64 x0_1)), (.v (.int .i64 x0_2))]), (.row false K.kstr ((y1.1.take (Int.toNat ((y1.1).length : Int))).drop 1))]⟩) x0_0 x0_1 x0_2 := by kernel_rfl
theorem impl_ParseAct_n0 (k m : Nat) (y1 : (List ByteArray) × Bool) (y3 : Int × (List ByteArray)) (x0_0 : Int) (x0_1 : Int) (x0_2 : Int) : impl_ParseAct_h0 k (m + 1) y1 y3 x0_0 x0_1 x0_2 = impl_ParseAct_s0 k y1 y3 (impl_ParseAct_h0 k m y1 y3) x0_0 x0_1 x0_2 := (hdAt_succ _ _ _ _ _ _ _ _ _ _).trans (impl_ParseAct_g0 k _ y1 y3 x0_0 x0_1 x0_2)
theorem impl_ParseAct_q0 (k : Nat) : ∀ m, impl_ParseAct_h0 k m = impl_ParseAct_l0 k m := by
 intro m
 induction m with
 | zero => funext y1 y3 x0_0 x0_1 x0_2; rw [impl_ParseAct_z0]; rfl
 | succ m ih => funext y1 y3 x0_0 x0_1 x0_2; rw [impl_ParseAct_n0, ih]; rfl
theorem impl_ParseAct_e (k : Nat) (line : ByteArray) : callF env (impl_ParseAct_O k) impl_ParseAct_v Tryz.f26 (k + 1) (impl_ParseAct_A line) (fun r => impl_ParseAct_d (r.fin 0 [])) = impl_ParseAct k line := by
 have e : ∀ H : St → Option (Deed × Bool), callE env (impl_ParseAct_O k) impl_ParseAct_v Tryz.f26 (k + 1) (impl_ParseAct_A line) [1, 1, 1, 1, 1, 1, 0, 1, 0] (fun r => impl_ParseAct_d (r.fin 0 [])) H = impl_ParseAct_m k (fun y1 y3 x0_0 x0_1 x0_2 => H ⟨tmF [2, 3, 6, 7, 46, 47, 48] [(.a (.sc (.bp 0 0))), (.a (.sc (.v (.bool false)))), (.a (.sc (.v (.int .i64 y3.1)))), (.a (.sc (.bp 1 0))), (.a (.sc (.sl 2))), (.a (.sc (.v (.int .i64 ((((y1.1.take (Int.toNat ((y1.1).length : Int))).drop 1)).length : Int))))), (.a (.sc (.v (.int .i64 x0_0))))], blF [(.box true [(.v (.int .i64 0)), (.v (.int .i64 0)), (.v (.int .i64 0))]), (.box true [(.v (.int .i64 x0_1)), (.v (.int .i64 x0_2))]), (.row false K.kstr ((y1.1.take (Int.toNat ((y1.1).length : Int))).drop 1))]⟩) line := fun H => by kernel_rfl
 exact (callE_eq env (impl_ParseAct_O k) impl_ParseAct_v Tryz.f26 k (impl_ParseAct_A line) [1, 1, 1, 1, 1, 1, 0, 1, 0] 0 (fun r => impl_ParseAct_d (r.fin 0 [])) rfl (by kernel_rfl)).trans ((e (hdAt env (impl_ParseAct_O k) impl_ParseAct_v Tryz.f26 0 (fun r => impl_ParseAct_d (r.fin 0 [])) [1, 1, 1, 1, 1, 1, 0, 1, 0] k k)).trans (by
  show impl_ParseAct_m k (impl_ParseAct_h0 k k) line = _
  rw [impl_ParseAct_q0]; rfl))
noncomputable def impl_ParseAct_x (k : Nat) : Ent1 := fun A R Q => match A with
 | ⟨[(.sc (.v (.string a1)))], []⟩ => (impl_ParseAct k a1).bind fun y => Q ⟨(.tp [(.ag [(.v (.int .i64 y.1.Kind)), (.v (.int .i64 y.1.A)), (.v (.int .i64 y.1.B))]), (.sc (.v (.bool y.2)))]), []⟩
 | _ => none
theorem impl_ParseAct_ok (k : Nat) : OkE Tryz.prog 26 (impl_ParseAct_x k) := by
 intro A R Q x h
 unfold impl_ParseAct_x at h
 split at h
 · obtain ⟨y, hy, hK⟩ := Option.bind_eq_some_iff.1 h
   obtain ⟨r, hr, hd⟩ := callF_ok envOk (impl_ParseAct_Ok k) follows Tryz.func26 (by kernel_rfl) ((impl_ParseAct_e k _).trans hy)
   exact ⟨_, impl_ParseAct_i hd ▸ hr.fin [], hK⟩
 · cases h
/-! ### impl.stockCopy: function 62 -/
noncomputable def impl_stockCopy (k : Nat)  (s : Stock) : Option (Stock) :=
 if ([] : List Int).length + (s.Grams : List Int).length ≤ maxRow then
 some (⟨([] ++ s.Grams)⟩ : Stock) else none
noncomputable def impl_stockCopy_v : Nat → List Nat := fun t => match t with | _ => []
noncomputable def impl_stockCopy_O (k : Nat) : Oracle := ofL []
theorem impl_stockCopy_Ok (k : Nat) : OkO (Ct Tryz.prog) (impl_stockCopy_O k) := okO_nil
noncomputable def impl_stockCopy_A (s : Stock) : Pk := ⟨[(.ag [(.sl 0)])], [(.row false K.ki64 s.Grams)]⟩
noncomputable def impl_stockCopy_d : Rs → Option (Stock)
 | ⟨(.a (.ag [(.sl 1)])), [.dead, (.row true K.ki64 r1)]⟩ => some (⟨r1⟩ : Stock)
 | _ => none
theorem impl_stockCopy_i {r : Rs} {y : Stock} (h : impl_stockCopy_d r = some y) : r = ⟨(.a (.ag [(.sl 1)])), [.dead, (.row true K.ki64 y.Grams)]⟩ := by
 unfold impl_stockCopy_d at h; split at h
 · cases h; rfl
 · cases h
theorem impl_stockCopy_e (k : Nat) (s : Stock) : callF env (impl_stockCopy_O k) impl_stockCopy_v Tryz.f62 (k + 1) (impl_stockCopy_A s) (fun r => impl_stockCopy_d (r.fin 1 [])) = impl_stockCopy k s := by kernel_rfl
noncomputable def impl_stockCopy_x (k : Nat) : Ent1 := fun A R Q => match A with
 | ⟨[(.ag [(.sl 0)])], [(.row false K.ki64 a1)]⟩ => (impl_stockCopy k (⟨a1⟩ : Stock)).bind fun y => Q ⟨(.a (.ag [(.sl 1)])), [.dead, (.row true K.ki64 y.Grams)]⟩
 | _ => none
theorem impl_stockCopy_ok (k : Nat) : OkE Tryz.prog 62 (impl_stockCopy_x k) := by
 intro A R Q x h
 unfold impl_stockCopy_x at h
 split at h
 · obtain ⟨y, hy, hK⟩ := Option.bind_eq_some_iff.1 h
   obtain ⟨r, hr, hd⟩ := callF_ok envOk (impl_stockCopy_Ok k) follows Tryz.func62 (by kernel_rfl) ((impl_stockCopy_e k _).trans hy)
   exact ⟨_, impl_stockCopy_i hd ▸ hr.fin [], hK⟩
 · cases h
/-! ### impl.bookCopy: function 63 -/
noncomputable def impl_bookCopy (k : Nat)  (b : Book) : Option (Book) :=
 if ([] : List Event).length + (b.Events : List Event).length ≤ maxRow then
 some (⟨([] ++ b.Events), b.Rack, b.Baked, b.Sold, b.Thrown⟩ : Book) else none
noncomputable def impl_bookCopy_v : Nat → List Nat := fun t => match t with | _ => []
noncomputable def impl_bookCopy_O (k : Nat) : Oracle := ofL []
theorem impl_bookCopy_Ok (k : Nat) : OkO (Ct Tryz.prog) (impl_bookCopy_O k) := okO_nil
noncomputable def impl_bookCopy_A (b : Book) : Pk := ⟨[(.ag [(.sl 0), (.v (.int .i64 b.Rack.Fresh)), (.v (.int .i64 b.Rack.Day)), (.v (.int .i64 b.Rack.Old)), (.v (.int .i64 b.Baked)), (.v (.int .i64 b.Sold)), (.v (.int .i64 b.Thrown))])], [(.row false K.k_impl_Event b.Events)]⟩
noncomputable def impl_bookCopy_d : Rs → Option (Book)
 | ⟨(.a (.ag [(.sl 1), (.v (.int .i64 r2)), (.v (.int .i64 r3)), (.v (.int .i64 r4)), (.v (.int .i64 r5)), (.v (.int .i64 r6)), (.v (.int .i64 r7))])), [.dead, (.row true K.k_impl_Event r1)]⟩ => some (⟨r1, (⟨r2, r3, r4⟩ : Rack), r5, r6, r7⟩ : Book)
 | _ => none
theorem impl_bookCopy_i {r : Rs} {y : Book} (h : impl_bookCopy_d r = some y) : r = ⟨(.a (.ag [(.sl 1), (.v (.int .i64 y.Rack.Fresh)), (.v (.int .i64 y.Rack.Day)), (.v (.int .i64 y.Rack.Old)), (.v (.int .i64 y.Baked)), (.v (.int .i64 y.Sold)), (.v (.int .i64 y.Thrown))])), [.dead, (.row true K.k_impl_Event y.Events)]⟩ := by
 unfold impl_bookCopy_d at h; split at h
 · cases h; rfl
 · cases h
theorem impl_bookCopy_e (k : Nat) (b : Book) : callF env (impl_bookCopy_O k) impl_bookCopy_v Tryz.f63 (k + 1) (impl_bookCopy_A b) (fun r => impl_bookCopy_d (r.fin 1 [])) = impl_bookCopy k b := by kernel_rfl
noncomputable def impl_bookCopy_x (k : Nat) : Ent1 := fun A R Q => match A with
 | ⟨[(.ag [(.sl 0), (.v (.int .i64 a2)), (.v (.int .i64 a3)), (.v (.int .i64 a4)), (.v (.int .i64 a5)), (.v (.int .i64 a6)), (.v (.int .i64 a7))])], [(.row false K.k_impl_Event a1)]⟩ => (impl_bookCopy k (⟨a1, (⟨a2, a3, a4⟩ : Rack), a5, a6, a7⟩ : Book)).bind fun y => Q ⟨(.a (.ag [(.sl 1), (.v (.int .i64 y.Rack.Fresh)), (.v (.int .i64 y.Rack.Day)), (.v (.int .i64 y.Rack.Old)), (.v (.int .i64 y.Baked)), (.v (.int .i64 y.Sold)), (.v (.int .i64 y.Thrown))])), [.dead, (.row true K.k_impl_Event y.Events)]⟩
 | _ => none
theorem impl_bookCopy_ok (k : Nat) : OkE Tryz.prog 63 (impl_bookCopy_x k) := by
 intro A R Q x h
 unfold impl_bookCopy_x at h
 split at h
 · obtain ⟨y, hy, hK⟩ := Option.bind_eq_some_iff.1 h
   obtain ⟨r, hr, hd⟩ := callF_ok envOk (impl_bookCopy_Ok k) follows Tryz.func63 (by kernel_rfl) ((impl_bookCopy_e k _).trans hy)
   exact ⟨_, impl_bookCopy_i hd ▸ hr.fin [], hK⟩
 · cases h
/-! ### impl.bakeryCopy: function 34 -/
noncomputable def impl_bakeryCopy (k : Nat)  (b : Bakery) : Option (Bakery) :=
 (impl_stockCopy k b.Stock).bind fun y1 =>
 (impl_bookCopy k b.Book).bind fun y2 =>
  some (⟨y1, b.Dough, b.Loaf, y2, b.Money⟩ : Bakery)
noncomputable def impl_bakeryCopy_v : Nat → List Nat := fun t => match t with | _ => []
noncomputable def impl_bakeryCopy_O (k : Nat) : Oracle := ofL [(62, impl_stockCopy_x k), (63, impl_bookCopy_x k)]
theorem impl_bakeryCopy_Ok (k : Nat) : OkO (Ct Tryz.prog) (impl_bakeryCopy_O k) := okO_cons (impl_stockCopy_ok k) (okO_cons (impl_bookCopy_ok k) (okO_nil))
noncomputable def impl_bakeryCopy_A (b : Bakery) : Pk := ⟨[(.ag [(.sl 0), (.v (.int .i64 b.Dough.Water)), (.v (.int .i64 b.Dough.Salt)), (.v (.int .i64 b.Dough.Leaven)), (.v (.int .i64 b.Loaf.Weight)), (.v (.int .i64 b.Loaf.Loss)), (.sl 1), (.v (.int .i64 b.Book.Rack.Fresh)), (.v (.int .i64 b.Book.Rack.Day)), (.v (.int .i64 b.Book.Rack.Old)), (.v (.int .i64 b.Book.Baked)), (.v (.int .i64 b.Book.Sold)), (.v (.int .i64 b.Book.Thrown)), (.v (.int .i64 b.Money))])], [(.row false K.ki64 b.Stock.Grams), (.row false K.k_impl_Event b.Book.Events)]⟩
noncomputable def impl_bakeryCopy_d : Rs → Option (Bakery)
 | ⟨(.a (.ag [(.sl 2), (.v (.int .i64 r2)), (.v (.int .i64 r3)), (.v (.int .i64 r4)), (.v (.int .i64 r5)), (.v (.int .i64 r6)), (.sl 3), (.v (.int .i64 r8)), (.v (.int .i64 r9)), (.v (.int .i64 r10)), (.v (.int .i64 r11)), (.v (.int .i64 r12)), (.v (.int .i64 r13)), (.v (.int .i64 r14))])), [.dead, .dead, (.row true K.ki64 r1), (.row true K.k_impl_Event r7)]⟩ => some (⟨(⟨r1⟩ : Stock), (⟨r2, r3, r4⟩ : Dough), (⟨r5, r6⟩ : Loaf), (⟨r7, (⟨r8, r9, r10⟩ : Rack), r11, r12, r13⟩ : Book), r14⟩ : Bakery)
 | _ => none
theorem impl_bakeryCopy_i {r : Rs} {y : Bakery} (h : impl_bakeryCopy_d r = some y) : r = ⟨(.a (.ag [(.sl 2), (.v (.int .i64 y.Dough.Water)), (.v (.int .i64 y.Dough.Salt)), (.v (.int .i64 y.Dough.Leaven)), (.v (.int .i64 y.Loaf.Weight)), (.v (.int .i64 y.Loaf.Loss)), (.sl 3), (.v (.int .i64 y.Book.Rack.Fresh)), (.v (.int .i64 y.Book.Rack.Day)), (.v (.int .i64 y.Book.Rack.Old)), (.v (.int .i64 y.Book.Baked)), (.v (.int .i64 y.Book.Sold)), (.v (.int .i64 y.Book.Thrown)), (.v (.int .i64 y.Money))])), [.dead, .dead, (.row true K.ki64 y.Stock.Grams), (.row true K.k_impl_Event y.Book.Events)]⟩ := by
 unfold impl_bakeryCopy_d at h; split at h
 · cases h; rfl
 · cases h
theorem impl_bakeryCopy_e (k : Nat) (b : Bakery) : callF env (impl_bakeryCopy_O k) impl_bakeryCopy_v Tryz.f34 (k + 1) (impl_bakeryCopy_A b) (fun r => impl_bakeryCopy_d (r.fin 2 [])) = impl_bakeryCopy k b := by kernel_rfl
noncomputable def impl_bakeryCopy_x (k : Nat) : Ent1 := fun A R Q => match A with
 | ⟨[(.ag [(.sl 0), (.v (.int .i64 a2)), (.v (.int .i64 a3)), (.v (.int .i64 a4)), (.v (.int .i64 a5)), (.v (.int .i64 a6)), (.sl 1), (.v (.int .i64 a8)), (.v (.int .i64 a9)), (.v (.int .i64 a10)), (.v (.int .i64 a11)), (.v (.int .i64 a12)), (.v (.int .i64 a13)), (.v (.int .i64 a14))])], [(.row false K.ki64 a1), (.row false K.k_impl_Event a7)]⟩ => (impl_bakeryCopy k (⟨(⟨a1⟩ : Stock), (⟨a2, a3, a4⟩ : Dough), (⟨a5, a6⟩ : Loaf), (⟨a7, (⟨a8, a9, a10⟩ : Rack), a11, a12, a13⟩ : Book), a14⟩ : Bakery)).bind fun y => Q ⟨(.a (.ag [(.sl 2), (.v (.int .i64 y.Dough.Water)), (.v (.int .i64 y.Dough.Salt)), (.v (.int .i64 y.Dough.Leaven)), (.v (.int .i64 y.Loaf.Weight)), (.v (.int .i64 y.Loaf.Loss)), (.sl 3), (.v (.int .i64 y.Book.Rack.Fresh)), (.v (.int .i64 y.Book.Rack.Day)), (.v (.int .i64 y.Book.Rack.Old)), (.v (.int .i64 y.Book.Baked)), (.v (.int .i64 y.Book.Sold)), (.v (.int .i64 y.Book.Thrown)), (.v (.int .i64 y.Money))])), [.dead, .dead, (.row true K.ki64 y.Stock.Grams), (.row true K.k_impl_Event y.Book.Events)]⟩
 | _ => none
theorem impl_bakeryCopy_ok (k : Nat) : OkE Tryz.prog 34 (impl_bakeryCopy_x k) := by
 intro A R Q x h
 unfold impl_bakeryCopy_x at h
 split at h
 · obtain ⟨y, hy, hK⟩ := Option.bind_eq_some_iff.1 h
   obtain ⟨r, hr, hd⟩ := callF_ok envOk (impl_bakeryCopy_Ok k) follows Tryz.func34 (by kernel_rfl) ((impl_bakeryCopy_e k _).trans hy)
   exact ⟨_, impl_bakeryCopy_i hd ▸ hr.fin [], hK⟩
 · cases h
/-! ### impl.allIn$1: function 130 -/
noncomputable def impl_allIn_1 (k : Nat)  (n : Int) (p1 : Int) (p2 : Int) : Option (Bool) :=
 (impl_in k n p1 p2).bind fun y1 =>
 some (!y1)
noncomputable def impl_allIn_1_v : Nat → List Nat := fun t => match t with | _ => []
noncomputable def impl_allIn_1_O (k : Nat) : Oracle := ofL [(68, impl_in_x k)]
theorem impl_allIn_1_Ok (k : Nat) : OkO (Ct Tryz.prog) (impl_allIn_1_O k) := okO_cons (impl_in_ok k) (okO_nil)
noncomputable def impl_allIn_1_A (n : Int) (p1 : Int) (p2 : Int) : Pk := ⟨[(.sc (.v (.int .i64 n))), (.sc (.bp 0 0)), (.sc (.bp 1 0))], [(.box false [(.v (.int .i64 p1))]), (.box false [(.v (.int .i64 p2))])]⟩
noncomputable def impl_allIn_1_d : Rs → Option (Bool)
 | ⟨(.a (.sc (.v (.bool r1)))), [.dead, .dead]⟩ => some r1
 | _ => none
theorem impl_allIn_1_i {r : Rs} {y : Bool} (h : impl_allIn_1_d r = some y) : r = ⟨(.a (.sc (.v (.bool y)))), [.dead, .dead]⟩ := by
 unfold impl_allIn_1_d at h; split at h
 · cases h; rfl
 · cases h
theorem impl_allIn_1_e (k : Nat) (n : Int) (p1 : Int) (p2 : Int) : callF env (impl_allIn_1_O k) impl_allIn_1_v Tryz.f130 (k + 1) (impl_allIn_1_A n p1 p2) (fun r => impl_allIn_1_d (r.fin 2 [])) = impl_allIn_1 k n p1 p2 := by kernel_rfl
noncomputable def impl_allIn_1_x (k : Nat) : Ent1 := fun A R Q => match A with
 | ⟨[(.sc (.v (.int .i64 a1))), (.sc (.bp 0 0)), (.sc (.bp 1 0))], [(.box false [(.v (.int .i64 a2))]), (.box false [(.v (.int .i64 a3))])]⟩ => (impl_allIn_1 k a1 a2 a3).bind fun y => Q ⟨(.a (.sc (.v (.bool y)))), [.dead, .dead]⟩
 | _ => none
theorem impl_allIn_1_ok (k : Nat) : OkE Tryz.prog 130 (impl_allIn_1_x k) := by
 intro A R Q x h
 unfold impl_allIn_1_x at h
 split at h
 · obtain ⟨y, hy, hK⟩ := Option.bind_eq_some_iff.1 h
   obtain ⟨r, hr, hd⟩ := callF_ok envOk (impl_allIn_1_Ok k) follows Tryz.func130 (by kernel_rfl) ((impl_allIn_1_e k _ _ _).trans hy)
   exact ⟨_, impl_allIn_1_i hd ▸ hr.fin [], hK⟩
 · cases h
/-! ### slices.IndexFunc[[]int,int]: function 157 -/
noncomputable def slices_IndexFunc_int_int_130_s0 (k : Nat)  (s : (List Int)) (f_0 : Int) (f_1 : Int) (J : Int → Option (Int)) (x0_0 : Int) : Option (Int) :=
 cond (decide ((x0_0 : Int) < ((s).length : Int)))
 (if 0 ≤ (x0_0 : Int) ∧ (x0_0 : Int) < ((s).length : Int) then
  (impl_allIn_1 k (s.getD (Int.toNat x0_0) 0) f_0 f_1).bind fun y2 =>
   cond y2
    (some x0_0)
    (J (wr (x0_0 + 1))) else none)
 (some (-1))
noncomputable def slices_IndexFunc_int_int_130_l0 (k : Nat) : Nat → (List Int) → Int → Int → Int → Option (Int)
 | 0, s, f_0, f_1, x0_0 => slices_IndexFunc_int_int_130_s0 k s f_0 f_1 (fun _ => none) x0_0
 | m + 1, s, f_0, f_1, x0_0 => slices_IndexFunc_int_int_130_s0 k s f_0 f_1 (slices_IndexFunc_int_int_130_l0 k m s f_0 f_1) x0_0
noncomputable def slices_IndexFunc_int_int_130_m (k : Nat) (J0 : (List Int) → Int → Int → Int → Option (Int)) (s : (List Int)) (f_0 : Int) (f_1 : Int) : Option (Int) :=
 J0 s f_0 f_1 0
noncomputable def slices_IndexFunc_int_int_130 (k : Nat) (s : (List Int)) (f_0 : Int) (f_1 : Int) : Option (Int) := slices_IndexFunc_int_int_130_m k (slices_IndexFunc_int_int_130_l0 k k) s f_0 f_1
noncomputable def slices_IndexFunc_int_int_130_v : Nat → List Nat := fun t => match t with | 2 => [0, 1, 4, 7, 8] | _ => []
noncomputable def slices_IndexFunc_int_int_130_O (k : Nat) : Oracle := ofL [(130, impl_allIn_1_x k)]
theorem slices_IndexFunc_int_int_130_Ok (k : Nat) : OkO (Ct Tryz.prog) (slices_IndexFunc_int_int_130_O k) := okO_cons (impl_allIn_1_ok k) (okO_nil)
noncomputable def slices_IndexFunc_int_int_130_A (s : (List Int)) (f_0 : Int) (f_1 : Int) : Pk := ⟨[(.sc (.sl 0)), (.sc (.fn 130 [1, 2]))], [(.row false K.ki64 s), (.box false [(.v (.int .i64 f_0))]), (.box false [(.v (.int .i64 f_1))])]⟩
noncomputable def slices_IndexFunc_int_int_130_d : Rs → Option (Int)
 | ⟨(.a (.sc (.v (.int .i64 r1)))), [.dead, .dead, .dead]⟩ => some r1
 | _ => none
theorem slices_IndexFunc_int_int_130_i {r : Rs} {y : Int} (h : slices_IndexFunc_int_int_130_d r = some y) : r = ⟨(.a (.sc (.v (.int .i64 y)))), [.dead, .dead, .dead]⟩ := by
 unfold slices_IndexFunc_int_int_130_d at h; split at h
 · cases h; rfl
 · cases h
noncomputable def slices_IndexFunc_int_int_130_h0 (k m : Nat) (s : (List Int)) (f_0 : Int) (f_1 : Int) (x0_0 : Int) : Option (Int) := hdAt env (slices_IndexFunc_int_int_130_O k) slices_IndexFunc_int_int_130_v Tryz.f157 3 (fun r => slices_IndexFunc_int_int_130_d (r.fin 3 [])) [1, 0, 1, 0] k m ⟨tmF [0, 1, 4, 7, 8] [(.a (.sc (.sl 0))), (.a (.sc (.fn 130 [1, 2]))), (.a (.sc (.v (.int .i64 0)))), (.a (.sc (.v (.int .i64 ((s).length : Int))))), (.a (.sc (.v (.int .i64 x0_0))))], blF [(.row false K.ki64 s), (.box false [(.v (.int .i64 f_0))]), (.box false [(.v (.int .i64 f_1))])]⟩
theorem slices_IndexFunc_int_int_130_z0 (k : Nat) (s : (List Int)) (f_0 : Int) (f_1 : Int) (x0_0 : Int) : slices_IndexFunc_int_int_130_h0 k 0 s f_0 f_1 x0_0 = slices_IndexFunc_int_int_130_s0 k s f_0 f_1 (fun _ => none) x0_0 := by kernel_rfl
theorem slices_IndexFunc_int_int_130_g0 (k : Nat) (H : St → Option (Int)) (s : (List Int)) (f_0 : Int) (f_1 : Int) (x0_0 : Int) : rnd env (slices_IndexFunc_int_int_130_O k) slices_IndexFunc_int_int_130_v Tryz.f157 3 (fun r => slices_IndexFunc_int_int_130_d (r.fin 3 [])) [1, 0, 1, 0] k H ⟨tmF [0, 1, 4, 7, 8] [(.a (.sc (.sl 0))), (.a (.sc (.fn 130 [1, 2]))), (.a (.sc (.v (.int .i64 0)))), (.a (.sc (.v (.int .i64 ((s).length : Int))))), (.a (.sc (.v (.int .i64 x0_0))))], blF [(.row false K.ki64 s), (.box false [(.v (.int .i64 f_0))]), (.box false [(.v (.int .i64 f_1))])]⟩ = slices_IndexFunc_int_int_130_s0 k s f_0 f_1 (fun x0_0 => H ⟨tmF [0, 1, 4, 7, 8] [(.a (.sc (.sl 0))), (.a (.sc (.fn 130 [1, 2]))), (.a (.sc (.v (.int .i64 0)))), (.a (.sc (.v (.int .i64 ((s).length : Int))))), (.a (.sc (.v (.int .i64 x0_0))))], blF [(.row false K.ki64 s), (.box false [(.v (.int .i64 f_0))]), (.box false [(.v (.int .i64 f_1))])]⟩) x0_0 := by kernel_rfl
theorem slices_IndexFunc_int_int_130_n0 (k m : Nat) (s : (List Int)) (f_0 : Int) (f_1 : Int) (x0_0 : Int) : slices_IndexFunc_int_int_130_h0 k (m + 1) s f_0 f_1 x0_0 = slices_IndexFunc_int_int_130_s0 k s f_0 f_1 (slices_IndexFunc_int_int_130_h0 k m s f_0 f_1) x0_0 := (hdAt_succ _ _ _ _ _ _ _ _ _ _).trans (slices_IndexFunc_int_int_130_g0 k _ s f_0 f_1 x0_0)
theorem slices_IndexFunc_int_int_130_q0 (k : Nat) : ∀ m, slices_IndexFunc_int_int_130_h0 k m = slices_IndexFunc_int_int_130_l0 k m := by
 intro m
 induction m with
 | zero => funext s f_0 f_1 x0_0; rw [slices_IndexFunc_int_int_130_z0]; rfl
 | succ m ih => funext s f_0 f_1 x0_0; rw [slices_IndexFunc_int_int_130_n0, ih]; rfl
theorem slices_IndexFunc_int_int_130_e (k : Nat) (s : (List Int)) (f_0 : Int) (f_1 : Int) : callF env (slices_IndexFunc_int_int_130_O k) slices_IndexFunc_int_int_130_v Tryz.f157 (k + 1) (slices_IndexFunc_int_int_130_A s f_0 f_1) (fun r => slices_IndexFunc_int_int_130_d (r.fin 3 [])) = slices_IndexFunc_int_int_130 k s f_0 f_1 := by
 have e : ∀ H : St → Option (Int), callE env (slices_IndexFunc_int_int_130_O k) slices_IndexFunc_int_int_130_v Tryz.f157 (k + 1) (slices_IndexFunc_int_int_130_A s f_0 f_1) [1, 0, 1, 0] (fun r => slices_IndexFunc_int_int_130_d (r.fin 3 [])) H = slices_IndexFunc_int_int_130_m k (fun s f_0 f_1 x0_0 => H ⟨tmF [0, 1, 4, 7, 8] [(.a (.sc (.sl 0))), (.a (.sc (.fn 130 [1, 2]))), (.a (.sc (.v (.int .i64 0)))), (.a (.sc (.v (.int .i64 ((s).length : Int))))), (.a (.sc (.v (.int .i64 x0_0))))], blF [(.row false K.ki64 s), (.box false [(.v (.int .i64 f_0))]), (.box false [(.v (.int .i64 f_1))])]⟩) s f_0 f_1 := fun H => by kernel_rfl
 exact (callE_eq env (slices_IndexFunc_int_int_130_O k) slices_IndexFunc_int_int_130_v Tryz.f157 k (slices_IndexFunc_int_int_130_A s f_0 f_1) [1, 0, 1, 0] 3 (fun r => slices_IndexFunc_int_int_130_d (r.fin 3 [])) rfl (by kernel_rfl)).trans ((e (hdAt env (slices_IndexFunc_int_int_130_O k) slices_IndexFunc_int_int_130_v Tryz.f157 3 (fun r => slices_IndexFunc_int_int_130_d (r.fin 3 [])) [1, 0, 1, 0] k k)).trans (by
  show slices_IndexFunc_int_int_130_m k (slices_IndexFunc_int_int_130_h0 k k) s f_0 f_1 = _
  rw [slices_IndexFunc_int_int_130_q0]; rfl))
noncomputable def slices_IndexFunc_int_int_130_x (k : Nat) : Ent1 := fun A R Q => match A with
 | ⟨[(.sc (.sl 0)), (.sc (.fn 130 [1, 2]))], [(.row false K.ki64 a1), (.box false [(.v (.int .i64 a2))]), (.box false [(.v (.int .i64 a3))])]⟩ => (slices_IndexFunc_int_int_130 k a1 a2 a3).bind fun y => Q ⟨(.a (.sc (.v (.int .i64 y)))), [.dead, .dead, .dead]⟩
 | _ => none
theorem slices_IndexFunc_int_int_130_ok (k : Nat) : OkE Tryz.prog 157 (slices_IndexFunc_int_int_130_x k) := by
 intro A R Q x h
 unfold slices_IndexFunc_int_int_130_x at h
 split at h
 · obtain ⟨y, hy, hK⟩ := Option.bind_eq_some_iff.1 h
   obtain ⟨r, hr, hd⟩ := callF_ok envOk (slices_IndexFunc_int_int_130_Ok k) follows Tryz.func157 (by kernel_rfl) ((slices_IndexFunc_int_int_130_e k _ _ _).trans hy)
   exact ⟨_, slices_IndexFunc_int_int_130_i hd ▸ hr.fin [], hK⟩
 · cases h
/-! ### slices.ContainsFunc[[]int,int]: function 129 -/
noncomputable def slices_ContainsFunc_int_int_130 (k : Nat)  (s : (List Int)) (f_0 : Int) (f_1 : Int) : Option (Bool) :=
 (slices_IndexFunc_int_int_130 k s f_0 f_1).bind fun y1 =>
 some (decide ((0 : Int) ≤ y1))
noncomputable def slices_ContainsFunc_int_int_130_v : Nat → List Nat := fun t => match t with | _ => []
noncomputable def slices_ContainsFunc_int_int_130_O (k : Nat) : Oracle := ofL [(157, slices_IndexFunc_int_int_130_x k)]
theorem slices_ContainsFunc_int_int_130_Ok (k : Nat) : OkO (Ct Tryz.prog) (slices_ContainsFunc_int_int_130_O k) := okO_cons (slices_IndexFunc_int_int_130_ok k) (okO_nil)
noncomputable def slices_ContainsFunc_int_int_130_A (s : (List Int)) (f_0 : Int) (f_1 : Int) : Pk := ⟨[(.sc (.sl 0)), (.sc (.fn 130 [1, 2]))], [(.row false K.ki64 s), (.box false [(.v (.int .i64 f_0))]), (.box false [(.v (.int .i64 f_1))])]⟩
noncomputable def slices_ContainsFunc_int_int_130_d : Rs → Option (Bool)
 | ⟨(.a (.sc (.v (.bool r1)))), [.dead, .dead, .dead]⟩ => some r1
 | _ => none
theorem slices_ContainsFunc_int_int_130_i {r : Rs} {y : Bool} (h : slices_ContainsFunc_int_int_130_d r = some y) : r = ⟨(.a (.sc (.v (.bool y)))), [.dead, .dead, .dead]⟩ := by
 unfold slices_ContainsFunc_int_int_130_d at h; split at h
 · cases h; rfl
 · cases h
theorem slices_ContainsFunc_int_int_130_e (k : Nat) (s : (List Int)) (f_0 : Int) (f_1 : Int) : callF env (slices_ContainsFunc_int_int_130_O k) slices_ContainsFunc_int_int_130_v Tryz.f129 (k + 1) (slices_ContainsFunc_int_int_130_A s f_0 f_1) (fun r => slices_ContainsFunc_int_int_130_d (r.fin 3 [])) = slices_ContainsFunc_int_int_130 k s f_0 f_1 := by kernel_rfl
noncomputable def slices_ContainsFunc_int_int_130_x (k : Nat) : Ent1 := fun A R Q => match A with
 | ⟨[(.sc (.sl 0)), (.sc (.fn 130 [1, 2]))], [(.row false K.ki64 a1), (.box false [(.v (.int .i64 a2))]), (.box false [(.v (.int .i64 a3))])]⟩ => (slices_ContainsFunc_int_int_130 k a1 a2 a3).bind fun y => Q ⟨(.a (.sc (.v (.bool y)))), [.dead, .dead, .dead]⟩
 | _ => none
theorem slices_ContainsFunc_int_int_130_ok (k : Nat) : OkE Tryz.prog 129 (slices_ContainsFunc_int_int_130_x k) := by
 intro A R Q x h
 unfold slices_ContainsFunc_int_int_130_x at h
 split at h
 · obtain ⟨y, hy, hK⟩ := Option.bind_eq_some_iff.1 h
   obtain ⟨r, hr, hd⟩ := callF_ok envOk (slices_ContainsFunc_int_int_130_Ok k) follows Tryz.func129 (by kernel_rfl) ((slices_ContainsFunc_int_int_130_e k _ _ _).trans hy)
   exact ⟨_, slices_ContainsFunc_int_int_130_i hd ▸ hr.fin [], hK⟩
 · cases h
end Go.Proofs.YtlenacakmmikiaaGreatDoorX
