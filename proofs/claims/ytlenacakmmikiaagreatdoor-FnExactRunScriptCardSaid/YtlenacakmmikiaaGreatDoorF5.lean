/- What functions of the program compute, as functions of numbers and lists, and that they do. (The file is written by wip/x/vxp.py of this repository.) -/
import Derived.Test.YtlenacakmmikiaaGreatDoorF4
import Derived.Test.YtlenacakmmikiaaGreatDoorX18
namespace Go.Proofs.YtlenacakmmikiaaGreatDoorX
open Go Go.Proofs
set_option linter.unusedVariables false
set_option maxRecDepth 100000
/-! ### impl.Amounts: function 132 -/
noncomputable def impl_Amounts (k : Nat)  (d : Dough) (flour : Int) : Option ((Unit) ⊕ ((List Int))) :=
 (impl_DoughOk k d).bind fun y1 =>
 cond (!y1)
  (some (.inl ()))
  ((impl_in k flour 0 1000000).bind fun y2 =>
   cond (!y2)
    (some (.inl ()))
    ((impl_PartOf k flour d.Water).bind fun y3 =>
     (impl_PartOf k flour d.Salt).bind fun y4 =>
      (impl_PartOf k flour d.Leaven).bind fun y5 =>
       some (.inr ([flour, y3, y4, y5]))))
noncomputable def impl_Amounts_v : Nat → List Nat := fun t => match t with | _ => []
noncomputable def impl_Amounts_O (k : Nat) : Oracle := ofL [(162, impl_PartOf_x k), (65, impl_DoughOk_x k), (68, impl_in_x k)]
theorem impl_Amounts_Ok (k : Nat) : OkO (Ct Tryz.prog) (impl_Amounts_O k) := okO_cons (impl_PartOf_ok k) (okO_cons (impl_DoughOk_ok k) (okO_cons (impl_in_ok k) (okO_nil)))
noncomputable def impl_Amounts_A (d : Dough) (flour : Int) : Pk := ⟨[(.ag [(.v (.int .i64 d.Water)), (.v (.int .i64 d.Salt)), (.v (.int .i64 d.Leaven))]), (.sc (.v (.int .i64 flour)))], []⟩
noncomputable def impl_Amounts_d : Rs → Option ((Unit) ⊕ ((List Int)))
 | ⟨(.a (.sc .nl)), []⟩ => some (.inl ())
 | ⟨(.a (.sc (.sl 0))), [(.row true K.ki64 r1)]⟩ => some (.inr r1)
 | _ => none
theorem impl_Amounts_i {r : Rs} {y : (Unit) ⊕ ((List Int))} (h : impl_Amounts_d r = some y) : r = (y.elim (fun y => (⟨(.a (.sc .nl)), []⟩ : Rs)) (fun y => (⟨(.a (.sc (.sl 0))), [(.row true K.ki64 y)]⟩ : Rs)) : Rs) := by
 unfold impl_Amounts_d at h; split at h
 · cases h; rfl
 · cases h; rfl
 · cases h
theorem impl_Amounts_e (k : Nat) (d : Dough) (flour : Int) : callF env (impl_Amounts_O k) impl_Amounts_v Tryz.f132 (k + 1) (impl_Amounts_A d flour) (fun r => impl_Amounts_d (r.fin 0 [])) = impl_Amounts k d flour := by kernel_rfl
noncomputable def impl_Amounts_x (k : Nat) : Ent1 := fun A R Q => match A with
 | ⟨[(.ag [(.v (.int .i64 a1)), (.v (.int .i64 a2)), (.v (.int .i64 a3))]), (.sc (.v (.int .i64 a4)))], []⟩ => (impl_Amounts k (⟨a1, a2, a3⟩ : Dough) a4).bind fun y => y.elim (fun y => Q ⟨(.a (.sc .nl)), []⟩) (fun y => Q ⟨(.a (.sc (.sl 0))), [(.row true K.ki64 y)]⟩)
 | _ => none
theorem impl_Amounts_ok (k : Nat) : OkE Tryz.prog 132 (impl_Amounts_x k) := by
 intro A R Q x h
 unfold impl_Amounts_x at h
 split at h
 · obtain ⟨y, hy, hK⟩ := Option.bind_eq_some_iff.1 h
   obtain ⟨r, hr, hd⟩ := callF_ok envOk (impl_Amounts_Ok k) follows Tryz.func132 (by kernel_rfl) ((impl_Amounts_e k _ _).trans hy)
   refine ⟨_, impl_Amounts_i hd ▸ hr.fin [], ?_⟩
   cases y <;> exact hK
 · cases h
/-! ### impl.missing: function 133 -/
noncomputable def impl_missing_s0 (k : Nat)  (s : Stock) (amounts : (List Int)) (J : Int → Option (Int)) (x0_0 : Int) : Option (Int) :=
 cond (decide ((x0_0 : Int) < ((amounts).length : Int)))
 (if 0 ≤ (x0_0 : Int) ∧ (x0_0 : Int) < ((amounts).length : Int) then
  if 0 ≤ (x0_0 : Int) ∧ (x0_0 : Int) < ((s.Grams).length : Int) then
   cond (decide (((s.Grams.getD (Int.toNat x0_0) 0) : Int) < (amounts.getD (Int.toNat x0_0) 0)))
    (some x0_0)
    (J (wr (x0_0 + 1))) else none else none)
 (some (-1))
noncomputable def impl_missing_l0 (k : Nat) : Nat → Stock → (List Int) → Int → Option (Int)
 | 0, s, amounts, x0_0 => impl_missing_s0 k s amounts (fun _ => none) x0_0
 | m + 1, s, amounts, x0_0 => impl_missing_s0 k s amounts (impl_missing_l0 k m s amounts) x0_0
noncomputable def impl_missing_m (k : Nat) (J0 : Stock → (List Int) → Int → Option (Int)) (s : Stock) (amounts : (List Int)) : Option (Int) :=
 J0 s amounts 0
noncomputable def impl_missing (k : Nat) (s : Stock) (amounts : (List Int)) : Option (Int) := impl_missing_m k (impl_missing_l0 k k) s amounts
noncomputable def impl_missing_v : Nat → List Nat := fun t => match t with | 2 => [2, 4, 7, 8, 9] | _ => []
noncomputable def impl_missing_O (k : Nat) : Oracle := ofL []
theorem impl_missing_Ok (k : Nat) : OkO (Ct Tryz.prog) (impl_missing_O k) := okO_nil
noncomputable def impl_missing_A (s : Stock) (amounts : (List Int)) : Pk := ⟨[(.ag [(.sl 0)]), (.sc (.sl 1))], [(.row false K.ki64 s.Grams), (.row false K.ki64 amounts)]⟩
noncomputable def impl_missing_d : Rs → Option (Int)
 | ⟨(.a (.sc (.v (.int .i64 r1)))), [.dead, .dead]⟩ => some r1
 | _ => none
theorem impl_missing_i {r : Rs} {y : Int} (h : impl_missing_d r = some y) : r = ⟨(.a (.sc (.v (.int .i64 y)))), [.dead, .dead]⟩ := by
 unfold impl_missing_d at h; split at h
 · cases h; rfl
 · cases h
noncomputable def impl_missing_h0 (k m : Nat) (s : Stock) (amounts : (List Int)) (x0_0 : Int) : Option (Int) := hdAt env (impl_missing_O k) impl_missing_v Tryz.f133 2 (fun r => impl_missing_d (r.fin 2 [])) [1, 0, 1, 0] k m ⟨tmF [2, 4, 7, 8, 9] [(.a (.sc (.bp 2 0))), (.a (.sc (.v (.int .i64 0)))), (.a (.sc (.sl 1))), (.a (.sc (.v (.int .i64 ((amounts).length : Int))))), (.a (.sc (.v (.int .i64 x0_0))))], blF [(.row false K.ki64 s.Grams), (.row false K.ki64 amounts), (.box true [(.sl 0)])]⟩
theorem impl_missing_z0 (k : Nat) (s : Stock) (amounts : (List Int)) (x0_0 : Int) : impl_missing_h0 k 0 s amounts x0_0 = impl_missing_s0 k s amounts (fun _ => none) x0_0 := by kernel_rfl
theorem impl_missing_g0 (k : Nat) (H : St → Option (Int)) (s : Stock) (amounts : (List Int)) (x0_0 : Int) : rnd env (impl_missing_O k) impl_missing_v Tryz.f133 2 (fun r => impl_missing_d (r.fin 2 [])) [1, 0, 1, 0] k H ⟨tmF [2, 4, 7, 8, 9] [(.a (.sc (.bp 2 0))), (.a (.sc (.v (.int .i64 0)))), (.a (.sc (.sl 1))), (.a (.sc (.v (.int .i64 ((amounts).length : Int))))), (.a (.sc (.v (.int .i64 x0_0))))], blF [(.row false K.ki64 s.Grams), (.row false K.ki64 amounts), (.box true [(.sl 0)])]⟩ = impl_missing_s0 k s amounts (fun x0_0 => H ⟨tmF [2, 4, 7, 8, 9] [(.a (.sc (.bp 2 0))), (.a (.sc (.v (.int .i64 0)))), (.a (.sc (.sl 1))), (.a (.sc (.v (.int .i64 ((amounts).length : Int))))), (.a (.sc (.v (.int .i64 x0_0))))], blF [(.row false K.ki64 s.Grams), (.row false K.ki64 amounts), (.box true [(.sl 0)])]⟩) x0_0 := by kernel_rfl
theorem impl_missing_n0 (k m : Nat) (s : Stock) (amounts : (List Int)) (x0_0 : Int) : impl_missing_h0 k (m + 1) s amounts x0_0 = impl_missing_s0 k s amounts (impl_missing_h0 k m s amounts) x0_0 := (hdAt_succ _ _ _ _ _ _ _ _ _ _).trans (impl_missing_g0 k _ s amounts x0_0)
theorem impl_missing_q0 (k : Nat) : ∀ m, impl_missing_h0 k m = impl_missing_l0 k m := by
 intro m
 induction m with
 | zero => funext s amounts x0_0; rw [impl_missing_z0]; rfl
 | succ m ih => funext s amounts x0_0; rw [impl_missing_n0, ih]; rfl
theorem impl_missing_e (k : Nat) (s : Stock) (amounts : (List Int)) : callF env (impl_missing_O k) impl_missing_v Tryz.f133 (k + 1) (impl_missing_A s amounts) (fun r => impl_missing_d (r.fin 2 [])) = impl_missing k s amounts := by
 have e : ∀ H : St → Option (Int), callE env (impl_missing_O k) impl_missing_v Tryz.f133 (k + 1) (impl_missing_A s amounts) [1, 0, 1, 0] (fun r => impl_missing_d (r.fin 2 [])) H = impl_missing_m k (fun s amounts x0_0 => H ⟨tmF [2, 4, 7, 8, 9] [(.a (.sc (.bp 2 0))), (.a (.sc (.v (.int .i64 0)))), (.a (.sc (.sl 1))), (.a (.sc (.v (.int .i64 ((amounts).length : Int))))), (.a (.sc (.v (.int .i64 x0_0))))], blF [(.row false K.ki64 s.Grams), (.row false K.ki64 amounts), (.box true [(.sl 0)])]⟩) s amounts := fun H => by kernel_rfl
 exact (callE_eq env (impl_missing_O k) impl_missing_v Tryz.f133 k (impl_missing_A s amounts) [1, 0, 1, 0] 2 (fun r => impl_missing_d (r.fin 2 [])) rfl (by kernel_rfl)).trans ((e (hdAt env (impl_missing_O k) impl_missing_v Tryz.f133 2 (fun r => impl_missing_d (r.fin 2 [])) [1, 0, 1, 0] k k)).trans (by
  show impl_missing_m k (impl_missing_h0 k k) s amounts = _
  rw [impl_missing_q0]; rfl))
noncomputable def impl_missing_x (k : Nat) : Ent1 := fun A R Q => match A with
 | ⟨[(.ag [(.sl 0)]), (.sc (.sl 1))], [(.row false K.ki64 a1), (.row false K.ki64 a2)]⟩ => (impl_missing k (⟨a1⟩ : Stock) a2).bind fun y => Q ⟨(.a (.sc (.v (.int .i64 y)))), [.dead, .dead]⟩
 | _ => none
theorem impl_missing_ok (k : Nat) : OkE Tryz.prog 133 (impl_missing_x k) := by
 intro A R Q x h
 unfold impl_missing_x at h
 split at h
 · obtain ⟨y, hy, hK⟩ := Option.bind_eq_some_iff.1 h
   obtain ⟨r, hr, hd⟩ := callF_ok envOk (impl_missing_Ok k) follows Tryz.func133 (by kernel_rfl) ((impl_missing_e k _ _).trans hy)
   exact ⟨_, impl_missing_i hd ▸ hr.fin [], hK⟩
 · cases h
/-! ### impl.TakeFor: function 104 -/
noncomputable def impl_TakeFor_s0 (k : Nat)  (s : Stock) (y3 : (List Int)) (J : Int → (List Int) → Option (Stock × Bool)) (x0_0 : Int) (x0_1 : (List Int)) : Option (Stock × Bool) :=
 cond (decide ((x0_0 : Int) < ((y3).length : Int)))
 (if 0 ≤ (x0_0 : Int) ∧ (x0_0 : Int) < ((y3).length : Int) then
  if 0 ≤ (x0_0 : Int) ∧ (x0_0 : Int) < ((x0_1).length : Int) then
   if 0 ≤ (x0_0 : Int) ∧ (x0_0 : Int) < ((x0_1).length : Int) then
    J (wr (x0_0 + 1)) (x0_1.set (Int.toNat x0_0) (wr ((x0_1.getD (Int.toNat x0_0) 0) - (y3.getD (Int.toNat x0_0) 0)))) else none else none else none)
 (some ((⟨x0_1⟩ : Stock), true))
noncomputable def impl_TakeFor_l0 (k : Nat) : Nat → Stock → (List Int) → Int → (List Int) → Option (Stock × Bool)
 | 0, s, y3, x0_0, x0_1 => impl_TakeFor_s0 k s y3 (fun _ _ => none) x0_0 x0_1
 | m + 1, s, y3, x0_0, x0_1 => impl_TakeFor_s0 k s y3 (impl_TakeFor_l0 k m s y3) x0_0 x0_1
noncomputable def impl_TakeFor_m (k : Nat) (J0 : Stock → (List Int) → Int → (List Int) → Option (Stock × Bool)) (s : Stock) (d : Dough) (flour : Int) : Option (Stock × Bool) :=
 (impl_Amounts k d flour).bind fun y1 =>
 y1.elim (fun y2 =>
  (impl_stockCopy k s).bind fun y4 =>
  (impl_StoreOk k s).bind fun y6 =>
   cond (!y6)
    (some (y4, false))
    (some (y4, false))) (fun y3 =>
  (impl_stockCopy k s).bind fun y5 =>
  (impl_StoreOk k s).bind fun y7 =>
   cond (!y7)
    (some (y5, false))
    ((@ite _ (y3 ≠ []) (neNil y3)
     ((impl_missing k s y3).bind fun y8 =>
      cond (decide ((0 : Int) ≤ y8))
       (some (y5, false))
       (J0 s y3 0 y5.Grams)) none)))
noncomputable def impl_TakeFor (k : Nat) (s : Stock) (d : Dough) (flour : Int) : Option (Stock × Bool) := impl_TakeFor_m k (impl_TakeFor_l0 k k) s d flour
noncomputable def impl_TakeFor_v : Nat → List Nat := fun t => match t with | 5 => [6, 7, 9, 31, 32, 33] | _ => []
noncomputable def impl_TakeFor_O (k : Nat) : Oracle := ofL [(132, impl_Amounts_x k), (133, impl_missing_x k), (62, impl_stockCopy_x k), (64, impl_StoreOk_x k)]
theorem impl_TakeFor_Ok (k : Nat) : OkO (Ct Tryz.prog) (impl_TakeFor_O k) := okO_cons (impl_Amounts_ok k) (okO_cons (impl_missing_ok k) (okO_cons (impl_stockCopy_ok k) (okO_cons (impl_StoreOk_ok k) (okO_nil))))
noncomputable def impl_TakeFor_A (s : Stock) (d : Dough) (flour : Int) : Pk := ⟨[(.ag [(.sl 0)]), (.ag [(.v (.int .i64 d.Water)), (.v (.int .i64 d.Salt)), (.v (.int .i64 d.Leaven))]), (.sc (.v (.int .i64 flour)))], [(.row false K.ki64 s.Grams)]⟩
noncomputable def impl_TakeFor_d : Rs → Option (Stock × Bool)
 | ⟨(.tp [(.ag [(.sl 1)]), (.sc (.v (.bool r2)))]), [.dead, (.row true K.ki64 r1)]⟩ => some ((⟨r1⟩ : Stock), r2)
 | _ => none
theorem impl_TakeFor_i {r : Rs} {y : Stock × Bool} (h : impl_TakeFor_d r = some y) : r = ⟨(.tp [(.ag [(.sl 1)]), (.sc (.v (.bool y.2)))]), [.dead, (.row true K.ki64 y.1.Grams)]⟩ := by
 unfold impl_TakeFor_d at h; split at h
 · cases h; rfl
 · cases h
noncomputable def impl_TakeFor_h0 (k m : Nat) (s : Stock) (y3 : (List Int)) (x0_0 : Int) (x0_1 : (List Int)) : Option (Stock × Bool) := hdAt env (impl_TakeFor_O k) impl_TakeFor_v Tryz.f104 1 (fun r => impl_TakeFor_d (r.fin 1 [])) [1, 1, 1, 0, 1, 0] k m ⟨tmF [6, 7, 9, 31, 32, 33] [(.a (.sc (.bp 2 0))), (.a (.sc (.v (.bool false)))), (.a (.sc (.bp 4 0))), (.a (.sc (.sl 5))), (.a (.sc (.v (.int .i64 ((y3).length : Int))))), (.a (.sc (.v (.int .i64 x0_0))))], blF [(.row false K.ki64 s.Grams), (.row true K.ki64 []), (.box true [(.sl 1)]), (.row true K.ki64 x0_1), (.box true [(.sl 3)]), (.row true K.ki64 y3)]⟩
theorem impl_TakeFor_z0 (k : Nat) (s : Stock) (y3 : (List Int)) (x0_0 : Int) (x0_1 : (List Int)) : impl_TakeFor_h0 k 0 s y3 x0_0 x0_1 = impl_TakeFor_s0 k s y3 (fun _ _ => none) x0_0 x0_1 := by kernel_rfl
theorem impl_TakeFor_g0 (k : Nat) (H : St → Option (Stock × Bool)) (s : Stock) (y3 : (List Int)) (x0_0 : Int) (x0_1 : (List Int)) : rnd env (impl_TakeFor_O k) impl_TakeFor_v Tryz.f104 1 (fun r => impl_TakeFor_d (r.fin 1 [])) [1, 1, 1, 0, 1, 0] k H ⟨tmF [6, 7, 9, 31, 32, 33] [(.a (.sc (.bp 2 0))), (.a (.sc (.v (.bool false)))), (.a (.sc (.bp 4 0))), (.a (.sc (.sl 5))), (.a (.sc (.v (.int .i64 ((y3).length : Int))))), (.a (.sc (.v (.int .i64 x0_0))))], blF [(.row false K.ki64 s.Grams), (.row true K.ki64 []), (.box true [(.sl 1)]), (.row true K.ki64 x0_1), (.box true [(.sl 3)]), (.row true K.ki64 y3)]⟩ = impl_TakeFor_s0 k s y3 (fun x0_0 x0_1 => H ⟨tmF [6, 7, 9, 31, 32, 33] [(.a (.sc (.bp 2 0))), (.a (.sc (.v (.bool false)))), (.a (.sc (.bp 4 0))), (.a (.sc (.sl 5))), (.a (.sc (.v (.int .i64 ((y3).length : Int))))), (.a (.sc (.v (.int .i64 x0_0))))], blF [(.row false K.ki64 s.Grams), (.row true K.ki64 []), (.box true [(.sl 1)]), (.row true K.ki64 x0_1), (.box true [(.sl 3)]), (.row true K.ki64 y3)]⟩) x0_0 x0_1 := by kernel_rfl
theorem impl_TakeFor_n0 (k m : Nat) (s : Stock) (y3 : (List Int)) (x0_0 : Int) (x0_1 : (List Int)) : impl_TakeFor_h0 k (m + 1) s y3 x0_0 x0_1 = impl_TakeFor_s0 k s y3 (impl_TakeFor_h0 k m s y3) x0_0 x0_1 := (hdAt_succ _ _ _ _ _ _ _ _ _ _).trans (impl_TakeFor_g0 k _ s y3 x0_0 x0_1)
theorem impl_TakeFor_q0 (k : Nat) : ∀ m, impl_TakeFor_h0 k m = impl_TakeFor_l0 k m := by
 intro m
 induction m with
 | zero => funext s y3 x0_0 x0_1; rw [impl_TakeFor_z0]; rfl
 | succ m ih => funext s y3 x0_0 x0_1; rw [impl_TakeFor_n0, ih]; rfl
theorem impl_TakeFor_e (k : Nat) (s : Stock) (d : Dough) (flour : Int) : callF env (impl_TakeFor_O k) impl_TakeFor_v Tryz.f104 (k + 1) (impl_TakeFor_A s d flour) (fun r => impl_TakeFor_d (r.fin 1 [])) = impl_TakeFor k s d flour := by
 have e : ∀ H : St → Option (Stock × Bool), callE env (impl_TakeFor_O k) impl_TakeFor_v Tryz.f104 (k + 1) (impl_TakeFor_A s d flour) [1, 1, 1, 0, 1, 0] (fun r => impl_TakeFor_d (r.fin 1 [])) H = impl_TakeFor_m k (fun s y3 x0_0 x0_1 => H ⟨tmF [6, 7, 9, 31, 32, 33] [(.a (.sc (.bp 2 0))), (.a (.sc (.v (.bool false)))), (.a (.sc (.bp 4 0))), (.a (.sc (.sl 5))), (.a (.sc (.v (.int .i64 ((y3).length : Int))))), (.a (.sc (.v (.int .i64 x0_0))))], blF [(.row false K.ki64 s.Grams), (.row true K.ki64 []), (.box true [(.sl 1)]), (.row true K.ki64 x0_1), (.box true [(.sl 3)]), (.row true K.ki64 y3)]⟩) s d flour := fun H => by kernel_rfl
 exact (callE_eq env (impl_TakeFor_O k) impl_TakeFor_v Tryz.f104 k (impl_TakeFor_A s d flour) [1, 1, 1, 0, 1, 0] 1 (fun r => impl_TakeFor_d (r.fin 1 [])) rfl (by kernel_rfl)).trans ((e (hdAt env (impl_TakeFor_O k) impl_TakeFor_v Tryz.f104 1 (fun r => impl_TakeFor_d (r.fin 1 [])) [1, 1, 1, 0, 1, 0] k k)).trans (by
  show impl_TakeFor_m k (impl_TakeFor_h0 k k) s d flour = _
  rw [impl_TakeFor_q0]; rfl))
noncomputable def impl_TakeFor_x (k : Nat) : Ent1 := fun A R Q => match A with
 | ⟨[(.ag [(.sl 0)]), (.ag [(.v (.int .i64 a2)), (.v (.int .i64 a3)), (.v (.int .i64 a4))]), (.sc (.v (.int .i64 a5)))], [(.row false K.ki64 a1)]⟩ => (impl_TakeFor k (⟨a1⟩ : Stock) (⟨a2, a3, a4⟩ : Dough) a5).bind fun y => Q ⟨(.tp [(.ag [(.sl 1)]), (.sc (.v (.bool y.2)))]), [.dead, (.row true K.ki64 y.1.Grams)]⟩
 | _ => none
theorem impl_TakeFor_ok (k : Nat) : OkE Tryz.prog 104 (impl_TakeFor_x k) := by
 intro A R Q x h
 unfold impl_TakeFor_x at h
 split at h
 · obtain ⟨y, hy, hK⟩ := Option.bind_eq_some_iff.1 h
   obtain ⟨r, hr, hd⟩ := callF_ok envOk (impl_TakeFor_Ok k) follows Tryz.func104 (by kernel_rfl) ((impl_TakeFor_e k _ _ _).trans hy)
   exact ⟨_, impl_TakeFor_i hd ▸ hr.fin [], hK⟩
 · cases h
/-! ### impl.Enter: function 134 -/
noncomputable def impl_Enter (k : Nat)  (b : Book) (e : Event) : Option (Book × Bool) :=
 (impl_BookOk k b).bind fun y1 =>
 cond (!y1)
  ((impl_bookCopy k b).bind fun y2 =>
   some (y2, false))
  ((impl_bookCopy k b).bind fun y3 =>
   if (y3.Events : List Event).length + ([e] : List Event).length ≤ maxRow then
    (impl_counted k (y3.Events ++ [e])).bind fun y4 =>
     cond (!y4.2)
      ((impl_bookCopy k b).bind fun y5 =>
       some (y5, false))
      (some (y4.1, true)) else none)
noncomputable def impl_Enter_v : Nat → List Nat := fun t => match t with | _ => []
noncomputable def impl_Enter_O (k : Nat) : Oracle := ofL [(101, impl_counted_x k), (63, impl_bookCopy_x k), (67, impl_BookOk_x k)]
theorem impl_Enter_Ok (k : Nat) : OkO (Ct Tryz.prog) (impl_Enter_O k) := okO_cons (impl_counted_ok k) (okO_cons (impl_bookCopy_ok k) (okO_cons (impl_BookOk_ok k) (okO_nil)))
noncomputable def impl_Enter_A (b : Book) (e : Event) : Pk := ⟨[(.ag [(.sl 0), (.v (.int .i64 b.Rack.Fresh)), (.v (.int .i64 b.Rack.Day)), (.v (.int .i64 b.Rack.Old)), (.v (.int .i64 b.Baked)), (.v (.int .i64 b.Sold)), (.v (.int .i64 b.Thrown))]), (.ag [(.v (.int .i64 e.Kind)), (.v (.int .i64 e.Loaves))])], [(.row false K.k_impl_Event b.Events)]⟩
noncomputable def impl_Enter_d : Rs → Option (Book × Bool)
 | ⟨(.tp [(.ag [(.sl 1), (.v (.int .i64 r2)), (.v (.int .i64 r3)), (.v (.int .i64 r4)), (.v (.int .i64 r5)), (.v (.int .i64 r6)), (.v (.int .i64 r7))]), (.sc (.v (.bool r8)))]), [.dead, (.row true K.k_impl_Event r1)]⟩ => some ((⟨r1, (⟨r2, r3, r4⟩ : Rack), r5, r6, r7⟩ : Book), r8)
 | _ => none
theorem impl_Enter_i {r : Rs} {y : Book × Bool} (h : impl_Enter_d r = some y) : r = ⟨(.tp [(.ag [(.sl 1), (.v (.int .i64 y.1.Rack.Fresh)), (.v (.int .i64 y.1.Rack.Day)), (.v (.int .i64 y.1.Rack.Old)), (.v (.int .i64 y.1.Baked)), (.v (.int .i64 y.1.Sold)), (.v (.int .i64 y.1.Thrown))]), (.sc (.v (.bool y.2)))]), [.dead, (.row true K.k_impl_Event y.1.Events)]⟩ := by
 unfold impl_Enter_d at h; split at h
 · cases h; rfl
 · cases h
theorem impl_Enter_e (k : Nat) (b : Book) (e : Event) : callF env (impl_Enter_O k) impl_Enter_v Tryz.f134 (k + 1) (impl_Enter_A b e) (fun r => impl_Enter_d (r.fin 1 [])) = impl_Enter k b e := by kernel_rfl
noncomputable def impl_Enter_x (k : Nat) : Ent1 := fun A R Q => match A with
 | ⟨[(.ag [(.sl 0), (.v (.int .i64 a2)), (.v (.int .i64 a3)), (.v (.int .i64 a4)), (.v (.int .i64 a5)), (.v (.int .i64 a6)), (.v (.int .i64 a7))]), (.ag [(.v (.int .i64 a8)), (.v (.int .i64 a9))])], [(.row false K.k_impl_Event a1)]⟩ => (impl_Enter k (⟨a1, (⟨a2, a3, a4⟩ : Rack), a5, a6, a7⟩ : Book) (⟨a8, a9⟩ : Event)).bind fun y => Q ⟨(.tp [(.ag [(.sl 1), (.v (.int .i64 y.1.Rack.Fresh)), (.v (.int .i64 y.1.Rack.Day)), (.v (.int .i64 y.1.Rack.Old)), (.v (.int .i64 y.1.Baked)), (.v (.int .i64 y.1.Sold)), (.v (.int .i64 y.1.Thrown))]), (.sc (.v (.bool y.2)))]), [.dead, (.row true K.k_impl_Event y.1.Events)]⟩
 | _ => none
theorem impl_Enter_ok (k : Nat) : OkE Tryz.prog 134 (impl_Enter_x k) := by
 intro A R Q x h
 unfold impl_Enter_x at h
 split at h
 · obtain ⟨y, hy, hK⟩ := Option.bind_eq_some_iff.1 h
   obtain ⟨r, hr, hd⟩ := callF_ok envOk (impl_Enter_Ok k) follows Tryz.func134 (by kernel_rfl) ((impl_Enter_e k _ _).trans hy)
   exact ⟨_, impl_Enter_i hd ▸ hr.fin [], hK⟩
 · cases h
/-! ### impl.Bakery).enter: function 105 -/
noncomputable def impl_Bakery_enter (k : Nat)  (b : Bakery) (e : Event) : Option (Bool × (List Int) × (List Event) × Bakery) :=
 (impl_Enter k b.Book e).bind fun y1 =>
 some (y1.2, b.Stock.Grams, b.Book.Events, (⟨b.Stock, b.Dough, b.Loaf, y1.1, b.Money⟩ : Bakery))
noncomputable def impl_Bakery_enter_v : Nat → List Nat := fun t => match t with | _ => []
noncomputable def impl_Bakery_enter_O (k : Nat) : Oracle := ofL [(134, impl_Enter_x k)]
theorem impl_Bakery_enter_Ok (k : Nat) : OkO (Ct Tryz.prog) (impl_Bakery_enter_O k) := okO_cons (impl_Enter_ok k) (okO_nil)
noncomputable def impl_Bakery_enter_A (b : Bakery) (e : Event) : Pk := ⟨[(.sc (.bp 2 0)), (.ag [(.v (.int .i64 e.Kind)), (.v (.int .i64 e.Loaves))])], [(.row true K.ki64 b.Stock.Grams), (.row true K.k_impl_Event b.Book.Events), (.box true [(.sl 0), (.v (.int .i64 b.Dough.Water)), (.v (.int .i64 b.Dough.Salt)), (.v (.int .i64 b.Dough.Leaven)), (.v (.int .i64 b.Loaf.Weight)), (.v (.int .i64 b.Loaf.Loss)), (.sl 1), (.v (.int .i64 b.Book.Rack.Fresh)), (.v (.int .i64 b.Book.Rack.Day)), (.v (.int .i64 b.Book.Rack.Old)), (.v (.int .i64 b.Book.Baked)), (.v (.int .i64 b.Book.Sold)), (.v (.int .i64 b.Book.Thrown)), (.v (.int .i64 b.Money))])]⟩
noncomputable def impl_Bakery_enter_d : Rs → Option (Bool × (List Int) × (List Event) × Bakery)
 | ⟨(.a (.sc (.v (.bool r1)))), [(.row true K.ki64 r2), (.row true K.k_impl_Event r3), (.box true [(.sl 0), (.v (.int .i64 r4)), (.v (.int .i64 r5)), (.v (.int .i64 r6)), (.v (.int .i64 r7)), (.v (.int .i64 r8)), (.sl 3), (.v (.int .i64 r10)), (.v (.int .i64 r11)), (.v (.int .i64 r12)), (.v (.int .i64 r13)), (.v (.int .i64 r14)), (.v (.int .i64 r15)), (.v (.int .i64 r16))]), (.row true K.k_impl_Event r9)]⟩ => some (r1, r2, r3, (⟨(⟨r2⟩ : Stock), (⟨r4, r5, r6⟩ : Dough), (⟨r7, r8⟩ : Loaf), (⟨r9, (⟨r10, r11, r12⟩ : Rack), r13, r14, r15⟩ : Book), r16⟩ : Bakery))
 | _ => none
theorem impl_Bakery_enter_i {r : Rs} {y : Bool × (List Int) × (List Event) × Bakery} (h : impl_Bakery_enter_d r = some y) : r = ⟨(.a (.sc (.v (.bool y.1)))), [(.row true K.ki64 y.2.1), (.row true K.k_impl_Event y.2.2.1), (.box true [(.sl 0), (.v (.int .i64 y.2.2.2.Dough.Water)), (.v (.int .i64 y.2.2.2.Dough.Salt)), (.v (.int .i64 y.2.2.2.Dough.Leaven)), (.v (.int .i64 y.2.2.2.Loaf.Weight)), (.v (.int .i64 y.2.2.2.Loaf.Loss)), (.sl 3), (.v (.int .i64 y.2.2.2.Book.Rack.Fresh)), (.v (.int .i64 y.2.2.2.Book.Rack.Day)), (.v (.int .i64 y.2.2.2.Book.Rack.Old)), (.v (.int .i64 y.2.2.2.Book.Baked)), (.v (.int .i64 y.2.2.2.Book.Sold)), (.v (.int .i64 y.2.2.2.Book.Thrown)), (.v (.int .i64 y.2.2.2.Money))]), (.row true K.k_impl_Event y.2.2.2.Book.Events)]⟩ := by
 unfold impl_Bakery_enter_d at h; split at h
 · cases h; rfl
 · cases h
theorem impl_Bakery_enter_e (k : Nat) (b : Bakery) (e : Event) : callF env (impl_Bakery_enter_O k) impl_Bakery_enter_v Tryz.f105 (k + 1) (impl_Bakery_enter_A b e) (fun r => impl_Bakery_enter_d (r.fin 3 [])) = impl_Bakery_enter k b e := by kernel_rfl
noncomputable def impl_Bakery_enter_x (k : Nat) : Ent1 := fun A R Q => match A with
 | ⟨[(.sc (.bp 2 0)), (.ag [(.v (.int .i64 a15)), (.v (.int .i64 a16))])], [(.row true K.ki64 a1), (.row true K.k_impl_Event a7), (.box true [(.sl 0), (.v (.int .i64 a2)), (.v (.int .i64 a3)), (.v (.int .i64 a4)), (.v (.int .i64 a5)), (.v (.int .i64 a6)), (.sl 1), (.v (.int .i64 a8)), (.v (.int .i64 a9)), (.v (.int .i64 a10)), (.v (.int .i64 a11)), (.v (.int .i64 a12)), (.v (.int .i64 a13)), (.v (.int .i64 a14))])]⟩ => (impl_Bakery_enter k (⟨(⟨a1⟩ : Stock), (⟨a2, a3, a4⟩ : Dough), (⟨a5, a6⟩ : Loaf), (⟨a7, (⟨a8, a9, a10⟩ : Rack), a11, a12, a13⟩ : Book), a14⟩ : Bakery) (⟨a15, a16⟩ : Event)).bind fun y => Q ⟨(.a (.sc (.v (.bool y.1)))), [(.row true K.ki64 y.2.1), (.row true K.k_impl_Event y.2.2.1), (.box true [(.sl 0), (.v (.int .i64 y.2.2.2.Dough.Water)), (.v (.int .i64 y.2.2.2.Dough.Salt)), (.v (.int .i64 y.2.2.2.Dough.Leaven)), (.v (.int .i64 y.2.2.2.Loaf.Weight)), (.v (.int .i64 y.2.2.2.Loaf.Loss)), (.sl 3), (.v (.int .i64 y.2.2.2.Book.Rack.Fresh)), (.v (.int .i64 y.2.2.2.Book.Rack.Day)), (.v (.int .i64 y.2.2.2.Book.Rack.Old)), (.v (.int .i64 y.2.2.2.Book.Baked)), (.v (.int .i64 y.2.2.2.Book.Sold)), (.v (.int .i64 y.2.2.2.Book.Thrown)), (.v (.int .i64 y.2.2.2.Money))]), (.row true K.k_impl_Event y.2.2.2.Book.Events)]⟩
 | _ => none
theorem impl_Bakery_enter_ok (k : Nat) : OkE Tryz.prog 105 (impl_Bakery_enter_x k) := by
 intro A R Q x h
 unfold impl_Bakery_enter_x at h
 split at h
 · obtain ⟨y, hy, hK⟩ := Option.bind_eq_some_iff.1 h
   obtain ⟨r, hr, hd⟩ := callF_ok envOk (impl_Bakery_enter_Ok k) follows Tryz.func105 (by kernel_rfl) ((impl_Bakery_enter_e k _ _).trans hy)
   exact ⟨_, impl_Bakery_enter_i hd ▸ hr.fin [], hK⟩
 · cases h
/-! ### impl.BakeLoaves$1: function 103 -/
noncomputable def impl_BakeLoaves_1 (k : Nat)  (own : Bakery) (p1 : Bakery) (p2 : Int) : Option (Bool × (List Int) × Bakery) :=
 (impl_FlourNeeded k p1 p2).bind fun y1 =>
 (impl_TakeFor k own.Stock own.Dough y1).bind fun y2 =>
  cond y2.2
   ((impl_Bakery_enter k (⟨y2.1, own.Dough, own.Loaf, own.Book, own.Money⟩ : Bakery) (⟨1, p2⟩ : Event)).bind fun y3 =>
    some (y3.1, own.Stock.Grams, (⟨(⟨y3.2.1⟩ : Stock), y3.2.2.2.Dough, y3.2.2.2.Loaf, y3.2.2.2.Book, y3.2.2.2.Money⟩ : Bakery)))
   (some (false, own.Stock.Grams, (⟨y2.1, own.Dough, own.Loaf, own.Book, own.Money⟩ : Bakery)))
noncomputable def impl_BakeLoaves_1_v : Nat → List Nat := fun t => match t with | _ => []
noncomputable def impl_BakeLoaves_1_O (k : Nat) : Oracle := ofL [(104, impl_TakeFor_x k), (105, impl_Bakery_enter_x k), (73, impl_FlourNeeded_x k)]
theorem impl_BakeLoaves_1_Ok (k : Nat) : OkO (Ct Tryz.prog) (impl_BakeLoaves_1_O k) := okO_cons (impl_TakeFor_ok k) (okO_cons (impl_Bakery_enter_ok k) (okO_cons (impl_FlourNeeded_ok k) (okO_nil)))
noncomputable def impl_BakeLoaves_1_A (own : Bakery) (p1 : Bakery) (p2 : Int) : Pk := ⟨[(.sc (.bp 2 0)), (.sc (.bp 5 0)), (.sc (.bp 6 0))], [(.row true K.ki64 own.Stock.Grams), (.row true K.k_impl_Event own.Book.Events), (.box true [(.sl 0), (.v (.int .i64 own.Dough.Water)), (.v (.int .i64 own.Dough.Salt)), (.v (.int .i64 own.Dough.Leaven)), (.v (.int .i64 own.Loaf.Weight)), (.v (.int .i64 own.Loaf.Loss)), (.sl 1), (.v (.int .i64 own.Book.Rack.Fresh)), (.v (.int .i64 own.Book.Rack.Day)), (.v (.int .i64 own.Book.Rack.Old)), (.v (.int .i64 own.Book.Baked)), (.v (.int .i64 own.Book.Sold)), (.v (.int .i64 own.Book.Thrown)), (.v (.int .i64 own.Money))]), (.row false K.ki64 p1.Stock.Grams), (.row false K.k_impl_Event p1.Book.Events), (.box false [(.sl 3), (.v (.int .i64 p1.Dough.Water)), (.v (.int .i64 p1.Dough.Salt)), (.v (.int .i64 p1.Dough.Leaven)), (.v (.int .i64 p1.Loaf.Weight)), (.v (.int .i64 p1.Loaf.Loss)), (.sl 4), (.v (.int .i64 p1.Book.Rack.Fresh)), (.v (.int .i64 p1.Book.Rack.Day)), (.v (.int .i64 p1.Book.Rack.Old)), (.v (.int .i64 p1.Book.Baked)), (.v (.int .i64 p1.Book.Sold)), (.v (.int .i64 p1.Book.Thrown)), (.v (.int .i64 p1.Money))]), (.box false [(.v (.int .i64 p2))])]⟩
noncomputable def impl_BakeLoaves_1_d : Rs → Option (Bool × (List Int) × Bakery)
 | ⟨(.a (.sc (.v (.bool r1)))), [(.row true K.ki64 r2), .dead, (.box true [(.sl 7), (.v (.int .i64 r4)), (.v (.int .i64 r5)), (.v (.int .i64 r6)), (.v (.int .i64 r7)), (.v (.int .i64 r8)), (.sl 8), (.v (.int .i64 r10)), (.v (.int .i64 r11)), (.v (.int .i64 r12)), (.v (.int .i64 r13)), (.v (.int .i64 r14)), (.v (.int .i64 r15)), (.v (.int .i64 r16))]), .dead, .dead, .dead, .dead, (.row true K.ki64 r3), (.row true K.k_impl_Event r9)]⟩ => some (r1, r2, (⟨(⟨r3⟩ : Stock), (⟨r4, r5, r6⟩ : Dough), (⟨r7, r8⟩ : Loaf), (⟨r9, (⟨r10, r11, r12⟩ : Rack), r13, r14, r15⟩ : Book), r16⟩ : Bakery))
 | _ => none
theorem impl_BakeLoaves_1_i {r : Rs} {y : Bool × (List Int) × Bakery} (h : impl_BakeLoaves_1_d r = some y) : r = ⟨(.a (.sc (.v (.bool y.1)))), [(.row true K.ki64 y.2.1), .dead, (.box true [(.sl 7), (.v (.int .i64 y.2.2.Dough.Water)), (.v (.int .i64 y.2.2.Dough.Salt)), (.v (.int .i64 y.2.2.Dough.Leaven)), (.v (.int .i64 y.2.2.Loaf.Weight)), (.v (.int .i64 y.2.2.Loaf.Loss)), (.sl 8), (.v (.int .i64 y.2.2.Book.Rack.Fresh)), (.v (.int .i64 y.2.2.Book.Rack.Day)), (.v (.int .i64 y.2.2.Book.Rack.Old)), (.v (.int .i64 y.2.2.Book.Baked)), (.v (.int .i64 y.2.2.Book.Sold)), (.v (.int .i64 y.2.2.Book.Thrown)), (.v (.int .i64 y.2.2.Money))]), .dead, .dead, .dead, .dead, (.row true K.ki64 y.2.2.Stock.Grams), (.row true K.k_impl_Event y.2.2.Book.Events)]⟩ := by
 unfold impl_BakeLoaves_1_d at h; split at h
 · cases h; rfl
 · cases h
theorem impl_BakeLoaves_1_e (k : Nat) (own : Bakery) (p1 : Bakery) (p2 : Int) : callF env (impl_BakeLoaves_1_O k) impl_BakeLoaves_1_v Tryz.f103 (k + 1) (impl_BakeLoaves_1_A own p1 p2) (fun r => impl_BakeLoaves_1_d ((r.mv [1]).fin 7 [])) = impl_BakeLoaves_1 k own p1 p2 := by kernel_rfl
noncomputable def impl_BakeLoaves_1_x (k : Nat) : Ent1 := fun A R Q => match A with
 | ⟨[(.sc (.bp 2 0)), (.sc (.bp 5 0)), (.sc (.bp 6 0))], [(.row true K.ki64 a1), (.row true K.k_impl_Event a7), (.box true [(.sl 0), (.v (.int .i64 a2)), (.v (.int .i64 a3)), (.v (.int .i64 a4)), (.v (.int .i64 a5)), (.v (.int .i64 a6)), (.sl 1), (.v (.int .i64 a8)), (.v (.int .i64 a9)), (.v (.int .i64 a10)), (.v (.int .i64 a11)), (.v (.int .i64 a12)), (.v (.int .i64 a13)), (.v (.int .i64 a14))]), (.row false K.ki64 a15), (.row false K.k_impl_Event a21), (.box false [(.sl 3), (.v (.int .i64 a16)), (.v (.int .i64 a17)), (.v (.int .i64 a18)), (.v (.int .i64 a19)), (.v (.int .i64 a20)), (.sl 4), (.v (.int .i64 a22)), (.v (.int .i64 a23)), (.v (.int .i64 a24)), (.v (.int .i64 a25)), (.v (.int .i64 a26)), (.v (.int .i64 a27)), (.v (.int .i64 a28))]), (.box false [(.v (.int .i64 a29))])]⟩ => (impl_BakeLoaves_1 k (⟨(⟨a1⟩ : Stock), (⟨a2, a3, a4⟩ : Dough), (⟨a5, a6⟩ : Loaf), (⟨a7, (⟨a8, a9, a10⟩ : Rack), a11, a12, a13⟩ : Book), a14⟩ : Bakery) (⟨(⟨a15⟩ : Stock), (⟨a16, a17, a18⟩ : Dough), (⟨a19, a20⟩ : Loaf), (⟨a21, (⟨a22, a23, a24⟩ : Rack), a25, a26, a27⟩ : Book), a28⟩ : Bakery) a29).bind fun y => Q ⟨(.a (.sc (.v (.bool y.1)))), [(.row true K.ki64 y.2.1), .dead, (.box true [(.sl 7), (.v (.int .i64 y.2.2.Dough.Water)), (.v (.int .i64 y.2.2.Dough.Salt)), (.v (.int .i64 y.2.2.Dough.Leaven)), (.v (.int .i64 y.2.2.Loaf.Weight)), (.v (.int .i64 y.2.2.Loaf.Loss)), (.sl 8), (.v (.int .i64 y.2.2.Book.Rack.Fresh)), (.v (.int .i64 y.2.2.Book.Rack.Day)), (.v (.int .i64 y.2.2.Book.Rack.Old)), (.v (.int .i64 y.2.2.Book.Baked)), (.v (.int .i64 y.2.2.Book.Sold)), (.v (.int .i64 y.2.2.Book.Thrown)), (.v (.int .i64 y.2.2.Money))]), .dead, .dead, .dead, .dead, (.row true K.ki64 y.2.2.Stock.Grams), (.row true K.k_impl_Event y.2.2.Book.Events)]⟩
 | _ => none
theorem impl_BakeLoaves_1_ok (k : Nat) : OkE Tryz.prog 103 (impl_BakeLoaves_1_x k) := by
 intro A R Q x h
 unfold impl_BakeLoaves_1_x at h
 split at h
 · obtain ⟨y, hy, hK⟩ := Option.bind_eq_some_iff.1 h
   obtain ⟨r, hr, hd⟩ := callF_ok envOk (impl_BakeLoaves_1_Ok k) follows Tryz.func103 (by kernel_rfl) ((impl_BakeLoaves_1_e k _ _ _).trans hy)
   exact ⟨_, impl_BakeLoaves_1_i hd ▸ (hr.mvn (l := [1]) 7 rfl rfl).fin [], hK⟩
 · cases h
/-! ### impl.changed: function 102 -/
noncomputable def impl_changed_103 (k : Nat)  (b : Bakery) (how_0 : Bakery) (how_1 : Int) : Option (Bakery × Bool) :=
 (impl_bakeryCopy k b).bind fun y1 =>
 (impl_BakeryOk k b).bind fun y2 =>
  cond (!y2)
   ((impl_bakeryCopy k b).bind fun y5 =>
    some (y5, false))
   ((impl_BakeLoaves_1 k y1 how_0 how_1).bind fun y3 =>
    cond (!y3.1)
     ((impl_bakeryCopy k b).bind fun y6 =>
      some (y6, false))
     ((impl_BakeryOk k y3.2.2).bind fun y4 =>
      cond (!y4)
       ((impl_bakeryCopy k b).bind fun y7 =>
        some (y7, false))
       (some (y3.2.2, true))))
noncomputable def impl_changed_103_v : Nat → List Nat := fun t => match t with | _ => []
noncomputable def impl_changed_103_O (k : Nat) : Oracle := ofL [(103, impl_BakeLoaves_1_x k), (34, impl_bakeryCopy_x k), (35, impl_BakeryOk_x k)]
theorem impl_changed_103_Ok (k : Nat) : OkO (Ct Tryz.prog) (impl_changed_103_O k) := okO_cons (impl_BakeLoaves_1_ok k) (okO_cons (impl_bakeryCopy_ok k) (okO_cons (impl_BakeryOk_ok k) (okO_nil)))
noncomputable def impl_changed_103_A (b : Bakery) (how_0 : Bakery) (how_1 : Int) : Pk := ⟨[(.ag [(.sl 0), (.v (.int .i64 b.Dough.Water)), (.v (.int .i64 b.Dough.Salt)), (.v (.int .i64 b.Dough.Leaven)), (.v (.int .i64 b.Loaf.Weight)), (.v (.int .i64 b.Loaf.Loss)), (.sl 1), (.v (.int .i64 b.Book.Rack.Fresh)), (.v (.int .i64 b.Book.Rack.Day)), (.v (.int .i64 b.Book.Rack.Old)), (.v (.int .i64 b.Book.Baked)), (.v (.int .i64 b.Book.Sold)), (.v (.int .i64 b.Book.Thrown)), (.v (.int .i64 b.Money))]), (.sc (.fn 103 [4, 5]))], [(.row false K.ki64 b.Stock.Grams), (.row false K.k_impl_Event b.Book.Events), (.row false K.ki64 how_0.Stock.Grams), (.row false K.k_impl_Event how_0.Book.Events), (.box false [(.sl 2), (.v (.int .i64 how_0.Dough.Water)), (.v (.int .i64 how_0.Dough.Salt)), (.v (.int .i64 how_0.Dough.Leaven)), (.v (.int .i64 how_0.Loaf.Weight)), (.v (.int .i64 how_0.Loaf.Loss)), (.sl 3), (.v (.int .i64 how_0.Book.Rack.Fresh)), (.v (.int .i64 how_0.Book.Rack.Day)), (.v (.int .i64 how_0.Book.Rack.Old)), (.v (.int .i64 how_0.Book.Baked)), (.v (.int .i64 how_0.Book.Sold)), (.v (.int .i64 how_0.Book.Thrown)), (.v (.int .i64 how_0.Money))]), (.box false [(.v (.int .i64 how_1))])]⟩
noncomputable def impl_changed_103_d : Rs → Option (Bakery × Bool)
 | ⟨(.tp [(.ag [(.sl 6), (.v (.int .i64 r2)), (.v (.int .i64 r3)), (.v (.int .i64 r4)), (.v (.int .i64 r5)), (.v (.int .i64 r6)), (.sl 7), (.v (.int .i64 r8)), (.v (.int .i64 r9)), (.v (.int .i64 r10)), (.v (.int .i64 r11)), (.v (.int .i64 r12)), (.v (.int .i64 r13)), (.v (.int .i64 r14))]), (.sc (.v (.bool r15)))]), [.dead, .dead, .dead, .dead, .dead, .dead, (.row true K.ki64 r1), (.row true K.k_impl_Event r7)]⟩ => some ((⟨(⟨r1⟩ : Stock), (⟨r2, r3, r4⟩ : Dough), (⟨r5, r6⟩ : Loaf), (⟨r7, (⟨r8, r9, r10⟩ : Rack), r11, r12, r13⟩ : Book), r14⟩ : Bakery), r15)
 | _ => none
theorem impl_changed_103_i {r : Rs} {y : Bakery × Bool} (h : impl_changed_103_d r = some y) : r = ⟨(.tp [(.ag [(.sl 6), (.v (.int .i64 y.1.Dough.Water)), (.v (.int .i64 y.1.Dough.Salt)), (.v (.int .i64 y.1.Dough.Leaven)), (.v (.int .i64 y.1.Loaf.Weight)), (.v (.int .i64 y.1.Loaf.Loss)), (.sl 7), (.v (.int .i64 y.1.Book.Rack.Fresh)), (.v (.int .i64 y.1.Book.Rack.Day)), (.v (.int .i64 y.1.Book.Rack.Old)), (.v (.int .i64 y.1.Book.Baked)), (.v (.int .i64 y.1.Book.Sold)), (.v (.int .i64 y.1.Book.Thrown)), (.v (.int .i64 y.1.Money))]), (.sc (.v (.bool y.2)))]), [.dead, .dead, .dead, .dead, .dead, .dead, (.row true K.ki64 y.1.Stock.Grams), (.row true K.k_impl_Event y.1.Book.Events)]⟩ := by
 unfold impl_changed_103_d at h; split at h
 · cases h; rfl
 · cases h
theorem impl_changed_103_e (k : Nat) (b : Bakery) (how_0 : Bakery) (how_1 : Int) : callF env (impl_changed_103_O k) impl_changed_103_v Tryz.f102 (k + 1) (impl_changed_103_A b how_0 how_1) (fun r => impl_changed_103_d (r.fin 6 [])) = impl_changed_103 k b how_0 how_1 := by kernel_rfl
noncomputable def impl_changed_103_x (k : Nat) : Ent1 := fun A R Q => match A with
 | ⟨[(.ag [(.sl 0), (.v (.int .i64 a2)), (.v (.int .i64 a3)), (.v (.int .i64 a4)), (.v (.int .i64 a5)), (.v (.int .i64 a6)), (.sl 1), (.v (.int .i64 a8)), (.v (.int .i64 a9)), (.v (.int .i64 a10)), (.v (.int .i64 a11)), (.v (.int .i64 a12)), (.v (.int .i64 a13)), (.v (.int .i64 a14))]), (.sc (.fn 103 [4, 5]))], [(.row false K.ki64 a1), (.row false K.k_impl_Event a7), (.row false K.ki64 a15), (.row false K.k_impl_Event a21), (.box false [(.sl 2), (.v (.int .i64 a16)), (.v (.int .i64 a17)), (.v (.int .i64 a18)), (.v (.int .i64 a19)), (.v (.int .i64 a20)), (.sl 3), (.v (.int .i64 a22)), (.v (.int .i64 a23)), (.v (.int .i64 a24)), (.v (.int .i64 a25)), (.v (.int .i64 a26)), (.v (.int .i64 a27)), (.v (.int .i64 a28))]), (.box false [(.v (.int .i64 a29))])]⟩ => (impl_changed_103 k (⟨(⟨a1⟩ : Stock), (⟨a2, a3, a4⟩ : Dough), (⟨a5, a6⟩ : Loaf), (⟨a7, (⟨a8, a9, a10⟩ : Rack), a11, a12, a13⟩ : Book), a14⟩ : Bakery) (⟨(⟨a15⟩ : Stock), (⟨a16, a17, a18⟩ : Dough), (⟨a19, a20⟩ : Loaf), (⟨a21, (⟨a22, a23, a24⟩ : Rack), a25, a26, a27⟩ : Book), a28⟩ : Bakery) a29).bind fun y => Q ⟨(.tp [(.ag [(.sl 6), (.v (.int .i64 y.1.Dough.Water)), (.v (.int .i64 y.1.Dough.Salt)), (.v (.int .i64 y.1.Dough.Leaven)), (.v (.int .i64 y.1.Loaf.Weight)), (.v (.int .i64 y.1.Loaf.Loss)), (.sl 7), (.v (.int .i64 y.1.Book.Rack.Fresh)), (.v (.int .i64 y.1.Book.Rack.Day)), (.v (.int .i64 y.1.Book.Rack.Old)), (.v (.int .i64 y.1.Book.Baked)), (.v (.int .i64 y.1.Book.Sold)), (.v (.int .i64 y.1.Book.Thrown)), (.v (.int .i64 y.1.Money))]), (.sc (.v (.bool y.2)))]), [.dead, .dead, .dead, .dead, .dead, .dead, (.row true K.ki64 y.1.Stock.Grams), (.row true K.k_impl_Event y.1.Book.Events)]⟩
 | _ => none
theorem impl_changed_103_ok (k : Nat) : OkE Tryz.prog 102 (impl_changed_103_x k) := by
 intro A R Q x h
 unfold impl_changed_103_x at h
 split at h
 · obtain ⟨y, hy, hK⟩ := Option.bind_eq_some_iff.1 h
   obtain ⟨r, hr, hd⟩ := callF_ok envOk (impl_changed_103_Ok k) follows Tryz.func102 (by kernel_rfl) ((impl_changed_103_e k _ _ _).trans hy)
   exact ⟨_, impl_changed_103_i hd ▸ hr.fin [], hK⟩
 · cases h
/-! ### impl.BakeLoaves: function 69 -/
noncomputable def impl_BakeLoaves (k : Nat)  (b : Bakery) (loaves : Int) : Option (Bakery × Bool) :=
 (impl_changed_103 k b b loaves).bind fun y1 =>
 some (y1.1, y1.2)
noncomputable def impl_BakeLoaves_v : Nat → List Nat := fun t => match t with | _ => []
noncomputable def impl_BakeLoaves_O (k : Nat) : Oracle := ofL [(102, impl_changed_103_x k)]
theorem impl_BakeLoaves_Ok (k : Nat) : OkO (Ct Tryz.prog) (impl_BakeLoaves_O k) := okO_cons (impl_changed_103_ok k) (okO_nil)
noncomputable def impl_BakeLoaves_A (b : Bakery) (loaves : Int) : Pk := ⟨[(.ag [(.sl 0), (.v (.int .i64 b.Dough.Water)), (.v (.int .i64 b.Dough.Salt)), (.v (.int .i64 b.Dough.Leaven)), (.v (.int .i64 b.Loaf.Weight)), (.v (.int .i64 b.Loaf.Loss)), (.sl 1), (.v (.int .i64 b.Book.Rack.Fresh)), (.v (.int .i64 b.Book.Rack.Day)), (.v (.int .i64 b.Book.Rack.Old)), (.v (.int .i64 b.Book.Baked)), (.v (.int .i64 b.Book.Sold)), (.v (.int .i64 b.Book.Thrown)), (.v (.int .i64 b.Money))]), (.sc (.v (.int .i64 loaves)))], [(.row false K.ki64 b.Stock.Grams), (.row false K.k_impl_Event b.Book.Events)]⟩
noncomputable def impl_BakeLoaves_d : Rs → Option (Bakery × Bool)
 | ⟨(.tp [(.ag [(.sl 2), (.v (.int .i64 r2)), (.v (.int .i64 r3)), (.v (.int .i64 r4)), (.v (.int .i64 r5)), (.v (.int .i64 r6)), (.sl 3), (.v (.int .i64 r8)), (.v (.int .i64 r9)), (.v (.int .i64 r10)), (.v (.int .i64 r11)), (.v (.int .i64 r12)), (.v (.int .i64 r13)), (.v (.int .i64 r14))]), (.sc (.v (.bool r15)))]), [.dead, .dead, (.row true K.ki64 r1), (.row true K.k_impl_Event r7)]⟩ => some ((⟨(⟨r1⟩ : Stock), (⟨r2, r3, r4⟩ : Dough), (⟨r5, r6⟩ : Loaf), (⟨r7, (⟨r8, r9, r10⟩ : Rack), r11, r12, r13⟩ : Book), r14⟩ : Bakery), r15)
 | _ => none
theorem impl_BakeLoaves_i {r : Rs} {y : Bakery × Bool} (h : impl_BakeLoaves_d r = some y) : r = ⟨(.tp [(.ag [(.sl 2), (.v (.int .i64 y.1.Dough.Water)), (.v (.int .i64 y.1.Dough.Salt)), (.v (.int .i64 y.1.Dough.Leaven)), (.v (.int .i64 y.1.Loaf.Weight)), (.v (.int .i64 y.1.Loaf.Loss)), (.sl 3), (.v (.int .i64 y.1.Book.Rack.Fresh)), (.v (.int .i64 y.1.Book.Rack.Day)), (.v (.int .i64 y.1.Book.Rack.Old)), (.v (.int .i64 y.1.Book.Baked)), (.v (.int .i64 y.1.Book.Sold)), (.v (.int .i64 y.1.Book.Thrown)), (.v (.int .i64 y.1.Money))]), (.sc (.v (.bool y.2)))]), [.dead, .dead, (.row true K.ki64 y.1.Stock.Grams), (.row true K.k_impl_Event y.1.Book.Events)]⟩ := by
 unfold impl_BakeLoaves_d at h; split at h
 · cases h; rfl
 · cases h
theorem impl_BakeLoaves_e (k : Nat) (b : Bakery) (loaves : Int) : callF env (impl_BakeLoaves_O k) impl_BakeLoaves_v Tryz.f69 (k + 1) (impl_BakeLoaves_A b loaves) (fun r => impl_BakeLoaves_d (r.fin 2 [])) = impl_BakeLoaves k b loaves := by kernel_rfl
noncomputable def impl_BakeLoaves_x (k : Nat) : Ent1 := fun A R Q => match A with
 | ⟨[(.ag [(.sl 0), (.v (.int .i64 a2)), (.v (.int .i64 a3)), (.v (.int .i64 a4)), (.v (.int .i64 a5)), (.v (.int .i64 a6)), (.sl 1), (.v (.int .i64 a8)), (.v (.int .i64 a9)), (.v (.int .i64 a10)), (.v (.int .i64 a11)), (.v (.int .i64 a12)), (.v (.int .i64 a13)), (.v (.int .i64 a14))]), (.sc (.v (.int .i64 a15)))], [(.row false K.ki64 a1), (.row false K.k_impl_Event a7)]⟩ => (impl_BakeLoaves k (⟨(⟨a1⟩ : Stock), (⟨a2, a3, a4⟩ : Dough), (⟨a5, a6⟩ : Loaf), (⟨a7, (⟨a8, a9, a10⟩ : Rack), a11, a12, a13⟩ : Book), a14⟩ : Bakery) a15).bind fun y => Q ⟨(.tp [(.ag [(.sl 2), (.v (.int .i64 y.1.Dough.Water)), (.v (.int .i64 y.1.Dough.Salt)), (.v (.int .i64 y.1.Dough.Leaven)), (.v (.int .i64 y.1.Loaf.Weight)), (.v (.int .i64 y.1.Loaf.Loss)), (.sl 3), (.v (.int .i64 y.1.Book.Rack.Fresh)), (.v (.int .i64 y.1.Book.Rack.Day)), (.v (.int .i64 y.1.Book.Rack.Old)), (.v (.int .i64 y.1.Book.Baked)), (.v (.int .i64 y.1.Book.Sold)), (.v (.int .i64 y.1.Book.Thrown)), (.v (.int .i64 y.1.Money))]), (.sc (.v (.bool y.2)))]), [.dead, .dead, (.row true K.ki64 y.1.Stock.Grams), (.row true K.k_impl_Event y.1.Book.Events)]⟩
 | _ => none
theorem impl_BakeLoaves_ok (k : Nat) : OkE Tryz.prog 69 (impl_BakeLoaves_x k) := by
 intro A R Q x h
 unfold impl_BakeLoaves_x at h
 split at h
 · obtain ⟨y, hy, hK⟩ := Option.bind_eq_some_iff.1 h
   obtain ⟨r, hr, hd⟩ := callF_ok envOk (impl_BakeLoaves_Ok k) follows Tryz.func69 (by kernel_rfl) ((impl_BakeLoaves_e k _ _).trans hy)
   exact ⟨_, impl_BakeLoaves_i hd ▸ hr.fin [], hK⟩
 · cases h
/-! ### impl.SellLoaves$1: function 106 -/
noncomputable def impl_SellLoaves_1 (k : Nat)  (own : Bakery) (p1 : Bool) (p2 : Int) : Option (Bool × (List Int) × (List Event) × Bakery) :=
 cond p1
 ((impl_Bakery_enter k (⟨own.Stock, own.Dough, own.Loaf, own.Book, (wr (own.Money + (wr ((2 : Int) * p2))))⟩ : Bakery) (⟨3, p2⟩ : Event)).bind fun y1 =>
  some (y1.1, y1.2.1, y1.2.2.1, (⟨(⟨y1.2.1⟩ : Stock), y1.2.2.2.Dough, y1.2.2.2.Loaf, y1.2.2.2.Book, y1.2.2.2.Money⟩ : Bakery)))
 ((impl_Bakery_enter k (⟨own.Stock, own.Dough, own.Loaf, own.Book, (wr (own.Money + (wr ((4 : Int) * p2))))⟩ : Bakery) (⟨2, p2⟩ : Event)).bind fun y2 =>
  some (y2.1, y2.2.1, y2.2.2.1, (⟨(⟨y2.2.1⟩ : Stock), y2.2.2.2.Dough, y2.2.2.2.Loaf, y2.2.2.2.Book, y2.2.2.2.Money⟩ : Bakery)))
noncomputable def impl_SellLoaves_1_v : Nat → List Nat := fun t => match t with | _ => []
noncomputable def impl_SellLoaves_1_O (k : Nat) : Oracle := ofL [(105, impl_Bakery_enter_x k)]
theorem impl_SellLoaves_1_Ok (k : Nat) : OkO (Ct Tryz.prog) (impl_SellLoaves_1_O k) := okO_cons (impl_Bakery_enter_ok k) (okO_nil)
noncomputable def impl_SellLoaves_1_A (own : Bakery) (p1 : Bool) (p2 : Int) : Pk := ⟨[(.sc (.bp 2 0)), (.sc (.bp 3 0)), (.sc (.bp 4 0))], [(.row true K.ki64 own.Stock.Grams), (.row true K.k_impl_Event own.Book.Events), (.box true [(.sl 0), (.v (.int .i64 own.Dough.Water)), (.v (.int .i64 own.Dough.Salt)), (.v (.int .i64 own.Dough.Leaven)), (.v (.int .i64 own.Loaf.Weight)), (.v (.int .i64 own.Loaf.Loss)), (.sl 1), (.v (.int .i64 own.Book.Rack.Fresh)), (.v (.int .i64 own.Book.Rack.Day)), (.v (.int .i64 own.Book.Rack.Old)), (.v (.int .i64 own.Book.Baked)), (.v (.int .i64 own.Book.Sold)), (.v (.int .i64 own.Book.Thrown)), (.v (.int .i64 own.Money))]), (.box false [(.v (.bool p1))]), (.box false [(.v (.int .i64 p2))])]⟩
noncomputable def impl_SellLoaves_1_d : Rs → Option (Bool × (List Int) × (List Event) × Bakery)
 | ⟨(.a (.sc (.v (.bool r1)))), [(.row true K.ki64 r2), (.row true K.k_impl_Event r3), (.box true [(.sl 0), (.v (.int .i64 r4)), (.v (.int .i64 r5)), (.v (.int .i64 r6)), (.v (.int .i64 r7)), (.v (.int .i64 r8)), (.sl 5), (.v (.int .i64 r10)), (.v (.int .i64 r11)), (.v (.int .i64 r12)), (.v (.int .i64 r13)), (.v (.int .i64 r14)), (.v (.int .i64 r15)), (.v (.int .i64 r16))]), .dead, .dead, (.row true K.k_impl_Event r9)]⟩ => some (r1, r2, r3, (⟨(⟨r2⟩ : Stock), (⟨r4, r5, r6⟩ : Dough), (⟨r7, r8⟩ : Loaf), (⟨r9, (⟨r10, r11, r12⟩ : Rack), r13, r14, r15⟩ : Book), r16⟩ : Bakery))
 | _ => none
theorem impl_SellLoaves_1_i {r : Rs} {y : Bool × (List Int) × (List Event) × Bakery} (h : impl_SellLoaves_1_d r = some y) : r = ⟨(.a (.sc (.v (.bool y.1)))), [(.row true K.ki64 y.2.1), (.row true K.k_impl_Event y.2.2.1), (.box true [(.sl 0), (.v (.int .i64 y.2.2.2.Dough.Water)), (.v (.int .i64 y.2.2.2.Dough.Salt)), (.v (.int .i64 y.2.2.2.Dough.Leaven)), (.v (.int .i64 y.2.2.2.Loaf.Weight)), (.v (.int .i64 y.2.2.2.Loaf.Loss)), (.sl 5), (.v (.int .i64 y.2.2.2.Book.Rack.Fresh)), (.v (.int .i64 y.2.2.2.Book.Rack.Day)), (.v (.int .i64 y.2.2.2.Book.Rack.Old)), (.v (.int .i64 y.2.2.2.Book.Baked)), (.v (.int .i64 y.2.2.2.Book.Sold)), (.v (.int .i64 y.2.2.2.Book.Thrown)), (.v (.int .i64 y.2.2.2.Money))]), .dead, .dead, (.row true K.k_impl_Event y.2.2.2.Book.Events)]⟩ := by
 unfold impl_SellLoaves_1_d at h; split at h
 · cases h; rfl
 · cases h
theorem impl_SellLoaves_1_e (k : Nat) (own : Bakery) (p1 : Bool) (p2 : Int) : callF env (impl_SellLoaves_1_O k) impl_SellLoaves_1_v Tryz.f106 (k + 1) (impl_SellLoaves_1_A own p1 p2) (fun r => impl_SellLoaves_1_d (r.fin 5 [])) = impl_SellLoaves_1 k own p1 p2 := by kernel_rfl
noncomputable def impl_SellLoaves_1_x (k : Nat) : Ent1 := fun A R Q => match A with
 | ⟨[(.sc (.bp 2 0)), (.sc (.bp 3 0)), (.sc (.bp 4 0))], [(.row true K.ki64 a1), (.row true K.k_impl_Event a7), (.box true [(.sl 0), (.v (.int .i64 a2)), (.v (.int .i64 a3)), (.v (.int .i64 a4)), (.v (.int .i64 a5)), (.v (.int .i64 a6)), (.sl 1), (.v (.int .i64 a8)), (.v (.int .i64 a9)), (.v (.int .i64 a10)), (.v (.int .i64 a11)), (.v (.int .i64 a12)), (.v (.int .i64 a13)), (.v (.int .i64 a14))]), (.box false [(.v (.bool a15))]), (.box false [(.v (.int .i64 a16))])]⟩ => (impl_SellLoaves_1 k (⟨(⟨a1⟩ : Stock), (⟨a2, a3, a4⟩ : Dough), (⟨a5, a6⟩ : Loaf), (⟨a7, (⟨a8, a9, a10⟩ : Rack), a11, a12, a13⟩ : Book), a14⟩ : Bakery) a15 a16).bind fun y => Q ⟨(.a (.sc (.v (.bool y.1)))), [(.row true K.ki64 y.2.1), (.row true K.k_impl_Event y.2.2.1), (.box true [(.sl 0), (.v (.int .i64 y.2.2.2.Dough.Water)), (.v (.int .i64 y.2.2.2.Dough.Salt)), (.v (.int .i64 y.2.2.2.Dough.Leaven)), (.v (.int .i64 y.2.2.2.Loaf.Weight)), (.v (.int .i64 y.2.2.2.Loaf.Loss)), (.sl 5), (.v (.int .i64 y.2.2.2.Book.Rack.Fresh)), (.v (.int .i64 y.2.2.2.Book.Rack.Day)), (.v (.int .i64 y.2.2.2.Book.Rack.Old)), (.v (.int .i64 y.2.2.2.Book.Baked)), (.v (.int .i64 y.2.2.2.Book.Sold)), (.v (.int .i64 y.2.2.2.Book.Thrown)), (.v (.int .i64 y.2.2.2.Money))]), .dead, .dead, (.row true K.k_impl_Event y.2.2.2.Book.Events)]⟩
 | _ => none
theorem impl_SellLoaves_1_ok (k : Nat) : OkE Tryz.prog 106 (impl_SellLoaves_1_x k) := by
 intro A R Q x h
 unfold impl_SellLoaves_1_x at h
 split at h
 · obtain ⟨y, hy, hK⟩ := Option.bind_eq_some_iff.1 h
   obtain ⟨r, hr, hd⟩ := callF_ok envOk (impl_SellLoaves_1_Ok k) follows Tryz.func106 (by kernel_rfl) ((impl_SellLoaves_1_e k _ _ _).trans hy)
   exact ⟨_, impl_SellLoaves_1_i hd ▸ hr.fin [], hK⟩
 · cases h
/-! ### impl.changed: function 102 -/
noncomputable def impl_changed_106 (k : Nat)  (b : Bakery) (how_0 : Bool) (how_1 : Int) : Option (Bakery × Bool) :=
 (impl_bakeryCopy k b).bind fun y1 =>
 (impl_BakeryOk k b).bind fun y2 =>
  cond (!y2)
   ((impl_bakeryCopy k b).bind fun y5 =>
    some (y5, false))
   ((impl_SellLoaves_1 k y1 how_0 how_1).bind fun y3 =>
    cond (!y3.1)
     ((impl_bakeryCopy k b).bind fun y6 =>
      some (y6, false))
     ((impl_BakeryOk k (⟨(⟨y3.2.1⟩ : Stock), y3.2.2.2.Dough, y3.2.2.2.Loaf, y3.2.2.2.Book, y3.2.2.2.Money⟩ : Bakery)).bind fun y4 =>
      cond (!y4)
       ((impl_bakeryCopy k b).bind fun y7 =>
        some (y7, false))
       (some ((⟨(⟨y3.2.1⟩ : Stock), y3.2.2.2.Dough, y3.2.2.2.Loaf, y3.2.2.2.Book, y3.2.2.2.Money⟩ : Bakery), true))))
noncomputable def impl_changed_106_v : Nat → List Nat := fun t => match t with | _ => []
noncomputable def impl_changed_106_O (k : Nat) : Oracle := ofL [(106, impl_SellLoaves_1_x k), (34, impl_bakeryCopy_x k), (35, impl_BakeryOk_x k)]
theorem impl_changed_106_Ok (k : Nat) : OkO (Ct Tryz.prog) (impl_changed_106_O k) := okO_cons (impl_SellLoaves_1_ok k) (okO_cons (impl_bakeryCopy_ok k) (okO_cons (impl_BakeryOk_ok k) (okO_nil)))
noncomputable def impl_changed_106_A (b : Bakery) (how_0 : Bool) (how_1 : Int) : Pk := ⟨[(.ag [(.sl 0), (.v (.int .i64 b.Dough.Water)), (.v (.int .i64 b.Dough.Salt)), (.v (.int .i64 b.Dough.Leaven)), (.v (.int .i64 b.Loaf.Weight)), (.v (.int .i64 b.Loaf.Loss)), (.sl 1), (.v (.int .i64 b.Book.Rack.Fresh)), (.v (.int .i64 b.Book.Rack.Day)), (.v (.int .i64 b.Book.Rack.Old)), (.v (.int .i64 b.Book.Baked)), (.v (.int .i64 b.Book.Sold)), (.v (.int .i64 b.Book.Thrown)), (.v (.int .i64 b.Money))]), (.sc (.fn 106 [2, 3]))], [(.row false K.ki64 b.Stock.Grams), (.row false K.k_impl_Event b.Book.Events), (.box false [(.v (.bool how_0))]), (.box false [(.v (.int .i64 how_1))])]⟩
noncomputable def impl_changed_106_d : Rs → Option (Bakery × Bool)
 | ⟨(.tp [(.ag [(.sl 4), (.v (.int .i64 r2)), (.v (.int .i64 r3)), (.v (.int .i64 r4)), (.v (.int .i64 r5)), (.v (.int .i64 r6)), (.sl 5), (.v (.int .i64 r8)), (.v (.int .i64 r9)), (.v (.int .i64 r10)), (.v (.int .i64 r11)), (.v (.int .i64 r12)), (.v (.int .i64 r13)), (.v (.int .i64 r14))]), (.sc (.v (.bool r15)))]), [.dead, .dead, .dead, .dead, (.row true K.ki64 r1), (.row true K.k_impl_Event r7)]⟩ => some ((⟨(⟨r1⟩ : Stock), (⟨r2, r3, r4⟩ : Dough), (⟨r5, r6⟩ : Loaf), (⟨r7, (⟨r8, r9, r10⟩ : Rack), r11, r12, r13⟩ : Book), r14⟩ : Bakery), r15)
 | _ => none
theorem impl_changed_106_i {r : Rs} {y : Bakery × Bool} (h : impl_changed_106_d r = some y) : r = ⟨(.tp [(.ag [(.sl 4), (.v (.int .i64 y.1.Dough.Water)), (.v (.int .i64 y.1.Dough.Salt)), (.v (.int .i64 y.1.Dough.Leaven)), (.v (.int .i64 y.1.Loaf.Weight)), (.v (.int .i64 y.1.Loaf.Loss)), (.sl 5), (.v (.int .i64 y.1.Book.Rack.Fresh)), (.v (.int .i64 y.1.Book.Rack.Day)), (.v (.int .i64 y.1.Book.Rack.Old)), (.v (.int .i64 y.1.Book.Baked)), (.v (.int .i64 y.1.Book.Sold)), (.v (.int .i64 y.1.Book.Thrown)), (.v (.int .i64 y.1.Money))]), (.sc (.v (.bool y.2)))]), [.dead, .dead, .dead, .dead, (.row true K.ki64 y.1.Stock.Grams), (.row true K.k_impl_Event y.1.Book.Events)]⟩ := by
 unfold impl_changed_106_d at h; split at h
 · cases h; rfl
 · cases h
theorem impl_changed_106_e (k : Nat) (b : Bakery) (how_0 : Bool) (how_1 : Int) : callF env (impl_changed_106_O k) impl_changed_106_v Tryz.f102 (k + 1) (impl_changed_106_A b how_0 how_1) (fun r => impl_changed_106_d (r.fin 4 [])) = impl_changed_106 k b how_0 how_1 := by kernel_rfl
noncomputable def impl_changed_106_x (k : Nat) : Ent1 := fun A R Q => match A with
 | ⟨[(.ag [(.sl 0), (.v (.int .i64 a2)), (.v (.int .i64 a3)), (.v (.int .i64 a4)), (.v (.int .i64 a5)), (.v (.int .i64 a6)), (.sl 1), (.v (.int .i64 a8)), (.v (.int .i64 a9)), (.v (.int .i64 a10)), (.v (.int .i64 a11)), (.v (.int .i64 a12)), (.v (.int .i64 a13)), (.v (.int .i64 a14))]), (.sc (.fn 106 [2, 3]))], [(.row false K.ki64 a1), (.row false K.k_impl_Event a7), (.box false [(.v (.bool a15))]), (.box false [(.v (.int .i64 a16))])]⟩ => (impl_changed_106 k (⟨(⟨a1⟩ : Stock), (⟨a2, a3, a4⟩ : Dough), (⟨a5, a6⟩ : Loaf), (⟨a7, (⟨a8, a9, a10⟩ : Rack), a11, a12, a13⟩ : Book), a14⟩ : Bakery) a15 a16).bind fun y => Q ⟨(.tp [(.ag [(.sl 4), (.v (.int .i64 y.1.Dough.Water)), (.v (.int .i64 y.1.Dough.Salt)), (.v (.int .i64 y.1.Dough.Leaven)), (.v (.int .i64 y.1.Loaf.Weight)), (.v (.int .i64 y.1.Loaf.Loss)), (.sl 5), (.v (.int .i64 y.1.Book.Rack.Fresh)), (.v (.int .i64 y.1.Book.Rack.Day)), (.v (.int .i64 y.1.Book.Rack.Old)), (.v (.int .i64 y.1.Book.Baked)), (.v (.int .i64 y.1.Book.Sold)), (.v (.int .i64 y.1.Book.Thrown)), (.v (.int .i64 y.1.Money))]), (.sc (.v (.bool y.2)))]), [.dead, .dead, .dead, .dead, (.row true K.ki64 y.1.Stock.Grams), (.row true K.k_impl_Event y.1.Book.Events)]⟩
 | _ => none
theorem impl_changed_106_ok (k : Nat) : OkE Tryz.prog 102 (impl_changed_106_x k) := by
 intro A R Q x h
 unfold impl_changed_106_x at h
 split at h
 · obtain ⟨y, hy, hK⟩ := Option.bind_eq_some_iff.1 h
   obtain ⟨r, hr, hd⟩ := callF_ok envOk (impl_changed_106_Ok k) follows Tryz.func102 (by kernel_rfl) ((impl_changed_106_e k _ _ _).trans hy)
   exact ⟨_, impl_changed_106_i hd ▸ hr.fin [], hK⟩
 · cases h
/-! ### impl.SellLoaves: function 70 -/
noncomputable def impl_SellLoaves (k : Nat)  (b : Bakery) (loaves : Int) (cheap : Bool) : Option (Bakery × Bool) :=
 (impl_changed_106 k b cheap loaves).bind fun y1 =>
 some (y1.1, y1.2)
noncomputable def impl_SellLoaves_v : Nat → List Nat := fun t => match t with | _ => []
noncomputable def impl_SellLoaves_O (k : Nat) : Oracle := ofL [(102, impl_changed_106_x k)]
theorem impl_SellLoaves_Ok (k : Nat) : OkO (Ct Tryz.prog) (impl_SellLoaves_O k) := okO_cons (impl_changed_106_ok k) (okO_nil)
noncomputable def impl_SellLoaves_A (b : Bakery) (loaves : Int) (cheap : Bool) : Pk := ⟨[(.ag [(.sl 0), (.v (.int .i64 b.Dough.Water)), (.v (.int .i64 b.Dough.Salt)), (.v (.int .i64 b.Dough.Leaven)), (.v (.int .i64 b.Loaf.Weight)), (.v (.int .i64 b.Loaf.Loss)), (.sl 1), (.v (.int .i64 b.Book.Rack.Fresh)), (.v (.int .i64 b.Book.Rack.Day)), (.v (.int .i64 b.Book.Rack.Old)), (.v (.int .i64 b.Book.Baked)), (.v (.int .i64 b.Book.Sold)), (.v (.int .i64 b.Book.Thrown)), (.v (.int .i64 b.Money))]), (.sc (.v (.int .i64 loaves))), (.sc (.v (.bool cheap)))], [(.row false K.ki64 b.Stock.Grams), (.row false K.k_impl_Event b.Book.Events)]⟩
noncomputable def impl_SellLoaves_d : Rs → Option (Bakery × Bool)
 | ⟨(.tp [(.ag [(.sl 2), (.v (.int .i64 r2)), (.v (.int .i64 r3)), (.v (.int .i64 r4)), (.v (.int .i64 r5)), (.v (.int .i64 r6)), (.sl 3), (.v (.int .i64 r8)), (.v (.int .i64 r9)), (.v (.int .i64 r10)), (.v (.int .i64 r11)), (.v (.int .i64 r12)), (.v (.int .i64 r13)), (.v (.int .i64 r14))]), (.sc (.v (.bool r15)))]), [.dead, .dead, (.row true K.ki64 r1), (.row true K.k_impl_Event r7)]⟩ => some ((⟨(⟨r1⟩ : Stock), (⟨r2, r3, r4⟩ : Dough), (⟨r5, r6⟩ : Loaf), (⟨r7, (⟨r8, r9, r10⟩ : Rack), r11, r12, r13⟩ : Book), r14⟩ : Bakery), r15)
 | _ => none
theorem impl_SellLoaves_i {r : Rs} {y : Bakery × Bool} (h : impl_SellLoaves_d r = some y) : r = ⟨(.tp [(.ag [(.sl 2), (.v (.int .i64 y.1.Dough.Water)), (.v (.int .i64 y.1.Dough.Salt)), (.v (.int .i64 y.1.Dough.Leaven)), (.v (.int .i64 y.1.Loaf.Weight)), (.v (.int .i64 y.1.Loaf.Loss)), (.sl 3), (.v (.int .i64 y.1.Book.Rack.Fresh)), (.v (.int .i64 y.1.Book.Rack.Day)), (.v (.int .i64 y.1.Book.Rack.Old)), (.v (.int .i64 y.1.Book.Baked)), (.v (.int .i64 y.1.Book.Sold)), (.v (.int .i64 y.1.Book.Thrown)), (.v (.int .i64 y.1.Money))]), (.sc (.v (.bool y.2)))]), [.dead, .dead, (.row true K.ki64 y.1.Stock.Grams), (.row true K.k_impl_Event y.1.Book.Events)]⟩ := by
 unfold impl_SellLoaves_d at h; split at h
 · cases h; rfl
 · cases h
theorem impl_SellLoaves_e (k : Nat) (b : Bakery) (loaves : Int) (cheap : Bool) : callF env (impl_SellLoaves_O k) impl_SellLoaves_v Tryz.f70 (k + 1) (impl_SellLoaves_A b loaves cheap) (fun r => impl_SellLoaves_d (r.fin 2 [])) = impl_SellLoaves k b loaves cheap := by kernel_rfl
noncomputable def impl_SellLoaves_x (k : Nat) : Ent1 := fun A R Q => match A with
 | ⟨[(.ag [(.sl 0), (.v (.int .i64 a2)), (.v (.int .i64 a3)), (.v (.int .i64 a4)), (.v (.int .i64 a5)), (.v (.int .i64 a6)), (.sl 1), (.v (.int .i64 a8)), (.v (.int .i64 a9)), (.v (.int .i64 a10)), (.v (.int .i64 a11)), (.v (.int .i64 a12)), (.v (.int .i64 a13)), (.v (.int .i64 a14))]), (.sc (.v (.int .i64 a15))), (.sc (.v (.bool a16)))], [(.row false K.ki64 a1), (.row false K.k_impl_Event a7)]⟩ => (impl_SellLoaves k (⟨(⟨a1⟩ : Stock), (⟨a2, a3, a4⟩ : Dough), (⟨a5, a6⟩ : Loaf), (⟨a7, (⟨a8, a9, a10⟩ : Rack), a11, a12, a13⟩ : Book), a14⟩ : Bakery) a15 a16).bind fun y => Q ⟨(.tp [(.ag [(.sl 2), (.v (.int .i64 y.1.Dough.Water)), (.v (.int .i64 y.1.Dough.Salt)), (.v (.int .i64 y.1.Dough.Leaven)), (.v (.int .i64 y.1.Loaf.Weight)), (.v (.int .i64 y.1.Loaf.Loss)), (.sl 3), (.v (.int .i64 y.1.Book.Rack.Fresh)), (.v (.int .i64 y.1.Book.Rack.Day)), (.v (.int .i64 y.1.Book.Rack.Old)), (.v (.int .i64 y.1.Book.Baked)), (.v (.int .i64 y.1.Book.Sold)), (.v (.int .i64 y.1.Book.Thrown)), (.v (.int .i64 y.1.Money))]), (.sc (.v (.bool y.2)))]), [.dead, .dead, (.row true K.ki64 y.1.Stock.Grams), (.row true K.k_impl_Event y.1.Book.Events)]⟩
 | _ => none
theorem impl_SellLoaves_ok (k : Nat) : OkE Tryz.prog 70 (impl_SellLoaves_x k) := by
 intro A R Q x h
 unfold impl_SellLoaves_x at h
 split at h
 · obtain ⟨y, hy, hK⟩ := Option.bind_eq_some_iff.1 h
   obtain ⟨r, hr, hd⟩ := callF_ok envOk (impl_SellLoaves_Ok k) follows Tryz.func70 (by kernel_rfl) ((impl_SellLoaves_e k _ _ _).trans hy)
   exact ⟨_, impl_SellLoaves_i hd ▸ hr.fin [], hK⟩
 · cases h
/-! ### impl.NightOver$1: function 107 -/
noncomputable def impl_NightOver_1 (k : Nat)  (own : Bakery) : Option (Bool × (List Int) × (List Event) × Bakery) :=
 (impl_Bakery_enter k own (⟨4, 0⟩ : Event)).bind fun y1 =>
 some (y1.1, y1.2.1, y1.2.2.1, (⟨(⟨y1.2.1⟩ : Stock), y1.2.2.2.Dough, y1.2.2.2.Loaf, y1.2.2.2.Book, y1.2.2.2.Money⟩ : Bakery))
noncomputable def impl_NightOver_1_v : Nat → List Nat := fun t => match t with | _ => []
noncomputable def impl_NightOver_1_O (k : Nat) : Oracle := ofL [(105, impl_Bakery_enter_x k)]
theorem impl_NightOver_1_Ok (k : Nat) : OkO (Ct Tryz.prog) (impl_NightOver_1_O k) := okO_cons (impl_Bakery_enter_ok k) (okO_nil)
noncomputable def impl_NightOver_1_A (own : Bakery) : Pk := ⟨[(.sc (.bp 2 0))], [(.row true K.ki64 own.Stock.Grams), (.row true K.k_impl_Event own.Book.Events), (.box true [(.sl 0), (.v (.int .i64 own.Dough.Water)), (.v (.int .i64 own.Dough.Salt)), (.v (.int .i64 own.Dough.Leaven)), (.v (.int .i64 own.Loaf.Weight)), (.v (.int .i64 own.Loaf.Loss)), (.sl 1), (.v (.int .i64 own.Book.Rack.Fresh)), (.v (.int .i64 own.Book.Rack.Day)), (.v (.int .i64 own.Book.Rack.Old)), (.v (.int .i64 own.Book.Baked)), (.v (.int .i64 own.Book.Sold)), (.v (.int .i64 own.Book.Thrown)), (.v (.int .i64 own.Money))])]⟩
noncomputable def impl_NightOver_1_d : Rs → Option (Bool × (List Int) × (List Event) × Bakery)
 | ⟨(.a (.sc (.v (.bool r1)))), [(.row true K.ki64 r2), (.row true K.k_impl_Event r3), (.box true [(.sl 0), (.v (.int .i64 r4)), (.v (.int .i64 r5)), (.v (.int .i64 r6)), (.v (.int .i64 r7)), (.v (.int .i64 r8)), (.sl 3), (.v (.int .i64 r10)), (.v (.int .i64 r11)), (.v (.int .i64 r12)), (.v (.int .i64 r13)), (.v (.int .i64 r14)), (.v (.int .i64 r15)), (.v (.int .i64 r16))]), (.row true K.k_impl_Event r9)]⟩ => some (r1, r2, r3, (⟨(⟨r2⟩ : Stock), (⟨r4, r5, r6⟩ : Dough), (⟨r7, r8⟩ : Loaf), (⟨r9, (⟨r10, r11, r12⟩ : Rack), r13, r14, r15⟩ : Book), r16⟩ : Bakery))
 | _ => none
theorem impl_NightOver_1_i {r : Rs} {y : Bool × (List Int) × (List Event) × Bakery} (h : impl_NightOver_1_d r = some y) : r = ⟨(.a (.sc (.v (.bool y.1)))), [(.row true K.ki64 y.2.1), (.row true K.k_impl_Event y.2.2.1), (.box true [(.sl 0), (.v (.int .i64 y.2.2.2.Dough.Water)), (.v (.int .i64 y.2.2.2.Dough.Salt)), (.v (.int .i64 y.2.2.2.Dough.Leaven)), (.v (.int .i64 y.2.2.2.Loaf.Weight)), (.v (.int .i64 y.2.2.2.Loaf.Loss)), (.sl 3), (.v (.int .i64 y.2.2.2.Book.Rack.Fresh)), (.v (.int .i64 y.2.2.2.Book.Rack.Day)), (.v (.int .i64 y.2.2.2.Book.Rack.Old)), (.v (.int .i64 y.2.2.2.Book.Baked)), (.v (.int .i64 y.2.2.2.Book.Sold)), (.v (.int .i64 y.2.2.2.Book.Thrown)), (.v (.int .i64 y.2.2.2.Money))]), (.row true K.k_impl_Event y.2.2.2.Book.Events)]⟩ := by
 unfold impl_NightOver_1_d at h; split at h
 · cases h; rfl
 · cases h
theorem impl_NightOver_1_e (k : Nat) (own : Bakery) : callF env (impl_NightOver_1_O k) impl_NightOver_1_v Tryz.f107 (k + 1) (impl_NightOver_1_A own) (fun r => impl_NightOver_1_d (r.fin 3 [])) = impl_NightOver_1 k own := by kernel_rfl
noncomputable def impl_NightOver_1_x (k : Nat) : Ent1 := fun A R Q => match A with
 | ⟨[(.sc (.bp 2 0))], [(.row true K.ki64 a1), (.row true K.k_impl_Event a7), (.box true [(.sl 0), (.v (.int .i64 a2)), (.v (.int .i64 a3)), (.v (.int .i64 a4)), (.v (.int .i64 a5)), (.v (.int .i64 a6)), (.sl 1), (.v (.int .i64 a8)), (.v (.int .i64 a9)), (.v (.int .i64 a10)), (.v (.int .i64 a11)), (.v (.int .i64 a12)), (.v (.int .i64 a13)), (.v (.int .i64 a14))])]⟩ => (impl_NightOver_1 k (⟨(⟨a1⟩ : Stock), (⟨a2, a3, a4⟩ : Dough), (⟨a5, a6⟩ : Loaf), (⟨a7, (⟨a8, a9, a10⟩ : Rack), a11, a12, a13⟩ : Book), a14⟩ : Bakery)).bind fun y => Q ⟨(.a (.sc (.v (.bool y.1)))), [(.row true K.ki64 y.2.1), (.row true K.k_impl_Event y.2.2.1), (.box true [(.sl 0), (.v (.int .i64 y.2.2.2.Dough.Water)), (.v (.int .i64 y.2.2.2.Dough.Salt)), (.v (.int .i64 y.2.2.2.Dough.Leaven)), (.v (.int .i64 y.2.2.2.Loaf.Weight)), (.v (.int .i64 y.2.2.2.Loaf.Loss)), (.sl 3), (.v (.int .i64 y.2.2.2.Book.Rack.Fresh)), (.v (.int .i64 y.2.2.2.Book.Rack.Day)), (.v (.int .i64 y.2.2.2.Book.Rack.Old)), (.v (.int .i64 y.2.2.2.Book.Baked)), (.v (.int .i64 y.2.2.2.Book.Sold)), (.v (.int .i64 y.2.2.2.Book.Thrown)), (.v (.int .i64 y.2.2.2.Money))]), (.row true K.k_impl_Event y.2.2.2.Book.Events)]⟩
 | _ => none
theorem impl_NightOver_1_ok (k : Nat) : OkE Tryz.prog 107 (impl_NightOver_1_x k) := by
 intro A R Q x h
 unfold impl_NightOver_1_x at h
 split at h
 · obtain ⟨y, hy, hK⟩ := Option.bind_eq_some_iff.1 h
   obtain ⟨r, hr, hd⟩ := callF_ok envOk (impl_NightOver_1_Ok k) follows Tryz.func107 (by kernel_rfl) ((impl_NightOver_1_e k _).trans hy)
   exact ⟨_, impl_NightOver_1_i hd ▸ hr.fin [], hK⟩
 · cases h
end Go.Proofs.YtlenacakmmikiaaGreatDoorX
