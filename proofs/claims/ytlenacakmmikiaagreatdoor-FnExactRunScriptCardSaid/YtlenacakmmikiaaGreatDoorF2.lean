/- What functions of the program compute, as functions of numbers and lists, and that they do. (The file is written by wip/x/vxp.py of this repository.) -/
import Derived.Test.YtlenacakmmikiaaGreatDoorF1
import Derived.Test.YtlenacakmmikiaaGreatDoorX18
namespace Go.Proofs.YtlenacakmmikiaaGreatDoorX
open Go Go.Proofs
set_option linter.unusedVariables false
set_option maxRecDepth 100000
/-! ### spec.TakeFor: function 116 -/
noncomputable def spec_TakeFor_s0 (k : Nat)  (s : Stock) (y2 : (List Int)) (J : Int → (List Int) → Option (Stock × Bool)) (x0_0 : Int) (x0_1 : (List Int)) : Option (Stock × Bool) :=
 cond (decide ((x0_0 : Int) < 4))
 (if 0 ≤ (x0_0 : Int) ∧ (x0_0 : Int) < ((s.Grams).length : Int) then
  if 0 ≤ (x0_0 : Int) ∧ (x0_0 : Int) < ((y2).length : Int) then
   if 0 ≤ (x0_0 : Int) ∧ (x0_0 : Int) < ((x0_1).length : Int) then
    J (wr (x0_0 + 1)) (x0_1.set (Int.toNat x0_0) (wr ((s.Grams.getD (Int.toNat x0_0) 0) - (y2.getD (Int.toNat x0_0) 0)))) else none else none else none)
 (some ((⟨x0_1⟩ : Stock), true))
noncomputable def spec_TakeFor_l0 (k : Nat) : Nat → Stock → (List Int) → Int → (List Int) → Option (Stock × Bool)
 | 0, s, y2, x0_0, x0_1 => spec_TakeFor_s0 k s y2 (fun _ _ => none) x0_0 x0_1
 | m + 1, s, y2, x0_0, x0_1 => spec_TakeFor_s0 k s y2 (spec_TakeFor_l0 k m s y2) x0_0 x0_1
noncomputable def spec_TakeFor_m (k : Nat) (J0 : Stock → (List Int) → Int → (List Int) → Option (Stock × Bool)) (s : Stock) (d : Dough) (flour : Int) : Option (Stock × Bool) :=
 (spec_l36Copy k s).bind fun y1 =>
 (spec_Amounts k d flour).bind fun y2 =>
  (spec_StoreOk k s).bind fun y3 =>
   cond (!y3)
    (some (y1, false))
    (cond (decide ((((y2).length : Int) : Int) = 0))
     (some (y1, false))
     ((spec_FirstMissing k s d flour).bind fun y4 =>
      cond (decide ((0 : Int) ≤ y4))
       (some (y1, false))
       (J0 s y2 0 y1.Grams)))
noncomputable def spec_TakeFor (k : Nat) (s : Stock) (d : Dough) (flour : Int) : Option (Stock × Bool) := spec_TakeFor_m k (spec_TakeFor_l0 k k) s d flour
noncomputable def spec_TakeFor_v : Nat → List Nat := fun t => match t with | 6 => [3, 6, 7, 8, 9, 10] | _ => []
noncomputable def spec_TakeFor_O (k : Nat) : Oracle := ofL [(143, spec_Amounts_x k), (144, spec_FirstMissing_x k), (78, spec_l36Copy_x k), (80, spec_StoreOk_x k)]
theorem spec_TakeFor_Ok (k : Nat) : OkO (Ct Tryz.prog) (spec_TakeFor_O k) := okO_cons (spec_Amounts_ok k) (okO_cons (spec_FirstMissing_ok k) (okO_cons (spec_l36Copy_ok k) (okO_cons (spec_StoreOk_ok k) (okO_nil))))
noncomputable def spec_TakeFor_A (s : Stock) (d : Dough) (flour : Int) : Pk := ⟨[(.ag [(.sl 0)]), (.ag [(.v (.int .i64 d.Water)), (.v (.int .i64 d.Salt)), (.v (.int .i64 d.Leaven))]), (.sc (.v (.int .i64 flour)))], [(.row false K.ki64 s.Grams)]⟩
noncomputable def spec_TakeFor_d : Rs → Option (Stock × Bool)
 | ⟨(.tp [(.ag [(.sl 1)]), (.sc (.v (.bool r2)))]), [.dead, (.row true K.ki64 r1)]⟩ => some ((⟨r1⟩ : Stock), r2)
 | _ => none
theorem spec_TakeFor_i {r : Rs} {y : Stock × Bool} (h : spec_TakeFor_d r = some y) : r = ⟨(.tp [(.ag [(.sl 1)]), (.sc (.v (.bool y.2)))]), [.dead, (.row true K.ki64 y.1.Grams)]⟩ := by
 unfold spec_TakeFor_d at h; split at h
 · cases h; rfl
 · cases h
noncomputable def spec_TakeFor_h0 (k m : Nat) (s : Stock) (y2 : (List Int)) (x0_0 : Int) (x0_1 : (List Int)) : Option (Stock × Bool) := hdAt env (spec_TakeFor_O k) spec_TakeFor_v Tryz.f116 1 (fun r => spec_TakeFor_d (r.fin 1 [])) [1, 1, 1, 1, 0, 1, 0] k m ⟨tmF [3, 6, 7, 8, 9, 10] [(.a (.sc (.bp 1 0))), (.a (.sc (.bp 3 0))), (.a (.sc (.v (.bool false)))), (.a (.sc (.bp 5 0))), (.a (.sc (.sl 6))), (.a (.sc (.v (.int .i64 x0_0))))], blF [(.row false K.ki64 s.Grams), (.box true [(.sl 0)]), (.row true K.ki64 []), (.box true [(.sl 2)]), (.row true K.ki64 x0_1), (.box true [(.sl 4)]), (.row true K.ki64 y2)]⟩
theorem spec_TakeFor_z0 (k : Nat) (s : Stock) (y2 : (List Int)) (x0_0 : Int) (x0_1 : (List Int)) : spec_TakeFor_h0 k 0 s y2 x0_0 x0_1 = spec_TakeFor_s0 k s y2 (fun _ _ => none) x0_0 x0_1 := by kernel_rfl
theorem spec_TakeFor_g0 (k : Nat) (H : St → Option (Stock × Bool)) (s : Stock) (y2 : (List Int)) (x0_0 : Int) (x0_1 : (List Int)) : rnd env (spec_TakeFor_O k) spec_TakeFor_v Tryz.f116 1 (fun r => spec_TakeFor_d (r.fin 1 [])) [1, 1, 1, 1, 0, 1, 0] k H ⟨tmF [3, 6, 7, 8, 9, 10] [(.a (.sc (.bp 1 0))), (.a (.sc (.bp 3 0))), (.a (.sc (.v (.bool false)))), (.a (.sc (.bp 5 0))), (.a (.sc (.sl 6))), (.a (.sc (.v (.int .i64 x0_0))))], blF [(.row false K.ki64 s.Grams), (.box true [(.sl 0)]), (.row true K.ki64 []), (.box true [(.sl 2)]), (.row true K.ki64 x0_1), (.box true [(.sl 4)]), (.row true K.ki64 y2)]⟩ = spec_TakeFor_s0 k s y2 (fun x0_0 x0_1 => H ⟨tmF [3, 6, 7, 8, 9, 10] [(.a (.sc (.bp 1 0))), (.a (.sc (.bp 3 0))), (.a (.sc (.v (.bool false)))), (.a (.sc (.bp 5 0))), (.a (.sc (.sl 6))), (.a (.sc (.v (.int .i64 x0_0))))], blF [(.row false K.ki64 s.Grams), (.box true [(.sl 0)]), (.row true K.ki64 []), (.box true [(.sl 2)]), (.row true K.ki64 x0_1), (.box true [(.sl 4)]), (.row true K.ki64 y2)]⟩) x0_0 x0_1 := by kernel_rfl
theorem spec_TakeFor_n0 (k m : Nat) (s : Stock) (y2 : (List Int)) (x0_0 : Int) (x0_1 : (List Int)) : spec_TakeFor_h0 k (m + 1) s y2 x0_0 x0_1 = spec_TakeFor_s0 k s y2 (spec_TakeFor_h0 k m s y2) x0_0 x0_1 := (hdAt_succ _ _ _ _ _ _ _ _ _ _).trans (spec_TakeFor_g0 k _ s y2 x0_0 x0_1)
theorem spec_TakeFor_q0 (k : Nat) : ∀ m, spec_TakeFor_h0 k m = spec_TakeFor_l0 k m := by
 intro m
 induction m with
 | zero => funext s y2 x0_0 x0_1; rw [spec_TakeFor_z0]; rfl
 | succ m ih => funext s y2 x0_0 x0_1; rw [spec_TakeFor_n0, ih]; rfl
theorem spec_TakeFor_e (k : Nat) (s : Stock) (d : Dough) (flour : Int) : callF env (spec_TakeFor_O k) spec_TakeFor_v Tryz.f116 (k + 1) (spec_TakeFor_A s d flour) (fun r => spec_TakeFor_d (r.fin 1 [])) = spec_TakeFor k s d flour := by
 have e : ∀ H : St → Option (Stock × Bool), callE env (spec_TakeFor_O k) spec_TakeFor_v Tryz.f116 (k + 1) (spec_TakeFor_A s d flour) [1, 1, 1, 1, 0, 1, 0] (fun r => spec_TakeFor_d (r.fin 1 [])) H = spec_TakeFor_m k (fun s y2 x0_0 x0_1 => H ⟨tmF [3, 6, 7, 8, 9, 10] [(.a (.sc (.bp 1 0))), (.a (.sc (.bp 3 0))), (.a (.sc (.v (.bool false)))), (.a (.sc (.bp 5 0))), (.a (.sc (.sl 6))), (.a (.sc (.v (.int .i64 x0_0))))], blF [(.row false K.ki64 s.Grams), (.box true [(.sl 0)]), (.row true K.ki64 []), (.box true [(.sl 2)]), (.row true K.ki64 x0_1), (.box true [(.sl 4)]), (.row true K.ki64 y2)]⟩) s d flour := fun H => by kernel_rfl
 exact (callE_eq env (spec_TakeFor_O k) spec_TakeFor_v Tryz.f116 k (spec_TakeFor_A s d flour) [1, 1, 1, 1, 0, 1, 0] 1 (fun r => spec_TakeFor_d (r.fin 1 [])) rfl (by kernel_rfl)).trans ((e (hdAt env (spec_TakeFor_O k) spec_TakeFor_v Tryz.f116 1 (fun r => spec_TakeFor_d (r.fin 1 [])) [1, 1, 1, 1, 0, 1, 0] k k)).trans (by
  show spec_TakeFor_m k (spec_TakeFor_h0 k k) s d flour = _
  rw [spec_TakeFor_q0]; rfl))
noncomputable def spec_TakeFor_x (k : Nat) : Ent1 := fun A R Q => match A with
 | ⟨[(.ag [(.sl 0)]), (.ag [(.v (.int .i64 a2)), (.v (.int .i64 a3)), (.v (.int .i64 a4))]), (.sc (.v (.int .i64 a5)))], [(.row false K.ki64 a1)]⟩ => (spec_TakeFor k (⟨a1⟩ : Stock) (⟨a2, a3, a4⟩ : Dough) a5).bind fun y => Q ⟨(.tp [(.ag [(.sl 1)]), (.sc (.v (.bool y.2)))]), [.dead, (.row true K.ki64 y.1.Grams)]⟩
 | _ => none
theorem spec_TakeFor_ok (k : Nat) : OkE Tryz.prog 116 (spec_TakeFor_x k) := by
 intro A R Q x h
 unfold spec_TakeFor_x at h
 split at h
 · obtain ⟨y, hy, hK⟩ := Option.bind_eq_some_iff.1 h
   obtain ⟨r, hr, hd⟩ := callF_ok envOk (spec_TakeFor_Ok k) follows Tryz.func116 (by kernel_rfl) ((spec_TakeFor_e k _ _ _).trans hy)
   exact ⟨_, spec_TakeFor_i hd ▸ hr.fin [], hK⟩
 · cases h
/-! ### spec.Enter: function 127 -/
noncomputable def spec_Enter (k : Nat)  (b : Book) (e : Event) : Option (Book × Bool) :=
 if ([] : List Event).length + (b.Events : List Event).length ≤ maxRow then
 if (([] ++ b.Events) : List Event).length + ([e] : List Event).length ≤ maxRow then
  (spec_l37Count k (([] ++ b.Events) ++ [e])).bind fun y1 =>
   (spec_BookOk k b).bind fun y2 =>
    cond (!y2)
     ((spec_l37Copy k b).bind fun y3 =>
      some (y3, false))
     (cond (!y1.2)
      ((spec_l37Copy k b).bind fun y4 =>
       some (y4, false))
      (some (y1.1, true))) else none else none
noncomputable def spec_Enter_v : Nat → List Nat := fun t => match t with | _ => []
noncomputable def spec_Enter_O (k : Nat) : Oracle := ofL [(115, spec_l37Count_x k), (79, spec_l37Copy_x k), (83, spec_BookOk_x k)]
theorem spec_Enter_Ok (k : Nat) : OkO (Ct Tryz.prog) (spec_Enter_O k) := okO_cons (spec_l37Count_ok k) (okO_cons (spec_l37Copy_ok k) (okO_cons (spec_BookOk_ok k) (okO_nil)))
noncomputable def spec_Enter_A (b : Book) (e : Event) : Pk := ⟨[(.ag [(.sl 0), (.v (.int .i64 b.Rack.Fresh)), (.v (.int .i64 b.Rack.Day)), (.v (.int .i64 b.Rack.Old)), (.v (.int .i64 b.Baked)), (.v (.int .i64 b.Sold)), (.v (.int .i64 b.Thrown))]), (.ag [(.v (.int .i64 e.Kind)), (.v (.int .i64 e.Loaves))])], [(.row false K.k_impl_Event b.Events)]⟩
noncomputable def spec_Enter_d : Rs → Option (Book × Bool)
 | ⟨(.tp [(.ag [(.sl 1), (.v (.int .i64 r2)), (.v (.int .i64 r3)), (.v (.int .i64 r4)), (.v (.int .i64 r5)), (.v (.int .i64 r6)), (.v (.int .i64 r7))]), (.sc (.v (.bool r8)))]), [.dead, (.row true K.k_impl_Event r1)]⟩ => some ((⟨r1, (⟨r2, r3, r4⟩ : Rack), r5, r6, r7⟩ : Book), r8)
 | _ => none
theorem spec_Enter_i {r : Rs} {y : Book × Bool} (h : spec_Enter_d r = some y) : r = ⟨(.tp [(.ag [(.sl 1), (.v (.int .i64 y.1.Rack.Fresh)), (.v (.int .i64 y.1.Rack.Day)), (.v (.int .i64 y.1.Rack.Old)), (.v (.int .i64 y.1.Baked)), (.v (.int .i64 y.1.Sold)), (.v (.int .i64 y.1.Thrown))]), (.sc (.v (.bool y.2)))]), [.dead, (.row true K.k_impl_Event y.1.Events)]⟩ := by
 unfold spec_Enter_d at h; split at h
 · cases h; rfl
 · cases h
theorem spec_Enter_e (k : Nat) (b : Book) (e : Event) : callF env (spec_Enter_O k) spec_Enter_v Tryz.f127 (k + 1) (spec_Enter_A b e) (fun r => spec_Enter_d (r.fin 1 [])) = spec_Enter k b e := by kernel_rfl
noncomputable def spec_Enter_x (k : Nat) : Ent1 := fun A R Q => match A with
 | ⟨[(.ag [(.sl 0), (.v (.int .i64 a2)), (.v (.int .i64 a3)), (.v (.int .i64 a4)), (.v (.int .i64 a5)), (.v (.int .i64 a6)), (.v (.int .i64 a7))]), (.ag [(.v (.int .i64 a8)), (.v (.int .i64 a9))])], [(.row false K.k_impl_Event a1)]⟩ => (spec_Enter k (⟨a1, (⟨a2, a3, a4⟩ : Rack), a5, a6, a7⟩ : Book) (⟨a8, a9⟩ : Event)).bind fun y => Q ⟨(.tp [(.ag [(.sl 1), (.v (.int .i64 y.1.Rack.Fresh)), (.v (.int .i64 y.1.Rack.Day)), (.v (.int .i64 y.1.Rack.Old)), (.v (.int .i64 y.1.Baked)), (.v (.int .i64 y.1.Sold)), (.v (.int .i64 y.1.Thrown))]), (.sc (.v (.bool y.2)))]), [.dead, (.row true K.k_impl_Event y.1.Events)]⟩
 | _ => none
theorem spec_Enter_ok (k : Nat) : OkE Tryz.prog 127 (spec_Enter_x k) := by
 intro A R Q x h
 unfold spec_Enter_x at h
 split at h
 · obtain ⟨y, hy, hK⟩ := Option.bind_eq_some_iff.1 h
   obtain ⟨r, hr, hd⟩ := callF_ok envOk (spec_Enter_Ok k) follows Tryz.func127 (by kernel_rfl) ((spec_Enter_e k _ _).trans hy)
   exact ⟨_, spec_Enter_i hd ▸ hr.fin [], hK⟩
 · cases h
/-! ### spec.l38Enter: function 117 -/
noncomputable def spec_l38Enter (k : Nat)  (b : Bakery) (e : Event) (money : Int) : Option (Bakery × Bool) :=
 (spec_l38Copy k b).bind fun y1 =>
 (spec_BakeryOk k b).bind fun y2 =>
  cond (!y2)
   (some (y1, false))
   ((spec_Enter k b.Book e).bind fun y3 =>
    cond (!y3.2)
     ((spec_l38Copy k b).bind fun y5 =>
      some (y5, false))
     ((spec_BakeryOk k (⟨y1.Stock, y1.Dough, y1.Loaf, y3.1, (wr (b.Money + money))⟩ : Bakery)).bind fun y4 =>
      cond (!y4)
       ((spec_l38Copy k b).bind fun y6 =>
        some (y6, false))
       (some ((⟨y1.Stock, y1.Dough, y1.Loaf, y3.1, (wr (b.Money + money))⟩ : Bakery), true))))
noncomputable def spec_l38Enter_v : Nat → List Nat := fun t => match t with | _ => []
noncomputable def spec_l38Enter_O (k : Nat) : Oracle := ofL [(127, spec_Enter_x k), (43, spec_l38Copy_x k), (44, spec_BakeryOk_x k)]
theorem spec_l38Enter_Ok (k : Nat) : OkO (Ct Tryz.prog) (spec_l38Enter_O k) := okO_cons (spec_Enter_ok k) (okO_cons (spec_l38Copy_ok k) (okO_cons (spec_BakeryOk_ok k) (okO_nil)))
noncomputable def spec_l38Enter_A (b : Bakery) (e : Event) (money : Int) : Pk := ⟨[(.ag [(.sl 0), (.v (.int .i64 b.Dough.Water)), (.v (.int .i64 b.Dough.Salt)), (.v (.int .i64 b.Dough.Leaven)), (.v (.int .i64 b.Loaf.Weight)), (.v (.int .i64 b.Loaf.Loss)), (.sl 1), (.v (.int .i64 b.Book.Rack.Fresh)), (.v (.int .i64 b.Book.Rack.Day)), (.v (.int .i64 b.Book.Rack.Old)), (.v (.int .i64 b.Book.Baked)), (.v (.int .i64 b.Book.Sold)), (.v (.int .i64 b.Book.Thrown)), (.v (.int .i64 b.Money))]), (.ag [(.v (.int .i64 e.Kind)), (.v (.int .i64 e.Loaves))]), (.sc (.v (.int .i64 money)))], [(.row false K.ki64 b.Stock.Grams), (.row false K.k_impl_Event b.Book.Events)]⟩
noncomputable def spec_l38Enter_d : Rs → Option (Bakery × Bool)
 | ⟨(.tp [(.ag [(.sl 2), (.v (.int .i64 r2)), (.v (.int .i64 r3)), (.v (.int .i64 r4)), (.v (.int .i64 r5)), (.v (.int .i64 r6)), (.sl 3), (.v (.int .i64 r8)), (.v (.int .i64 r9)), (.v (.int .i64 r10)), (.v (.int .i64 r11)), (.v (.int .i64 r12)), (.v (.int .i64 r13)), (.v (.int .i64 r14))]), (.sc (.v (.bool r15)))]), [.dead, .dead, (.row true K.ki64 r1), (.row true K.k_impl_Event r7)]⟩ => some ((⟨(⟨r1⟩ : Stock), (⟨r2, r3, r4⟩ : Dough), (⟨r5, r6⟩ : Loaf), (⟨r7, (⟨r8, r9, r10⟩ : Rack), r11, r12, r13⟩ : Book), r14⟩ : Bakery), r15)
 | _ => none
theorem spec_l38Enter_i {r : Rs} {y : Bakery × Bool} (h : spec_l38Enter_d r = some y) : r = ⟨(.tp [(.ag [(.sl 2), (.v (.int .i64 y.1.Dough.Water)), (.v (.int .i64 y.1.Dough.Salt)), (.v (.int .i64 y.1.Dough.Leaven)), (.v (.int .i64 y.1.Loaf.Weight)), (.v (.int .i64 y.1.Loaf.Loss)), (.sl 3), (.v (.int .i64 y.1.Book.Rack.Fresh)), (.v (.int .i64 y.1.Book.Rack.Day)), (.v (.int .i64 y.1.Book.Rack.Old)), (.v (.int .i64 y.1.Book.Baked)), (.v (.int .i64 y.1.Book.Sold)), (.v (.int .i64 y.1.Book.Thrown)), (.v (.int .i64 y.1.Money))]), (.sc (.v (.bool y.2)))]), [.dead, .dead, (.row true K.ki64 y.1.Stock.Grams), (.row true K.k_impl_Event y.1.Book.Events)]⟩ := by
 unfold spec_l38Enter_d at h; split at h
 · cases h; rfl
 · cases h
theorem spec_l38Enter_e (k : Nat) (b : Bakery) (e : Event) (money : Int) : callF env (spec_l38Enter_O k) spec_l38Enter_v Tryz.f117 (k + 1) (spec_l38Enter_A b e money) (fun r => spec_l38Enter_d (r.fin 2 [])) = spec_l38Enter k b e money := by kernel_rfl
noncomputable def spec_l38Enter_x (k : Nat) : Ent1 := fun A R Q => match A with
 | ⟨[(.ag [(.sl 0), (.v (.int .i64 a2)), (.v (.int .i64 a3)), (.v (.int .i64 a4)), (.v (.int .i64 a5)), (.v (.int .i64 a6)), (.sl 1), (.v (.int .i64 a8)), (.v (.int .i64 a9)), (.v (.int .i64 a10)), (.v (.int .i64 a11)), (.v (.int .i64 a12)), (.v (.int .i64 a13)), (.v (.int .i64 a14))]), (.ag [(.v (.int .i64 a15)), (.v (.int .i64 a16))]), (.sc (.v (.int .i64 a17)))], [(.row false K.ki64 a1), (.row false K.k_impl_Event a7)]⟩ => (spec_l38Enter k (⟨(⟨a1⟩ : Stock), (⟨a2, a3, a4⟩ : Dough), (⟨a5, a6⟩ : Loaf), (⟨a7, (⟨a8, a9, a10⟩ : Rack), a11, a12, a13⟩ : Book), a14⟩ : Bakery) (⟨a15, a16⟩ : Event) a17).bind fun y => Q ⟨(.tp [(.ag [(.sl 2), (.v (.int .i64 y.1.Dough.Water)), (.v (.int .i64 y.1.Dough.Salt)), (.v (.int .i64 y.1.Dough.Leaven)), (.v (.int .i64 y.1.Loaf.Weight)), (.v (.int .i64 y.1.Loaf.Loss)), (.sl 3), (.v (.int .i64 y.1.Book.Rack.Fresh)), (.v (.int .i64 y.1.Book.Rack.Day)), (.v (.int .i64 y.1.Book.Rack.Old)), (.v (.int .i64 y.1.Book.Baked)), (.v (.int .i64 y.1.Book.Sold)), (.v (.int .i64 y.1.Book.Thrown)), (.v (.int .i64 y.1.Money))]), (.sc (.v (.bool y.2)))]), [.dead, .dead, (.row true K.ki64 y.1.Stock.Grams), (.row true K.k_impl_Event y.1.Book.Events)]⟩
 | _ => none
theorem spec_l38Enter_ok (k : Nat) : OkE Tryz.prog 117 (spec_l38Enter_x k) := by
 intro A R Q x h
 unfold spec_l38Enter_x at h
 split at h
 · obtain ⟨y, hy, hK⟩ := Option.bind_eq_some_iff.1 h
   obtain ⟨r, hr, hd⟩ := callF_ok envOk (spec_l38Enter_Ok k) follows Tryz.func117 (by kernel_rfl) ((spec_l38Enter_e k _ _ _).trans hy)
   exact ⟨_, spec_l38Enter_i hd ▸ hr.fin [], hK⟩
 · cases h
/-! ### spec.BakeLoaves: function 84 -/
noncomputable def spec_BakeLoaves (k : Nat)  (b : Bakery) (loaves : Int) : Option (Bakery × Bool) :=
 (spec_FlourNeeded k b loaves).bind fun y1 =>
 cond (decide ((y1 : Int) < 0))
  ((spec_l38Copy k b).bind fun y2 =>
   some (y2, false))
  ((spec_TakeFor k b.Stock b.Dough y1).bind fun y3 =>
   (spec_l38Enter k b (⟨1, loaves⟩ : Event) 0).bind fun y4 =>
    cond (!y3.2)
     ((spec_l38Copy k b).bind fun y5 =>
      some (y5, false))
     (cond (!y4.2)
      ((spec_l38Copy k b).bind fun y6 =>
       some (y6, false))
      (some ((⟨y3.1, y4.1.Dough, y4.1.Loaf, y4.1.Book, y4.1.Money⟩ : Bakery), true))))
noncomputable def spec_BakeLoaves_v : Nat → List Nat := fun t => match t with | _ => []
noncomputable def spec_BakeLoaves_O (k : Nat) : Oracle := ofL [(116, spec_TakeFor_x k), (117, spec_l38Enter_x k), (43, spec_l38Copy_x k), (88, spec_FlourNeeded_x k)]
theorem spec_BakeLoaves_Ok (k : Nat) : OkO (Ct Tryz.prog) (spec_BakeLoaves_O k) := okO_cons (spec_TakeFor_ok k) (okO_cons (spec_l38Enter_ok k) (okO_cons (spec_l38Copy_ok k) (okO_cons (spec_FlourNeeded_ok k) (okO_nil))))
noncomputable def spec_BakeLoaves_A (b : Bakery) (loaves : Int) : Pk := ⟨[(.ag [(.sl 0), (.v (.int .i64 b.Dough.Water)), (.v (.int .i64 b.Dough.Salt)), (.v (.int .i64 b.Dough.Leaven)), (.v (.int .i64 b.Loaf.Weight)), (.v (.int .i64 b.Loaf.Loss)), (.sl 1), (.v (.int .i64 b.Book.Rack.Fresh)), (.v (.int .i64 b.Book.Rack.Day)), (.v (.int .i64 b.Book.Rack.Old)), (.v (.int .i64 b.Book.Baked)), (.v (.int .i64 b.Book.Sold)), (.v (.int .i64 b.Book.Thrown)), (.v (.int .i64 b.Money))]), (.sc (.v (.int .i64 loaves)))], [(.row false K.ki64 b.Stock.Grams), (.row false K.k_impl_Event b.Book.Events)]⟩
noncomputable def spec_BakeLoaves_d : Rs → Option (Bakery × Bool)
 | ⟨(.tp [(.ag [(.sl 2), (.v (.int .i64 r2)), (.v (.int .i64 r3)), (.v (.int .i64 r4)), (.v (.int .i64 r5)), (.v (.int .i64 r6)), (.sl 3), (.v (.int .i64 r8)), (.v (.int .i64 r9)), (.v (.int .i64 r10)), (.v (.int .i64 r11)), (.v (.int .i64 r12)), (.v (.int .i64 r13)), (.v (.int .i64 r14))]), (.sc (.v (.bool r15)))]), [.dead, .dead, (.row true K.ki64 r1), (.row true K.k_impl_Event r7)]⟩ => some ((⟨(⟨r1⟩ : Stock), (⟨r2, r3, r4⟩ : Dough), (⟨r5, r6⟩ : Loaf), (⟨r7, (⟨r8, r9, r10⟩ : Rack), r11, r12, r13⟩ : Book), r14⟩ : Bakery), r15)
 | _ => none
theorem spec_BakeLoaves_i {r : Rs} {y : Bakery × Bool} (h : spec_BakeLoaves_d r = some y) : r = ⟨(.tp [(.ag [(.sl 2), (.v (.int .i64 y.1.Dough.Water)), (.v (.int .i64 y.1.Dough.Salt)), (.v (.int .i64 y.1.Dough.Leaven)), (.v (.int .i64 y.1.Loaf.Weight)), (.v (.int .i64 y.1.Loaf.Loss)), (.sl 3), (.v (.int .i64 y.1.Book.Rack.Fresh)), (.v (.int .i64 y.1.Book.Rack.Day)), (.v (.int .i64 y.1.Book.Rack.Old)), (.v (.int .i64 y.1.Book.Baked)), (.v (.int .i64 y.1.Book.Sold)), (.v (.int .i64 y.1.Book.Thrown)), (.v (.int .i64 y.1.Money))]), (.sc (.v (.bool y.2)))]), [.dead, .dead, (.row true K.ki64 y.1.Stock.Grams), (.row true K.k_impl_Event y.1.Book.Events)]⟩ := by
 unfold spec_BakeLoaves_d at h; split at h
 · cases h; rfl
 · cases h
theorem spec_BakeLoaves_e (k : Nat) (b : Bakery) (loaves : Int) : callF env (spec_BakeLoaves_O k) spec_BakeLoaves_v Tryz.f84 (k + 1) (spec_BakeLoaves_A b loaves) (fun r => spec_BakeLoaves_d (r.fin 2 [])) = spec_BakeLoaves k b loaves := by kernel_rfl
noncomputable def spec_BakeLoaves_x (k : Nat) : Ent1 := fun A R Q => match A with
 | ⟨[(.ag [(.sl 0), (.v (.int .i64 a2)), (.v (.int .i64 a3)), (.v (.int .i64 a4)), (.v (.int .i64 a5)), (.v (.int .i64 a6)), (.sl 1), (.v (.int .i64 a8)), (.v (.int .i64 a9)), (.v (.int .i64 a10)), (.v (.int .i64 a11)), (.v (.int .i64 a12)), (.v (.int .i64 a13)), (.v (.int .i64 a14))]), (.sc (.v (.int .i64 a15)))], [(.row false K.ki64 a1), (.row false K.k_impl_Event a7)]⟩ => (spec_BakeLoaves k (⟨(⟨a1⟩ : Stock), (⟨a2, a3, a4⟩ : Dough), (⟨a5, a6⟩ : Loaf), (⟨a7, (⟨a8, a9, a10⟩ : Rack), a11, a12, a13⟩ : Book), a14⟩ : Bakery) a15).bind fun y => Q ⟨(.tp [(.ag [(.sl 2), (.v (.int .i64 y.1.Dough.Water)), (.v (.int .i64 y.1.Dough.Salt)), (.v (.int .i64 y.1.Dough.Leaven)), (.v (.int .i64 y.1.Loaf.Weight)), (.v (.int .i64 y.1.Loaf.Loss)), (.sl 3), (.v (.int .i64 y.1.Book.Rack.Fresh)), (.v (.int .i64 y.1.Book.Rack.Day)), (.v (.int .i64 y.1.Book.Rack.Old)), (.v (.int .i64 y.1.Book.Baked)), (.v (.int .i64 y.1.Book.Sold)), (.v (.int .i64 y.1.Book.Thrown)), (.v (.int .i64 y.1.Money))]), (.sc (.v (.bool y.2)))]), [.dead, .dead, (.row true K.ki64 y.1.Stock.Grams), (.row true K.k_impl_Event y.1.Book.Events)]⟩
 | _ => none
theorem spec_BakeLoaves_ok (k : Nat) : OkE Tryz.prog 84 (spec_BakeLoaves_x k) := by
 intro A R Q x h
 unfold spec_BakeLoaves_x at h
 split at h
 · obtain ⟨y, hy, hK⟩ := Option.bind_eq_some_iff.1 h
   obtain ⟨r, hr, hd⟩ := callF_ok envOk (spec_BakeLoaves_Ok k) follows Tryz.func84 (by kernel_rfl) ((spec_BakeLoaves_e k _ _).trans hy)
   exact ⟨_, spec_BakeLoaves_i hd ▸ hr.fin [], hK⟩
 · cases h
/-! ### spec.l39Bool: function 89 -/
noncomputable def spec_l39Bool (k : Nat)  (ok : Bool) : Option (Int) :=
 cond ok
 (some 1)
 (some 0)
noncomputable def spec_l39Bool_v : Nat → List Nat := fun t => match t with | _ => []
noncomputable def spec_l39Bool_O (k : Nat) : Oracle := ofL []
theorem spec_l39Bool_Ok (k : Nat) : OkO (Ct Tryz.prog) (spec_l39Bool_O k) := okO_nil
noncomputable def spec_l39Bool_A (ok : Bool) : Pk := ⟨[(.sc (.v (.bool ok)))], []⟩
noncomputable def spec_l39Bool_d : Rs → Option (Int)
 | ⟨(.a (.sc (.v (.int .i64 r1)))), []⟩ => some r1
 | _ => none
theorem spec_l39Bool_i {r : Rs} {y : Int} (h : spec_l39Bool_d r = some y) : r = ⟨(.a (.sc (.v (.int .i64 y)))), []⟩ := by
 unfold spec_l39Bool_d at h; split at h
 · cases h; rfl
 · cases h
theorem spec_l39Bool_e (k : Nat) (ok : Bool) : callF env (spec_l39Bool_O k) spec_l39Bool_v Tryz.f89 (k + 1) (spec_l39Bool_A ok) (fun r => spec_l39Bool_d (r.fin 0 [])) = spec_l39Bool k ok := by kernel_rfl
noncomputable def spec_l39Bool_x (k : Nat) : Ent1 := fun A R Q => match A with
 | ⟨[(.sc (.v (.bool a1)))], []⟩ => (spec_l39Bool k a1).bind fun y => Q ⟨(.a (.sc (.v (.int .i64 y)))), []⟩
 | _ => none
theorem spec_l39Bool_ok (k : Nat) : OkE Tryz.prog 89 (spec_l39Bool_x k) := by
 intro A R Q x h
 unfold spec_l39Bool_x at h
 split at h
 · obtain ⟨y, hy, hK⟩ := Option.bind_eq_some_iff.1 h
   obtain ⟨r, hr, hd⟩ := callF_ok envOk (spec_l39Bool_Ok k) follows Tryz.func89 (by kernel_rfl) ((spec_l39Bool_e k _).trans hy)
   exact ⟨_, spec_l39Bool_i hd ▸ hr.fin [], hK⟩
 · cases h
/-! ### spec.SellLoaves: function 85 -/
noncomputable def spec_SellLoaves (k : Nat)  (b : Bakery) (loaves : Int) (cheap : Bool) : Option (Bakery × Bool) :=
 (spec_l01In k loaves 0 1000).bind fun y1 =>
 cond (!y1)
  ((spec_l38Copy k b).bind fun y2 =>
   some (y2, false))
  (cond cheap
   ((spec_l38Enter k b (⟨3, loaves⟩ : Event) (wr ((2 : Int) * loaves))).bind fun y3 =>
    some (y3.1, y3.2))
   ((spec_l38Enter k b (⟨2, loaves⟩ : Event) (wr ((4 : Int) * loaves))).bind fun y4 =>
    some (y4.1, y4.2)))
noncomputable def spec_SellLoaves_v : Nat → List Nat := fun t => match t with | _ => []
noncomputable def spec_SellLoaves_O (k : Nat) : Oracle := ofL [(117, spec_l38Enter_x k), (40, spec_l01In_x k), (43, spec_l38Copy_x k)]
theorem spec_SellLoaves_Ok (k : Nat) : OkO (Ct Tryz.prog) (spec_SellLoaves_O k) := okO_cons (spec_l38Enter_ok k) (okO_cons (spec_l01In_ok k) (okO_cons (spec_l38Copy_ok k) (okO_nil)))
noncomputable def spec_SellLoaves_A (b : Bakery) (loaves : Int) (cheap : Bool) : Pk := ⟨[(.ag [(.sl 0), (.v (.int .i64 b.Dough.Water)), (.v (.int .i64 b.Dough.Salt)), (.v (.int .i64 b.Dough.Leaven)), (.v (.int .i64 b.Loaf.Weight)), (.v (.int .i64 b.Loaf.Loss)), (.sl 1), (.v (.int .i64 b.Book.Rack.Fresh)), (.v (.int .i64 b.Book.Rack.Day)), (.v (.int .i64 b.Book.Rack.Old)), (.v (.int .i64 b.Book.Baked)), (.v (.int .i64 b.Book.Sold)), (.v (.int .i64 b.Book.Thrown)), (.v (.int .i64 b.Money))]), (.sc (.v (.int .i64 loaves))), (.sc (.v (.bool cheap)))], [(.row false K.ki64 b.Stock.Grams), (.row false K.k_impl_Event b.Book.Events)]⟩
noncomputable def spec_SellLoaves_d : Rs → Option (Bakery × Bool)
 | ⟨(.tp [(.ag [(.sl 2), (.v (.int .i64 r2)), (.v (.int .i64 r3)), (.v (.int .i64 r4)), (.v (.int .i64 r5)), (.v (.int .i64 r6)), (.sl 3), (.v (.int .i64 r8)), (.v (.int .i64 r9)), (.v (.int .i64 r10)), (.v (.int .i64 r11)), (.v (.int .i64 r12)), (.v (.int .i64 r13)), (.v (.int .i64 r14))]), (.sc (.v (.bool r15)))]), [.dead, .dead, (.row true K.ki64 r1), (.row true K.k_impl_Event r7)]⟩ => some ((⟨(⟨r1⟩ : Stock), (⟨r2, r3, r4⟩ : Dough), (⟨r5, r6⟩ : Loaf), (⟨r7, (⟨r8, r9, r10⟩ : Rack), r11, r12, r13⟩ : Book), r14⟩ : Bakery), r15)
 | _ => none
theorem spec_SellLoaves_i {r : Rs} {y : Bakery × Bool} (h : spec_SellLoaves_d r = some y) : r = ⟨(.tp [(.ag [(.sl 2), (.v (.int .i64 y.1.Dough.Water)), (.v (.int .i64 y.1.Dough.Salt)), (.v (.int .i64 y.1.Dough.Leaven)), (.v (.int .i64 y.1.Loaf.Weight)), (.v (.int .i64 y.1.Loaf.Loss)), (.sl 3), (.v (.int .i64 y.1.Book.Rack.Fresh)), (.v (.int .i64 y.1.Book.Rack.Day)), (.v (.int .i64 y.1.Book.Rack.Old)), (.v (.int .i64 y.1.Book.Baked)), (.v (.int .i64 y.1.Book.Sold)), (.v (.int .i64 y.1.Book.Thrown)), (.v (.int .i64 y.1.Money))]), (.sc (.v (.bool y.2)))]), [.dead, .dead, (.row true K.ki64 y.1.Stock.Grams), (.row true K.k_impl_Event y.1.Book.Events)]⟩ := by
 unfold spec_SellLoaves_d at h; split at h
 · cases h; rfl
 · cases h
theorem spec_SellLoaves_e (k : Nat) (b : Bakery) (loaves : Int) (cheap : Bool) : callF env (spec_SellLoaves_O k) spec_SellLoaves_v Tryz.f85 (k + 1) (spec_SellLoaves_A b loaves cheap) (fun r => spec_SellLoaves_d (r.fin 2 [])) = spec_SellLoaves k b loaves cheap := by kernel_rfl
noncomputable def spec_SellLoaves_x (k : Nat) : Ent1 := fun A R Q => match A with
 | ⟨[(.ag [(.sl 0), (.v (.int .i64 a2)), (.v (.int .i64 a3)), (.v (.int .i64 a4)), (.v (.int .i64 a5)), (.v (.int .i64 a6)), (.sl 1), (.v (.int .i64 a8)), (.v (.int .i64 a9)), (.v (.int .i64 a10)), (.v (.int .i64 a11)), (.v (.int .i64 a12)), (.v (.int .i64 a13)), (.v (.int .i64 a14))]), (.sc (.v (.int .i64 a15))), (.sc (.v (.bool a16)))], [(.row false K.ki64 a1), (.row false K.k_impl_Event a7)]⟩ => (spec_SellLoaves k (⟨(⟨a1⟩ : Stock), (⟨a2, a3, a4⟩ : Dough), (⟨a5, a6⟩ : Loaf), (⟨a7, (⟨a8, a9, a10⟩ : Rack), a11, a12, a13⟩ : Book), a14⟩ : Bakery) a15 a16).bind fun y => Q ⟨(.tp [(.ag [(.sl 2), (.v (.int .i64 y.1.Dough.Water)), (.v (.int .i64 y.1.Dough.Salt)), (.v (.int .i64 y.1.Dough.Leaven)), (.v (.int .i64 y.1.Loaf.Weight)), (.v (.int .i64 y.1.Loaf.Loss)), (.sl 3), (.v (.int .i64 y.1.Book.Rack.Fresh)), (.v (.int .i64 y.1.Book.Rack.Day)), (.v (.int .i64 y.1.Book.Rack.Old)), (.v (.int .i64 y.1.Book.Baked)), (.v (.int .i64 y.1.Book.Sold)), (.v (.int .i64 y.1.Book.Thrown)), (.v (.int .i64 y.1.Money))]), (.sc (.v (.bool y.2)))]), [.dead, .dead, (.row true K.ki64 y.1.Stock.Grams), (.row true K.k_impl_Event y.1.Book.Events)]⟩
 | _ => none
theorem spec_SellLoaves_ok (k : Nat) : OkE Tryz.prog 85 (spec_SellLoaves_x k) := by
 intro A R Q x h
 unfold spec_SellLoaves_x at h
 split at h
 · obtain ⟨y, hy, hK⟩ := Option.bind_eq_some_iff.1 h
   obtain ⟨r, hr, hd⟩ := callF_ok envOk (spec_SellLoaves_Ok k) follows Tryz.func85 (by kernel_rfl) ((spec_SellLoaves_e k _ _ _).trans hy)
   exact ⟨_, spec_SellLoaves_i hd ▸ hr.fin [], hK⟩
 · cases h
/-! ### spec.NightOver: function 86 -/
noncomputable def spec_NightOver (k : Nat)  (b : Bakery) : Option (Bakery × Bool) :=
 (spec_l38Enter k b (⟨4, 0⟩ : Event) 0).bind fun y1 =>
 some (y1.1, y1.2)
noncomputable def spec_NightOver_v : Nat → List Nat := fun t => match t with | _ => []
noncomputable def spec_NightOver_O (k : Nat) : Oracle := ofL [(117, spec_l38Enter_x k)]
theorem spec_NightOver_Ok (k : Nat) : OkO (Ct Tryz.prog) (spec_NightOver_O k) := okO_cons (spec_l38Enter_ok k) (okO_nil)
noncomputable def spec_NightOver_A (b : Bakery) : Pk := ⟨[(.ag [(.sl 0), (.v (.int .i64 b.Dough.Water)), (.v (.int .i64 b.Dough.Salt)), (.v (.int .i64 b.Dough.Leaven)), (.v (.int .i64 b.Loaf.Weight)), (.v (.int .i64 b.Loaf.Loss)), (.sl 1), (.v (.int .i64 b.Book.Rack.Fresh)), (.v (.int .i64 b.Book.Rack.Day)), (.v (.int .i64 b.Book.Rack.Old)), (.v (.int .i64 b.Book.Baked)), (.v (.int .i64 b.Book.Sold)), (.v (.int .i64 b.Book.Thrown)), (.v (.int .i64 b.Money))])], [(.row false K.ki64 b.Stock.Grams), (.row false K.k_impl_Event b.Book.Events)]⟩
noncomputable def spec_NightOver_d : Rs → Option (Bakery × Bool)
 | ⟨(.tp [(.ag [(.sl 2), (.v (.int .i64 r2)), (.v (.int .i64 r3)), (.v (.int .i64 r4)), (.v (.int .i64 r5)), (.v (.int .i64 r6)), (.sl 3), (.v (.int .i64 r8)), (.v (.int .i64 r9)), (.v (.int .i64 r10)), (.v (.int .i64 r11)), (.v (.int .i64 r12)), (.v (.int .i64 r13)), (.v (.int .i64 r14))]), (.sc (.v (.bool r15)))]), [.dead, .dead, (.row true K.ki64 r1), (.row true K.k_impl_Event r7)]⟩ => some ((⟨(⟨r1⟩ : Stock), (⟨r2, r3, r4⟩ : Dough), (⟨r5, r6⟩ : Loaf), (⟨r7, (⟨r8, r9, r10⟩ : Rack), r11, r12, r13⟩ : Book), r14⟩ : Bakery), r15)
 | _ => none
theorem spec_NightOver_i {r : Rs} {y : Bakery × Bool} (h : spec_NightOver_d r = some y) : r = ⟨(.tp [(.ag [(.sl 2), (.v (.int .i64 y.1.Dough.Water)), (.v (.int .i64 y.1.Dough.Salt)), (.v (.int .i64 y.1.Dough.Leaven)), (.v (.int .i64 y.1.Loaf.Weight)), (.v (.int .i64 y.1.Loaf.Loss)), (.sl 3), (.v (.int .i64 y.1.Book.Rack.Fresh)), (.v (.int .i64 y.1.Book.Rack.Day)), (.v (.int .i64 y.1.Book.Rack.Old)), (.v (.int .i64 y.1.Book.Baked)), (.v (.int .i64 y.1.Book.Sold)), (.v (.int .i64 y.1.Book.Thrown)), (.v (.int .i64 y.1.Money))]), (.sc (.v (.bool y.2)))]), [.dead, .dead, (.row true K.ki64 y.1.Stock.Grams), (.row true K.k_impl_Event y.1.Book.Events)]⟩ := by
 unfold spec_NightOver_d at h; split at h
 · cases h; rfl
 · cases h
theorem spec_NightOver_e (k : Nat) (b : Bakery) : callF env (spec_NightOver_O k) spec_NightOver_v Tryz.f86 (k + 1) (spec_NightOver_A b) (fun r => spec_NightOver_d (r.fin 2 [])) = spec_NightOver k b := by kernel_rfl
noncomputable def spec_NightOver_x (k : Nat) : Ent1 := fun A R Q => match A with
 | ⟨[(.ag [(.sl 0), (.v (.int .i64 a2)), (.v (.int .i64 a3)), (.v (.int .i64 a4)), (.v (.int .i64 a5)), (.v (.int .i64 a6)), (.sl 1), (.v (.int .i64 a8)), (.v (.int .i64 a9)), (.v (.int .i64 a10)), (.v (.int .i64 a11)), (.v (.int .i64 a12)), (.v (.int .i64 a13)), (.v (.int .i64 a14))])], [(.row false K.ki64 a1), (.row false K.k_impl_Event a7)]⟩ => (spec_NightOver k (⟨(⟨a1⟩ : Stock), (⟨a2, a3, a4⟩ : Dough), (⟨a5, a6⟩ : Loaf), (⟨a7, (⟨a8, a9, a10⟩ : Rack), a11, a12, a13⟩ : Book), a14⟩ : Bakery)).bind fun y => Q ⟨(.tp [(.ag [(.sl 2), (.v (.int .i64 y.1.Dough.Water)), (.v (.int .i64 y.1.Dough.Salt)), (.v (.int .i64 y.1.Dough.Leaven)), (.v (.int .i64 y.1.Loaf.Weight)), (.v (.int .i64 y.1.Loaf.Loss)), (.sl 3), (.v (.int .i64 y.1.Book.Rack.Fresh)), (.v (.int .i64 y.1.Book.Rack.Day)), (.v (.int .i64 y.1.Book.Rack.Old)), (.v (.int .i64 y.1.Book.Baked)), (.v (.int .i64 y.1.Book.Sold)), (.v (.int .i64 y.1.Book.Thrown)), (.v (.int .i64 y.1.Money))]), (.sc (.v (.bool y.2)))]), [.dead, .dead, (.row true K.ki64 y.1.Stock.Grams), (.row true K.k_impl_Event y.1.Book.Events)]⟩
 | _ => none
theorem spec_NightOver_ok (k : Nat) : OkE Tryz.prog 86 (spec_NightOver_x k) := by
 intro A R Q x h
 unfold spec_NightOver_x at h
 split at h
 · obtain ⟨y, hy, hK⟩ := Option.bind_eq_some_iff.1 h
   obtain ⟨r, hr, hd⟩ := callF_ok envOk (spec_NightOver_Ok k) follows Tryz.func86 (by kernel_rfl) ((spec_NightOver_e k _).trans hy)
   exact ⟨_, spec_NightOver_i hd ▸ hr.fin [], hK⟩
 · cases h
/-! ### spec.FillStock: function 118 -/
noncomputable def spec_FillStock (k : Nat)  (s : Stock) (k_ : Int) (grams : Int) : Option (Stock × Bool) :=
 (spec_l36Copy k s).bind fun y1 =>
 (spec_StoreOk k s).bind fun y2 =>
  cond (!y2)
   (some (y1, false))
   ((spec_l01In k k_ 0 3).bind fun y3 =>
    cond (!y3)
     (some (y1, false))
     ((spec_l01In k grams 0 1000000).bind fun y4 =>
      cond (!y4)
       (some (y1, false))
       (if 0 ≤ (k_ : Int) ∧ (k_ : Int) < ((s.Grams).length : Int) then
        cond (decide ((1000000 : Int) < (wr ((s.Grams.getD (Int.toNat k_) 0) + grams))))
        (some (y1, false))
        (if 0 ≤ (k_ : Int) ∧ (k_ : Int) < ((s.Grams).length : Int) then
        if 0 ≤ (k_ : Int) ∧ (k_ : Int) < ((y1.Grams).length : Int) then
        some ((⟨(y1.Grams.set (Int.toNat k_) (wr ((s.Grams.getD (Int.toNat k_) 0) + grams)))⟩ : Stock), true) else none else none) else none)))
noncomputable def spec_FillStock_v : Nat → List Nat := fun t => match t with | _ => []
noncomputable def spec_FillStock_O (k : Nat) : Oracle := ofL [(40, spec_l01In_x k), (78, spec_l36Copy_x k), (80, spec_StoreOk_x k)]
theorem spec_FillStock_Ok (k : Nat) : OkO (Ct Tryz.prog) (spec_FillStock_O k) := okO_cons (spec_l01In_ok k) (okO_cons (spec_l36Copy_ok k) (okO_cons (spec_StoreOk_ok k) (okO_nil)))
noncomputable def spec_FillStock_A (s : Stock) (k_ : Int) (grams : Int) : Pk := ⟨[(.ag [(.sl 0)]), (.sc (.v (.int .i64 k_))), (.sc (.v (.int .i64 grams)))], [(.row false K.ki64 s.Grams)]⟩
noncomputable def spec_FillStock_d : Rs → Option (Stock × Bool)
 | ⟨(.tp [(.ag [(.sl 1)]), (.sc (.v (.bool r2)))]), [.dead, (.row true K.ki64 r1)]⟩ => some ((⟨r1⟩ : Stock), r2)
 | _ => none
theorem spec_FillStock_i {r : Rs} {y : Stock × Bool} (h : spec_FillStock_d r = some y) : r = ⟨(.tp [(.ag [(.sl 1)]), (.sc (.v (.bool y.2)))]), [.dead, (.row true K.ki64 y.1.Grams)]⟩ := by
 unfold spec_FillStock_d at h; split at h
 · cases h; rfl
 · cases h
theorem spec_FillStock_e (k : Nat) (s : Stock) (k_ : Int) (grams : Int) : callF env (spec_FillStock_O k) spec_FillStock_v Tryz.f118 (k + 1) (spec_FillStock_A s k_ grams) (fun r => spec_FillStock_d (r.fin 1 [])) = spec_FillStock k s k_ grams := by kernel_rfl
noncomputable def spec_FillStock_x (k : Nat) : Ent1 := fun A R Q => match A with
 | ⟨[(.ag [(.sl 0)]), (.sc (.v (.int .i64 a2))), (.sc (.v (.int .i64 a3)))], [(.row false K.ki64 a1)]⟩ => (spec_FillStock k (⟨a1⟩ : Stock) a2 a3).bind fun y => Q ⟨(.tp [(.ag [(.sl 1)]), (.sc (.v (.bool y.2)))]), [.dead, (.row true K.ki64 y.1.Grams)]⟩
 | _ => none
theorem spec_FillStock_ok (k : Nat) : OkE Tryz.prog 118 (spec_FillStock_x k) := by
 intro A R Q x h
 unfold spec_FillStock_x at h
 split at h
 · obtain ⟨y, hy, hK⟩ := Option.bind_eq_some_iff.1 h
   obtain ⟨r, hr, hd⟩ := callF_ok envOk (spec_FillStock_Ok k) follows Tryz.func118 (by kernel_rfl) ((spec_FillStock_e k _ _ _).trans hy)
   exact ⟨_, spec_FillStock_i hd ▸ hr.fin [], hK⟩
 · cases h
/-! ### spec.BuyStock: function 87 -/
noncomputable def spec_BuyStock (k : Nat)  (b : Bakery) (k_ : Int) (grams : Int) : Option (Bakery × Bool) :=
 (spec_l38Copy k b).bind fun y1 =>
 (spec_FillStock k b.Stock k_ grams).bind fun y2 =>
  (spec_BakeryOk k b).bind fun y3 =>
   cond (!y3)
    (some (y1, false))
    (cond (!y2.2)
     (some (y1, false))
     (if (100 : Int) ≠ 0 then
      (spec_BakeryOk k (⟨y2.1, y1.Dough, y1.Loaf, y1.Book, (wr (b.Money - (wr (Int.tdiv (wr (grams + 99)) 100))))⟩ : Bakery)).bind fun y4 =>
       cond (!y4)
        ((spec_l38Copy k b).bind fun y5 =>
        some (y5, false))
        (some ((⟨y2.1, y1.Dough, y1.Loaf, y1.Book, (wr (b.Money - (wr (Int.tdiv (wr (grams + 99)) 100))))⟩ : Bakery), true)) else none))
noncomputable def spec_BuyStock_v : Nat → List Nat := fun t => match t with | _ => []
noncomputable def spec_BuyStock_O (k : Nat) : Oracle := ofL [(118, spec_FillStock_x k), (43, spec_l38Copy_x k), (44, spec_BakeryOk_x k)]
theorem spec_BuyStock_Ok (k : Nat) : OkO (Ct Tryz.prog) (spec_BuyStock_O k) := okO_cons (spec_FillStock_ok k) (okO_cons (spec_l38Copy_ok k) (okO_cons (spec_BakeryOk_ok k) (okO_nil)))
noncomputable def spec_BuyStock_A (b : Bakery) (k_ : Int) (grams : Int) : Pk := ⟨[(.ag [(.sl 0), (.v (.int .i64 b.Dough.Water)), (.v (.int .i64 b.Dough.Salt)), (.v (.int .i64 b.Dough.Leaven)), (.v (.int .i64 b.Loaf.Weight)), (.v (.int .i64 b.Loaf.Loss)), (.sl 1), (.v (.int .i64 b.Book.Rack.Fresh)), (.v (.int .i64 b.Book.Rack.Day)), (.v (.int .i64 b.Book.Rack.Old)), (.v (.int .i64 b.Book.Baked)), (.v (.int .i64 b.Book.Sold)), (.v (.int .i64 b.Book.Thrown)), (.v (.int .i64 b.Money))]), (.sc (.v (.int .i64 k_))), (.sc (.v (.int .i64 grams)))], [(.row false K.ki64 b.Stock.Grams), (.row false K.k_impl_Event b.Book.Events)]⟩
noncomputable def spec_BuyStock_d : Rs → Option (Bakery × Bool)
 | ⟨(.tp [(.ag [(.sl 2), (.v (.int .i64 r2)), (.v (.int .i64 r3)), (.v (.int .i64 r4)), (.v (.int .i64 r5)), (.v (.int .i64 r6)), (.sl 3), (.v (.int .i64 r8)), (.v (.int .i64 r9)), (.v (.int .i64 r10)), (.v (.int .i64 r11)), (.v (.int .i64 r12)), (.v (.int .i64 r13)), (.v (.int .i64 r14))]), (.sc (.v (.bool r15)))]), [.dead, .dead, (.row true K.ki64 r1), (.row true K.k_impl_Event r7)]⟩ => some ((⟨(⟨r1⟩ : Stock), (⟨r2, r3, r4⟩ : Dough), (⟨r5, r6⟩ : Loaf), (⟨r7, (⟨r8, r9, r10⟩ : Rack), r11, r12, r13⟩ : Book), r14⟩ : Bakery), r15)
 | _ => none
theorem spec_BuyStock_i {r : Rs} {y : Bakery × Bool} (h : spec_BuyStock_d r = some y) : r = ⟨(.tp [(.ag [(.sl 2), (.v (.int .i64 y.1.Dough.Water)), (.v (.int .i64 y.1.Dough.Salt)), (.v (.int .i64 y.1.Dough.Leaven)), (.v (.int .i64 y.1.Loaf.Weight)), (.v (.int .i64 y.1.Loaf.Loss)), (.sl 3), (.v (.int .i64 y.1.Book.Rack.Fresh)), (.v (.int .i64 y.1.Book.Rack.Day)), (.v (.int .i64 y.1.Book.Rack.Old)), (.v (.int .i64 y.1.Book.Baked)), (.v (.int .i64 y.1.Book.Sold)), (.v (.int .i64 y.1.Book.Thrown)), (.v (.int .i64 y.1.Money))]), (.sc (.v (.bool y.2)))]), [.dead, .dead, (.row true K.ki64 y.1.Stock.Grams), (.row true K.k_impl_Event y.1.Book.Events)]⟩ := by
 unfold spec_BuyStock_d at h; split at h
 · cases h; rfl
 · cases h
theorem spec_BuyStock_e (k : Nat) (b : Bakery) (k_ : Int) (grams : Int) : callF env (spec_BuyStock_O k) spec_BuyStock_v Tryz.f87 (k + 1) (spec_BuyStock_A b k_ grams) (fun r => spec_BuyStock_d (r.fin 2 [])) = spec_BuyStock k b k_ grams := by kernel_rfl
noncomputable def spec_BuyStock_x (k : Nat) : Ent1 := fun A R Q => match A with
 | ⟨[(.ag [(.sl 0), (.v (.int .i64 a2)), (.v (.int .i64 a3)), (.v (.int .i64 a4)), (.v (.int .i64 a5)), (.v (.int .i64 a6)), (.sl 1), (.v (.int .i64 a8)), (.v (.int .i64 a9)), (.v (.int .i64 a10)), (.v (.int .i64 a11)), (.v (.int .i64 a12)), (.v (.int .i64 a13)), (.v (.int .i64 a14))]), (.sc (.v (.int .i64 a15))), (.sc (.v (.int .i64 a16)))], [(.row false K.ki64 a1), (.row false K.k_impl_Event a7)]⟩ => (spec_BuyStock k (⟨(⟨a1⟩ : Stock), (⟨a2, a3, a4⟩ : Dough), (⟨a5, a6⟩ : Loaf), (⟨a7, (⟨a8, a9, a10⟩ : Rack), a11, a12, a13⟩ : Book), a14⟩ : Bakery) a15 a16).bind fun y => Q ⟨(.tp [(.ag [(.sl 2), (.v (.int .i64 y.1.Dough.Water)), (.v (.int .i64 y.1.Dough.Salt)), (.v (.int .i64 y.1.Dough.Leaven)), (.v (.int .i64 y.1.Loaf.Weight)), (.v (.int .i64 y.1.Loaf.Loss)), (.sl 3), (.v (.int .i64 y.1.Book.Rack.Fresh)), (.v (.int .i64 y.1.Book.Rack.Day)), (.v (.int .i64 y.1.Book.Rack.Old)), (.v (.int .i64 y.1.Book.Baked)), (.v (.int .i64 y.1.Book.Sold)), (.v (.int .i64 y.1.Book.Thrown)), (.v (.int .i64 y.1.Money))]), (.sc (.v (.bool y.2)))]), [.dead, .dead, (.row true K.ki64 y.1.Stock.Grams), (.row true K.k_impl_Event y.1.Book.Events)]⟩
 | _ => none
theorem spec_BuyStock_ok (k : Nat) : OkE Tryz.prog 87 (spec_BuyStock_x k) := by
 intro A R Q x h
 unfold spec_BuyStock_x at h
 split at h
 · obtain ⟨y, hy, hK⟩ := Option.bind_eq_some_iff.1 h
   obtain ⟨r, hr, hd⟩ := callF_ok envOk (spec_BuyStock_Ok k) follows Tryz.func87 (by kernel_rfl) ((spec_BuyStock_e k _ _ _).trans hy)
   exact ⟨_, spec_BuyStock_i hd ▸ hr.fin [], hK⟩
 · cases h
/-! ### spec.DoAct: function 45 -/
noncomputable def spec_DoAct (k : Nat)  (b : Bakery) (a : Deed) : Option (Bakery × Int) :=
 (spec_l38Copy k b).bind fun y1 =>
 (spec_BakeryOk k b).bind fun y2 =>
  cond (!y2)
   (some (y1, (-1)))
   ((spec_ActOk k a).bind fun y3 =>
    cond (!y3)
     (some (y1, (-1)))
     (cond (decide ((a.Kind : Int) = 1))
      ((spec_BakeLoaves k b a.A).bind fun y4 =>
       (spec_l39Bool k y4.2).bind fun y5 =>
        some (y4.1, y5))
      (cond (decide ((a.Kind : Int) = 2))
       ((spec_SellLoaves k b a.A false).bind fun y6 =>
        (spec_l39Bool k y6.2).bind fun y7 =>
        some (y6.1, y7))
       (cond (decide ((a.Kind : Int) = 3))
        ((spec_SellLoaves k b a.A true).bind fun y8 =>
        (spec_l39Bool k y8.2).bind fun y9 =>
        some (y8.1, y9))
        (cond (decide ((a.Kind : Int) = 4))
        ((spec_NightOver k b).bind fun y10 =>
        (spec_l39Bool k y10.2).bind fun y11 =>
        some (y10.1, y11))
        (cond (decide ((a.Kind : Int) = 5))
        ((spec_BuyStock k b a.A a.B).bind fun y12 =>
        (spec_l39Bool k y12.2).bind fun y13 =>
        some (y12.1, y13))
        (cond (decide ((a.Kind : Int) = 6))
        ((spec_FlourNeeded k b a.A).bind fun y14 =>
        some (y1, y14))
        ((spec_l39Bool k false).bind fun y15 =>
        some (y1, y15)))))))))
noncomputable def spec_DoAct_v : Nat → List Nat := fun t => match t with | _ => []
noncomputable def spec_DoAct_O (k : Nat) : Oracle := ofL [(43, spec_l38Copy_x k), (44, spec_BakeryOk_x k), (77, spec_ActOk_x k), (84, spec_BakeLoaves_x k), (85, spec_SellLoaves_x k), (86, spec_NightOver_x k), (87, spec_BuyStock_x k), (88, spec_FlourNeeded_x k), (89, spec_l39Bool_x k)]
theorem spec_DoAct_Ok (k : Nat) : OkO (Ct Tryz.prog) (spec_DoAct_O k) := okO_cons (spec_l38Copy_ok k) (okO_cons (spec_BakeryOk_ok k) (okO_cons (spec_ActOk_ok k) (okO_cons (spec_BakeLoaves_ok k) (okO_cons (spec_SellLoaves_ok k) (okO_cons (spec_NightOver_ok k) (okO_cons (spec_BuyStock_ok k) (okO_cons (spec_FlourNeeded_ok k) (okO_cons (spec_l39Bool_ok k) (okO_nil)))))))))
noncomputable def spec_DoAct_A (b : Bakery) (a : Deed) : Pk := ⟨[(.ag [(.sl 0), (.v (.int .i64 b.Dough.Water)), (.v (.int .i64 b.Dough.Salt)), (.v (.int .i64 b.Dough.Leaven)), (.v (.int .i64 b.Loaf.Weight)), (.v (.int .i64 b.Loaf.Loss)), (.sl 1), (.v (.int .i64 b.Book.Rack.Fresh)), (.v (.int .i64 b.Book.Rack.Day)), (.v (.int .i64 b.Book.Rack.Old)), (.v (.int .i64 b.Book.Baked)), (.v (.int .i64 b.Book.Sold)), (.v (.int .i64 b.Book.Thrown)), (.v (.int .i64 b.Money))]), (.ag [(.v (.int .i64 a.Kind)), (.v (.int .i64 a.A)), (.v (.int .i64 a.B))])], [(.row false K.ki64 b.Stock.Grams), (.row false K.k_impl_Event b.Book.Events)]⟩
noncomputable def spec_DoAct_d : Rs → Option (Bakery × Int)
 | ⟨(.tp [(.ag [(.sl 2), (.v (.int .i64 r2)), (.v (.int .i64 r3)), (.v (.int .i64 r4)), (.v (.int .i64 r5)), (.v (.int .i64 r6)), (.sl 3), (.v (.int .i64 r8)), (.v (.int .i64 r9)), (.v (.int .i64 r10)), (.v (.int .i64 r11)), (.v (.int .i64 r12)), (.v (.int .i64 r13)), (.v (.int .i64 r14))]), (.sc (.v (.int .i64 r15)))]), [.dead, .dead, (.row true K.ki64 r1), (.row true K.k_impl_Event r7)]⟩ => some ((⟨(⟨r1⟩ : Stock), (⟨r2, r3, r4⟩ : Dough), (⟨r5, r6⟩ : Loaf), (⟨r7, (⟨r8, r9, r10⟩ : Rack), r11, r12, r13⟩ : Book), r14⟩ : Bakery), r15)
 | _ => none
theorem spec_DoAct_i {r : Rs} {y : Bakery × Int} (h : spec_DoAct_d r = some y) : r = ⟨(.tp [(.ag [(.sl 2), (.v (.int .i64 y.1.Dough.Water)), (.v (.int .i64 y.1.Dough.Salt)), (.v (.int .i64 y.1.Dough.Leaven)), (.v (.int .i64 y.1.Loaf.Weight)), (.v (.int .i64 y.1.Loaf.Loss)), (.sl 3), (.v (.int .i64 y.1.Book.Rack.Fresh)), (.v (.int .i64 y.1.Book.Rack.Day)), (.v (.int .i64 y.1.Book.Rack.Old)), (.v (.int .i64 y.1.Book.Baked)), (.v (.int .i64 y.1.Book.Sold)), (.v (.int .i64 y.1.Book.Thrown)), (.v (.int .i64 y.1.Money))]), (.sc (.v (.int .i64 y.2)))]), [.dead, .dead, (.row true K.ki64 y.1.Stock.Grams), (.row true K.k_impl_Event y.1.Book.Events)]⟩ := by
 unfold spec_DoAct_d at h; split at h
 · cases h; rfl
 · cases h
theorem spec_DoAct_e (k : Nat) (b : Bakery) (a : Deed) : callF env (spec_DoAct_O k) spec_DoAct_v Tryz.f45 (k + 1) (spec_DoAct_A b a) (fun r => spec_DoAct_d (r.fin 2 [])) = spec_DoAct k b a := by kernel_rfl
noncomputable def spec_DoAct_x (k : Nat) : Ent1 := fun A R Q => match A with
 | ⟨[(.ag [(.sl 0), (.v (.int .i64 a2)), (.v (.int .i64 a3)), (.v (.int .i64 a4)), (.v (.int .i64 a5)), (.v (.int .i64 a6)), (.sl 1), (.v (.int .i64 a8)), (.v (.int .i64 a9)), (.v (.int .i64 a10)), (.v (.int .i64 a11)), (.v (.int .i64 a12)), (.v (.int .i64 a13)), (.v (.int .i64 a14))]), (.ag [(.v (.int .i64 a15)), (.v (.int .i64 a16)), (.v (.int .i64 a17))])], [(.row false K.ki64 a1), (.row false K.k_impl_Event a7)]⟩ => (spec_DoAct k (⟨(⟨a1⟩ : Stock), (⟨a2, a3, a4⟩ : Dough), (⟨a5, a6⟩ : Loaf), (⟨a7, (⟨a8, a9, a10⟩ : Rack), a11, a12, a13⟩ : Book), a14⟩ : Bakery) (⟨a15, a16, a17⟩ : Deed)).bind fun y => Q ⟨(.tp [(.ag [(.sl 2), (.v (.int .i64 y.1.Dough.Water)), (.v (.int .i64 y.1.Dough.Salt)), (.v (.int .i64 y.1.Dough.Leaven)), (.v (.int .i64 y.1.Loaf.Weight)), (.v (.int .i64 y.1.Loaf.Loss)), (.sl 3), (.v (.int .i64 y.1.Book.Rack.Fresh)), (.v (.int .i64 y.1.Book.Rack.Day)), (.v (.int .i64 y.1.Book.Rack.Old)), (.v (.int .i64 y.1.Book.Baked)), (.v (.int .i64 y.1.Book.Sold)), (.v (.int .i64 y.1.Book.Thrown)), (.v (.int .i64 y.1.Money))]), (.sc (.v (.int .i64 y.2)))]), [.dead, .dead, (.row true K.ki64 y.1.Stock.Grams), (.row true K.k_impl_Event y.1.Book.Events)]⟩
 | _ => none
theorem spec_DoAct_ok (k : Nat) : OkE Tryz.prog 45 (spec_DoAct_x k) := by
 intro A R Q x h
 unfold spec_DoAct_x at h
 split at h
 · obtain ⟨y, hy, hK⟩ := Option.bind_eq_some_iff.1 h
   obtain ⟨r, hr, hd⟩ := callF_ok envOk (spec_DoAct_Ok k) follows Tryz.func45 (by kernel_rfl) ((spec_DoAct_e k _ _).trans hy)
   exact ⟨_, spec_DoAct_i hd ▸ hr.fin [], hK⟩
 · cases h
/-! ### spec.RunActs: function 20 -/
noncomputable def spec_RunActs_s0 (k : Nat)  (b : Bakery) (acts : (List Deed)) (J : Int → (List Int) → (List Event) → Int → Int → Int → Int → Int → Int → Int → Int → Int → Int → Int → Int → (List Int) → Option (Bakery × (List Int))) (x0_0 : Int) (x0_1 : (List Int)) (x0_2 : (List Event)) (x0_3 : Int) (x0_4 : Int) (x0_5 : Int) (x0_6 : Int) (x0_7 : Int) (x0_8 : Int) (x0_9 : Int) (x0_10 : Int) (x0_11 : Int) (x0_12 : Int) (x0_13 : Int) (x0_14 : Int) (x0_15 : (List Int)) : Option (Bakery × (List Int)) :=
 cond (decide ((x0_0 : Int) < ((acts).length : Int)))
 (if 0 ≤ (x0_0 : Int) ∧ (x0_0 : Int) < ((acts).length : Int) then
  (spec_DoAct k (⟨(⟨x0_1⟩ : Stock), (⟨x0_3, x0_4, x0_5⟩ : Dough), (⟨x0_6, x0_7⟩ : Loaf), (⟨x0_2, (⟨x0_8, x0_9, x0_10⟩ : Rack), x0_11, x0_12, x0_13⟩ : Book), x0_14⟩ : Bakery) (acts.getD (Int.toNat x0_0) dk_impl_Act)).bind fun y4 =>
   if (x0_15 : List Int).length + ([y4.2] : List Int).length ≤ maxRow then
    J (wr (x0_0 + 1)) y4.1.Stock.Grams y4.1.Book.Events y4.1.Dough.Water y4.1.Dough.Salt y4.1.Dough.Leaven y4.1.Loaf.Weight y4.1.Loaf.Loss y4.1.Book.Rack.Fresh y4.1.Book.Rack.Day y4.1.Book.Rack.Old y4.1.Book.Baked y4.1.Book.Sold y4.1.Book.Thrown y4.1.Money (x0_15 ++ [y4.2]) else none else none)
 (some ((⟨(⟨x0_1⟩ : Stock), (⟨x0_3, x0_4, x0_5⟩ : Dough), (⟨x0_6, x0_7⟩ : Loaf), (⟨x0_2, (⟨x0_8, x0_9, x0_10⟩ : Rack), x0_11, x0_12, x0_13⟩ : Book), x0_14⟩ : Bakery), x0_15))
noncomputable def spec_RunActs_l0 (k : Nat) : Nat → Bakery → (List Deed) → Int → (List Int) → (List Event) → Int → Int → Int → Int → Int → Int → Int → Int → Int → Int → Int → Int → (List Int) → Option (Bakery × (List Int))
 | 0, b, acts, x0_0, x0_1, x0_2, x0_3, x0_4, x0_5, x0_6, x0_7, x0_8, x0_9, x0_10, x0_11, x0_12, x0_13, x0_14, x0_15 => spec_RunActs_s0 k b acts (fun _ _ _ _ _ _ _ _ _ _ _ _ _ _ _ _ => none) x0_0 x0_1 x0_2 x0_3 x0_4 x0_5 x0_6 x0_7 x0_8 x0_9 x0_10 x0_11 x0_12 x0_13 x0_14 x0_15
 | m + 1, b, acts, x0_0, x0_1, x0_2, x0_3, x0_4, x0_5, x0_6, x0_7, x0_8, x0_9, x0_10, x0_11, x0_12, x0_13, x0_14, x0_15 => spec_RunActs_s0 k b acts (spec_RunActs_l0 k m b acts) x0_0 x0_1 x0_2 x0_3 x0_4 x0_5 x0_6 x0_7 x0_8 x0_9 x0_10 x0_11 x0_12 x0_13 x0_14 x0_15
noncomputable def spec_RunActs_m (k : Nat) (J0 : Bakery → (List Deed) → Int → (List Int) → (List Event) → Int → Int → Int → Int → Int → Int → Int → Int → Int → Int → Int → Int → (List Int) → Option (Bakery × (List Int))) (b : Bakery) (acts : (List Deed)) : Option (Bakery × (List Int)) :=
 (spec_l38Copy k b).bind fun y1 =>
 (spec_BakeryOk k b).bind fun y2 =>
  cond (!y2)
   (some (y1, []))
   (cond (decide ((40 : Int) < ((acts).length : Int)))
    (some (y1, []))
    (J0 b acts 0 y1.Stock.Grams y1.Book.Events y1.Dough.Water y1.Dough.Salt y1.Dough.Leaven y1.Loaf.Weight y1.Loaf.Loss y1.Book.Rack.Fresh y1.Book.Rack.Day y1.Book.Rack.Old y1.Book.Baked y1.Book.Sold y1.Book.Thrown y1.Money ([])))
noncomputable def spec_RunActs (k : Nat) (b : Bakery) (acts : (List Deed)) : Option (Bakery × (List Int)) := spec_RunActs_m k (spec_RunActs_l0 k k) b acts
noncomputable def spec_RunActs_v : Nat → List Nat := fun t => match t with | 6 => [1, 4, 5, 6, 7, 8] | _ => []
noncomputable def spec_RunActs_O (k : Nat) : Oracle := ofL [(43, spec_l38Copy_x k), (44, spec_BakeryOk_x k), (45, spec_DoAct_x k)]
theorem spec_RunActs_Ok (k : Nat) : OkO (Ct Tryz.prog) (spec_RunActs_O k) := okO_cons (spec_l38Copy_ok k) (okO_cons (spec_BakeryOk_ok k) (okO_cons (spec_DoAct_ok k) (okO_nil)))
noncomputable def spec_RunActs_A (b : Bakery) (acts : (List Deed)) : Pk := ⟨[(.ag [(.sl 0), (.v (.int .i64 b.Dough.Water)), (.v (.int .i64 b.Dough.Salt)), (.v (.int .i64 b.Dough.Leaven)), (.v (.int .i64 b.Loaf.Weight)), (.v (.int .i64 b.Loaf.Loss)), (.sl 1), (.v (.int .i64 b.Book.Rack.Fresh)), (.v (.int .i64 b.Book.Rack.Day)), (.v (.int .i64 b.Book.Rack.Old)), (.v (.int .i64 b.Book.Baked)), (.v (.int .i64 b.Book.Sold)), (.v (.int .i64 b.Book.Thrown)), (.v (.int .i64 b.Money))]), (.sc (.sl 2))], [(.row false K.ki64 b.Stock.Grams), (.row false K.k_impl_Event b.Book.Events), (.row false K.k_impl_Act acts)]⟩
noncomputable def spec_RunActs_d : Rs → Option (Bakery × (List Int))
 | ⟨(.tp [(.ag [(.sl 3), (.v (.int .i64 r2)), (.v (.int .i64 r3)), (.v (.int .i64 r4)), (.v (.int .i64 r5)), (.v (.int .i64 r6)), (.sl 4), (.v (.int .i64 r8)), (.v (.int .i64 r9)), (.v (.int .i64 r10)), (.v (.int .i64 r11)), (.v (.int .i64 r12)), (.v (.int .i64 r13)), (.v (.int .i64 r14))]), (.sc (.sl 5))]), [.dead, .dead, .dead, (.row true K.ki64 r1), (.row true K.k_impl_Event r7), (.row true K.ki64 r15)]⟩ => some ((⟨(⟨r1⟩ : Stock), (⟨r2, r3, r4⟩ : Dough), (⟨r5, r6⟩ : Loaf), (⟨r7, (⟨r8, r9, r10⟩ : Rack), r11, r12, r13⟩ : Book), r14⟩ : Bakery), r15)
 | _ => none
theorem spec_RunActs_i {r : Rs} {y : Bakery × (List Int)} (h : spec_RunActs_d r = some y) : r = ⟨(.tp [(.ag [(.sl 3), (.v (.int .i64 y.1.Dough.Water)), (.v (.int .i64 y.1.Dough.Salt)), (.v (.int .i64 y.1.Dough.Leaven)), (.v (.int .i64 y.1.Loaf.Weight)), (.v (.int .i64 y.1.Loaf.Loss)), (.sl 4), (.v (.int .i64 y.1.Book.Rack.Fresh)), (.v (.int .i64 y.1.Book.Rack.Day)), (.v (.int .i64 y.1.Book.Rack.Old)), (.v (.int .i64 y.1.Book.Baked)), (.v (.int .i64 y.1.Book.Sold)), (.v (.int .i64 y.1.Book.Thrown)), (.v (.int .i64 y.1.Money))]), (.sc (.sl 5))]), [.dead, .dead, .dead, (.row true K.ki64 y.1.Stock.Grams), (.row true K.k_impl_Event y.1.Book.Events), (.row true K.ki64 y.2)]⟩ := by
 unfold spec_RunActs_d at h; split at h
 · cases h; rfl
 · cases h
noncomputable def spec_RunActs_h0 (k m : Nat) (b : Bakery) (acts : (List Deed)) (x0_0 : Int) (x0_1 : (List Int)) (x0_2 : (List Event)) (x0_3 : Int) (x0_4 : Int) (x0_5 : Int) (x0_6 : Int) (x0_7 : Int) (x0_8 : Int) (x0_9 : Int) (x0_10 : Int) (x0_11 : Int) (x0_12 : Int) (x0_13 : Int) (x0_14 : Int) (x0_15 : (List Int)) : Option (Bakery × (List Int)) := hdAt env (spec_RunActs_O k) spec_RunActs_v Tryz.f20 3 (fun r => spec_RunActs_d (r.fin 3 [])) [1, 1, 1, 1, 0, 1, 0] k m ⟨tmF [1, 4, 5, 6, 7, 8] [(.a (.sc (.sl 2))), (.a (.sc (.bp 5 0))), (.a (.sc .nl)), (.a (.sc (.bp 8 0))), (.a (.sc (.sl 9))), (.a (.sc (.v (.int .i64 x0_0))))], blF [(.row false K.ki64 b.Stock.Grams), (.row false K.k_impl_Event b.Book.Events), (.row false K.k_impl_Act acts), (.row true K.ki64 []), (.row true K.k_impl_Event []), (.box true [(.sl 3), (.v (.int .i64 0)), (.v (.int .i64 0)), (.v (.int .i64 0)), (.v (.int .i64 0)), (.v (.int .i64 0)), (.sl 4), (.v (.int .i64 0)), (.v (.int .i64 0)), (.v (.int .i64 0)), (.v (.int .i64 0)), (.v (.int .i64 0)), (.v (.int .i64 0)), (.v (.int .i64 0))]), (.row true K.ki64 x0_1), (.row true K.k_impl_Event x0_2), (.box true [(.sl 6), (.v (.int .i64 x0_3)), (.v (.int .i64 x0_4)), (.v (.int .i64 x0_5)), (.v (.int .i64 x0_6)), (.v (.int .i64 x0_7)), (.sl 7), (.v (.int .i64 x0_8)), (.v (.int .i64 x0_9)), (.v (.int .i64 x0_10)), (.v (.int .i64 x0_11)), (.v (.int .i64 x0_12)), (.v (.int .i64 x0_13)), (.v (.int .i64 x0_14))]), (.row true K.ki64 x0_15)]⟩
theorem spec_RunActs_z0 (k : Nat) (b : Bakery) (acts : (List Deed)) (x0_0 : Int) (x0_1 : (List Int)) (x0_2 : (List Event)) (x0_3 : Int) (x0_4 : Int) (x0_5 : Int) (x0_6 : Int) (x0_7 : Int) (x0_8 : Int) (x0_9 : Int) (x0_10 : Int) (x0_11 : Int) (x0_12 : Int) (x0_13 : Int) (x0_14 : Int) (x0_15 : (List Int)) : spec_RunActs_h0 k 0 b acts x0_0 x0_1 x0_2 x0_3 x0_4 x0_5 x0_6 x0_7 x0_8 x0_9 x0_10 x0_11 x0_12 x0_13 x0_14 x0_15 = spec_RunActs_s0 k b acts (fun _ _ _ _ _ _ _ _ _ _ _ _ _ _ _ _ => none) x0_0 x0_1 x0_2 x0_3 x0_4 x0_5 x0_6 x0_7 x0_8 x0_9 x0_10 x0_11 x0_12 x0_13 x0_14 x0_15 := by kernel_rfl
theorem spec_RunActs_g0 (k : Nat) (H : St → Option (Bakery × (List Int))) (b : Bakery) (acts : (List Deed)) (x0_0 : Int) (x0_1 : (List Int)) (x0_2 : (List Event)) (x0_3 : Int) (x0_4 : Int) (x0_5 : Int) (x0_6 : Int) (x0_7 : Int) (x0_8 : Int) (x0_9 : Int) (x0_10 : Int) (x0_11 : Int) (x0_12 : Int) (x0_13 : Int) (x0_14 : Int) (x0_15 : (List Int)) : rnd env (spec_RunActs_O k) spec_RunActs_v Tryz.f20 3 (fun r => spec_RunActs_d (r.fin 3 [])) [1, 1, 1, 1, 0, 1, 0] k H ⟨tmF [1, 4, 5, 6, 7, 8] [(.a (.sc (.sl 2))), (.a (.sc (.bp 5 0))), (.a (.sc .nl)), (.a (.sc (.bp 8 0))), (.a (.sc (.sl 9))), (.a (.sc (.v (.int .i64 x0_0))))], blF [(.row false K.ki64 b.Stock.Grams), (.row false K.k_impl_Event b.Book.Events), (.row false K.k_impl_Act acts), (.row true K.ki64 []), (.row true K.k_impl_Event []), (.box true [(.sl 3), (.v (.int .i64 0)), (.v (.int .i64 0)), (.v (.int .i64 0)), (.v (.int .i64 0)), (.v (.int .i64 0)), (.sl 4), (.v (.int .i64 0)), (.v (.int .i64 0)), (.v (.int .i64 0)), (.v (.int .i64 0)), (.v (.int .i64 0)), (.v (.int .i64 0)), (.v (.int .i64 0))]), (.row true K.ki64 x0_1), (.row true K.k_impl_Event x0_2), (.box true [(.sl 6), (.v (.int .i64 x0_3)), (.v (.int .i64 x0_4)), (.v (.int .i64 x0_5)), (.v (.int .i64 x0_6)), (.v (.int .i64 x0_7)), (.sl 7), (.v (.int .i64 x0_8)), (.v (.int .i64 x0_9)), (.v (.int .i64 x0_10)), (.v (.int .i64 x0_11)), (.v (.int .i64 x0_12)), (.v (.int .i64 x0_13)), (.v (.int .i64 x0_14))]), (.row true K.ki64 x0_15)]⟩ = spec_RunActs_s0 k b acts (fun x0_0 x0_1 x0_2 x0_3 x0_4 x0_5 x0_6 x0_7 x0_8 x0_9 x0_10 x0_11 x0_12 x0_13 x0_14 x0_15 => H ⟨tmF [1, 4, 5, 6, 7, 8] [(.a (.sc (.sl 2))), (.a (.sc (.bp 5 0))), (.a (.sc .nl)), (.a (.sc (.bp 8 0))), (.a (.sc (.sl 9))), (.a (.sc (.v (.int .i64 x0_0))))], blF [(.row false K.ki64 b.Stock.Grams), (.row false K.k_impl_Event b.Book.Events), (.row false K.k_impl_Act acts), (.row true K.ki64 []), (.row true K.k_impl_Event []), (.box true [(.sl 3), (.v (.int .i64 0)), (.v (.int .i64 0)), (.v (.int .i64 0)), (.v (.int .i64 0)), (.v (.int .i64 0)), (.sl 4), (.v (.int .i64 0)), (.v (.int .i64 0)), (.v (.int .i64 0)), (.v (.int .i64 0)), (.v (.int .i64 0)), (.v (.int .i64 0)), (.v (.int .i64 0))]), (.row true K.ki64 x0_1), (.row true K.k_impl_Event x0_2), (.box true [(.sl 6), (.v (.int .i64 x0_3)), (.v (.int .i64 x0_4)), (.v (.int .i64 x0_5)), (.v (.int .i64 x0_6)), (.v (.int .i64 x0_7)), (.sl 7), (.v (.int .i64 x0_8)), (.v (.int .i64 x0_9)), (.v (.int .i64 x0_10)), (.v (.int .i64 x0_11)), (.v (.int .i64 x0_12)), (.v (.int .i64 x0_13)), (.v (.int .i64 x0_14))]), (.row true K.ki64 x0_15)]⟩) x0_0 x0_1 x0_2 x0_3 x0_4 x0_5 x0_6 x0_7 x0_8 x0_9 x0_10 x0_11 x0_12 x0_13 x0_14 x0_15 := by kernel_rfl
theorem spec_RunActs_n0 (k m : Nat) (b : Bakery) (acts : (List Deed)) (x0_0 : Int) (x0_1 : (List Int)) (x0_2 : (List Event)) (x0_3 : Int) (x0_4 : Int) (x0_5 : Int) (x0_6 : Int) (x0_7 : Int) (x0_8 : Int) (x0_9 : Int) (x0_10 : Int) (x0_11 : Int) (x0_12 : Int) (x0_13 : Int) (x0_14 : Int) (x0_15 : (List Int)) : spec_RunActs_h0 k (m + 1) b acts x0_0 x0_1 x0_2 x0_3 x0_4 x0_5 x0_6 x0_7 x0_8 x0_9 x0_10 x0_11 x0_12 x0_13 x0_14 x0_15 = spec_RunActs_s0 k b acts (spec_RunActs_h0 k m b acts) x0_0 x0_1 x0_2 x0_3 x0_4 x0_5 x0_6 x0_7 x0_8 x0_9 x0_10 x0_11 x0_12 x0_13 x0_14 x0_15 := (hdAt_succ _ _ _ _ _ _ _ _ _ _).trans (spec_RunActs_g0 k _ b acts x0_0 x0_1 x0_2 x0_3 x0_4 x0_5 x0_6 x0_7 x0_8 x0_9 x0_10 x0_11 x0_12 x0_13 x0_14 x0_15)
theorem spec_RunActs_q0 (k : Nat) : ∀ m, spec_RunActs_h0 k m = spec_RunActs_l0 k m := by
 intro m
 induction m with
 | zero => funext b acts x0_0 x0_1 x0_2 x0_3 x0_4 x0_5 x0_6 x0_7 x0_8 x0_9 x0_10 x0_11 x0_12 x0_13 x0_14 x0_15; rw [spec_RunActs_z0]; rfl
 | succ m ih => funext b acts x0_0 x0_1 x0_2 x0_3 x0_4 x0_5 x0_6 x0_7 x0_8 x0_9 x0_10 x0_11 x0_12 x0_13 x0_14 x0_15; rw [spec_RunActs_n0, ih]; rfl
theorem spec_RunActs_e (k : Nat) (b : Bakery) (acts : (List Deed)) : callF env (spec_RunActs_O k) spec_RunActs_v Tryz.f20 (k + 1) (spec_RunActs_A b acts) (fun r => spec_RunActs_d (r.fin 3 [])) = spec_RunActs k b acts := by
 have e : ∀ H : St → Option (Bakery × (List Int)), callE env (spec_RunActs_O k) spec_RunActs_v Tryz.f20 (k + 1) (spec_RunActs_A b acts) [1, 1, 1, 1, 0, 1, 0] (fun r => spec_RunActs_d (r.fin 3 [])) H = spec_RunActs_m k (fun b acts x0_0 x0_1 x0_2 x0_3 x0_4 x0_5 x0_6 x0_7 x0_8 x0_9 x0_10 x0_11 x0_12 x0_13 x0_14 x0_15 => H ⟨tmF [1, 4, 5, 6, 7, 8] [(.a (.sc (.sl 2))), (.a (.sc (.bp 5 0))), (.a (.sc .nl)), (.a (.sc (.bp 8 0))), (.a (.sc (.sl 9))), (.a (.sc (.v (.int .i64 x0_0))))], blF [(.row false K.ki64 b.Stock.Grams), (.row false K.k_impl_Event b.Book.Events), (.row false K.k_impl_Act acts), (.row true K.ki64 []), (.row true K.k_impl_Event []), (.box true [(.sl 3), (.v (.int .i64 0)), (.v (.int .i64 0)), (.v (.int .i64 0)), (.v (.int .i64 0)), (.v (.int .i64 0)), (.sl 4), (.v (.int .i64 0)), (.v (.int .i64 0)), (.v (.int .i64 0)), (.v (.int .i64 0)), (.v (.int .i64 0)), (.v (.int .i64 0)), (.v (.int .i64 0))]), (.row true K.ki64 x0_1), (.row true K.k_impl_Event x0_2), (.box true [(.sl 6), (.v (.int .i64 x0_3)), (.v (.int .i64 x0_4)), (.v (.int .i64 x0_5)), (.v (.int .i64 x0_6)), (.v (.int .i64 x0_7)), (.sl 7), (.v (.int .i64 x0_8)), (.v (.int .i64 x0_9)), (.v (.int .i64 x0_10)), (.v (.int .i64 x0_11)), (.v (.int .i64 x0_12)), (.v (.int .i64 x0_13)), (.v (.int .i64 x0_14))]), (.row true K.ki64 x0_15)]⟩) b acts := fun H => by kernel_rfl
 exact (callE_eq env (spec_RunActs_O k) spec_RunActs_v Tryz.f20 k (spec_RunActs_A b acts) [1, 1, 1, 1, 0, 1, 0] 3 (fun r => spec_RunActs_d (r.fin 3 [])) rfl (by kernel_rfl)).trans ((e (hdAt env (spec_RunActs_O k) spec_RunActs_v Tryz.f20 3 (fun r => spec_RunActs_d (r.fin 3 [])) [1, 1, 1, 1, 0, 1, 0] k k)).trans (by
  show spec_RunActs_m k (spec_RunActs_h0 k k) b acts = _
  rw [spec_RunActs_q0]; rfl))
noncomputable def spec_RunActs_x (k : Nat) : Ent1 := fun A R Q => match A with
 | ⟨[(.ag [(.sl 0), (.v (.int .i64 a2)), (.v (.int .i64 a3)), (.v (.int .i64 a4)), (.v (.int .i64 a5)), (.v (.int .i64 a6)), (.sl 1), (.v (.int .i64 a8)), (.v (.int .i64 a9)), (.v (.int .i64 a10)), (.v (.int .i64 a11)), (.v (.int .i64 a12)), (.v (.int .i64 a13)), (.v (.int .i64 a14))]), (.sc (.sl 2))], [(.row false K.ki64 a1), (.row false K.k_impl_Event a7), (.row false K.k_impl_Act a15)]⟩ => (spec_RunActs k (⟨(⟨a1⟩ : Stock), (⟨a2, a3, a4⟩ : Dough), (⟨a5, a6⟩ : Loaf), (⟨a7, (⟨a8, a9, a10⟩ : Rack), a11, a12, a13⟩ : Book), a14⟩ : Bakery) a15).bind fun y => Q ⟨(.tp [(.ag [(.sl 3), (.v (.int .i64 y.1.Dough.Water)), (.v (.int .i64 y.1.Dough.Salt)), (.v (.int .i64 y.1.Dough.Leaven)), (.v (.int .i64 y.1.Loaf.Weight)), (.v (.int .i64 y.1.Loaf.Loss)), (.sl 4), (.v (.int .i64 y.1.Book.Rack.Fresh)), (.v (.int .i64 y.1.Book.Rack.Day)), (.v (.int .i64 y.1.Book.Rack.Old)), (.v (.int .i64 y.1.Book.Baked)), (.v (.int .i64 y.1.Book.Sold)), (.v (.int .i64 y.1.Book.Thrown)), (.v (.int .i64 y.1.Money))]), (.sc (.sl 5))]), [.dead, .dead, .dead, (.row true K.ki64 y.1.Stock.Grams), (.row true K.k_impl_Event y.1.Book.Events), (.row true K.ki64 y.2)]⟩
 | _ => none
theorem spec_RunActs_ok (k : Nat) : OkE Tryz.prog 20 (spec_RunActs_x k) := by
 intro A R Q x h
 unfold spec_RunActs_x at h
 split at h
 · obtain ⟨y, hy, hK⟩ := Option.bind_eq_some_iff.1 h
   obtain ⟨r, hr, hd⟩ := callF_ok envOk (spec_RunActs_Ok k) follows Tryz.func20 (by kernel_rfl) ((spec_RunActs_e k _ _).trans hy)
   exact ⟨_, spec_RunActs_i hd ▸ hr.fin [], hK⟩
 · cases h
/-! ### spec.l39Line: function 48 -/
noncomputable def spec_l39Line_s0 (k : Nat)  (list : (List Int)) (J : ByteArray → Int → Option (ByteArray)) (x0_0 : ByteArray) (x0_1 : Int) : Option (ByteArray) :=
 cond (decide ((x0_1 : Int) < ((list).length : Int)))
 (if (x0_0).size + ((ByteArray.mk #[32])).size ≤ 9223372036854775807 then
  if 0 ≤ (x0_1 : Int) ∧ (x0_1 : Int) < ((list).length : Int) then
   (spec_FormatInt k (list.getD (Int.toNat x0_1) 0)).bind fun y2 =>
    if ((x0_0 ++ (ByteArray.mk #[32]))).size + (y2).size ≤ 9223372036854775807 then
     J ((x0_0 ++ (ByteArray.mk #[32])) ++ y2) (wr (x0_1 + 1)) else none else none else none)
 (some x0_0)
noncomputable def spec_l39Line_l0 (k : Nat) : Nat → (List Int) → ByteArray → Int → Option (ByteArray)
 | 0, list, x0_0, x0_1 => spec_l39Line_s0 k list (fun _ _ => none) x0_0 x0_1
 | m + 1, list, x0_0, x0_1 => spec_l39Line_s0 k list (spec_l39Line_l0 k m list) x0_0 x0_1
noncomputable def spec_l39Line_m (k : Nat) (J0 : (List Int) → ByteArray → Int → Option (ByteArray)) (word : ByteArray) (list : (List Int)) : Option (ByteArray) :=
 J0 list word 0
noncomputable def spec_l39Line (k : Nat) (word : ByteArray) (list : (List Int)) : Option (ByteArray) := spec_l39Line_m k (spec_l39Line_l0 k k) word list
noncomputable def spec_l39Line_v : Nat → List Nat := fun t => match t with | 2 => [0, 1, 4, 5] | _ => []
noncomputable def spec_l39Line_O (k : Nat) : Oracle := ofL [(22, spec_FormatInt_x k)]
theorem spec_l39Line_Ok (k : Nat) : OkO (Ct Tryz.prog) (spec_l39Line_O k) := okO_cons (spec_FormatInt_ok k) (okO_nil)
noncomputable def spec_l39Line_A (word : ByteArray) (list : (List Int)) : Pk := ⟨[(.sc (.v (.string word))), (.sc (.sl 0))], [(.row false K.ki64 list)]⟩
noncomputable def spec_l39Line_d : Rs → Option (ByteArray)
 | ⟨(.a (.sc (.v (.string r1)))), [.dead]⟩ => some r1
 | _ => none
theorem spec_l39Line_i {r : Rs} {y : ByteArray} (h : spec_l39Line_d r = some y) : r = ⟨(.a (.sc (.v (.string y)))), [.dead]⟩ := by
 unfold spec_l39Line_d at h; split at h
 · cases h; rfl
 · cases h
noncomputable def spec_l39Line_h0 (k m : Nat) (list : (List Int)) (x0_0 : ByteArray) (x0_1 : Int) : Option (ByteArray) := hdAt env (spec_l39Line_O k) spec_l39Line_v Tryz.f48 1 (fun r => spec_l39Line_d (r.fin 1 [])) [1, 0, 1, 0] k m ⟨tmF [0, 1, 4, 5] [(.a (.sc (.v (.string x0_0)))), (.a (.sc (.sl 0))), (.a (.sc (.v (.string (ByteArray.mk #[]))))), (.a (.sc (.v (.int .i64 x0_1))))], blF [(.row false K.ki64 list)]⟩
theorem spec_l39Line_z0 (k : Nat) (list : (List Int)) (x0_0 : ByteArray) (x0_1 : Int) : spec_l39Line_h0 k 0 list x0_0 x0_1 = spec_l39Line_s0 k list (fun _ _ => none) x0_0 x0_1 := by kernel_rfl
theorem spec_l39Line_g0 (k : Nat) (H : St → Option (ByteArray)) (list : (List Int)) (x0_0 : ByteArray) (x0_1 : Int) : rnd env (spec_l39Line_O k) spec_l39Line_v Tryz.f48 1 (fun r => spec_l39Line_d (r.fin 1 [])) [1, 0, 1, 0] k H ⟨tmF [0, 1, 4, 5] [(.a (.sc (.v (.string x0_0)))), (.a (.sc (.sl 0))), (.a (.sc (.v (.string (ByteArray.mk #[]))))), (.a (.sc (.v (.int .i64 x0_1))))], blF [(.row false K.ki64 list)]⟩ = spec_l39Line_s0 k list (fun x0_0 x0_1 => H ⟨tmF [0, 1, 4, 5] [(.a (.sc (.v (.string x0_0)))), (.a (.sc (.sl 0))), (.a (.sc (.v (.string (ByteArray.mk #[]))))), (.a (.sc (.v (.int .i64 x0_1))))], blF [(.row false K.ki64 list)]⟩) x0_0 x0_1 := by kernel_rfl
theorem spec_l39Line_n0 (k m : Nat) (list : (List Int)) (x0_0 : ByteArray) (x0_1 : Int) : spec_l39Line_h0 k (m + 1) list x0_0 x0_1 = spec_l39Line_s0 k list (spec_l39Line_h0 k m list) x0_0 x0_1 := (hdAt_succ _ _ _ _ _ _ _ _ _ _).trans (spec_l39Line_g0 k _ list x0_0 x0_1)
theorem spec_l39Line_q0 (k : Nat) : ∀ m, spec_l39Line_h0 k m = spec_l39Line_l0 k m := by
 intro m
 induction m with
 | zero => funext list x0_0 x0_1; rw [spec_l39Line_z0]; rfl
 | succ m ih => funext list x0_0 x0_1; rw [spec_l39Line_n0, ih]; rfl
theorem spec_l39Line_e (k : Nat) (word : ByteArray) (list : (List Int)) : callF env (spec_l39Line_O k) spec_l39Line_v Tryz.f48 (k + 1) (spec_l39Line_A word list) (fun r => spec_l39Line_d (r.fin 1 [])) = spec_l39Line k word list := by
 have e : ∀ H : St → Option (ByteArray), callE env (spec_l39Line_O k) spec_l39Line_v Tryz.f48 (k + 1) (spec_l39Line_A word list) [1, 0, 1, 0] (fun r => spec_l39Line_d (r.fin 1 [])) H = spec_l39Line_m k (fun list x0_0 x0_1 => H ⟨tmF [0, 1, 4, 5] [(.a (.sc (.v (.string x0_0)))), (.a (.sc (.sl 0))), (.a (.sc (.v (.string (ByteArray.mk #[]))))), (.a (.sc (.v (.int .i64 x0_1))))], blF [(.row false K.ki64 list)]⟩) word list := fun H => by kernel_rfl
 exact (callE_eq env (spec_l39Line_O k) spec_l39Line_v Tryz.f48 k (spec_l39Line_A word list) [1, 0, 1, 0] 1 (fun r => spec_l39Line_d (r.fin 1 [])) rfl (by kernel_rfl)).trans ((e (hdAt env (spec_l39Line_O k) spec_l39Line_v Tryz.f48 1 (fun r => spec_l39Line_d (r.fin 1 [])) [1, 0, 1, 0] k k)).trans (by
  show spec_l39Line_m k (spec_l39Line_h0 k k) word list = _
  rw [spec_l39Line_q0]; rfl))
noncomputable def spec_l39Line_x (k : Nat) : Ent1 := fun A R Q => match A with
 | ⟨[(.sc (.v (.string a1))), (.sc (.sl 0))], [(.row false K.ki64 a2)]⟩ => (spec_l39Line k a1 a2).bind fun y => Q ⟨(.a (.sc (.v (.string y)))), [.dead]⟩
 | _ => none
theorem spec_l39Line_ok (k : Nat) : OkE Tryz.prog 48 (spec_l39Line_x k) := by
 intro A R Q x h
 unfold spec_l39Line_x at h
 split at h
 · obtain ⟨y, hy, hK⟩ := Option.bind_eq_some_iff.1 h
   obtain ⟨r, hr, hd⟩ := callF_ok envOk (spec_l39Line_Ok k) follows Tryz.func48 (by kernel_rfl) ((spec_l39Line_e k _ _).trans hy)
   exact ⟨_, spec_l39Line_i hd ▸ hr.fin [], hK⟩
 · cases h
end Go.Proofs.YtlenacakmmikiaaGreatDoorX
