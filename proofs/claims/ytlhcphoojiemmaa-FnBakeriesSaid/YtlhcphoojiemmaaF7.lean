/- What functions of the program compute, as functions of numbers and lists, and that they do. (The file is written by wip/x/vxp.py of this repository.) -/
import Derived.Test.YtlhcphoojiemmaaF6
import Derived.Test.YtlhcphoojiemmaaX15
namespace Go.Proofs.YtlhcphoojiemmaaX
open Go Go.Proofs
set_option linter.unusedVariables false
set_option maxRecDepth 100000
/-! ### laws.FnBakeries: function 4 -/
noncomputable def laws_FnBakeries_j0 (k : Nat) (C1 : (List Int) → Bakery → Option (Bool)) (code : (List Int)) (y2 : Bakery) (y8 : Int) (y10 : Bakery × Bool) : Option (Bool) :=
 cond y10.2
 (cond (!(decide ((y10.1.Money : Int) = (wr (y2.Money + (wr ((2 : Int) * (Int.tmod y8 20))))))))
  (some false)
  (C1 code y2))
 (C1 code y2)
noncomputable def laws_FnBakeries_j1 (k : Nat) (C1 : (List Int) → Bakery → Option (Bool)) (code : (List Int)) (y2 : Bakery) (y8 : Int) (y10 : Bakery × Bool) : Option (Bool) :=
 cond (decide (((Int.tmod y8 20) : Int) ≤ (wr (y2.Book.Rack.Old + y2.Book.Rack.Day))))
 (cond (decide ((((y2.Book.Events).length : Int) : Int) < 40))
  (cond (!(y10.2 == (decide (((wr (y2.Money + (wr ((2 : Int) * (Int.tmod y8 20))))) : Int) ≤ 1000000))))
   (some false)
   (laws_FnBakeries_j0 k C1 code y2 y8 y10))
  (cond (!(y10.2 == false))
   (some false)
   (laws_FnBakeries_j0 k C1 code y2 y8 y10)))
 (cond (!(y10.2 == false))
  (some false)
  (laws_FnBakeries_j0 k C1 code y2 y8 y10))
noncomputable def laws_FnBakeries_j2 (k : Nat) (C1 : (List Int) → Bakery → Option (Bool)) (code : (List Int)) (y2 : Bakery) (y8 : Int) (y9 : Bakery × Bool) (y10 : Bakery × Bool) : Option (Bool) :=
 cond y9.2
 (cond (!(decide ((y9.1.Money : Int) = (wr (y2.Money + (wr ((4 : Int) * (Int.tmod y8 20))))))))
  (some false)
  (laws_FnBakeries_j1 k C1 code y2 y8 y10))
 (laws_FnBakeries_j1 k C1 code y2 y8 y10)
noncomputable def laws_FnBakeries_j3 (k : Nat)  (y2 : Bakery) : Option (Bool) :=
 (impl_FlourNeeded k y2 0).bind fun y15 =>
 some (decide ((y15 : Int) = 0))
noncomputable def laws_FnBakeries_c0_s (k : Nat)  (code : (List Int)) (y2 : Bakery) : Option (Bool) :=
 (laws_at k code 2).bind fun y12 =>
 if (4 : Int) ≠ 0 then
  (laws_at k code 3).bind fun y13 =>
   (impl_BuyStock k y2 (Int.tmod y12 4) (wr (y13 * 10))).bind fun y14 =>
    if (100 : Int) ≠ 0 then
     cond (y14.2 == (decide (((wr (Int.tdiv (wr ((wr (y13 * 10)) + 99)) 100)) : Int) ≤ y2.Money)))
      (cond (!y14.2)
       (laws_FnBakeries_j3 k y2)
       (cond (decide ((((y14.1.Stock.Grams).length : Int) : Int) = 4))
        (if 0 ≤ ((Int.tmod y12 4) : Int) ∧ ((Int.tmod y12 4) : Int) < ((y14.1.Stock.Grams).length : Int) then
        if 0 ≤ ((Int.tmod y12 4) : Int) ∧ ((Int.tmod y12 4) : Int) < ((y2.Stock.Grams).length : Int) then
        cond (decide (((y14.1.Stock.Grams.getD (Int.toNat (Int.tmod y12 4)) 0) : Int) = (wr ((y2.Stock.Grams.getD (Int.toNat (Int.tmod y12 4)) 0) + (wr (y13 * 10))))))
        (if (100 : Int) ≠ 0 then
        cond (decide ((y14.1.Money : Int) = (wr (y2.Money - (wr (Int.tdiv (wr ((wr (y13 * 10)) + 99)) 100))))))
        (laws_FnBakeries_j3 k y2)
        (some false) else none)
        (some false) else none else none)
        (some false)))
      (some false) else none else none
noncomputable def laws_FnBakeries_c0 (k : Nat) (code : (List Int)) (y2 : Bakery) : Option (Bool) := laws_FnBakeries_c0_s k code y2
noncomputable def laws_FnBakeries_c1_s (k : Nat) (C0 : (List Int) → Bakery → Option (Bool)) (code : (List Int)) (y2 : Bakery) : Option (Bool) :=
 (impl_NightOver k y2).bind fun y11 =>
 cond (!(y11.2 == (decide ((((y2.Book.Events).length : Int) : Int) < 40))))
  (some false)
  (cond y11.2
   (cond (!(decide ((y11.1.Book.Thrown : Int) = (wr (y2.Book.Thrown + y2.Book.Rack.Old)))))
    (some false)
    (cond (!(decide ((y11.1.Money : Int) = y2.Money)))
     (some false)
     (C0 code y2)))
   (C0 code y2))
noncomputable def laws_FnBakeries_c1 (k : Nat) (code : (List Int)) (y2 : Bakery) : Option (Bool) := laws_FnBakeries_c1_s k (laws_FnBakeries_c0 k) code y2
noncomputable def laws_FnBakeries_c2_s (k : Nat) (C1 : (List Int) → Bakery → Option (Bool)) (code : (List Int)) (y2 : Bakery) : Option (Bool) :=
 (laws_at k code 1).bind fun y8 =>
 if (20 : Int) ≠ 0 then
  (impl_SellLoaves k y2 (Int.tmod y8 20) false).bind fun y9 =>
   (impl_SellLoaves k y2 (Int.tmod y8 20) true).bind fun y10 =>
    cond (decide (((Int.tmod y8 20) : Int) ≤ (wr (y2.Book.Rack.Fresh + y2.Book.Rack.Day))))
     (cond (decide ((((y2.Book.Events).length : Int) : Int) < 40))
      (cond (!(y9.2 == (decide (((wr (y2.Money + (wr ((4 : Int) * (Int.tmod y8 20))))) : Int) ≤ 1000000))))
       (some false)
       (laws_FnBakeries_j2 k C1 code y2 y8 y9 y10))
      (cond (!(y9.2 == false))
       (some false)
       (laws_FnBakeries_j2 k C1 code y2 y8 y9 y10)))
     (cond (!(y9.2 == false))
      (some false)
      (laws_FnBakeries_j2 k C1 code y2 y8 y9 y10)) else none
noncomputable def laws_FnBakeries_c2 (k : Nat) (code : (List Int)) (y2 : Bakery) : Option (Bool) := laws_FnBakeries_c2_s k (laws_FnBakeries_c1 k) code y2
noncomputable def laws_FnBakeries_c3_s (k : Nat) (C2 : (List Int) → Bakery → Option (Bool)) (code : (List Int)) (y2 : Bakery) (y3 : Int) (y4 : Int) (y5 : Bakery × Bool) : Option (Bool) :=
 cond y5.2
 (cond (!(decide ((y5.1.Money : Int) = y2.Money)))
  (some false)
  (cond (!(decide ((y5.1.Book.Rack.Fresh : Int) = (wr (y2.Book.Rack.Fresh + (Int.tmod y3 10))))))
   (some false)
   (cond (!(decide ((((y5.1.Stock.Grams).length : Int) : Int) = 4)))
    (some false)
    (if 0 ≤ (0 : Int) ∧ (0 : Int) < ((y5.1.Stock.Grams).length : Int) then
     if 0 ≤ (0 : Int) ∧ (0 : Int) < ((y2.Stock.Grams).length : Int) then
      cond (!(decide (((y5.1.Stock.Grams.getD 0 0) : Int) = (wr ((y2.Stock.Grams.getD 0 0) - y4)))))
       (some false)
       (C2 code y2) else none else none))))
 (C2 code y2)
noncomputable def laws_FnBakeries_c3 (k : Nat) (code : (List Int)) (y2 : Bakery) (y3 : Int) (y4 : Int) (y5 : Bakery × Bool) : Option (Bool) := laws_FnBakeries_c3_s k (laws_FnBakeries_c2 k) code y2 y3 y4 y5
noncomputable def laws_FnBakeries_m (k : Nat) (C3 : (List Int) → Bakery → Int → Int → Bakery × Bool → Option (Bool)) (code : (List Int)) : Option (Bool) :=
 (laws_big k code).bind fun y1 =>
 cond y1
  (some true)
  ((spec_DrawBakery k code).bind fun y2 =>
   (laws_at k code 0).bind fun y3 =>
    if (10 : Int) ≠ 0 then
     (impl_FlourNeeded k y2 (Int.tmod y3 10)).bind fun y4 =>
      (impl_BakeLoaves k y2 (Int.tmod y3 10)).bind fun y5 =>
       (spec_TakeFor k y2.Stock y2.Dough y4).bind fun y6 =>
        cond (decide ((y4 : Int) < 0))
        (some false)
        ((impl_BakeryOk k y2).bind fun y7 =>
        cond (!y7)
        (some false)
        (cond y6.2
        (cond (!(y5.2 == (decide ((((y2.Book.Events).length : Int) : Int) < 40))))
        (some false)
        (C3 code y2 y3 y4 y5))
        (cond (!(y5.2 == false))
        (some false)
        (C3 code y2 y3 y4 y5)))) else none)
noncomputable def laws_FnBakeries (k : Nat) (code : (List Int)) : Option (Bool) := laws_FnBakeries_m k (laws_FnBakeries_c3 k) code
noncomputable def laws_FnBakeries_v : Nat → List Nat := fun t => match t with | _ => []
noncomputable def laws_FnBakeries_O (k : Nat) : Oracle := ofL [(13, impl_BakeryOk_x k), (16, spec_DrawBakery_x k), (17, laws_at_x k), (18, impl_FlourNeeded_x k), (19, impl_BakeLoaves_x k), (20, spec_TakeFor_x k), (21, impl_SellLoaves_x k), (22, impl_NightOver_x k), (23, impl_BuyStock_x k), (8, laws_big_x k)]
theorem laws_FnBakeries_Ok (k : Nat) : OkO (Ct Try.prog) (laws_FnBakeries_O k) := okO_cons (impl_BakeryOk_ok k) (okO_cons (spec_DrawBakery_ok k) (okO_cons (laws_at_ok k) (okO_cons (impl_FlourNeeded_ok k) (okO_cons (impl_BakeLoaves_ok k) (okO_cons (spec_TakeFor_ok k) (okO_cons (impl_SellLoaves_ok k) (okO_cons (impl_NightOver_ok k) (okO_cons (impl_BuyStock_ok k) (okO_cons (laws_big_ok k) (okO_nil))))))))))
noncomputable def laws_FnBakeries_A (code : (List Int)) : Pk := ⟨[(.sc (.sl 0))], [(.row false K.ku8 code)]⟩
noncomputable def laws_FnBakeries_d : Rs → Option (Bool)
 | ⟨(.a (.sc (.v (.bool r1)))), [.dead]⟩ => some r1
 | _ => none
theorem laws_FnBakeries_i {r : Rs} {y : Bool} (h : laws_FnBakeries_d r = some y) : r = ⟨(.a (.sc (.v (.bool y)))), [.dead]⟩ := by
 unfold laws_FnBakeries_d at h; split at h
 · cases h; rfl
 · cases h
noncomputable def laws_FnBakeries_cut : Nat → Option (List Nat) := fun t => match t with | 11 => some [0, 2, 3, 4, 5, 6, 7, 10] | 13 => some [0, 2, 3, 10] | 19 => some [0, 2, 3, 10, 16] | 22 => some [0, 2, 3] | _ => none
theorem laws_FnBakeries_c0_e (k m : Nat) (code : (List Int)) (y2 : Bakery) : hcAt env (laws_FnBakeries_O k) laws_FnBakeries_cut Try.f4 1 (fun r => laws_FnBakeries_d (r.fin 1 [])) (m + 1) [1, 1, 1, 1, 1, 1, 1, 1, 1, 1, 1, 1, 1, 1, 1, 1, 1] ⟨tmF [0, 2, 3] [(.a (.sc (.sl 0))), (.a (.sc (.v (.bool false)))), (.a (.sc (.bp 3 0)))], blF [(.row false K.ku8 code), (.row true K.ki64 y2.Stock.Grams), (.row true K.k_impl_Event y2.Book.Events), (.box true [(.sl 1), (.v (.int .i64 y2.Dough.Water)), (.v (.int .i64 y2.Dough.Salt)), (.v (.int .i64 y2.Dough.Leaven)), (.v (.int .i64 y2.Loaf.Weight)), (.v (.int .i64 y2.Loaf.Loss)), (.sl 2), (.v (.int .i64 y2.Book.Rack.Fresh)), (.v (.int .i64 y2.Book.Rack.Day)), (.v (.int .i64 y2.Book.Rack.Old)), (.v (.int .i64 y2.Book.Baked)), (.v (.int .i64 y2.Book.Sold)), (.v (.int .i64 y2.Book.Thrown)), (.v (.int .i64 y2.Money))])]⟩ = laws_FnBakeries_c0 k code y2 := by
 have e : hcAt env (laws_FnBakeries_O k) laws_FnBakeries_cut Try.f4 1 (fun r => laws_FnBakeries_d (r.fin 1 [])) (m + 1) [1, 1, 1, 1, 1, 1, 1, 1, 1, 1, 1, 1, 1, 1, 1, 1, 1] ⟨tmF [0, 2, 3] [(.a (.sc (.sl 0))), (.a (.sc (.v (.bool false)))), (.a (.sc (.bp 3 0)))], blF [(.row false K.ku8 code), (.row true K.ki64 y2.Stock.Grams), (.row true K.k_impl_Event y2.Book.Events), (.box true [(.sl 1), (.v (.int .i64 y2.Dough.Water)), (.v (.int .i64 y2.Dough.Salt)), (.v (.int .i64 y2.Dough.Leaven)), (.v (.int .i64 y2.Loaf.Weight)), (.v (.int .i64 y2.Loaf.Loss)), (.sl 2), (.v (.int .i64 y2.Book.Rack.Fresh)), (.v (.int .i64 y2.Book.Rack.Day)), (.v (.int .i64 y2.Book.Rack.Old)), (.v (.int .i64 y2.Book.Baked)), (.v (.int .i64 y2.Book.Sold)), (.v (.int .i64 y2.Book.Thrown)), (.v (.int .i64 y2.Money))])]⟩ = laws_FnBakeries_c0_s k code y2 := by kernel_rfl
 rw [e]; rfl
theorem laws_FnBakeries_c1_e (k m : Nat) (code : (List Int)) (y2 : Bakery) : hcAt env (laws_FnBakeries_O k) laws_FnBakeries_cut Try.f4 1 (fun r => laws_FnBakeries_d (r.fin 1 [])) (m + 2) [1, 1, 1, 1, 1, 1, 1, 1, 1, 1, 1, 1, 1, 1, 1] ⟨tmF [0, 2, 3, 10, 16] [(.a (.sc (.sl 0))), (.a (.sc (.v (.bool false)))), (.a (.sc (.bp 3 0))), (.a (.sc (.v (.bool (decide ((((y2.Book.Events).length : Int) : Int) < 40)))))), (.a (.sc (.bp 4 0)))], blF [(.row false K.ku8 code), (.row true K.ki64 y2.Stock.Grams), (.row true K.k_impl_Event y2.Book.Events), (.box true [(.sl 1), (.v (.int .i64 y2.Dough.Water)), (.v (.int .i64 y2.Dough.Salt)), (.v (.int .i64 y2.Dough.Leaven)), (.v (.int .i64 y2.Loaf.Weight)), (.v (.int .i64 y2.Loaf.Loss)), (.sl 2), (.v (.int .i64 y2.Book.Rack.Fresh)), (.v (.int .i64 y2.Book.Rack.Day)), (.v (.int .i64 y2.Book.Rack.Old)), (.v (.int .i64 y2.Book.Baked)), (.v (.int .i64 y2.Book.Sold)), (.v (.int .i64 y2.Book.Thrown)), (.v (.int .i64 y2.Money))]), (.box true [(.v (.int .i64 y2.Book.Rack.Fresh)), (.v (.int .i64 y2.Book.Rack.Day)), (.v (.int .i64 y2.Book.Rack.Old))])]⟩ = laws_FnBakeries_c1 k code y2 := by
 have e : hcAt env (laws_FnBakeries_O k) laws_FnBakeries_cut Try.f4 1 (fun r => laws_FnBakeries_d (r.fin 1 [])) (m + 2) [1, 1, 1, 1, 1, 1, 1, 1, 1, 1, 1, 1, 1, 1, 1] ⟨tmF [0, 2, 3, 10, 16] [(.a (.sc (.sl 0))), (.a (.sc (.v (.bool false)))), (.a (.sc (.bp 3 0))), (.a (.sc (.v (.bool (decide ((((y2.Book.Events).length : Int) : Int) < 40)))))), (.a (.sc (.bp 4 0)))], blF [(.row false K.ku8 code), (.row true K.ki64 y2.Stock.Grams), (.row true K.k_impl_Event y2.Book.Events), (.box true [(.sl 1), (.v (.int .i64 y2.Dough.Water)), (.v (.int .i64 y2.Dough.Salt)), (.v (.int .i64 y2.Dough.Leaven)), (.v (.int .i64 y2.Loaf.Weight)), (.v (.int .i64 y2.Loaf.Loss)), (.sl 2), (.v (.int .i64 y2.Book.Rack.Fresh)), (.v (.int .i64 y2.Book.Rack.Day)), (.v (.int .i64 y2.Book.Rack.Old)), (.v (.int .i64 y2.Book.Baked)), (.v (.int .i64 y2.Book.Sold)), (.v (.int .i64 y2.Book.Thrown)), (.v (.int .i64 y2.Money))]), (.box true [(.v (.int .i64 y2.Book.Rack.Fresh)), (.v (.int .i64 y2.Book.Rack.Day)), (.v (.int .i64 y2.Book.Rack.Old))])]⟩ = laws_FnBakeries_c1_s k (fun code y2 => hcAt env (laws_FnBakeries_O k) laws_FnBakeries_cut Try.f4 1 (fun r => laws_FnBakeries_d (r.fin 1 [])) (m + 1) [1, 1, 1, 1, 1, 1, 1, 1, 1, 1, 1, 1, 1, 1, 1, 1, 1] ⟨tmF [0, 2, 3] [(.a (.sc (.sl 0))), (.a (.sc (.v (.bool false)))), (.a (.sc (.bp 3 0)))], blF [(.row false K.ku8 code), (.row true K.ki64 y2.Stock.Grams), (.row true K.k_impl_Event y2.Book.Events), (.box true [(.sl 1), (.v (.int .i64 y2.Dough.Water)), (.v (.int .i64 y2.Dough.Salt)), (.v (.int .i64 y2.Dough.Leaven)), (.v (.int .i64 y2.Loaf.Weight)), (.v (.int .i64 y2.Loaf.Loss)), (.sl 2), (.v (.int .i64 y2.Book.Rack.Fresh)), (.v (.int .i64 y2.Book.Rack.Day)), (.v (.int .i64 y2.Book.Rack.Old)), (.v (.int .i64 y2.Book.Baked)), (.v (.int .i64 y2.Book.Sold)), (.v (.int .i64 y2.Book.Thrown)), (.v (.int .i64 y2.Money))])]⟩) code y2 := by kernel_rfl
 have q0 : (fun code y2 => hcAt env (laws_FnBakeries_O k) laws_FnBakeries_cut Try.f4 1 (fun r => laws_FnBakeries_d (r.fin 1 [])) (m + 1) [1, 1, 1, 1, 1, 1, 1, 1, 1, 1, 1, 1, 1, 1, 1, 1, 1] ⟨tmF [0, 2, 3] [(.a (.sc (.sl 0))), (.a (.sc (.v (.bool false)))), (.a (.sc (.bp 3 0)))], blF [(.row false K.ku8 code), (.row true K.ki64 y2.Stock.Grams), (.row true K.k_impl_Event y2.Book.Events), (.box true [(.sl 1), (.v (.int .i64 y2.Dough.Water)), (.v (.int .i64 y2.Dough.Salt)), (.v (.int .i64 y2.Dough.Leaven)), (.v (.int .i64 y2.Loaf.Weight)), (.v (.int .i64 y2.Loaf.Loss)), (.sl 2), (.v (.int .i64 y2.Book.Rack.Fresh)), (.v (.int .i64 y2.Book.Rack.Day)), (.v (.int .i64 y2.Book.Rack.Old)), (.v (.int .i64 y2.Book.Baked)), (.v (.int .i64 y2.Book.Sold)), (.v (.int .i64 y2.Book.Thrown)), (.v (.int .i64 y2.Money))])]⟩) = laws_FnBakeries_c0 k := by
  funext code y2; exact laws_FnBakeries_c0_e k (m + 0) code y2
 rw [e, q0]; rfl
theorem laws_FnBakeries_c2_e (k m : Nat) (code : (List Int)) (y2 : Bakery) : hcAt env (laws_FnBakeries_O k) laws_FnBakeries_cut Try.f4 1 (fun r => laws_FnBakeries_d (r.fin 1 [])) (m + 3) [1, 1, 1, 1, 1, 1, 1, 1, 1, 1] ⟨tmF [0, 2, 3, 10] [(.a (.sc (.sl 0))), (.a (.sc (.v (.bool false)))), (.a (.sc (.bp 3 0))), (.a (.sc (.v (.bool (decide ((((y2.Book.Events).length : Int) : Int) < 40))))))], blF [(.row false K.ku8 code), (.row true K.ki64 y2.Stock.Grams), (.row true K.k_impl_Event y2.Book.Events), (.box true [(.sl 1), (.v (.int .i64 y2.Dough.Water)), (.v (.int .i64 y2.Dough.Salt)), (.v (.int .i64 y2.Dough.Leaven)), (.v (.int .i64 y2.Loaf.Weight)), (.v (.int .i64 y2.Loaf.Loss)), (.sl 2), (.v (.int .i64 y2.Book.Rack.Fresh)), (.v (.int .i64 y2.Book.Rack.Day)), (.v (.int .i64 y2.Book.Rack.Old)), (.v (.int .i64 y2.Book.Baked)), (.v (.int .i64 y2.Book.Sold)), (.v (.int .i64 y2.Book.Thrown)), (.v (.int .i64 y2.Money))])]⟩ = laws_FnBakeries_c2 k code y2 := by
 have e : hcAt env (laws_FnBakeries_O k) laws_FnBakeries_cut Try.f4 1 (fun r => laws_FnBakeries_d (r.fin 1 [])) (m + 3) [1, 1, 1, 1, 1, 1, 1, 1, 1, 1] ⟨tmF [0, 2, 3, 10] [(.a (.sc (.sl 0))), (.a (.sc (.v (.bool false)))), (.a (.sc (.bp 3 0))), (.a (.sc (.v (.bool (decide ((((y2.Book.Events).length : Int) : Int) < 40))))))], blF [(.row false K.ku8 code), (.row true K.ki64 y2.Stock.Grams), (.row true K.k_impl_Event y2.Book.Events), (.box true [(.sl 1), (.v (.int .i64 y2.Dough.Water)), (.v (.int .i64 y2.Dough.Salt)), (.v (.int .i64 y2.Dough.Leaven)), (.v (.int .i64 y2.Loaf.Weight)), (.v (.int .i64 y2.Loaf.Loss)), (.sl 2), (.v (.int .i64 y2.Book.Rack.Fresh)), (.v (.int .i64 y2.Book.Rack.Day)), (.v (.int .i64 y2.Book.Rack.Old)), (.v (.int .i64 y2.Book.Baked)), (.v (.int .i64 y2.Book.Sold)), (.v (.int .i64 y2.Book.Thrown)), (.v (.int .i64 y2.Money))])]⟩ = laws_FnBakeries_c2_s k (fun code y2 => hcAt env (laws_FnBakeries_O k) laws_FnBakeries_cut Try.f4 1 (fun r => laws_FnBakeries_d (r.fin 1 [])) (m + 2) [1, 1, 1, 1, 1, 1, 1, 1, 1, 1, 1, 1, 1, 1, 1] ⟨tmF [0, 2, 3, 10, 16] [(.a (.sc (.sl 0))), (.a (.sc (.v (.bool false)))), (.a (.sc (.bp 3 0))), (.a (.sc (.v (.bool (decide ((((y2.Book.Events).length : Int) : Int) < 40)))))), (.a (.sc (.bp 4 0)))], blF [(.row false K.ku8 code), (.row true K.ki64 y2.Stock.Grams), (.row true K.k_impl_Event y2.Book.Events), (.box true [(.sl 1), (.v (.int .i64 y2.Dough.Water)), (.v (.int .i64 y2.Dough.Salt)), (.v (.int .i64 y2.Dough.Leaven)), (.v (.int .i64 y2.Loaf.Weight)), (.v (.int .i64 y2.Loaf.Loss)), (.sl 2), (.v (.int .i64 y2.Book.Rack.Fresh)), (.v (.int .i64 y2.Book.Rack.Day)), (.v (.int .i64 y2.Book.Rack.Old)), (.v (.int .i64 y2.Book.Baked)), (.v (.int .i64 y2.Book.Sold)), (.v (.int .i64 y2.Book.Thrown)), (.v (.int .i64 y2.Money))]), (.box true [(.v (.int .i64 y2.Book.Rack.Fresh)), (.v (.int .i64 y2.Book.Rack.Day)), (.v (.int .i64 y2.Book.Rack.Old))])]⟩) code y2 := by kernel_rfl
 have q1 : (fun code y2 => hcAt env (laws_FnBakeries_O k) laws_FnBakeries_cut Try.f4 1 (fun r => laws_FnBakeries_d (r.fin 1 [])) (m + 2) [1, 1, 1, 1, 1, 1, 1, 1, 1, 1, 1, 1, 1, 1, 1] ⟨tmF [0, 2, 3, 10, 16] [(.a (.sc (.sl 0))), (.a (.sc (.v (.bool false)))), (.a (.sc (.bp 3 0))), (.a (.sc (.v (.bool (decide ((((y2.Book.Events).length : Int) : Int) < 40)))))), (.a (.sc (.bp 4 0)))], blF [(.row false K.ku8 code), (.row true K.ki64 y2.Stock.Grams), (.row true K.k_impl_Event y2.Book.Events), (.box true [(.sl 1), (.v (.int .i64 y2.Dough.Water)), (.v (.int .i64 y2.Dough.Salt)), (.v (.int .i64 y2.Dough.Leaven)), (.v (.int .i64 y2.Loaf.Weight)), (.v (.int .i64 y2.Loaf.Loss)), (.sl 2), (.v (.int .i64 y2.Book.Rack.Fresh)), (.v (.int .i64 y2.Book.Rack.Day)), (.v (.int .i64 y2.Book.Rack.Old)), (.v (.int .i64 y2.Book.Baked)), (.v (.int .i64 y2.Book.Sold)), (.v (.int .i64 y2.Book.Thrown)), (.v (.int .i64 y2.Money))]), (.box true [(.v (.int .i64 y2.Book.Rack.Fresh)), (.v (.int .i64 y2.Book.Rack.Day)), (.v (.int .i64 y2.Book.Rack.Old))])]⟩) = laws_FnBakeries_c1 k := by
  funext code y2; exact laws_FnBakeries_c1_e k (m + 0) code y2
 rw [e, q1]; rfl
theorem laws_FnBakeries_c3_e (k m : Nat) (code : (List Int)) (y2 : Bakery) (y3 : Int) (y4 : Int) (y5 : Bakery × Bool) : hcAt env (laws_FnBakeries_O k) laws_FnBakeries_cut Try.f4 1 (fun r => laws_FnBakeries_d (r.fin 1 [])) (m + 4) [1, 1, 1, 1, 1, 1, 1, 1, 1] ⟨tmF [0, 2, 3, 4, 5, 6, 7, 10] [(.a (.sc (.sl 0))), (.a (.sc (.v (.bool false)))), (.a (.sc (.bp 3 0))), (.a (.sc (.v (.int .i64 (Int.tmod y3 10))))), (.a (.sc (.v (.int .i64 y4)))), (.a (.sc (.bp 6 0))), (.a (.sc (.v (.bool y5.2)))), (.a (.sc (.v (.bool (decide ((((y2.Book.Events).length : Int) : Int) < 40))))))], blF [(.row false K.ku8 code), (.row true K.ki64 y2.Stock.Grams), (.row true K.k_impl_Event y2.Book.Events), (.box true [(.sl 1), (.v (.int .i64 y2.Dough.Water)), (.v (.int .i64 y2.Dough.Salt)), (.v (.int .i64 y2.Dough.Leaven)), (.v (.int .i64 y2.Loaf.Weight)), (.v (.int .i64 y2.Loaf.Loss)), (.sl 2), (.v (.int .i64 y2.Book.Rack.Fresh)), (.v (.int .i64 y2.Book.Rack.Day)), (.v (.int .i64 y2.Book.Rack.Old)), (.v (.int .i64 y2.Book.Baked)), (.v (.int .i64 y2.Book.Sold)), (.v (.int .i64 y2.Book.Thrown)), (.v (.int .i64 y2.Money))]), (.row true K.ki64 y5.1.Stock.Grams), (.row true K.k_impl_Event y5.1.Book.Events), (.box true [(.sl 4), (.v (.int .i64 y5.1.Dough.Water)), (.v (.int .i64 y5.1.Dough.Salt)), (.v (.int .i64 y5.1.Dough.Leaven)), (.v (.int .i64 y5.1.Loaf.Weight)), (.v (.int .i64 y5.1.Loaf.Loss)), (.sl 5), (.v (.int .i64 y5.1.Book.Rack.Fresh)), (.v (.int .i64 y5.1.Book.Rack.Day)), (.v (.int .i64 y5.1.Book.Rack.Old)), (.v (.int .i64 y5.1.Book.Baked)), (.v (.int .i64 y5.1.Book.Sold)), (.v (.int .i64 y5.1.Book.Thrown)), (.v (.int .i64 y5.1.Money))])]⟩ = laws_FnBakeries_c3 k code y2 y3 y4 y5 := by
 have e : hcAt env (laws_FnBakeries_O k) laws_FnBakeries_cut Try.f4 1 (fun r => laws_FnBakeries_d (r.fin 1 [])) (m + 4) [1, 1, 1, 1, 1, 1, 1, 1, 1] ⟨tmF [0, 2, 3, 4, 5, 6, 7, 10] [(.a (.sc (.sl 0))), (.a (.sc (.v (.bool false)))), (.a (.sc (.bp 3 0))), (.a (.sc (.v (.int .i64 (Int.tmod y3 10))))), (.a (.sc (.v (.int .i64 y4)))), (.a (.sc (.bp 6 0))), (.a (.sc (.v (.bool y5.2)))), (.a (.sc (.v (.bool (decide ((((y2.Book.Events).length : Int) : Int) < 40))))))], blF [(.row false K.ku8 code), (.row true K.ki64 y2.Stock.Grams), (.row true K.k_impl_Event y2.Book.Events), (.box true [(.sl 1), (.v (.int .i64 y2.Dough.Water)), (.v (.int .i64 y2.Dough.Salt)), (.v (.int .i64 y2.Dough.Leaven)), (.v (.int .i64 y2.Loaf.Weight)), (.v (.int .i64 y2.Loaf.Loss)), (.sl 2), (.v (.int .i64 y2.Book.Rack.Fresh)), (.v (.int .i64 y2.Book.Rack.Day)), (.v (.int .i64 y2.Book.Rack.Old)), (.v (.int .i64 y2.Book.Baked)), (.v (.int .i64 y2.Book.Sold)), (.v (.int .i64 y2.Book.Thrown)), (.v (.int .i64 y2.Money))]), (.row true K.ki64 y5.1.Stock.Grams), (.row true K.k_impl_Event y5.1.Book.Events), (.box true [(.sl 4), (.v (.int .i64 y5.1.Dough.Water)), (.v (.int .i64 y5.1.Dough.Salt)), (.v (.int .i64 y5.1.Dough.Leaven)), (.v (.int .i64 y5.1.Loaf.Weight)), (.v (.int .i64 y5.1.Loaf.Loss)), (.sl 5), (.v (.int .i64 y5.1.Book.Rack.Fresh)), (.v (.int .i64 y5.1.Book.Rack.Day)), (.v (.int .i64 y5.1.Book.Rack.Old)), (.v (.int .i64 y5.1.Book.Baked)), (.v (.int .i64 y5.1.Book.Sold)), (.v (.int .i64 y5.1.Book.Thrown)), (.v (.int .i64 y5.1.Money))])]⟩ = laws_FnBakeries_c3_s k (fun code y2 => hcAt env (laws_FnBakeries_O k) laws_FnBakeries_cut Try.f4 1 (fun r => laws_FnBakeries_d (r.fin 1 [])) (m + 3) [1, 1, 1, 1, 1, 1, 1, 1, 1, 1] ⟨tmF [0, 2, 3, 10] [(.a (.sc (.sl 0))), (.a (.sc (.v (.bool false)))), (.a (.sc (.bp 3 0))), (.a (.sc (.v (.bool (decide ((((y2.Book.Events).length : Int) : Int) < 40))))))], blF [(.row false K.ku8 code), (.row true K.ki64 y2.Stock.Grams), (.row true K.k_impl_Event y2.Book.Events), (.box true [(.sl 1), (.v (.int .i64 y2.Dough.Water)), (.v (.int .i64 y2.Dough.Salt)), (.v (.int .i64 y2.Dough.Leaven)), (.v (.int .i64 y2.Loaf.Weight)), (.v (.int .i64 y2.Loaf.Loss)), (.sl 2), (.v (.int .i64 y2.Book.Rack.Fresh)), (.v (.int .i64 y2.Book.Rack.Day)), (.v (.int .i64 y2.Book.Rack.Old)), (.v (.int .i64 y2.Book.Baked)), (.v (.int .i64 y2.Book.Sold)), (.v (.int .i64 y2.Book.Thrown)), (.v (.int .i64 y2.Money))])]⟩) code y2 y3 y4 y5 := by kernel_rfl
 have q2 : (fun code y2 => hcAt env (laws_FnBakeries_O k) laws_FnBakeries_cut Try.f4 1 (fun r => laws_FnBakeries_d (r.fin 1 [])) (m + 3) [1, 1, 1, 1, 1, 1, 1, 1, 1, 1] ⟨tmF [0, 2, 3, 10] [(.a (.sc (.sl 0))), (.a (.sc (.v (.bool false)))), (.a (.sc (.bp 3 0))), (.a (.sc (.v (.bool (decide ((((y2.Book.Events).length : Int) : Int) < 40))))))], blF [(.row false K.ku8 code), (.row true K.ki64 y2.Stock.Grams), (.row true K.k_impl_Event y2.Book.Events), (.box true [(.sl 1), (.v (.int .i64 y2.Dough.Water)), (.v (.int .i64 y2.Dough.Salt)), (.v (.int .i64 y2.Dough.Leaven)), (.v (.int .i64 y2.Loaf.Weight)), (.v (.int .i64 y2.Loaf.Loss)), (.sl 2), (.v (.int .i64 y2.Book.Rack.Fresh)), (.v (.int .i64 y2.Book.Rack.Day)), (.v (.int .i64 y2.Book.Rack.Old)), (.v (.int .i64 y2.Book.Baked)), (.v (.int .i64 y2.Book.Sold)), (.v (.int .i64 y2.Book.Thrown)), (.v (.int .i64 y2.Money))])]⟩) = laws_FnBakeries_c2 k := by
  funext code y2; exact laws_FnBakeries_c2_e k (m + 0) code y2
 rw [e, q2]; rfl
theorem laws_FnBakeries_e (k : Nat) (code : (List Int)) : callC env (laws_FnBakeries_O k) laws_FnBakeries_cut Try.f4 1 4 (laws_FnBakeries_A code) (fun r => laws_FnBakeries_d (r.fin 1 [])) = laws_FnBakeries k code := by
 have e : ∀ H : List Code → St → Option (Bool), callH env (laws_FnBakeries_O k) laws_FnBakeries_cut Try.f4 1 (laws_FnBakeries_A code) (fun r => laws_FnBakeries_d (r.fin 1 [])) H = laws_FnBakeries_m k (fun code y2 y3 y4 y5 => H (pendAt (Try.f4.body.getD .skip) [] [1, 1, 1, 1, 1, 1, 1, 1, 1]) ⟨tmF [0, 2, 3, 4, 5, 6, 7, 10] [(.a (.sc (.sl 0))), (.a (.sc (.v (.bool false)))), (.a (.sc (.bp 3 0))), (.a (.sc (.v (.int .i64 (Int.tmod y3 10))))), (.a (.sc (.v (.int .i64 y4)))), (.a (.sc (.bp 6 0))), (.a (.sc (.v (.bool y5.2)))), (.a (.sc (.v (.bool (decide ((((y2.Book.Events).length : Int) : Int) < 40))))))], blF [(.row false K.ku8 code), (.row true K.ki64 y2.Stock.Grams), (.row true K.k_impl_Event y2.Book.Events), (.box true [(.sl 1), (.v (.int .i64 y2.Dough.Water)), (.v (.int .i64 y2.Dough.Salt)), (.v (.int .i64 y2.Dough.Leaven)), (.v (.int .i64 y2.Loaf.Weight)), (.v (.int .i64 y2.Loaf.Loss)), (.sl 2), (.v (.int .i64 y2.Book.Rack.Fresh)), (.v (.int .i64 y2.Book.Rack.Day)), (.v (.int .i64 y2.Book.Rack.Old)), (.v (.int .i64 y2.Book.Baked)), (.v (.int .i64 y2.Book.Sold)), (.v (.int .i64 y2.Book.Thrown)), (.v (.int .i64 y2.Money))]), (.row true K.ki64 y5.1.Stock.Grams), (.row true K.k_impl_Event y5.1.Book.Events), (.box true [(.sl 4), (.v (.int .i64 y5.1.Dough.Water)), (.v (.int .i64 y5.1.Dough.Salt)), (.v (.int .i64 y5.1.Dough.Leaven)), (.v (.int .i64 y5.1.Loaf.Weight)), (.v (.int .i64 y5.1.Loaf.Loss)), (.sl 5), (.v (.int .i64 y5.1.Book.Rack.Fresh)), (.v (.int .i64 y5.1.Book.Rack.Day)), (.v (.int .i64 y5.1.Book.Rack.Old)), (.v (.int .i64 y5.1.Book.Baked)), (.v (.int .i64 y5.1.Book.Sold)), (.v (.int .i64 y5.1.Book.Thrown)), (.v (.int .i64 y5.1.Money))])]⟩) code := by intro H; kernel_rfl
 have q3 : (fun code y2 y3 y4 y5 => hcAt env (laws_FnBakeries_O k) laws_FnBakeries_cut Try.f4 1 (fun r => laws_FnBakeries_d (r.fin 1 [])) 4 [1, 1, 1, 1, 1, 1, 1, 1, 1] ⟨tmF [0, 2, 3, 4, 5, 6, 7, 10] [(.a (.sc (.sl 0))), (.a (.sc (.v (.bool false)))), (.a (.sc (.bp 3 0))), (.a (.sc (.v (.int .i64 (Int.tmod y3 10))))), (.a (.sc (.v (.int .i64 y4)))), (.a (.sc (.bp 6 0))), (.a (.sc (.v (.bool y5.2)))), (.a (.sc (.v (.bool (decide ((((y2.Book.Events).length : Int) : Int) < 40))))))], blF [(.row false K.ku8 code), (.row true K.ki64 y2.Stock.Grams), (.row true K.k_impl_Event y2.Book.Events), (.box true [(.sl 1), (.v (.int .i64 y2.Dough.Water)), (.v (.int .i64 y2.Dough.Salt)), (.v (.int .i64 y2.Dough.Leaven)), (.v (.int .i64 y2.Loaf.Weight)), (.v (.int .i64 y2.Loaf.Loss)), (.sl 2), (.v (.int .i64 y2.Book.Rack.Fresh)), (.v (.int .i64 y2.Book.Rack.Day)), (.v (.int .i64 y2.Book.Rack.Old)), (.v (.int .i64 y2.Book.Baked)), (.v (.int .i64 y2.Book.Sold)), (.v (.int .i64 y2.Book.Thrown)), (.v (.int .i64 y2.Money))]), (.row true K.ki64 y5.1.Stock.Grams), (.row true K.k_impl_Event y5.1.Book.Events), (.box true [(.sl 4), (.v (.int .i64 y5.1.Dough.Water)), (.v (.int .i64 y5.1.Dough.Salt)), (.v (.int .i64 y5.1.Dough.Leaven)), (.v (.int .i64 y5.1.Loaf.Weight)), (.v (.int .i64 y5.1.Loaf.Loss)), (.sl 5), (.v (.int .i64 y5.1.Book.Rack.Fresh)), (.v (.int .i64 y5.1.Book.Rack.Day)), (.v (.int .i64 y5.1.Book.Rack.Old)), (.v (.int .i64 y5.1.Book.Baked)), (.v (.int .i64 y5.1.Book.Sold)), (.v (.int .i64 y5.1.Book.Thrown)), (.v (.int .i64 y5.1.Money))])]⟩) = laws_FnBakeries_c3 k := by
  funext code y2 y3 y4 y5; exact laws_FnBakeries_c3_e k (0) code y2 y3 y4 y5
 exact (e (hC ⟨env, laws_FnBakeries_O k, 1, Try.f4.ntmps, fun _ => []⟩ laws_FnBakeries_cut (fnK env (laws_FnBakeries_O k) Try.f4 1 (fun r => laws_FnBakeries_d (r.fin 1 []))) 4)).trans (by
  show laws_FnBakeries_m k (fun code y2 y3 y4 y5 => hcAt env (laws_FnBakeries_O k) laws_FnBakeries_cut Try.f4 1 (fun r => laws_FnBakeries_d (r.fin 1 [])) 4 [1, 1, 1, 1, 1, 1, 1, 1, 1] ⟨tmF [0, 2, 3, 4, 5, 6, 7, 10] [(.a (.sc (.sl 0))), (.a (.sc (.v (.bool false)))), (.a (.sc (.bp 3 0))), (.a (.sc (.v (.int .i64 (Int.tmod y3 10))))), (.a (.sc (.v (.int .i64 y4)))), (.a (.sc (.bp 6 0))), (.a (.sc (.v (.bool y5.2)))), (.a (.sc (.v (.bool (decide ((((y2.Book.Events).length : Int) : Int) < 40))))))], blF [(.row false K.ku8 code), (.row true K.ki64 y2.Stock.Grams), (.row true K.k_impl_Event y2.Book.Events), (.box true [(.sl 1), (.v (.int .i64 y2.Dough.Water)), (.v (.int .i64 y2.Dough.Salt)), (.v (.int .i64 y2.Dough.Leaven)), (.v (.int .i64 y2.Loaf.Weight)), (.v (.int .i64 y2.Loaf.Loss)), (.sl 2), (.v (.int .i64 y2.Book.Rack.Fresh)), (.v (.int .i64 y2.Book.Rack.Day)), (.v (.int .i64 y2.Book.Rack.Old)), (.v (.int .i64 y2.Book.Baked)), (.v (.int .i64 y2.Book.Sold)), (.v (.int .i64 y2.Book.Thrown)), (.v (.int .i64 y2.Money))]), (.row true K.ki64 y5.1.Stock.Grams), (.row true K.k_impl_Event y5.1.Book.Events), (.box true [(.sl 4), (.v (.int .i64 y5.1.Dough.Water)), (.v (.int .i64 y5.1.Dough.Salt)), (.v (.int .i64 y5.1.Dough.Leaven)), (.v (.int .i64 y5.1.Loaf.Weight)), (.v (.int .i64 y5.1.Loaf.Loss)), (.sl 5), (.v (.int .i64 y5.1.Book.Rack.Fresh)), (.v (.int .i64 y5.1.Book.Rack.Day)), (.v (.int .i64 y5.1.Book.Rack.Old)), (.v (.int .i64 y5.1.Book.Baked)), (.v (.int .i64 y5.1.Book.Sold)), (.v (.int .i64 y5.1.Book.Thrown)), (.v (.int .i64 y5.1.Money))])]⟩) code = _
  rw [q3]; rfl)
noncomputable def laws_FnBakeries_x (k : Nat) : Ent1 := fun A R Q => match A with
 | ⟨[(.sc (.sl 0))], [(.row false K.ku8 a1)]⟩ => (laws_FnBakeries k a1).bind fun y => Q ⟨(.a (.sc (.v (.bool y)))), [.dead]⟩
 | _ => none
theorem laws_FnBakeries_ok (k : Nat) : OkE Try.prog 4 (laws_FnBakeries_x k) := by
 intro A R Q x h
 unfold laws_FnBakeries_x at h
 split at h
 · obtain ⟨y, hy, hK⟩ := Option.bind_eq_some_iff.1 h
   obtain ⟨r, hr, hd⟩ := callC_ok envOk (laws_FnBakeries_Ok k) follows Try.func4 (by kernel_rfl) ((laws_FnBakeries_e k _).trans hy)
   exact ⟨_, laws_FnBakeries_i hd ▸ hr.fin [], hK⟩
 · cases h
end Go.Proofs.YtlhcphoojiemmaaX
