/- What functions of the program compute, as functions of numbers and lists, and that they do. (The file is written by wip/x/vxp.py of this repository.) -/
import Derived.Test.YtonaabffckkdlaaF3
namespace Go.Proofs.YtonaabffckkdlaaX
open Go Go.Proofs
set_option linter.unusedVariables false
set_option maxRecDepth 100000
/-! ### laws.FnExactOpenBakery: function 7 -/
noncomputable def laws_FnExactOpenBakery (k : Nat)  (p0 : (List Int)) (p1 : Dough) (p2 : Loaf) (p3 : Int) : Option (Bool) :=
 cond (decide ((1048576 : Int) < ((p0).length : Int)))
 (some true)
 ((laws_toIntS k p0).bind fun y1 =>
  (laws_toDough k p1).bind fun y2 =>
   (laws_toLoaf k p2).bind fun y3 =>
    (spec_OpenBakery k y1 y2 y3 p3).bind fun y4 =>
     (laws_toIntS k p0).bind fun y5 =>
      (laws_toDough k p1).bind fun y6 =>
       (laws_toLoaf k p2).bind fun y7 =>
        (impl_OpenBakery k y5 y6 y7 p3).bind fun y8 =>
        (laws_eqBakery k y8.1 y4.1).bind fun y9 =>
        cond (!y9)
        (some false)
        (cond (!(y8.2 == y4.2))
        (some false)
        ((laws_toIntS k p0).bind fun y10 =>
        (laws_eqIntS k y5 y10).bind fun y11 =>
        cond (!y11)
        (some false)
        ((laws_markIntS k y5 1).bind fun y12 =>
        cond (decide ((y12.1 : Int) < 0))
        (some false)
        ((laws_eqBakery k y8.1 y4.1).bind fun y13 =>
        cond (!y13)
        (some false)
        (cond (!(y8.2 == y4.2))
        (some false)
        ((laws_markBakery k y8.1 1).bind fun y14 =>
        (laws_heldBakery k (⟨(⟨y14.2.1⟩ : Stock), y8.1.Dough, y8.1.Loaf, (⟨y14.2.2, y8.1.Book.Rack, y8.1.Book.Baked, y8.1.Book.Sold, y8.1.Book.Thrown⟩ : Book), y8.1.Money⟩ : Bakery) 1).bind fun y15 =>
        cond (decide ((y15 : Int) < 0))
        (some false)
        (cond (!(decide ((y15 : Int) = y14.1)))
        (some false)
        ((laws_toIntS k p0).bind fun y16 =>
        (laws_toDough k p1).bind fun y17 =>
        (laws_toLoaf k p2).bind fun y18 =>
        (impl_OpenBakery k y16 y17 y18 p3).bind fun y19 =>
        (laws_eqBakery k y19.1 y4.1).bind fun y20 =>
        cond (!y20)
        (some false)
        (cond (!(y19.2 == y4.2))
        (some false)
        ((laws_heldBakery k (⟨(⟨y14.2.1⟩ : Stock), y8.1.Dough, y8.1.Loaf, (⟨y14.2.2, y8.1.Book.Rack, y8.1.Book.Baked, y8.1.Book.Sold, y8.1.Book.Thrown⟩ : Book), y8.1.Money⟩ : Bakery) 1).bind fun y21 =>
        cond (decide ((y21 : Int) < 0))
        (some false)
        (cond (!(decide ((y21 : Int) = y14.1)))
        (some false)
        (some true)))))))))))))
noncomputable def laws_FnExactOpenBakery_v : Nat → List Nat := fun t => match t with | _ => []
noncomputable def laws_FnExactOpenBakery_O (k : Nat) : Oracle := ofL [(27, laws_eqBakery_x k), (30, laws_markBakery_x k), (31, laws_heldBakery_x k), (32, spec_OpenBakery_x k), (33, laws_toIntS_x k), (34, laws_toDough_x k), (35, laws_toLoaf_x k), (36, impl_OpenBakery_x k), (37, laws_eqIntS_x k), (38, laws_markIntS_x k)]
theorem laws_FnExactOpenBakery_Ok (k : Nat) : OkO (Ct Try.prog) (laws_FnExactOpenBakery_O k) := okO_cons (laws_eqBakery_ok k) (okO_cons (laws_markBakery_ok k) (okO_cons (laws_heldBakery_ok k) (okO_cons (spec_OpenBakery_ok k) (okO_cons (laws_toIntS_ok k) (okO_cons (laws_toDough_ok k) (okO_cons (laws_toLoaf_ok k) (okO_cons (impl_OpenBakery_ok k) (okO_cons (laws_eqIntS_ok k) (okO_cons (laws_markIntS_ok k) (okO_nil))))))))))
noncomputable def laws_FnExactOpenBakery_A (p0 : (List Int)) (p1 : Dough) (p2 : Loaf) (p3 : Int) : Pk := ⟨[(.sc (.sl 0)), (.ag [(.v (.int .i64 p1.Water)), (.v (.int .i64 p1.Salt)), (.v (.int .i64 p1.Leaven))]), (.ag [(.v (.int .i64 p2.Weight)), (.v (.int .i64 p2.Loss))]), (.sc (.v (.int .i64 p3)))], [(.row false K.ki64 p0)]⟩
noncomputable def laws_FnExactOpenBakery_d : Rs → Option (Bool)
 | ⟨(.a (.sc (.v (.bool r1)))), [.dead]⟩ => some r1
 | _ => none
theorem laws_FnExactOpenBakery_i {r : Rs} {y : Bool} (h : laws_FnExactOpenBakery_d r = some y) : r = ⟨(.a (.sc (.v (.bool y)))), [.dead]⟩ := by
 unfold laws_FnExactOpenBakery_d at h; split at h
 · cases h; rfl
 · cases h
theorem laws_FnExactOpenBakery_e (k : Nat) (p0 : (List Int)) (p1 : Dough) (p2 : Loaf) (p3 : Int) : callF env (laws_FnExactOpenBakery_O k) laws_FnExactOpenBakery_v Try.f7 (k + 1) (laws_FnExactOpenBakery_A p0 p1 p2 p3) (fun r => laws_FnExactOpenBakery_d (r.fin 1 [])) = laws_FnExactOpenBakery k p0 p1 p2 p3 := by kernel_rfl
noncomputable def laws_FnExactOpenBakery_x (k : Nat) : Ent1 := fun A R Q => match A with
 | ⟨[(.sc (.sl 0)), (.ag [(.v (.int .i64 a2)), (.v (.int .i64 a3)), (.v (.int .i64 a4))]), (.ag [(.v (.int .i64 a5)), (.v (.int .i64 a6))]), (.sc (.v (.int .i64 a7)))], [(.row false K.ki64 a1)]⟩ => (laws_FnExactOpenBakery k a1 (⟨a2, a3, a4⟩ : Dough) (⟨a5, a6⟩ : Loaf) a7).bind fun y => Q ⟨(.a (.sc (.v (.bool y)))), [.dead]⟩
 | _ => none
theorem laws_FnExactOpenBakery_ok (k : Nat) : OkE Try.prog 7 (laws_FnExactOpenBakery_x k) := by
 intro A R Q x h
 unfold laws_FnExactOpenBakery_x at h
 split at h
 · obtain ⟨y, hy, hK⟩ := Option.bind_eq_some_iff.1 h
   obtain ⟨r, hr, hd⟩ := callF_ok envOk (laws_FnExactOpenBakery_Ok k) follows Try.func7 (by kernel_rfl) ((laws_FnExactOpenBakery_e k _ _ _ _).trans hy)
   exact ⟨_, laws_FnExactOpenBakery_i hd ▸ hr.fin [], hK⟩
 · cases h
/-! ### spec.FillStock: function 87 -/
noncomputable def spec_FillStock (k : Nat)  (s : Stock) (k_ : Int) (grams : Int) : Option (Stock × Bool) :=
 (spec_l36Copy k s).bind fun y1 =>
 (spec_StoreOk k s).bind fun y2 =>
  cond (!y2)
   (some (y1, false))
   ((spec_l01In k k_ 0 3).bind fun y3 =>
    cond (!y3)
     (some (y1, false))
     ((spec_l01In k grams 0 1000000).bind fun y4 =>
      cond (!y4)
       (some (y1, false))
       (if 0 ≤ (k_ : Int) ∧ (k_ : Int) < ((s.Grams).length : Int) then
        cond (decide ((1000000 : Int) < (wr ((s.Grams.getD (Int.toNat k_) 0) + grams))))
        (some (y1, false))
        (if 0 ≤ (k_ : Int) ∧ (k_ : Int) < ((s.Grams).length : Int) then
        if 0 ≤ (k_ : Int) ∧ (k_ : Int) < ((y1.Grams).length : Int) then
        some ((⟨(y1.Grams.set (Int.toNat k_) (wr ((s.Grams.getD (Int.toNat k_) 0) + grams)))⟩ : Stock), true) else none else none) else none)))
noncomputable def spec_FillStock_v : Nat → List Nat := fun t => match t with | _ => []
noncomputable def spec_FillStock_O (k : Nat) : Oracle := ofL [(106, spec_l36Copy_x k), (63, spec_StoreOk_x k), (66, spec_l01In_x k)]
theorem spec_FillStock_Ok (k : Nat) : OkO (Ct Try.prog) (spec_FillStock_O k) := okO_cons (spec_l36Copy_ok k) (okO_cons (spec_StoreOk_ok k) (okO_cons (spec_l01In_ok k) (okO_nil)))
noncomputable def spec_FillStock_A (s : Stock) (k_ : Int) (grams : Int) : Pk := ⟨[(.ag [(.sl 0)]), (.sc (.v (.int .i64 k_))), (.sc (.v (.int .i64 grams)))], [(.row false K.ki64 s.Grams)]⟩
noncomputable def spec_FillStock_d : Rs → Option (Stock × Bool)
 | ⟨(.tp [(.ag [(.sl 1)]), (.sc (.v (.bool r2)))]), [.dead, (.row true K.ki64 r1)]⟩ => some ((⟨r1⟩ : Stock), r2)
 | _ => none
theorem spec_FillStock_i {r : Rs} {y : Stock × Bool} (h : spec_FillStock_d r = some y) : r = ⟨(.tp [(.ag [(.sl 1)]), (.sc (.v (.bool y.2)))]), [.dead, (.row true K.ki64 y.1.Grams)]⟩ := by
 unfold spec_FillStock_d at h; split at h
 · cases h; rfl
 · cases h
theorem spec_FillStock_e (k : Nat) (s : Stock) (k_ : Int) (grams : Int) : callF env (spec_FillStock_O k) spec_FillStock_v Try.f87 (k + 1) (spec_FillStock_A s k_ grams) (fun r => spec_FillStock_d (r.fin 1 [])) = spec_FillStock k s k_ grams := by kernel_rfl
noncomputable def spec_FillStock_x (k : Nat) : Ent1 := fun A R Q => match A with
 | ⟨[(.ag [(.sl 0)]), (.sc (.v (.int .i64 a2))), (.sc (.v (.int .i64 a3)))], [(.row false K.ki64 a1)]⟩ => (spec_FillStock k (⟨a1⟩ : Stock) a2 a3).bind fun y => Q ⟨(.tp [(.ag [(.sl 1)]), (.sc (.v (.bool y.2)))]), [.dead, (.row true K.ki64 y.1.Grams)]⟩
 | _ => none
theorem spec_FillStock_ok (k : Nat) : OkE Try.prog 87 (spec_FillStock_x k) := by
 intro A R Q x h
 unfold spec_FillStock_x at h
 split at h
 · obtain ⟨y, hy, hK⟩ := Option.bind_eq_some_iff.1 h
   obtain ⟨r, hr, hd⟩ := callF_ok envOk (spec_FillStock_Ok k) follows Try.func87 (by kernel_rfl) ((spec_FillStock_e k _ _ _).trans hy)
   exact ⟨_, spec_FillStock_i hd ▸ hr.fin [], hK⟩
 · cases h
/-! ### spec.BuyStock: function 43 -/
noncomputable def spec_BuyStock (k : Nat)  (b : Bakery) (k_ : Int) (grams : Int) : Option (Bakery × Bool) :=
 (spec_l38Copy k b).bind fun y1 =>
 (spec_FillStock k b.Stock k_ grams).bind fun y2 =>
  (spec_BakeryOk k b).bind fun y3 =>
   cond (!y3)
    (some (y1, false))
    (cond (!y2.2)
     (some (y1, false))
     (if (100 : Int) ≠ 0 then
      (spec_BakeryOk k (⟨y2.1, y1.Dough, y1.Loaf, y1.Book, (wr (b.Money - (wr (Int.tdiv (wr (grams + 99)) 100))))⟩ : Bakery)).bind fun y4 =>
       cond (!y4)
        ((spec_l38Copy k b).bind fun y5 =>
        some (y5, false))
        (some ((⟨y2.1, y1.Dough, y1.Loaf, y1.Book, (wr (b.Money - (wr (Int.tdiv (wr (grams + 99)) 100))))⟩ : Bakery), true)) else none))
noncomputable def spec_BuyStock_v : Nat → List Nat := fun t => match t with | _ => []
noncomputable def spec_BuyStock_O (k : Nat) : Oracle := ofL [(24, spec_BakeryOk_x k), (86, spec_l38Copy_x k), (87, spec_FillStock_x k)]
theorem spec_BuyStock_Ok (k : Nat) : OkO (Ct Try.prog) (spec_BuyStock_O k) := okO_cons (spec_BakeryOk_ok k) (okO_cons (spec_l38Copy_ok k) (okO_cons (spec_FillStock_ok k) (okO_nil)))
noncomputable def spec_BuyStock_A (b : Bakery) (k_ : Int) (grams : Int) : Pk := ⟨[(.ag [(.sl 0), (.v (.int .i64 b.Dough.Water)), (.v (.int .i64 b.Dough.Salt)), (.v (.int .i64 b.Dough.Leaven)), (.v (.int .i64 b.Loaf.Weight)), (.v (.int .i64 b.Loaf.Loss)), (.sl 1), (.v (.int .i64 b.Book.Rack.Fresh)), (.v (.int .i64 b.Book.Rack.Day)), (.v (.int .i64 b.Book.Rack.Old)), (.v (.int .i64 b.Book.Baked)), (.v (.int .i64 b.Book.Sold)), (.v (.int .i64 b.Book.Thrown)), (.v (.int .i64 b.Money))]), (.sc (.v (.int .i64 k_))), (.sc (.v (.int .i64 grams)))], [(.row false K.ki64 b.Stock.Grams), (.row false K.k_impl_Event b.Book.Events)]⟩
noncomputable def spec_BuyStock_d : Rs → Option (Bakery × Bool)
 | ⟨(.tp [(.ag [(.sl 2), (.v (.int .i64 r2)), (.v (.int .i64 r3)), (.v (.int .i64 r4)), (.v (.int .i64 r5)), (.v (.int .i64 r6)), (.sl 3), (.v (.int .i64 r8)), (.v (.int .i64 r9)), (.v (.int .i64 r10)), (.v (.int .i64 r11)), (.v (.int .i64 r12)), (.v (.int .i64 r13)), (.v (.int .i64 r14))]), (.sc (.v (.bool r15)))]), [.dead, .dead, (.row true K.ki64 r1), (.row true K.k_impl_Event r7)]⟩ => some ((⟨(⟨r1⟩ : Stock), (⟨r2, r3, r4⟩ : Dough), (⟨r5, r6⟩ : Loaf), (⟨r7, (⟨r8, r9, r10⟩ : Rack), r11, r12, r13⟩ : Book), r14⟩ : Bakery), r15)
 | _ => none
theorem spec_BuyStock_i {r : Rs} {y : Bakery × Bool} (h : spec_BuyStock_d r = some y) : r = ⟨(.tp [(.ag [(.sl 2), (.v (.int .i64 y.1.Dough.Water)), (.v (.int .i64 y.1.Dough.Salt)), (.v (.int .i64 y.1.Dough.Leaven)), (.v (.int .i64 y.1.Loaf.Weight)), (.v (.int .i64 y.1.Loaf.Loss)), (.sl 3), (.v (.int .i64 y.1.Book.Rack.Fresh)), (.v (.int .i64 y.1.Book.Rack.Day)), (.v (.int .i64 y.1.Book.Rack.Old)), (.v (.int .i64 y.1.Book.Baked)), (.v (.int .i64 y.1.Book.Sold)), (.v (.int .i64 y.1.Book.Thrown)), (.v (.int .i64 y.1.Money))]), (.sc (.v (.bool y.2)))]), [.dead, .dead, (.row true K.ki64 y.1.Stock.Grams), (.row true K.k_impl_Event y.1.Book.Events)]⟩ := by
 unfold spec_BuyStock_d at h; split at h
 · cases h; rfl
 · cases h
theorem spec_BuyStock_e (k : Nat) (b : Bakery) (k_ : Int) (grams : Int) : callF env (spec_BuyStock_O k) spec_BuyStock_v Try.f43 (k + 1) (spec_BuyStock_A b k_ grams) (fun r => spec_BuyStock_d (r.fin 2 [])) = spec_BuyStock k b k_ grams := by kernel_rfl
noncomputable def spec_BuyStock_x (k : Nat) : Ent1 := fun A R Q => match A with
 | ⟨[(.ag [(.sl 0), (.v (.int .i64 a2)), (.v (.int .i64 a3)), (.v (.int .i64 a4)), (.v (.int .i64 a5)), (.v (.int .i64 a6)), (.sl 1), (.v (.int .i64 a8)), (.v (.int .i64 a9)), (.v (.int .i64 a10)), (.v (.int .i64 a11)), (.v (.int .i64 a12)), (.v (.int .i64 a13)), (.v (.int .i64 a14))]), (.sc (.v (.int .i64 a15))), (.sc (.v (.int .i64 a16)))], [(.row false K.ki64 a1), (.row false K.k_impl_Event a7)]⟩ => (spec_BuyStock k (⟨(⟨a1⟩ : Stock), (⟨a2, a3, a4⟩ : Dough), (⟨a5, a6⟩ : Loaf), (⟨a7, (⟨a8, a9, a10⟩ : Rack), a11, a12, a13⟩ : Book), a14⟩ : Bakery) a15 a16).bind fun y => Q ⟨(.tp [(.ag [(.sl 2), (.v (.int .i64 y.1.Dough.Water)), (.v (.int .i64 y.1.Dough.Salt)), (.v (.int .i64 y.1.Dough.Leaven)), (.v (.int .i64 y.1.Loaf.Weight)), (.v (.int .i64 y.1.Loaf.Loss)), (.sl 3), (.v (.int .i64 y.1.Book.Rack.Fresh)), (.v (.int .i64 y.1.Book.Rack.Day)), (.v (.int .i64 y.1.Book.Rack.Old)), (.v (.int .i64 y.1.Book.Baked)), (.v (.int .i64 y.1.Book.Sold)), (.v (.int .i64 y.1.Book.Thrown)), (.v (.int .i64 y.1.Money))]), (.sc (.v (.bool y.2)))]), [.dead, .dead, (.row true K.ki64 y.1.Stock.Grams), (.row true K.k_impl_Event y.1.Book.Events)]⟩
 | _ => none
theorem spec_BuyStock_ok (k : Nat) : OkE Try.prog 43 (spec_BuyStock_x k) := by
 intro A R Q x h
 unfold spec_BuyStock_x at h
 split at h
 · obtain ⟨y, hy, hK⟩ := Option.bind_eq_some_iff.1 h
   obtain ⟨r, hr, hd⟩ := callF_ok envOk (spec_BuyStock_Ok k) follows Try.func43 (by kernel_rfl) ((spec_BuyStock_e k _ _ _).trans hy)
   exact ⟨_, spec_BuyStock_i hd ▸ hr.fin [], hK⟩
 · cases h
/-! ### impl.FillStock: function 89 -/
noncomputable def impl_FillStock (k : Nat)  (s : Stock) (k_ : Int) (grams : Int) : Option (Stock × Bool) :=
 (impl_stockCopy k s).bind fun y1 =>
 (impl_StoreOk k s).bind fun y2 =>
  cond (!y2)
   (some (y1, false))
   ((impl_in k k_ 0 3).bind fun y3 =>
    cond (!y3)
     (some (y1, false))
     ((impl_in k grams 0 1000000).bind fun y4 =>
      cond (!y4)
       (some (y1, false))
       (if 0 ≤ (k_ : Int) ∧ (k_ : Int) < ((y1.Grams).length : Int) then
        if 0 ≤ (k_ : Int) ∧ (k_ : Int) < ((y1.Grams).length : Int) then
        (impl_StoreOk k (⟨(y1.Grams.set (Int.toNat k_) (wr ((y1.Grams.getD (Int.toNat k_) 0) + grams)))⟩ : Stock)).bind fun y5 =>
        cond (!y5)
        ((impl_stockCopy k s).bind fun y6 =>
        some (y6, false))
        (some ((⟨(y1.Grams.set (Int.toNat k_) (wr ((y1.Grams.getD (Int.toNat k_) 0) + grams)))⟩ : Stock), true)) else none else none)))
noncomputable def impl_FillStock_v : Nat → List Nat := fun t => match t with | _ => []
noncomputable def impl_FillStock_O (k : Nat) : Oracle := ofL [(101, impl_stockCopy_x k), (68, impl_StoreOk_x k), (71, impl_in_x k)]
theorem impl_FillStock_Ok (k : Nat) : OkO (Ct Try.prog) (impl_FillStock_O k) := okO_cons (impl_stockCopy_ok k) (okO_cons (impl_StoreOk_ok k) (okO_cons (impl_in_ok k) (okO_nil)))
noncomputable def impl_FillStock_A (s : Stock) (k_ : Int) (grams : Int) : Pk := ⟨[(.ag [(.sl 0)]), (.sc (.v (.int .i64 k_))), (.sc (.v (.int .i64 grams)))], [(.row false K.ki64 s.Grams)]⟩
noncomputable def impl_FillStock_d : Rs → Option (Stock × Bool)
 | ⟨(.tp [(.ag [(.sl 1)]), (.sc (.v (.bool r2)))]), [.dead, (.row true K.ki64 r1)]⟩ => some ((⟨r1⟩ : Stock), r2)
 | _ => none
theorem impl_FillStock_i {r : Rs} {y : Stock × Bool} (h : impl_FillStock_d r = some y) : r = ⟨(.tp [(.ag [(.sl 1)]), (.sc (.v (.bool y.2)))]), [.dead, (.row true K.ki64 y.1.Grams)]⟩ := by
 unfold impl_FillStock_d at h; split at h
 · cases h; rfl
 · cases h
theorem impl_FillStock_e (k : Nat) (s : Stock) (k_ : Int) (grams : Int) : callF env (impl_FillStock_O k) impl_FillStock_v Try.f89 (k + 1) (impl_FillStock_A s k_ grams) (fun r => impl_FillStock_d (r.fin 1 [])) = impl_FillStock k s k_ grams := by kernel_rfl
noncomputable def impl_FillStock_x (k : Nat) : Ent1 := fun A R Q => match A with
 | ⟨[(.ag [(.sl 0)]), (.sc (.v (.int .i64 a2))), (.sc (.v (.int .i64 a3)))], [(.row false K.ki64 a1)]⟩ => (impl_FillStock k (⟨a1⟩ : Stock) a2 a3).bind fun y => Q ⟨(.tp [(.ag [(.sl 1)]), (.sc (.v (.bool y.2)))]), [.dead, (.row true K.ki64 y.1.Grams)]⟩
 | _ => none
theorem impl_FillStock_ok (k : Nat) : OkE Try.prog 89 (impl_FillStock_x k) := by
 intro A R Q x h
 unfold impl_FillStock_x at h
 split at h
 · obtain ⟨y, hy, hK⟩ := Option.bind_eq_some_iff.1 h
   obtain ⟨r, hr, hd⟩ := callF_ok envOk (impl_FillStock_Ok k) follows Try.func89 (by kernel_rfl) ((impl_FillStock_e k _ _ _).trans hy)
   exact ⟨_, impl_FillStock_i hd ▸ hr.fin [], hK⟩
 · cases h
/-! ### impl.up: function 90 -/
noncomputable def impl_up (k : Nat)  (a : Int) (b : Int) : Option (Int) :=
 if (b : Int) ≠ 0 then
 some (wr (Int.tdiv (wr ((wr (a + b)) - 1)) b)) else none
noncomputable def impl_up_v : Nat → List Nat := fun t => match t with | _ => []
noncomputable def impl_up_O (k : Nat) : Oracle := ofL []
theorem impl_up_Ok (k : Nat) : OkO (Ct Try.prog) (impl_up_O k) := okO_nil
noncomputable def impl_up_A (a : Int) (b : Int) : Pk := ⟨[(.sc (.v (.int .i64 a))), (.sc (.v (.int .i64 b)))], []⟩
noncomputable def impl_up_d : Rs → Option (Int)
 | ⟨(.a (.sc (.v (.int .i64 r1)))), []⟩ => some r1
 | _ => none
theorem impl_up_i {r : Rs} {y : Int} (h : impl_up_d r = some y) : r = ⟨(.a (.sc (.v (.int .i64 y)))), []⟩ := by
 unfold impl_up_d at h; split at h
 · cases h; rfl
 · cases h
theorem impl_up_e (k : Nat) (a : Int) (b : Int) : callF env (impl_up_O k) impl_up_v Try.f90 (k + 1) (impl_up_A a b) (fun r => impl_up_d (r.fin 0 [])) = impl_up k a b := by kernel_rfl
noncomputable def impl_up_x (k : Nat) : Ent1 := fun A R Q => match A with
 | ⟨[(.sc (.v (.int .i64 a1))), (.sc (.v (.int .i64 a2)))], []⟩ => (impl_up k a1 a2).bind fun y => Q ⟨(.a (.sc (.v (.int .i64 y)))), []⟩
 | _ => none
theorem impl_up_ok (k : Nat) : OkE Try.prog 90 (impl_up_x k) := by
 intro A R Q x h
 unfold impl_up_x at h
 split at h
 · obtain ⟨y, hy, hK⟩ := Option.bind_eq_some_iff.1 h
   obtain ⟨r, hr, hd⟩ := callF_ok envOk (impl_up_Ok k) follows Try.func90 (by kernel_rfl) ((impl_up_e k _ _).trans hy)
   exact ⟨_, impl_up_i hd ▸ hr.fin [], hK⟩
 · cases h
/-! ### impl.BuyStock$1: function 88 -/
noncomputable def impl_BuyStock_1 (k : Nat)  (own : Bakery) (p1 : Int) (p2 : Int) : Option (Bool × (List Int) × (List Event) × Bakery) :=
 (impl_FillStock k own.Stock p1 p2).bind fun y1 =>
 cond y1.2
  ((impl_up k p2 100).bind fun y2 =>
   some (y1.2, own.Stock.Grams, own.Book.Events, (⟨y1.1, own.Dough, own.Loaf, own.Book, (wr (own.Money - y2))⟩ : Bakery)))
  (some (y1.2, own.Stock.Grams, own.Book.Events, (⟨y1.1, own.Dough, own.Loaf, own.Book, own.Money⟩ : Bakery)))
noncomputable def impl_BuyStock_1_v : Nat → List Nat := fun t => match t with | _ => []
noncomputable def impl_BuyStock_1_O (k : Nat) : Oracle := ofL [(89, impl_FillStock_x k), (90, impl_up_x k)]
theorem impl_BuyStock_1_Ok (k : Nat) : OkO (Ct Try.prog) (impl_BuyStock_1_O k) := okO_cons (impl_FillStock_ok k) (okO_cons (impl_up_ok k) (okO_nil))
noncomputable def impl_BuyStock_1_A (own : Bakery) (p1 : Int) (p2 : Int) : Pk := ⟨[(.sc (.bp 2 0)), (.sc (.bp 3 0)), (.sc (.bp 4 0))], [(.row true K.ki64 own.Stock.Grams), (.row true K.k_impl_Event own.Book.Events), (.box true [(.sl 0), (.v (.int .i64 own.Dough.Water)), (.v (.int .i64 own.Dough.Salt)), (.v (.int .i64 own.Dough.Leaven)), (.v (.int .i64 own.Loaf.Weight)), (.v (.int .i64 own.Loaf.Loss)), (.sl 1), (.v (.int .i64 own.Book.Rack.Fresh)), (.v (.int .i64 own.Book.Rack.Day)), (.v (.int .i64 own.Book.Rack.Old)), (.v (.int .i64 own.Book.Baked)), (.v (.int .i64 own.Book.Sold)), (.v (.int .i64 own.Book.Thrown)), (.v (.int .i64 own.Money))]), (.box false [(.v (.int .i64 p1))]), (.box false [(.v (.int .i64 p2))])]⟩
noncomputable def impl_BuyStock_1_d : Rs → Option (Bool × (List Int) × (List Event) × Bakery)
 | ⟨(.a (.sc (.v (.bool r1)))), [(.row true K.ki64 r2), (.row true K.k_impl_Event r3), (.box true [(.sl 5), (.v (.int .i64 r5)), (.v (.int .i64 r6)), (.v (.int .i64 r7)), (.v (.int .i64 r8)), (.v (.int .i64 r9)), (.sl 1), (.v (.int .i64 r10)), (.v (.int .i64 r11)), (.v (.int .i64 r12)), (.v (.int .i64 r13)), (.v (.int .i64 r14)), (.v (.int .i64 r15)), (.v (.int .i64 r16))]), .dead, .dead, (.row true K.ki64 r4)]⟩ => some (r1, r2, r3, (⟨(⟨r4⟩ : Stock), (⟨r5, r6, r7⟩ : Dough), (⟨r8, r9⟩ : Loaf), (⟨r3, (⟨r10, r11, r12⟩ : Rack), r13, r14, r15⟩ : Book), r16⟩ : Bakery))
 | _ => none
theorem impl_BuyStock_1_i {r : Rs} {y : Bool × (List Int) × (List Event) × Bakery} (h : impl_BuyStock_1_d r = some y) : r = ⟨(.a (.sc (.v (.bool y.1)))), [(.row true K.ki64 y.2.1), (.row true K.k_impl_Event y.2.2.1), (.box true [(.sl 5), (.v (.int .i64 y.2.2.2.Dough.Water)), (.v (.int .i64 y.2.2.2.Dough.Salt)), (.v (.int .i64 y.2.2.2.Dough.Leaven)), (.v (.int .i64 y.2.2.2.Loaf.Weight)), (.v (.int .i64 y.2.2.2.Loaf.Loss)), (.sl 1), (.v (.int .i64 y.2.2.2.Book.Rack.Fresh)), (.v (.int .i64 y.2.2.2.Book.Rack.Day)), (.v (.int .i64 y.2.2.2.Book.Rack.Old)), (.v (.int .i64 y.2.2.2.Book.Baked)), (.v (.int .i64 y.2.2.2.Book.Sold)), (.v (.int .i64 y.2.2.2.Book.Thrown)), (.v (.int .i64 y.2.2.2.Money))]), .dead, .dead, (.row true K.ki64 y.2.2.2.Stock.Grams)]⟩ := by
 unfold impl_BuyStock_1_d at h; split at h
 · cases h; rfl
 · cases h
theorem impl_BuyStock_1_e (k : Nat) (own : Bakery) (p1 : Int) (p2 : Int) : callF env (impl_BuyStock_1_O k) impl_BuyStock_1_v Try.f88 (k + 1) (impl_BuyStock_1_A own p1 p2) (fun r => impl_BuyStock_1_d (r.fin 5 [])) = impl_BuyStock_1 k own p1 p2 := by kernel_rfl
noncomputable def impl_BuyStock_1_x (k : Nat) : Ent1 := fun A R Q => match A with
 | ⟨[(.sc (.bp 2 0)), (.sc (.bp 3 0)), (.sc (.bp 4 0))], [(.row true K.ki64 a1), (.row true K.k_impl_Event a7), (.box true [(.sl 0), (.v (.int .i64 a2)), (.v (.int .i64 a3)), (.v (.int .i64 a4)), (.v (.int .i64 a5)), (.v (.int .i64 a6)), (.sl 1), (.v (.int .i64 a8)), (.v (.int .i64 a9)), (.v (.int .i64 a10)), (.v (.int .i64 a11)), (.v (.int .i64 a12)), (.v (.int .i64 a13)), (.v (.int .i64 a14))]), (.box false [(.v (.int .i64 a15))]), (.box false [(.v (.int .i64 a16))])]⟩ => (impl_BuyStock_1 k (⟨(⟨a1⟩ : Stock), (⟨a2, a3, a4⟩ : Dough), (⟨a5, a6⟩ : Loaf), (⟨a7, (⟨a8, a9, a10⟩ : Rack), a11, a12, a13⟩ : Book), a14⟩ : Bakery) a15 a16).bind fun y => Q ⟨(.a (.sc (.v (.bool y.1)))), [(.row true K.ki64 y.2.1), (.row true K.k_impl_Event y.2.2.1), (.box true [(.sl 5), (.v (.int .i64 y.2.2.2.Dough.Water)), (.v (.int .i64 y.2.2.2.Dough.Salt)), (.v (.int .i64 y.2.2.2.Dough.Leaven)), (.v (.int .i64 y.2.2.2.Loaf.Weight)), (.v (.int .i64 y.2.2.2.Loaf.Loss)), (.sl 1), (.v (.int .i64 y.2.2.2.Book.Rack.Fresh)), (.v (.int .i64 y.2.2.2.Book.Rack.Day)), (.v (.int .i64 y.2.2.2.Book.Rack.Old)), (.v (.int .i64 y.2.2.2.Book.Baked)), (.v (.int .i64 y.2.2.2.Book.Sold)), (.v (.int .i64 y.2.2.2.Book.Thrown)), (.v (.int .i64 y.2.2.2.Money))]), .dead, .dead, (.row true K.ki64 y.2.2.2.Stock.Grams)]⟩
 | _ => none
theorem impl_BuyStock_1_ok (k : Nat) : OkE Try.prog 88 (impl_BuyStock_1_x k) := by
 intro A R Q x h
 unfold impl_BuyStock_1_x at h
 split at h
 · obtain ⟨y, hy, hK⟩ := Option.bind_eq_some_iff.1 h
   obtain ⟨r, hr, hd⟩ := callF_ok envOk (impl_BuyStock_1_Ok k) follows Try.func88 (by kernel_rfl) ((impl_BuyStock_1_e k _ _ _).trans hy)
   exact ⟨_, impl_BuyStock_1_i hd ▸ hr.fin [], hK⟩
 · cases h
/-! ### impl.changed: function 83 -/
noncomputable def impl_changed_88 (k : Nat)  (b : Bakery) (how_0 : Int) (how_1 : Int) : Option (Bakery × Bool) :=
 (impl_bakeryCopy k b).bind fun y1 =>
 (impl_BakeryOk k b).bind fun y2 =>
  cond (!y2)
   ((impl_bakeryCopy k b).bind fun y3 =>
    some (y3, false))
   ((impl_BuyStock_1 k y1 how_0 how_1).bind fun y4 =>
    cond (!y4.1)
     ((impl_bakeryCopy k b).bind fun y5 =>
      some (y5, false))
     ((impl_BakeryOk k (⟨y4.2.2.2.Stock, y4.2.2.2.Dough, y4.2.2.2.Loaf, (⟨y4.2.2.1, y4.2.2.2.Book.Rack, y4.2.2.2.Book.Baked, y4.2.2.2.Book.Sold, y4.2.2.2.Book.Thrown⟩ : Book), y4.2.2.2.Money⟩ : Bakery)).bind fun y6 =>
      cond (!y6)
       ((impl_bakeryCopy k b).bind fun y7 =>
        some (y7, false))
       (some ((⟨y4.2.2.2.Stock, y4.2.2.2.Dough, y4.2.2.2.Loaf, (⟨y4.2.2.1, y4.2.2.2.Book.Rack, y4.2.2.2.Book.Baked, y4.2.2.2.Book.Sold, y4.2.2.2.Book.Thrown⟩ : Book), y4.2.2.2.Money⟩ : Bakery), true))))
noncomputable def impl_changed_88_v : Nat → List Nat := fun t => match t with | _ => []
noncomputable def impl_changed_88_O (k : Nat) : Oracle := ofL [(26, impl_BakeryOk_x k), (77, impl_bakeryCopy_x k), (88, impl_BuyStock_1_x k)]
theorem impl_changed_88_Ok (k : Nat) : OkO (Ct Try.prog) (impl_changed_88_O k) := okO_cons (impl_BakeryOk_ok k) (okO_cons (impl_bakeryCopy_ok k) (okO_cons (impl_BuyStock_1_ok k) (okO_nil)))
noncomputable def impl_changed_88_A (b : Bakery) (how_0 : Int) (how_1 : Int) : Pk := ⟨[(.ag [(.sl 0), (.v (.int .i64 b.Dough.Water)), (.v (.int .i64 b.Dough.Salt)), (.v (.int .i64 b.Dough.Leaven)), (.v (.int .i64 b.Loaf.Weight)), (.v (.int .i64 b.Loaf.Loss)), (.sl 1), (.v (.int .i64 b.Book.Rack.Fresh)), (.v (.int .i64 b.Book.Rack.Day)), (.v (.int .i64 b.Book.Rack.Old)), (.v (.int .i64 b.Book.Baked)), (.v (.int .i64 b.Book.Sold)), (.v (.int .i64 b.Book.Thrown)), (.v (.int .i64 b.Money))]), (.sc (.fn 88 [2, 3]))], [(.row false K.ki64 b.Stock.Grams), (.row false K.k_impl_Event b.Book.Events), (.box false [(.v (.int .i64 how_0))]), (.box false [(.v (.int .i64 how_1))])]⟩
noncomputable def impl_changed_88_d : Rs → Option (Bakery × Bool)
 | ⟨(.tp [(.ag [(.sl 4), (.v (.int .i64 r2)), (.v (.int .i64 r3)), (.v (.int .i64 r4)), (.v (.int .i64 r5)), (.v (.int .i64 r6)), (.sl 5), (.v (.int .i64 r8)), (.v (.int .i64 r9)), (.v (.int .i64 r10)), (.v (.int .i64 r11)), (.v (.int .i64 r12)), (.v (.int .i64 r13)), (.v (.int .i64 r14))]), (.sc (.v (.bool r15)))]), [.dead, .dead, .dead, .dead, (.row true K.ki64 r1), (.row true K.k_impl_Event r7)]⟩ => some ((⟨(⟨r1⟩ : Stock), (⟨r2, r3, r4⟩ : Dough), (⟨r5, r6⟩ : Loaf), (⟨r7, (⟨r8, r9, r10⟩ : Rack), r11, r12, r13⟩ : Book), r14⟩ : Bakery), r15)
 | _ => none
theorem impl_changed_88_i {r : Rs} {y : Bakery × Bool} (h : impl_changed_88_d r = some y) : r = ⟨(.tp [(.ag [(.sl 4), (.v (.int .i64 y.1.Dough.Water)), (.v (.int .i64 y.1.Dough.Salt)), (.v (.int .i64 y.1.Dough.Leaven)), (.v (.int .i64 y.1.Loaf.Weight)), (.v (.int .i64 y.1.Loaf.Loss)), (.sl 5), (.v (.int .i64 y.1.Book.Rack.Fresh)), (.v (.int .i64 y.1.Book.Rack.Day)), (.v (.int .i64 y.1.Book.Rack.Old)), (.v (.int .i64 y.1.Book.Baked)), (.v (.int .i64 y.1.Book.Sold)), (.v (.int .i64 y.1.Book.Thrown)), (.v (.int .i64 y.1.Money))]), (.sc (.v (.bool y.2)))]), [.dead, .dead, .dead, .dead, (.row true K.ki64 y.1.Stock.Grams), (.row true K.k_impl_Event y.1.Book.Events)]⟩ := by
 unfold impl_changed_88_d at h; split at h
 · cases h; rfl
 · cases h
theorem impl_changed_88_e (k : Nat) (b : Bakery) (how_0 : Int) (how_1 : Int) : callF env (impl_changed_88_O k) impl_changed_88_v Try.f83 (k + 1) (impl_changed_88_A b how_0 how_1) (fun r => impl_changed_88_d (r.fin 4 [])) = impl_changed_88 k b how_0 how_1 := by kernel_rfl
noncomputable def impl_changed_88_x (k : Nat) : Ent1 := fun A R Q => match A with
 | ⟨[(.ag [(.sl 0), (.v (.int .i64 a2)), (.v (.int .i64 a3)), (.v (.int .i64 a4)), (.v (.int .i64 a5)), (.v (.int .i64 a6)), (.sl 1), (.v (.int .i64 a8)), (.v (.int .i64 a9)), (.v (.int .i64 a10)), (.v (.int .i64 a11)), (.v (.int .i64 a12)), (.v (.int .i64 a13)), (.v (.int .i64 a14))]), (.sc (.fn 88 [2, 3]))], [(.row false K.ki64 a1), (.row false K.k_impl_Event a7), (.box false [(.v (.int .i64 a15))]), (.box false [(.v (.int .i64 a16))])]⟩ => (impl_changed_88 k (⟨(⟨a1⟩ : Stock), (⟨a2, a3, a4⟩ : Dough), (⟨a5, a6⟩ : Loaf), (⟨a7, (⟨a8, a9, a10⟩ : Rack), a11, a12, a13⟩ : Book), a14⟩ : Bakery) a15 a16).bind fun y => Q ⟨(.tp [(.ag [(.sl 4), (.v (.int .i64 y.1.Dough.Water)), (.v (.int .i64 y.1.Dough.Salt)), (.v (.int .i64 y.1.Dough.Leaven)), (.v (.int .i64 y.1.Loaf.Weight)), (.v (.int .i64 y.1.Loaf.Loss)), (.sl 5), (.v (.int .i64 y.1.Book.Rack.Fresh)), (.v (.int .i64 y.1.Book.Rack.Day)), (.v (.int .i64 y.1.Book.Rack.Old)), (.v (.int .i64 y.1.Book.Baked)), (.v (.int .i64 y.1.Book.Sold)), (.v (.int .i64 y.1.Book.Thrown)), (.v (.int .i64 y.1.Money))]), (.sc (.v (.bool y.2)))]), [.dead, .dead, .dead, .dead, (.row true K.ki64 y.1.Stock.Grams), (.row true K.k_impl_Event y.1.Book.Events)]⟩
 | _ => none
theorem impl_changed_88_ok (k : Nat) : OkE Try.prog 83 (impl_changed_88_x k) := by
 intro A R Q x h
 unfold impl_changed_88_x at h
 split at h
 · obtain ⟨y, hy, hK⟩ := Option.bind_eq_some_iff.1 h
   obtain ⟨r, hr, hd⟩ := callF_ok envOk (impl_changed_88_Ok k) follows Try.func83 (by kernel_rfl) ((impl_changed_88_e k _ _ _).trans hy)
   exact ⟨_, impl_changed_88_i hd ▸ hr.fin [], hK⟩
 · cases h
/-! ### impl.BuyStock: function 44 -/
noncomputable def impl_BuyStock (k : Nat)  (b : Bakery) (k_ : Int) (grams : Int) : Option (Bakery × Bool) :=
 (impl_changed_88 k b k_ grams).bind fun y1 =>
 some (y1.1, y1.2)
noncomputable def impl_BuyStock_v : Nat → List Nat := fun t => match t with | _ => []
noncomputable def impl_BuyStock_O (k : Nat) : Oracle := ofL [(83, impl_changed_88_x k)]
theorem impl_BuyStock_Ok (k : Nat) : OkO (Ct Try.prog) (impl_BuyStock_O k) := okO_cons (impl_changed_88_ok k) (okO_nil)
noncomputable def impl_BuyStock_A (b : Bakery) (k_ : Int) (grams : Int) : Pk := ⟨[(.ag [(.sl 0), (.v (.int .i64 b.Dough.Water)), (.v (.int .i64 b.Dough.Salt)), (.v (.int .i64 b.Dough.Leaven)), (.v (.int .i64 b.Loaf.Weight)), (.v (.int .i64 b.Loaf.Loss)), (.sl 1), (.v (.int .i64 b.Book.Rack.Fresh)), (.v (.int .i64 b.Book.Rack.Day)), (.v (.int .i64 b.Book.Rack.Old)), (.v (.int .i64 b.Book.Baked)), (.v (.int .i64 b.Book.Sold)), (.v (.int .i64 b.Book.Thrown)), (.v (.int .i64 b.Money))]), (.sc (.v (.int .i64 k_))), (.sc (.v (.int .i64 grams)))], [(.row false K.ki64 b.Stock.Grams), (.row false K.k_impl_Event b.Book.Events)]⟩
noncomputable def impl_BuyStock_d : Rs → Option (Bakery × Bool)
 | ⟨(.tp [(.ag [(.sl 2), (.v (.int .i64 r2)), (.v (.int .i64 r3)), (.v (.int .i64 r4)), (.v (.int .i64 r5)), (.v (.int .i64 r6)), (.sl 3), (.v (.int .i64 r8)), (.v (.int .i64 r9)), (.v (.int .i64 r10)), (.v (.int .i64 r11)), (.v (.int .i64 r12)), (.v (.int .i64 r13)), (.v (.int .i64 r14))]), (.sc (.v (.bool r15)))]), [.dead, .dead, (.row true K.ki64 r1), (.row true K.k_impl_Event r7)]⟩ => some ((⟨(⟨r1⟩ : Stock), (⟨r2, r3, r4⟩ : Dough), (⟨r5, r6⟩ : Loaf), (⟨r7, (⟨r8, r9, r10⟩ : Rack), r11, r12, r13⟩ : Book), r14⟩ : Bakery), r15)
 | _ => none
theorem impl_BuyStock_i {r : Rs} {y : Bakery × Bool} (h : impl_BuyStock_d r = some y) : r = ⟨(.tp [(.ag [(.sl 2), (.v (.int .i64 y.1.Dough.Water)), (.v (.int .i64 y.1.Dough.Salt)), (.v (.int .i64 y.1.Dough.Leaven)), (.v (.int .i64 y.1.Loaf.Weight)), (.v (.int .i64 y.1.Loaf.Loss)), (.sl 3), (.v (.int .i64 y.1.Book.Rack.Fresh)), (.v (.int .i64 y.1.Book.Rack.Day)), (.v (.int .i64 y.1.Book.Rack.Old)), (.v (.int .i64 y.1.Book.Baked)), (.v (.int .i64 y.1.Book.Sold)), (.v (.int .i64 y.1.Book.Thrown)), (.v (.int .i64 y.1.Money))]), (.sc (.v (.bool y.2)))]), [.dead, .dead, (.row true K.ki64 y.1.Stock.Grams), (.row true K.k_impl_Event y.1.Book.Events)]⟩ := by
 unfold impl_BuyStock_d at h; split at h
 · cases h; rfl
 · cases h
theorem impl_BuyStock_e (k : Nat) (b : Bakery) (k_ : Int) (grams : Int) : callF env (impl_BuyStock_O k) impl_BuyStock_v Try.f44 (k + 1) (impl_BuyStock_A b k_ grams) (fun r => impl_BuyStock_d (r.fin 2 [])) = impl_BuyStock k b k_ grams := by kernel_rfl
noncomputable def impl_BuyStock_x (k : Nat) : Ent1 := fun A R Q => match A with
 | ⟨[(.ag [(.sl 0), (.v (.int .i64 a2)), (.v (.int .i64 a3)), (.v (.int .i64 a4)), (.v (.int .i64 a5)), (.v (.int .i64 a6)), (.sl 1), (.v (.int .i64 a8)), (.v (.int .i64 a9)), (.v (.int .i64 a10)), (.v (.int .i64 a11)), (.v (.int .i64 a12)), (.v (.int .i64 a13)), (.v (.int .i64 a14))]), (.sc (.v (.int .i64 a15))), (.sc (.v (.int .i64 a16)))], [(.row false K.ki64 a1), (.row false K.k_impl_Event a7)]⟩ => (impl_BuyStock k (⟨(⟨a1⟩ : Stock), (⟨a2, a3, a4⟩ : Dough), (⟨a5, a6⟩ : Loaf), (⟨a7, (⟨a8, a9, a10⟩ : Rack), a11, a12, a13⟩ : Book), a14⟩ : Bakery) a15 a16).bind fun y => Q ⟨(.tp [(.ag [(.sl 2), (.v (.int .i64 y.1.Dough.Water)), (.v (.int .i64 y.1.Dough.Salt)), (.v (.int .i64 y.1.Dough.Leaven)), (.v (.int .i64 y.1.Loaf.Weight)), (.v (.int .i64 y.1.Loaf.Loss)), (.sl 3), (.v (.int .i64 y.1.Book.Rack.Fresh)), (.v (.int .i64 y.1.Book.Rack.Day)), (.v (.int .i64 y.1.Book.Rack.Old)), (.v (.int .i64 y.1.Book.Baked)), (.v (.int .i64 y.1.Book.Sold)), (.v (.int .i64 y.1.Book.Thrown)), (.v (.int .i64 y.1.Money))]), (.sc (.v (.bool y.2)))]), [.dead, .dead, (.row true K.ki64 y.1.Stock.Grams), (.row true K.k_impl_Event y.1.Book.Events)]⟩
 | _ => none
theorem impl_BuyStock_ok (k : Nat) : OkE Try.prog 44 (impl_BuyStock_x k) := by
 intro A R Q x h
 unfold impl_BuyStock_x at h
 split at h
 · obtain ⟨y, hy, hK⟩ := Option.bind_eq_some_iff.1 h
   obtain ⟨r, hr, hd⟩ := callF_ok envOk (impl_BuyStock_Ok k) follows Try.func44 (by kernel_rfl) ((impl_BuyStock_e k _ _ _).trans hy)
   exact ⟨_, impl_BuyStock_i hd ▸ hr.fin [], hK⟩
 · cases h
/-! ### laws.FnExactBuyStock: function 10 -/
noncomputable def laws_FnExactBuyStock (k : Nat)  (p0 : Bakery) (p1 : Int) (p2 : Int) : Option (Bool) :=
 (laws_szBakery k p0 1048576).bind fun y1 =>
 cond (decide ((y1 : Int) < 0))
  (some true)
  ((laws_toBakery k p0).bind fun y2 =>
   (spec_BuyStock k y2 p1 p2).bind fun y3 =>
    (laws_toBakery k p0).bind fun y4 =>
     (impl_BuyStock k y4 p1 p2).bind fun y5 =>
      (laws_eqBakery k y5.1 y3.1).bind fun y6 =>
       cond (!y6)
        (some false)
        (cond (!(y5.2 == y3.2))
        (some false)
        ((laws_toBakery k p0).bind fun y7 =>
        (laws_eqBakery k y4 y7).bind fun y8 =>
        cond (!y8)
        (some false)
        ((laws_markBakery k y4 1).bind fun y9 =>
        cond (decide ((y9.1 : Int) < 0))
        (some false)
        ((laws_eqBakery k y5.1 y3.1).bind fun y10 =>
        cond (!y10)
        (some false)
        (cond (!(y5.2 == y3.2))
        (some false)
        ((laws_markBakery k y5.1 1).bind fun y11 =>
        (laws_heldBakery k (⟨(⟨y11.2.1⟩ : Stock), y5.1.Dough, y5.1.Loaf, (⟨y11.2.2, y5.1.Book.Rack, y5.1.Book.Baked, y5.1.Book.Sold, y5.1.Book.Thrown⟩ : Book), y5.1.Money⟩ : Bakery) 1).bind fun y12 =>
        cond (decide ((y12 : Int) < 0))
        (some false)
        (cond (!(decide ((y12 : Int) = y11.1)))
        (some false)
        ((laws_toBakery k p0).bind fun y13 =>
        (impl_BuyStock k y13 p1 p2).bind fun y14 =>
        (laws_eqBakery k y14.1 y3.1).bind fun y15 =>
        cond (!y15)
        (some false)
        (cond (!(y14.2 == y3.2))
        (some false)
        ((laws_heldBakery k (⟨(⟨y11.2.1⟩ : Stock), y5.1.Dough, y5.1.Loaf, (⟨y11.2.2, y5.1.Book.Rack, y5.1.Book.Baked, y5.1.Book.Sold, y5.1.Book.Thrown⟩ : Book), y5.1.Money⟩ : Bakery) 1).bind fun y16 =>
        cond (decide ((y16 : Int) < 0))
        (some false)
        (cond (!(decide ((y16 : Int) = y11.1)))
        (some false)
        (some true)))))))))))))
noncomputable def laws_FnExactBuyStock_v : Nat → List Nat := fun t => match t with | _ => []
noncomputable def laws_FnExactBuyStock_O (k : Nat) : Oracle := ofL [(23, laws_szBakery_x k), (25, laws_toBakery_x k), (27, laws_eqBakery_x k), (30, laws_markBakery_x k), (31, laws_heldBakery_x k), (43, spec_BuyStock_x k), (44, impl_BuyStock_x k)]
theorem laws_FnExactBuyStock_Ok (k : Nat) : OkO (Ct Try.prog) (laws_FnExactBuyStock_O k) := okO_cons (laws_szBakery_ok k) (okO_cons (laws_toBakery_ok k) (okO_cons (laws_eqBakery_ok k) (okO_cons (laws_markBakery_ok k) (okO_cons (laws_heldBakery_ok k) (okO_cons (spec_BuyStock_ok k) (okO_cons (impl_BuyStock_ok k) (okO_nil)))))))
noncomputable def laws_FnExactBuyStock_A (p0 : Bakery) (p1 : Int) (p2 : Int) : Pk := ⟨[(.ag [(.sl 0), (.v (.int .i64 p0.Dough.Water)), (.v (.int .i64 p0.Dough.Salt)), (.v (.int .i64 p0.Dough.Leaven)), (.v (.int .i64 p0.Loaf.Weight)), (.v (.int .i64 p0.Loaf.Loss)), (.sl 1), (.v (.int .i64 p0.Book.Rack.Fresh)), (.v (.int .i64 p0.Book.Rack.Day)), (.v (.int .i64 p0.Book.Rack.Old)), (.v (.int .i64 p0.Book.Baked)), (.v (.int .i64 p0.Book.Sold)), (.v (.int .i64 p0.Book.Thrown)), (.v (.int .i64 p0.Money))]), (.sc (.v (.int .i64 p1))), (.sc (.v (.int .i64 p2)))], [(.row false K.ki64 p0.Stock.Grams), (.row false K.k_laws_Event p0.Book.Events)]⟩
noncomputable def laws_FnExactBuyStock_d : Rs → Option (Bool)
 | ⟨(.a (.sc (.v (.bool r1)))), [.dead, .dead]⟩ => some r1
 | _ => none
theorem laws_FnExactBuyStock_i {r : Rs} {y : Bool} (h : laws_FnExactBuyStock_d r = some y) : r = ⟨(.a (.sc (.v (.bool y)))), [.dead, .dead]⟩ := by
 unfold laws_FnExactBuyStock_d at h; split at h
 · cases h; rfl
 · cases h
theorem laws_FnExactBuyStock_e (k : Nat) (p0 : Bakery) (p1 : Int) (p2 : Int) : callF env (laws_FnExactBuyStock_O k) laws_FnExactBuyStock_v Try.f10 (k + 1) (laws_FnExactBuyStock_A p0 p1 p2) (fun r => laws_FnExactBuyStock_d (r.fin 2 [])) = laws_FnExactBuyStock k p0 p1 p2 := by kernel_rfl
noncomputable def laws_FnExactBuyStock_x (k : Nat) : Ent1 := fun A R Q => match A with
 | ⟨[(.ag [(.sl 0), (.v (.int .i64 a2)), (.v (.int .i64 a3)), (.v (.int .i64 a4)), (.v (.int .i64 a5)), (.v (.int .i64 a6)), (.sl 1), (.v (.int .i64 a8)), (.v (.int .i64 a9)), (.v (.int .i64 a10)), (.v (.int .i64 a11)), (.v (.int .i64 a12)), (.v (.int .i64 a13)), (.v (.int .i64 a14))]), (.sc (.v (.int .i64 a15))), (.sc (.v (.int .i64 a16)))], [(.row false K.ki64 a1), (.row false K.k_laws_Event a7)]⟩ => (laws_FnExactBuyStock k (⟨(⟨a1⟩ : Stock), (⟨a2, a3, a4⟩ : Dough), (⟨a5, a6⟩ : Loaf), (⟨a7, (⟨a8, a9, a10⟩ : Rack), a11, a12, a13⟩ : Book), a14⟩ : Bakery) a15 a16).bind fun y => Q ⟨(.a (.sc (.v (.bool y)))), [.dead, .dead]⟩
 | _ => none
theorem laws_FnExactBuyStock_ok (k : Nat) : OkE Try.prog 10 (laws_FnExactBuyStock_x k) := by
 intro A R Q x h
 unfold laws_FnExactBuyStock_x at h
 split at h
 · obtain ⟨y, hy, hK⟩ := Option.bind_eq_some_iff.1 h
   obtain ⟨r, hr, hd⟩ := callF_ok envOk (laws_FnExactBuyStock_Ok k) follows Try.func10 (by kernel_rfl) ((laws_FnExactBuyStock_e k _ _ _).trans hy)
   exact ⟨_, laws_FnExactBuyStock_i hd ▸ hr.fin [], hK⟩
 · cases h
/-! ### spec.SellLoaves: function 45 -/
noncomputable def spec_SellLoaves (k : Nat)  (b : Bakery) (loaves : Int) (cheap : Bool) : Option (Bakery × Bool) :=
 (spec_l01In k loaves 0 1000).bind fun y1 =>
 cond (!y1)
  ((spec_l38Copy k b).bind fun y2 =>
   some (y2, false))
  (cond cheap
   ((spec_l38Enter k b (⟨3, loaves⟩ : Event) (wr ((2 : Int) * loaves))).bind fun y3 =>
    some (y3.1, y3.2))
   ((spec_l38Enter k b (⟨2, loaves⟩ : Event) (wr ((4 : Int) * loaves))).bind fun y4 =>
    some (y4.1, y4.2)))
noncomputable def spec_SellLoaves_v : Nat → List Nat := fun t => match t with | _ => []
noncomputable def spec_SellLoaves_O (k : Nat) : Oracle := ofL [(66, spec_l01In_x k), (82, spec_l38Enter_x k), (86, spec_l38Copy_x k)]
theorem spec_SellLoaves_Ok (k : Nat) : OkO (Ct Try.prog) (spec_SellLoaves_O k) := okO_cons (spec_l01In_ok k) (okO_cons (spec_l38Enter_ok k) (okO_cons (spec_l38Copy_ok k) (okO_nil)))
noncomputable def spec_SellLoaves_A (b : Bakery) (loaves : Int) (cheap : Bool) : Pk := ⟨[(.ag [(.sl 0), (.v (.int .i64 b.Dough.Water)), (.v (.int .i64 b.Dough.Salt)), (.v (.int .i64 b.Dough.Leaven)), (.v (.int .i64 b.Loaf.Weight)), (.v (.int .i64 b.Loaf.Loss)), (.sl 1), (.v (.int .i64 b.Book.Rack.Fresh)), (.v (.int .i64 b.Book.Rack.Day)), (.v (.int .i64 b.Book.Rack.Old)), (.v (.int .i64 b.Book.Baked)), (.v (.int .i64 b.Book.Sold)), (.v (.int .i64 b.Book.Thrown)), (.v (.int .i64 b.Money))]), (.sc (.v (.int .i64 loaves))), (.sc (.v (.bool cheap)))], [(.row false K.ki64 b.Stock.Grams), (.row false K.k_impl_Event b.Book.Events)]⟩
noncomputable def spec_SellLoaves_d : Rs → Option (Bakery × Bool)
 | ⟨(.tp [(.ag [(.sl 2), (.v (.int .i64 r2)), (.v (.int .i64 r3)), (.v (.int .i64 r4)), (.v (.int .i64 r5)), (.v (.int .i64 r6)), (.sl 3), (.v (.int .i64 r8)), (.v (.int .i64 r9)), (.v (.int .i64 r10)), (.v (.int .i64 r11)), (.v (.int .i64 r12)), (.v (.int .i64 r13)), (.v (.int .i64 r14))]), (.sc (.v (.bool r15)))]), [.dead, .dead, (.row true K.ki64 r1), (.row true K.k_impl_Event r7)]⟩ => some ((⟨(⟨r1⟩ : Stock), (⟨r2, r3, r4⟩ : Dough), (⟨r5, r6⟩ : Loaf), (⟨r7, (⟨r8, r9, r10⟩ : Rack), r11, r12, r13⟩ : Book), r14⟩ : Bakery), r15)
 | _ => none
theorem spec_SellLoaves_i {r : Rs} {y : Bakery × Bool} (h : spec_SellLoaves_d r = some y) : r = ⟨(.tp [(.ag [(.sl 2), (.v (.int .i64 y.1.Dough.Water)), (.v (.int .i64 y.1.Dough.Salt)), (.v (.int .i64 y.1.Dough.Leaven)), (.v (.int .i64 y.1.Loaf.Weight)), (.v (.int .i64 y.1.Loaf.Loss)), (.sl 3), (.v (.int .i64 y.1.Book.Rack.Fresh)), (.v (.int .i64 y.1.Book.Rack.Day)), (.v (.int .i64 y.1.Book.Rack.Old)), (.v (.int .i64 y.1.Book.Baked)), (.v (.int .i64 y.1.Book.Sold)), (.v (.int .i64 y.1.Book.Thrown)), (.v (.int .i64 y.1.Money))]), (.sc (.v (.bool y.2)))]), [.dead, .dead, (.row true K.ki64 y.1.Stock.Grams), (.row true K.k_impl_Event y.1.Book.Events)]⟩ := by
 unfold spec_SellLoaves_d at h; split at h
 · cases h; rfl
 · cases h
theorem spec_SellLoaves_e (k : Nat) (b : Bakery) (loaves : Int) (cheap : Bool) : callF env (spec_SellLoaves_O k) spec_SellLoaves_v Try.f45 (k + 1) (spec_SellLoaves_A b loaves cheap) (fun r => spec_SellLoaves_d (r.fin 2 [])) = spec_SellLoaves k b loaves cheap := by kernel_rfl
noncomputable def spec_SellLoaves_x (k : Nat) : Ent1 := fun A R Q => match A with
 | ⟨[(.ag [(.sl 0), (.v (.int .i64 a2)), (.v (.int .i64 a3)), (.v (.int .i64 a4)), (.v (.int .i64 a5)), (.v (.int .i64 a6)), (.sl 1), (.v (.int .i64 a8)), (.v (.int .i64 a9)), (.v (.int .i64 a10)), (.v (.int .i64 a11)), (.v (.int .i64 a12)), (.v (.int .i64 a13)), (.v (.int .i64 a14))]), (.sc (.v (.int .i64 a15))), (.sc (.v (.bool a16)))], [(.row false K.ki64 a1), (.row false K.k_impl_Event a7)]⟩ => (spec_SellLoaves k (⟨(⟨a1⟩ : Stock), (⟨a2, a3, a4⟩ : Dough), (⟨a5, a6⟩ : Loaf), (⟨a7, (⟨a8, a9, a10⟩ : Rack), a11, a12, a13⟩ : Book), a14⟩ : Bakery) a15 a16).bind fun y => Q ⟨(.tp [(.ag [(.sl 2), (.v (.int .i64 y.1.Dough.Water)), (.v (.int .i64 y.1.Dough.Salt)), (.v (.int .i64 y.1.Dough.Leaven)), (.v (.int .i64 y.1.Loaf.Weight)), (.v (.int .i64 y.1.Loaf.Loss)), (.sl 3), (.v (.int .i64 y.1.Book.Rack.Fresh)), (.v (.int .i64 y.1.Book.Rack.Day)), (.v (.int .i64 y.1.Book.Rack.Old)), (.v (.int .i64 y.1.Book.Baked)), (.v (.int .i64 y.1.Book.Sold)), (.v (.int .i64 y.1.Book.Thrown)), (.v (.int .i64 y.1.Money))]), (.sc (.v (.bool y.2)))]), [.dead, .dead, (.row true K.ki64 y.1.Stock.Grams), (.row true K.k_impl_Event y.1.Book.Events)]⟩
 | _ => none
theorem spec_SellLoaves_ok (k : Nat) : OkE Try.prog 45 (spec_SellLoaves_x k) := by
 intro A R Q x h
 unfold spec_SellLoaves_x at h
 split at h
 · obtain ⟨y, hy, hK⟩ := Option.bind_eq_some_iff.1 h
   obtain ⟨r, hr, hd⟩ := callF_ok envOk (spec_SellLoaves_Ok k) follows Try.func45 (by kernel_rfl) ((spec_SellLoaves_e k _ _ _).trans hy)
   exact ⟨_, spec_SellLoaves_i hd ▸ hr.fin [], hK⟩
 · cases h
/-! ### impl.SellLoaves$1: function 91 -/
noncomputable def impl_SellLoaves_1 (k : Nat)  (own : Bakery) (p1 : Bool) (p2 : Int) : Option (Bool × (List Int) × (List Event) × Bakery) :=
 cond p1
 ((impl_Bakery_enter k (⟨own.Stock, own.Dough, own.Loaf, own.Book, (wr (own.Money + (wr ((2 : Int) * p2))))⟩ : Bakery) (⟨3, p2⟩ : Event)).bind fun y1 =>
  some (y1.1, y1.2.1, y1.2.2.1, (⟨(⟨y1.2.1⟩ : Stock), y1.2.2.2.Dough, y1.2.2.2.Loaf, y1.2.2.2.Book, y1.2.2.2.Money⟩ : Bakery)))
 ((impl_Bakery_enter k (⟨own.Stock, own.Dough, own.Loaf, own.Book, (wr (own.Money + (wr ((4 : Int) * p2))))⟩ : Bakery) (⟨2, p2⟩ : Event)).bind fun y2 =>
  some (y2.1, y2.2.1, y2.2.2.1, (⟨(⟨y2.2.1⟩ : Stock), y2.2.2.2.Dough, y2.2.2.2.Loaf, y2.2.2.2.Book, y2.2.2.2.Money⟩ : Bakery)))
noncomputable def impl_SellLoaves_1_v : Nat → List Nat := fun t => match t with | _ => []
noncomputable def impl_SellLoaves_1_O (k : Nat) : Oracle := ofL [(85, impl_Bakery_enter_x k)]
theorem impl_SellLoaves_1_Ok (k : Nat) : OkO (Ct Try.prog) (impl_SellLoaves_1_O k) := okO_cons (impl_Bakery_enter_ok k) (okO_nil)
noncomputable def impl_SellLoaves_1_A (own : Bakery) (p1 : Bool) (p2 : Int) : Pk := ⟨[(.sc (.bp 2 0)), (.sc (.bp 3 0)), (.sc (.bp 4 0))], [(.row true K.ki64 own.Stock.Grams), (.row true K.k_impl_Event own.Book.Events), (.box true [(.sl 0), (.v (.int .i64 own.Dough.Water)), (.v (.int .i64 own.Dough.Salt)), (.v (.int .i64 own.Dough.Leaven)), (.v (.int .i64 own.Loaf.Weight)), (.v (.int .i64 own.Loaf.Loss)), (.sl 1), (.v (.int .i64 own.Book.Rack.Fresh)), (.v (.int .i64 own.Book.Rack.Day)), (.v (.int .i64 own.Book.Rack.Old)), (.v (.int .i64 own.Book.Baked)), (.v (.int .i64 own.Book.Sold)), (.v (.int .i64 own.Book.Thrown)), (.v (.int .i64 own.Money))]), (.box false [(.v (.bool p1))]), (.box false [(.v (.int .i64 p2))])]⟩
noncomputable def impl_SellLoaves_1_d : Rs → Option (Bool × (List Int) × (List Event) × Bakery)
 | ⟨(.a (.sc (.v (.bool r1)))), [(.row true K.ki64 r2), (.row true K.k_impl_Event r3), (.box true [(.sl 0), (.v (.int .i64 r4)), (.v (.int .i64 r5)), (.v (.int .i64 r6)), (.v (.int .i64 r7)), (.v (.int .i64 r8)), (.sl 5), (.v (.int .i64 r10)), (.v (.int .i64 r11)), (.v (.int .i64 r12)), (.v (.int .i64 r13)), (.v (.int .i64 r14)), (.v (.int .i64 r15)), (.v (.int .i64 r16))]), .dead, .dead, (.row true K.k_impl_Event r9)]⟩ => some (r1, r2, r3, (⟨(⟨r2⟩ : Stock), (⟨r4, r5, r6⟩ : Dough), (⟨r7, r8⟩ : Loaf), (⟨r9, (⟨r10, r11, r12⟩ : Rack), r13, r14, r15⟩ : Book), r16⟩ : Bakery))
 | _ => none
theorem impl_SellLoaves_1_i {r : Rs} {y : Bool × (List Int) × (List Event) × Bakery} (h : impl_SellLoaves_1_d r = some y) : r = ⟨(.a (.sc (.v (.bool y.1)))), [(.row true K.ki64 y.2.1), (.row true K.k_impl_Event y.2.2.1), (.box true [(.sl 0), (.v (.int .i64 y.2.2.2.Dough.Water)), (.v (.int .i64 y.2.2.2.Dough.Salt)), (.v (.int .i64 y.2.2.2.Dough.Leaven)), (.v (.int .i64 y.2.2.2.Loaf.Weight)), (.v (.int .i64 y.2.2.2.Loaf.Loss)), (.sl 5), (.v (.int .i64 y.2.2.2.Book.Rack.Fresh)), (.v (.int .i64 y.2.2.2.Book.Rack.Day)), (.v (.int .i64 y.2.2.2.Book.Rack.Old)), (.v (.int .i64 y.2.2.2.Book.Baked)), (.v (.int .i64 y.2.2.2.Book.Sold)), (.v (.int .i64 y.2.2.2.Book.Thrown)), (.v (.int .i64 y.2.2.2.Money))]), .dead, .dead, (.row true K.k_impl_Event y.2.2.2.Book.Events)]⟩ := by
 unfold impl_SellLoaves_1_d at h; split at h
 · cases h; rfl
 · cases h
theorem impl_SellLoaves_1_e (k : Nat) (own : Bakery) (p1 : Bool) (p2 : Int) : callF env (impl_SellLoaves_1_O k) impl_SellLoaves_1_v Try.f91 (k + 1) (impl_SellLoaves_1_A own p1 p2) (fun r => impl_SellLoaves_1_d (r.fin 5 [])) = impl_SellLoaves_1 k own p1 p2 := by kernel_rfl
noncomputable def impl_SellLoaves_1_x (k : Nat) : Ent1 := fun A R Q => match A with
 | ⟨[(.sc (.bp 2 0)), (.sc (.bp 3 0)), (.sc (.bp 4 0))], [(.row true K.ki64 a1), (.row true K.k_impl_Event a7), (.box true [(.sl 0), (.v (.int .i64 a2)), (.v (.int .i64 a3)), (.v (.int .i64 a4)), (.v (.int .i64 a5)), (.v (.int .i64 a6)), (.sl 1), (.v (.int .i64 a8)), (.v (.int .i64 a9)), (.v (.int .i64 a10)), (.v (.int .i64 a11)), (.v (.int .i64 a12)), (.v (.int .i64 a13)), (.v (.int .i64 a14))]), (.box false [(.v (.bool a15))]), (.box false [(.v (.int .i64 a16))])]⟩ => (impl_SellLoaves_1 k (⟨(⟨a1⟩ : Stock), (⟨a2, a3, a4⟩ : Dough), (⟨a5, a6⟩ : Loaf), (⟨a7, (⟨a8, a9, a10⟩ : Rack), a11, a12, a13⟩ : Book), a14⟩ : Bakery) a15 a16).bind fun y => Q ⟨(.a (.sc (.v (.bool y.1)))), [(.row true K.ki64 y.2.1), (.row true K.k_impl_Event y.2.2.1), (.box true [(.sl 0), (.v (.int .i64 y.2.2.2.Dough.Water)), (.v (.int .i64 y.2.2.2.Dough.Salt)), (.v (.int .i64 y.2.2.2.Dough.Leaven)), (.v (.int .i64 y.2.2.2.Loaf.Weight)), (.v (.int .i64 y.2.2.2.Loaf.Loss)), (.sl 5), (.v (.int .i64 y.2.2.2.Book.Rack.Fresh)), (.v (.int .i64 y.2.2.2.Book.Rack.Day)), (.v (.int .i64 y.2.2.2.Book.Rack.Old)), (.v (.int .i64 y.2.2.2.Book.Baked)), (.v (.int .i64 y.2.2.2.Book.Sold)), (.v (.int .i64 y.2.2.2.Book.Thrown)), (.v (.int .i64 y.2.2.2.Money))]), .dead, .dead, (.row true K.k_impl_Event y.2.2.2.Book.Events)]⟩
 | _ => none
theorem impl_SellLoaves_1_ok (k : Nat) : OkE Try.prog 91 (impl_SellLoaves_1_x k) := by
 intro A R Q x h
 unfold impl_SellLoaves_1_x at h
 split at h
 · obtain ⟨y, hy, hK⟩ := Option.bind_eq_some_iff.1 h
   obtain ⟨r, hr, hd⟩ := callF_ok envOk (impl_SellLoaves_1_Ok k) follows Try.func91 (by kernel_rfl) ((impl_SellLoaves_1_e k _ _ _).trans hy)
   exact ⟨_, impl_SellLoaves_1_i hd ▸ hr.fin [], hK⟩
 · cases h
/-! ### impl.changed: function 83 -/
noncomputable def impl_changed_91 (k : Nat)  (b : Bakery) (how_0 : Bool) (how_1 : Int) : Option (Bakery × Bool) :=
 (impl_bakeryCopy k b).bind fun y1 =>
 (impl_BakeryOk k b).bind fun y2 =>
  cond (!y2)
   ((impl_bakeryCopy k b).bind fun y3 =>
    some (y3, false))
   ((impl_SellLoaves_1 k y1 how_0 how_1).bind fun y4 =>
    cond (!y4.1)
     ((impl_bakeryCopy k b).bind fun y5 =>
      some (y5, false))
     ((impl_BakeryOk k (⟨(⟨y4.2.1⟩ : Stock), y4.2.2.2.Dough, y4.2.2.2.Loaf, y4.2.2.2.Book, y4.2.2.2.Money⟩ : Bakery)).bind fun y6 =>
      cond (!y6)
       ((impl_bakeryCopy k b).bind fun y7 =>
        some (y7, false))
       (some ((⟨(⟨y4.2.1⟩ : Stock), y4.2.2.2.Dough, y4.2.2.2.Loaf, y4.2.2.2.Book, y4.2.2.2.Money⟩ : Bakery), true))))
noncomputable def impl_changed_91_v : Nat → List Nat := fun t => match t with | _ => []
noncomputable def impl_changed_91_O (k : Nat) : Oracle := ofL [(26, impl_BakeryOk_x k), (77, impl_bakeryCopy_x k), (91, impl_SellLoaves_1_x k)]
theorem impl_changed_91_Ok (k : Nat) : OkO (Ct Try.prog) (impl_changed_91_O k) := okO_cons (impl_BakeryOk_ok k) (okO_cons (impl_bakeryCopy_ok k) (okO_cons (impl_SellLoaves_1_ok k) (okO_nil)))
noncomputable def impl_changed_91_A (b : Bakery) (how_0 : Bool) (how_1 : Int) : Pk := ⟨[(.ag [(.sl 0), (.v (.int .i64 b.Dough.Water)), (.v (.int .i64 b.Dough.Salt)), (.v (.int .i64 b.Dough.Leaven)), (.v (.int .i64 b.Loaf.Weight)), (.v (.int .i64 b.Loaf.Loss)), (.sl 1), (.v (.int .i64 b.Book.Rack.Fresh)), (.v (.int .i64 b.Book.Rack.Day)), (.v (.int .i64 b.Book.Rack.Old)), (.v (.int .i64 b.Book.Baked)), (.v (.int .i64 b.Book.Sold)), (.v (.int .i64 b.Book.Thrown)), (.v (.int .i64 b.Money))]), (.sc (.fn 91 [2, 3]))], [(.row false K.ki64 b.Stock.Grams), (.row false K.k_impl_Event b.Book.Events), (.box false [(.v (.bool how_0))]), (.box false [(.v (.int .i64 how_1))])]⟩
noncomputable def impl_changed_91_d : Rs → Option (Bakery × Bool)
 | ⟨(.tp [(.ag [(.sl 4), (.v (.int .i64 r2)), (.v (.int .i64 r3)), (.v (.int .i64 r4)), (.v (.int .i64 r5)), (.v (.int .i64 r6)), (.sl 5), (.v (.int .i64 r8)), (.v (.int .i64 r9)), (.v (.int .i64 r10)), (.v (.int .i64 r11)), (.v (.int .i64 r12)), (.v (.int .i64 r13)), (.v (.int .i64 r14))]), (.sc (.v (.bool r15)))]), [.dead, .dead, .dead, .dead, (.row true K.ki64 r1), (.row true K.k_impl_Event r7)]⟩ => some ((⟨(⟨r1⟩ : Stock), (⟨r2, r3, r4⟩ : Dough), (⟨r5, r6⟩ : Loaf), (⟨r7, (⟨r8, r9, r10⟩ : Rack), r11, r12, r13⟩ : Book), r14⟩ : Bakery), r15)
 | _ => none
theorem impl_changed_91_i {r : Rs} {y : Bakery × Bool} (h : impl_changed_91_d r = some y) : r = ⟨(.tp [(.ag [(.sl 4), (.v (.int .i64 y.1.Dough.Water)), (.v (.int .i64 y.1.Dough.Salt)), (.v (.int .i64 y.1.Dough.Leaven)), (.v (.int .i64 y.1.Loaf.Weight)), (.v (.int .i64 y.1.Loaf.Loss)), (.sl 5), (.v (.int .i64 y.1.Book.Rack.Fresh)), (.v (.int .i64 y.1.Book.Rack.Day)), (.v (.int .i64 y.1.Book.Rack.Old)), (.v (.int .i64 y.1.Book.Baked)), (.v (.int .i64 y.1.Book.Sold)), (.v (.int .i64 y.1.Book.Thrown)), (.v (.int .i64 y.1.Money))]), (.sc (.v (.bool y.2)))]), [.dead, .dead, .dead, .dead, (.row true K.ki64 y.1.Stock.Grams), (.row true K.k_impl_Event y.1.Book.Events)]⟩ := by
 unfold impl_changed_91_d at h; split at h
 · cases h; rfl
 · cases h
theorem impl_changed_91_e (k : Nat) (b : Bakery) (how_0 : Bool) (how_1 : Int) : callF env (impl_changed_91_O k) impl_changed_91_v Try.f83 (k + 1) (impl_changed_91_A b how_0 how_1) (fun r => impl_changed_91_d (r.fin 4 [])) = impl_changed_91 k b how_0 how_1 := by kernel_rfl
noncomputable def impl_changed_91_x (k : Nat) : Ent1 := fun A R Q => match A with
 | ⟨[(.ag [(.sl 0), (.v (.int .i64 a2)), (.v (.int .i64 a3)), (.v (.int .i64 a4)), (.v (.int .i64 a5)), (.v (.int .i64 a6)), (.sl 1), (.v (.int .i64 a8)), (.v (.int .i64 a9)), (.v (.int .i64 a10)), (.v (.int .i64 a11)), (.v (.int .i64 a12)), (.v (.int .i64 a13)), (.v (.int .i64 a14))]), (.sc (.fn 91 [2, 3]))], [(.row false K.ki64 a1), (.row false K.k_impl_Event a7), (.box false [(.v (.bool a15))]), (.box false [(.v (.int .i64 a16))])]⟩ => (impl_changed_91 k (⟨(⟨a1⟩ : Stock), (⟨a2, a3, a4⟩ : Dough), (⟨a5, a6⟩ : Loaf), (⟨a7, (⟨a8, a9, a10⟩ : Rack), a11, a12, a13⟩ : Book), a14⟩ : Bakery) a15 a16).bind fun y => Q ⟨(.tp [(.ag [(.sl 4), (.v (.int .i64 y.1.Dough.Water)), (.v (.int .i64 y.1.Dough.Salt)), (.v (.int .i64 y.1.Dough.Leaven)), (.v (.int .i64 y.1.Loaf.Weight)), (.v (.int .i64 y.1.Loaf.Loss)), (.sl 5), (.v (.int .i64 y.1.Book.Rack.Fresh)), (.v (.int .i64 y.1.Book.Rack.Day)), (.v (.int .i64 y.1.Book.Rack.Old)), (.v (.int .i64 y.1.Book.Baked)), (.v (.int .i64 y.1.Book.Sold)), (.v (.int .i64 y.1.Book.Thrown)), (.v (.int .i64 y.1.Money))]), (.sc (.v (.bool y.2)))]), [.dead, .dead, .dead, .dead, (.row true K.ki64 y.1.Stock.Grams), (.row true K.k_impl_Event y.1.Book.Events)]⟩
 | _ => none
theorem impl_changed_91_ok (k : Nat) : OkE Try.prog 83 (impl_changed_91_x k) := by
 intro A R Q x h
 unfold impl_changed_91_x at h
 split at h
 · obtain ⟨y, hy, hK⟩ := Option.bind_eq_some_iff.1 h
   obtain ⟨r, hr, hd⟩ := callF_ok envOk (impl_changed_91_Ok k) follows Try.func83 (by kernel_rfl) ((impl_changed_91_e k _ _ _).trans hy)
   exact ⟨_, impl_changed_91_i hd ▸ hr.fin [], hK⟩
 · cases h
/-! ### impl.SellLoaves: function 46 -/
noncomputable def impl_SellLoaves (k : Nat)  (b : Bakery) (loaves : Int) (cheap : Bool) : Option (Bakery × Bool) :=
 (impl_changed_91 k b cheap loaves).bind fun y1 =>
 some (y1.1, y1.2)
noncomputable def impl_SellLoaves_v : Nat → List Nat := fun t => match t with | _ => []
noncomputable def impl_SellLoaves_O (k : Nat) : Oracle := ofL [(83, impl_changed_91_x k)]
theorem impl_SellLoaves_Ok (k : Nat) : OkO (Ct Try.prog) (impl_SellLoaves_O k) := okO_cons (impl_changed_91_ok k) (okO_nil)
noncomputable def impl_SellLoaves_A (b : Bakery) (loaves : Int) (cheap : Bool) : Pk := ⟨[(.ag [(.sl 0), (.v (.int .i64 b.Dough.Water)), (.v (.int .i64 b.Dough.Salt)), (.v (.int .i64 b.Dough.Leaven)), (.v (.int .i64 b.Loaf.Weight)), (.v (.int .i64 b.Loaf.Loss)), (.sl 1), (.v (.int .i64 b.Book.Rack.Fresh)), (.v (.int .i64 b.Book.Rack.Day)), (.v (.int .i64 b.Book.Rack.Old)), (.v (.int .i64 b.Book.Baked)), (.v (.int .i64 b.Book.Sold)), (.v (.int .i64 b.Book.Thrown)), (.v (.int .i64 b.Money))]), (.sc (.v (.int .i64 loaves))), (.sc (.v (.bool cheap)))], [(.row false K.ki64 b.Stock.Grams), (.row false K.k_impl_Event b.Book.Events)]⟩
noncomputable def impl_SellLoaves_d : Rs → Option (Bakery × Bool)
 | ⟨(.tp [(.ag [(.sl 2), (.v (.int .i64 r2)), (.v (.int .i64 r3)), (.v (.int .i64 r4)), (.v (.int .i64 r5)), (.v (.int .i64 r6)), (.sl 3), (.v (.int .i64 r8)), (.v (.int .i64 r9)), (.v (.int .i64 r10)), (.v (.int .i64 r11)), (.v (.int .i64 r12)), (.v (.int .i64 r13)), (.v (.int .i64 r14))]), (.sc (.v (.bool r15)))]), [.dead, .dead, (.row true K.ki64 r1), (.row true K.k_impl_Event r7)]⟩ => some ((⟨(⟨r1⟩ : Stock), (⟨r2, r3, r4⟩ : Dough), (⟨r5, r6⟩ : Loaf), (⟨r7, (⟨r8, r9, r10⟩ : Rack), r11, r12, r13⟩ : Book), r14⟩ : Bakery), r15)
 | _ => none
theorem impl_SellLoaves_i {r : Rs} {y : Bakery × Bool} (h : impl_SellLoaves_d r = some y) : r = ⟨(.tp [(.ag [(.sl 2), (.v (.int .i64 y.1.Dough.Water)), (.v (.int .i64 y.1.Dough.Salt)), (.v (.int .i64 y.1.Dough.Leaven)), (.v (.int .i64 y.1.Loaf.Weight)), (.v (.int .i64 y.1.Loaf.Loss)), (.sl 3), (.v (.int .i64 y.1.Book.Rack.Fresh)), (.v (.int .i64 y.1.Book.Rack.Day)), (.v (.int .i64 y.1.Book.Rack.Old)), (.v (.int .i64 y.1.Book.Baked)), (.v (.int .i64 y.1.Book.Sold)), (.v (.int .i64 y.1.Book.Thrown)), (.v (.int .i64 y.1.Money))]), (.sc (.v (.bool y.2)))]), [.dead, .dead, (.row true K.ki64 y.1.Stock.Grams), (.row true K.k_impl_Event y.1.Book.Events)]⟩ := by
 unfold impl_SellLoaves_d at h; split at h
 · cases h; rfl
 · cases h
theorem impl_SellLoaves_e (k : Nat) (b : Bakery) (loaves : Int) (cheap : Bool) : callF env (impl_SellLoaves_O k) impl_SellLoaves_v Try.f46 (k + 1) (impl_SellLoaves_A b loaves cheap) (fun r => impl_SellLoaves_d (r.fin 2 [])) = impl_SellLoaves k b loaves cheap := by kernel_rfl
noncomputable def impl_SellLoaves_x (k : Nat) : Ent1 := fun A R Q => match A with
 | ⟨[(.ag [(.sl 0), (.v (.int .i64 a2)), (.v (.int .i64 a3)), (.v (.int .i64 a4)), (.v (.int .i64 a5)), (.v (.int .i64 a6)), (.sl 1), (.v (.int .i64 a8)), (.v (.int .i64 a9)), (.v (.int .i64 a10)), (.v (.int .i64 a11)), (.v (.int .i64 a12)), (.v (.int .i64 a13)), (.v (.int .i64 a14))]), (.sc (.v (.int .i64 a15))), (.sc (.v (.bool a16)))], [(.row false K.ki64 a1), (.row false K.k_impl_Event a7)]⟩ => (impl_SellLoaves k (⟨(⟨a1⟩ : Stock), (⟨a2, a3, a4⟩ : Dough), (⟨a5, a6⟩ : Loaf), (⟨a7, (⟨a8, a9, a10⟩ : Rack), a11, a12, a13⟩ : Book), a14⟩ : Bakery) a15 a16).bind fun y => Q ⟨(.tp [(.ag [(.sl 2), (.v (.int .i64 y.1.Dough.Water)), (.v (.int .i64 y.1.Dough.Salt)), (.v (.int .i64 y.1.Dough.Leaven)), (.v (.int .i64 y.1.Loaf.Weight)), (.v (.int .i64 y.1.Loaf.Loss)), (.sl 3), (.v (.int .i64 y.1.Book.Rack.Fresh)), (.v (.int .i64 y.1.Book.Rack.Day)), (.v (.int .i64 y.1.Book.Rack.Old)), (.v (.int .i64 y.1.Book.Baked)), (.v (.int .i64 y.1.Book.Sold)), (.v (.int .i64 y.1.Book.Thrown)), (.v (.int .i64 y.1.Money))]), (.sc (.v (.bool y.2)))]), [.dead, .dead, (.row true K.ki64 y.1.Stock.Grams), (.row true K.k_impl_Event y.1.Book.Events)]⟩
 | _ => none
theorem impl_SellLoaves_ok (k : Nat) : OkE Try.prog 46 (impl_SellLoaves_x k) := by
 intro A R Q x h
 unfold impl_SellLoaves_x at h
 split at h
 · obtain ⟨y, hy, hK⟩ := Option.bind_eq_some_iff.1 h
   obtain ⟨r, hr, hd⟩ := callF_ok envOk (impl_SellLoaves_Ok k) follows Try.func46 (by kernel_rfl) ((impl_SellLoaves_e k _ _ _).trans hy)
   exact ⟨_, impl_SellLoaves_i hd ▸ hr.fin [], hK⟩
 · cases h
/-! ### laws.FnExactSellLoaves: function 11 -/
noncomputable def laws_FnExactSellLoaves (k : Nat)  (p0 : Bakery) (p1 : Int) (p2 : Bool) : Option (Bool) :=
 (laws_szBakery k p0 1048576).bind fun y1 =>
 cond (decide ((y1 : Int) < 0))
  (some true)
  ((laws_toBakery k p0).bind fun y2 =>
   (spec_SellLoaves k y2 p1 p2).bind fun y3 =>
    (laws_toBakery k p0).bind fun y4 =>
     (impl_SellLoaves k y4 p1 p2).bind fun y5 =>
      (laws_eqBakery k y5.1 y3.1).bind fun y6 =>
       cond (!y6)
        (some false)
        (cond (!(y5.2 == y3.2))
        (some false)
        ((laws_toBakery k p0).bind fun y7 =>
        (laws_eqBakery k y4 y7).bind fun y8 =>
        cond (!y8)
        (some false)
        ((laws_markBakery k y4 1).bind fun y9 =>
        cond (decide ((y9.1 : Int) < 0))
        (some false)
        ((laws_eqBakery k y5.1 y3.1).bind fun y10 =>
        cond (!y10)
        (some false)
        (cond (!(y5.2 == y3.2))
        (some false)
        ((laws_markBakery k y5.1 1).bind fun y11 =>
        (laws_heldBakery k (⟨(⟨y11.2.1⟩ : Stock), y5.1.Dough, y5.1.Loaf, (⟨y11.2.2, y5.1.Book.Rack, y5.1.Book.Baked, y5.1.Book.Sold, y5.1.Book.Thrown⟩ : Book), y5.1.Money⟩ : Bakery) 1).bind fun y12 =>
        cond (decide ((y12 : Int) < 0))
        (some false)
        (cond (!(decide ((y12 : Int) = y11.1)))
        (some false)
        ((laws_toBakery k p0).bind fun y13 =>
        (impl_SellLoaves k y13 p1 p2).bind fun y14 =>
        (laws_eqBakery k y14.1 y3.1).bind fun y15 =>
        cond (!y15)
        (some false)
        (cond (!(y14.2 == y3.2))
        (some false)
        ((laws_heldBakery k (⟨(⟨y11.2.1⟩ : Stock), y5.1.Dough, y5.1.Loaf, (⟨y11.2.2, y5.1.Book.Rack, y5.1.Book.Baked, y5.1.Book.Sold, y5.1.Book.Thrown⟩ : Book), y5.1.Money⟩ : Bakery) 1).bind fun y16 =>
        cond (decide ((y16 : Int) < 0))
        (some false)
        (cond (!(decide ((y16 : Int) = y11.1)))
        (some false)
        (some true)))))))))))))
noncomputable def laws_FnExactSellLoaves_v : Nat → List Nat := fun t => match t with | _ => []
noncomputable def laws_FnExactSellLoaves_O (k : Nat) : Oracle := ofL [(23, laws_szBakery_x k), (25, laws_toBakery_x k), (27, laws_eqBakery_x k), (30, laws_markBakery_x k), (31, laws_heldBakery_x k), (45, spec_SellLoaves_x k), (46, impl_SellLoaves_x k)]
theorem laws_FnExactSellLoaves_Ok (k : Nat) : OkO (Ct Try.prog) (laws_FnExactSellLoaves_O k) := okO_cons (laws_szBakery_ok k) (okO_cons (laws_toBakery_ok k) (okO_cons (laws_eqBakery_ok k) (okO_cons (laws_markBakery_ok k) (okO_cons (laws_heldBakery_ok k) (okO_cons (spec_SellLoaves_ok k) (okO_cons (impl_SellLoaves_ok k) (okO_nil)))))))
noncomputable def laws_FnExactSellLoaves_A (p0 : Bakery) (p1 : Int) (p2 : Bool) : Pk := ⟨[(.ag [(.sl 0), (.v (.int .i64 p0.Dough.Water)), (.v (.int .i64 p0.Dough.Salt)), (.v (.int .i64 p0.Dough.Leaven)), (.v (.int .i64 p0.Loaf.Weight)), (.v (.int .i64 p0.Loaf.Loss)), (.sl 1), (.v (.int .i64 p0.Book.Rack.Fresh)), (.v (.int .i64 p0.Book.Rack.Day)), (.v (.int .i64 p0.Book.Rack.Old)), (.v (.int .i64 p0.Book.Baked)), (.v (.int .i64 p0.Book.Sold)), (.v (.int .i64 p0.Book.Thrown)), (.v (.int .i64 p0.Money))]), (.sc (.v (.int .i64 p1))), (.sc (.v (.bool p2)))], [(.row false K.ki64 p0.Stock.Grams), (.row false K.k_laws_Event p0.Book.Events)]⟩
noncomputable def laws_FnExactSellLoaves_d : Rs → Option (Bool)
 | ⟨(.a (.sc (.v (.bool r1)))), [.dead, .dead]⟩ => some r1
 | _ => none
theorem laws_FnExactSellLoaves_i {r : Rs} {y : Bool} (h : laws_FnExactSellLoaves_d r = some y) : r = ⟨(.a (.sc (.v (.bool y)))), [.dead, .dead]⟩ := by
 unfold laws_FnExactSellLoaves_d at h; split at h
 · cases h; rfl
 · cases h
theorem laws_FnExactSellLoaves_e (k : Nat) (p0 : Bakery) (p1 : Int) (p2 : Bool) : callF env (laws_FnExactSellLoaves_O k) laws_FnExactSellLoaves_v Try.f11 (k + 1) (laws_FnExactSellLoaves_A p0 p1 p2) (fun r => laws_FnExactSellLoaves_d (r.fin 2 [])) = laws_FnExactSellLoaves k p0 p1 p2 := by kernel_rfl
noncomputable def laws_FnExactSellLoaves_x (k : Nat) : Ent1 := fun A R Q => match A with
 | ⟨[(.ag [(.sl 0), (.v (.int .i64 a2)), (.v (.int .i64 a3)), (.v (.int .i64 a4)), (.v (.int .i64 a5)), (.v (.int .i64 a6)), (.sl 1), (.v (.int .i64 a8)), (.v (.int .i64 a9)), (.v (.int .i64 a10)), (.v (.int .i64 a11)), (.v (.int .i64 a12)), (.v (.int .i64 a13)), (.v (.int .i64 a14))]), (.sc (.v (.int .i64 a15))), (.sc (.v (.bool a16)))], [(.row false K.ki64 a1), (.row false K.k_laws_Event a7)]⟩ => (laws_FnExactSellLoaves k (⟨(⟨a1⟩ : Stock), (⟨a2, a3, a4⟩ : Dough), (⟨a5, a6⟩ : Loaf), (⟨a7, (⟨a8, a9, a10⟩ : Rack), a11, a12, a13⟩ : Book), a14⟩ : Bakery) a15 a16).bind fun y => Q ⟨(.a (.sc (.v (.bool y)))), [.dead, .dead]⟩
 | _ => none
theorem laws_FnExactSellLoaves_ok (k : Nat) : OkE Try.prog 11 (laws_FnExactSellLoaves_x k) := by
 intro A R Q x h
 unfold laws_FnExactSellLoaves_x at h
 split at h
 · obtain ⟨y, hy, hK⟩ := Option.bind_eq_some_iff.1 h
   obtain ⟨r, hr, hd⟩ := callF_ok envOk (laws_FnExactSellLoaves_Ok k) follows Try.func11 (by kernel_rfl) ((laws_FnExactSellLoaves_e k _ _ _).trans hy)
   exact ⟨_, laws_FnExactSellLoaves_i hd ▸ hr.fin [], hK⟩
 · cases h
end Go.Proofs.YtonaabffckkdlaaX
