/- What functions of the program compute, as functions of numbers and lists, and that they do. (The file is written by wip/x/vxp.py of this repository.) -/
import Derived.Test.YtlenacakmmikiaaGreatDoorF4
import Derived.Test.YtlenacakmmikiaaGreatDoorX20
import Derived.WalkKit
import Derived.BigCall
import Derived.Lib.UnsafeStr
import Derived.Test.YtlenacakmmikiaaGreatDoorX18
namespace Go.Proofs.YtlenacakmmikiaaGreatDoorX
open Go Go.Proofs Go.RowKit
set_option linter.unusedVariables false
set_option maxRecDepth 100000
/-! ### impl.changed: function 102 -/
noncomputable def impl_changed_108 (k : Nat)  (b : Bakery) (how_0 : Int) (how_1 : Int) : Option (Bakery × Bool) :=
 (impl_bakeryCopy k b).bind fun y1 =>
 (impl_BakeryOk k b).bind fun y2 =>
  cond (!y2)
   ((impl_bakeryCopy k b).bind fun y5 =>
    some (y5, false))
   ((impl_BuyStock_1 k y1 how_0 how_1).bind fun y3 =>
    cond (!y3.1)
     ((impl_bakeryCopy k b).bind fun y6 =>
      some (y6, false))
     ((impl_BakeryOk k (⟨y3.2.2.2.Stock, y3.2.2.2.Dough, y3.2.2.2.Loaf, (⟨y3.2.2.1, y3.2.2.2.Book.Rack, y3.2.2.2.Book.Baked, y3.2.2.2.Book.Sold, y3.2.2.2.Book.Thrown⟩ : Book), y3.2.2.2.Money⟩ : Bakery)).bind fun y4 =>
      cond (!y4)
       ((impl_bakeryCopy k b).bind fun y7 =>
        some (y7, false))
       (some ((⟨y3.2.2.2.Stock, y3.2.2.2.Dough, y3.2.2.2.Loaf, (⟨y3.2.2.1, y3.2.2.2.Book.Rack, y3.2.2.2.Book.Baked, y3.2.2.2.Book.Sold, y3.2.2.2.Book.Thrown⟩ : Book), y3.2.2.2.Money⟩ : Bakery), true))))
noncomputable def impl_changed_108_v : Nat → List Nat := fun t => match t with | _ => []
noncomputable def impl_changed_108_O (k : Nat) : Oracle := ofL [(108, impl_BuyStock_1_x k), (34, impl_bakeryCopy_x k), (35, impl_BakeryOk_x k)]
theorem impl_changed_108_Ok (k : Nat) : OkO (Ct Tryz.prog) (impl_changed_108_O k) := okO_cons (impl_BuyStock_1_ok k) (okO_cons (impl_bakeryCopy_ok k) (okO_cons (impl_BakeryOk_ok k) (okO_nil)))
noncomputable def impl_changed_108_A (b : Bakery) (how_0 : Int) (how_1 : Int) : Pk := ⟨[(.ag [(.sl 0), (.v (.int .i64 b.Dough.Water)), (.v (.int .i64 b.Dough.Salt)), (.v (.int .i64 b.Dough.Leaven)), (.v (.int .i64 b.Loaf.Weight)), (.v (.int .i64 b.Loaf.Loss)), (.sl 1), (.v (.int .i64 b.Book.Rack.Fresh)), (.v (.int .i64 b.Book.Rack.Day)), (.v (.int .i64 b.Book.Rack.Old)), (.v (.int .i64 b.Book.Baked)), (.v (.int .i64 b.Book.Sold)), (.v (.int .i64 b.Book.Thrown)), (.v (.int .i64 b.Money))]), (.sc (.fn 108 [2, 3]))], [(.row false K.ki64 b.Stock.Grams), (.row false K.k_impl_Event b.Book.Events), (.box false [(.v (.int .i64 how_0))]), (.box false [(.v (.int .i64 how_1))])]⟩
noncomputable def impl_changed_108_d : Rs → Option (Bakery × Bool)
 | ⟨(.tp [(.ag [(.sl 4), (.v (.int .i64 r2)), (.v (.int .i64 r3)), (.v (.int .i64 r4)), (.v (.int .i64 r5)), (.v (.int .i64 r6)), (.sl 5), (.v (.int .i64 r8)), (.v (.int .i64 r9)), (.v (.int .i64 r10)), (.v (.int .i64 r11)), (.v (.int .i64 r12)), (.v (.int .i64 r13)), (.v (.int .i64 r14))]), (.sc (.v (.bool r15)))]), [.dead, .dead, .dead, .dead, (.row true K.ki64 r1), (.row true K.k_impl_Event r7)]⟩ => some ((⟨(⟨r1⟩ : Stock), (⟨r2, r3, r4⟩ : Dough), (⟨r5, r6⟩ : Loaf), (⟨r7, (⟨r8, r9, r10⟩ : Rack), r11, r12, r13⟩ : Book), r14⟩ : Bakery), r15)
 | _ => none
theorem impl_changed_108_i {r : Rs} {y : Bakery × Bool} (h : impl_changed_108_d r = some y) : r = ⟨(.tp [(.ag [(.sl 4), (.v (.int .i64 y.1.Dough.Water)), (.v (.int .i64 y.1.Dough.Salt)), (.v (.int .i64 y.1.Dough.Leaven)), (.v (.int .i64 y.1.Loaf.Weight)), (.v (.int .i64 y.1.Loaf.Loss)), (.sl 5), (.v (.int .i64 y.1.Book.Rack.Fresh)), (.v (.int .i64 y.1.Book.Rack.Day)), (.v (.int .i64 y.1.Book.Rack.Old)), (.v (.int .i64 y.1.Book.Baked)), (.v (.int .i64 y.1.Book.Sold)), (.v (.int .i64 y.1.Book.Thrown)), (.v (.int .i64 y.1.Money))]), (.sc (.v (.bool y.2)))]), [.dead, .dead, .dead, .dead, (.row true K.ki64 y.1.Stock.Grams), (.row true K.k_impl_Event y.1.Book.Events)]⟩ := by
 unfold impl_changed_108_d at h; split at h
 · cases h; rfl
 · cases h
theorem impl_changed_108_e (k : Nat) (b : Bakery) (how_0 : Int) (how_1 : Int) : callF env (impl_changed_108_O k) impl_changed_108_v Tryz.f102 (k + 1) (impl_changed_108_A b how_0 how_1) (fun r => impl_changed_108_d (r.fin 4 [])) = impl_changed_108 k b how_0 how_1 := by kernel_rfl
noncomputable def impl_changed_108_x (k : Nat) : Ent1 := fun A R Q => match A with
 | ⟨[(.ag [(.sl 0), (.v (.int .i64 a2)), (.v (.int .i64 a3)), (.v (.int .i64 a4)), (.v (.int .i64 a5)), (.v (.int .i64 a6)), (.sl 1), (.v (.int .i64 a8)), (.v (.int .i64 a9)), (.v (.int .i64 a10)), (.v (.int .i64 a11)), (.v (.int .i64 a12)), (.v (.int .i64 a13)), (.v (.int .i64 a14))]), (.sc (.fn 108 [2, 3]))], [(.row false K.ki64 a1), (.row false K.k_impl_Event a7), (.box false [(.v (.int .i64 a15))]), (.box false [(.v (.int .i64 a16))])]⟩ => (impl_changed_108 k (⟨(⟨a1⟩ : Stock), (⟨a2, a3, a4⟩ : Dough), (⟨a5, a6⟩ : Loaf), (⟨a7, (⟨a8, a9, a10⟩ : Rack), a11, a12, a13⟩ : Book), a14⟩ : Bakery) a15 a16).bind fun y => Q ⟨(.tp [(.ag [(.sl 4), (.v (.int .i64 y.1.Dough.Water)), (.v (.int .i64 y.1.Dough.Salt)), (.v (.int .i64 y.1.Dough.Leaven)), (.v (.int .i64 y.1.Loaf.Weight)), (.v (.int .i64 y.1.Loaf.Loss)), (.sl 5), (.v (.int .i64 y.1.Book.Rack.Fresh)), (.v (.int .i64 y.1.Book.Rack.Day)), (.v (.int .i64 y.1.Book.Rack.Old)), (.v (.int .i64 y.1.Book.Baked)), (.v (.int .i64 y.1.Book.Sold)), (.v (.int .i64 y.1.Book.Thrown)), (.v (.int .i64 y.1.Money))]), (.sc (.v (.bool y.2)))]), [.dead, .dead, .dead, .dead, (.row true K.ki64 y.1.Stock.Grams), (.row true K.k_impl_Event y.1.Book.Events)]⟩
 | _ => none
theorem impl_changed_108_ok (k : Nat) : OkE Tryz.prog 102 (impl_changed_108_x k) := by
 intro A R Q x h
 unfold impl_changed_108_x at h
 split at h
 · obtain ⟨y, hy, hK⟩ := Option.bind_eq_some_iff.1 h
   obtain ⟨r, hr, hd⟩ := callF_ok envOk (impl_changed_108_Ok k) follows Tryz.func102 (by kernel_rfl) ((impl_changed_108_e k _ _ _).trans hy)
   exact ⟨_, impl_changed_108_i hd ▸ hr.fin [], hK⟩
 · cases h
/-! ### impl.BuyStock: function 72 -/
noncomputable def impl_BuyStock (k : Nat)  (b : Bakery) (k_ : Int) (grams : Int) : Option (Bakery × Bool) :=
 (impl_changed_108 k b k_ grams).bind fun y1 =>
 some (y1.1, y1.2)
noncomputable def impl_BuyStock_v : Nat → List Nat := fun t => match t with | _ => []
noncomputable def impl_BuyStock_O (k : Nat) : Oracle := ofL [(102, impl_changed_108_x k)]
theorem impl_BuyStock_Ok (k : Nat) : OkO (Ct Tryz.prog) (impl_BuyStock_O k) := okO_cons (impl_changed_108_ok k) (okO_nil)
noncomputable def impl_BuyStock_A (b : Bakery) (k_ : Int) (grams : Int) : Pk := ⟨[(.ag [(.sl 0), (.v (.int .i64 b.Dough.Water)), (.v (.int .i64 b.Dough.Salt)), (.v (.int .i64 b.Dough.Leaven)), (.v (.int .i64 b.Loaf.Weight)), (.v (.int .i64 b.Loaf.Loss)), (.sl 1), (.v (.int .i64 b.Book.Rack.Fresh)), (.v (.int .i64 b.Book.Rack.Day)), (.v (.int .i64 b.Book.Rack.Old)), (.v (.int .i64 b.Book.Baked)), (.v (.int .i64 b.Book.Sold)), (.v (.int .i64 b.Book.Thrown)), (.v (.int .i64 b.Money))]), (.sc (.v (.int .i64 k_))), (.sc (.v (.int .i64 grams)))], [(.row false K.ki64 b.Stock.Grams), (.row false K.k_impl_Event b.Book.Events)]⟩
noncomputable def impl_BuyStock_d : Rs → Option (Bakery × Bool)
 | ⟨(.tp [(.ag [(.sl 2), (.v (.int .i64 r2)), (.v (.int .i64 r3)), (.v (.int .i64 r4)), (.v (.int .i64 r5)), (.v (.int .i64 r6)), (.sl 3), (.v (.int .i64 r8)), (.v (.int .i64 r9)), (.v (.int .i64 r10)), (.v (.int .i64 r11)), (.v (.int .i64 r12)), (.v (.int .i64 r13)), (.v (.int .i64 r14))]), (.sc (.v (.bool r15)))]), [.dead, .dead, (.row true K.ki64 r1), (.row true K.k_impl_Event r7)]⟩ => some ((⟨(⟨r1⟩ : Stock), (⟨r2, r3, r4⟩ : Dough), (⟨r5, r6⟩ : Loaf), (⟨r7, (⟨r8, r9, r10⟩ : Rack), r11, r12, r13⟩ : Book), r14⟩ : Bakery), r15)
 | _ => none
theorem impl_BuyStock_i {r : Rs} {y : Bakery × Bool} (h : impl_BuyStock_d r = some y) : r = ⟨(.tp [(.ag [(.sl 2), (.v (.int .i64 y.1.Dough.Water)), (.v (.int .i64 y.1.Dough.Salt)), (.v (.int .i64 y.1.Dough.Leaven)), (.v (.int .i64 y.1.Loaf.Weight)), (.v (.int .i64 y.1.Loaf.Loss)), (.sl 3), (.v (.int .i64 y.1.Book.Rack.Fresh)), (.v (.int .i64 y.1.Book.Rack.Day)), (.v (.int .i64 y.1.Book.Rack.Old)), (.v (.int .i64 y.1.Book.Baked)), (.v (.int .i64 y.1.Book.Sold)), (.v (.int .i64 y.1.Book.Thrown)), (.v (.int .i64 y.1.Money))]), (.sc (.v (.bool y.2)))]), [.dead, .dead, (.row true K.ki64 y.1.Stock.Grams), (.row true K.k_impl_Event y.1.Book.Events)]⟩ := by
 unfold impl_BuyStock_d at h; split at h
 · cases h; rfl
 · cases h
theorem impl_BuyStock_e (k : Nat) (b : Bakery) (k_ : Int) (grams : Int) : callF env (impl_BuyStock_O k) impl_BuyStock_v Tryz.f72 (k + 1) (impl_BuyStock_A b k_ grams) (fun r => impl_BuyStock_d (r.fin 2 [])) = impl_BuyStock k b k_ grams := by kernel_rfl
noncomputable def impl_BuyStock_x (k : Nat) : Ent1 := fun A R Q => match A with
 | ⟨[(.ag [(.sl 0), (.v (.int .i64 a2)), (.v (.int .i64 a3)), (.v (.int .i64 a4)), (.v (.int .i64 a5)), (.v (.int .i64 a6)), (.sl 1), (.v (.int .i64 a8)), (.v (.int .i64 a9)), (.v (.int .i64 a10)), (.v (.int .i64 a11)), (.v (.int .i64 a12)), (.v (.int .i64 a13)), (.v (.int .i64 a14))]), (.sc (.v (.int .i64 a15))), (.sc (.v (.int .i64 a16)))], [(.row false K.ki64 a1), (.row false K.k_impl_Event a7)]⟩ => (impl_BuyStock k (⟨(⟨a1⟩ : Stock), (⟨a2, a3, a4⟩ : Dough), (⟨a5, a6⟩ : Loaf), (⟨a7, (⟨a8, a9, a10⟩ : Rack), a11, a12, a13⟩ : Book), a14⟩ : Bakery) a15 a16).bind fun y => Q ⟨(.tp [(.ag [(.sl 2), (.v (.int .i64 y.1.Dough.Water)), (.v (.int .i64 y.1.Dough.Salt)), (.v (.int .i64 y.1.Dough.Leaven)), (.v (.int .i64 y.1.Loaf.Weight)), (.v (.int .i64 y.1.Loaf.Loss)), (.sl 3), (.v (.int .i64 y.1.Book.Rack.Fresh)), (.v (.int .i64 y.1.Book.Rack.Day)), (.v (.int .i64 y.1.Book.Rack.Old)), (.v (.int .i64 y.1.Book.Baked)), (.v (.int .i64 y.1.Book.Sold)), (.v (.int .i64 y.1.Book.Thrown)), (.v (.int .i64 y.1.Money))]), (.sc (.v (.bool y.2)))]), [.dead, .dead, (.row true K.ki64 y.1.Stock.Grams), (.row true K.k_impl_Event y.1.Book.Events)]⟩
 | _ => none
theorem impl_BuyStock_ok (k : Nat) : OkE Tryz.prog 72 (impl_BuyStock_x k) := by
 intro A R Q x h
 unfold impl_BuyStock_x at h
 split at h
 · obtain ⟨y, hy, hK⟩ := Option.bind_eq_some_iff.1 h
   obtain ⟨r, hr, hd⟩ := callF_ok envOk (impl_BuyStock_Ok k) follows Tryz.func72 (by kernel_rfl) ((impl_BuyStock_e k _ _ _).trans hy)
   exact ⟨_, impl_BuyStock_i hd ▸ hr.fin [], hK⟩
 · cases h
/-! ### impl.DoAct: function 36 -/
noncomputable def impl_DoAct (k : Nat)  (b : Bakery) (a : Deed) : Option (Bakery × Int) :=
 (impl_BakeryOk k b).bind fun y1 =>
 cond (!y1)
  ((impl_bakeryCopy k b).bind fun y3 =>
   some (y3, (-1)))
  ((impl_ActOk k a).bind fun y2 =>
   cond (!y2)
    ((impl_bakeryCopy k b).bind fun y4 =>
     some (y4, (-1)))
    (cond (decide ((a.Kind : Int) = 1))
     ((impl_BakeLoaves k b a.A).bind fun y5 =>
      cond y5.2
       (some (y5.1, 1))
       (some (y5.1, 0)))
     (cond (decide ((a.Kind : Int) = 2))
      ((impl_SellLoaves k b a.A false).bind fun y6 =>
       cond y6.2
        (some (y6.1, 1))
        (some (y6.1, 0)))
      (cond (decide ((a.Kind : Int) = 3))
       ((impl_SellLoaves k b a.A true).bind fun y7 =>
        cond y7.2
        (some (y7.1, 1))
        (some (y7.1, 0)))
       (cond (decide ((a.Kind : Int) = 4))
        ((impl_NightOver k b).bind fun y8 =>
        cond y8.2
        (some (y8.1, 1))
        (some (y8.1, 0)))
        (cond (decide ((a.Kind : Int) = 5))
        ((impl_BuyStock k b a.A a.B).bind fun y9 =>
        cond y9.2
        (some (y9.1, 1))
        (some (y9.1, 0)))
        ((impl_bakeryCopy k b).bind fun y10 =>
        (impl_FlourNeeded k b a.A).bind fun y11 =>
        some (y10, y11))))))))
noncomputable def impl_DoAct_v : Nat → List Nat := fun t => match t with | _ => []
noncomputable def impl_DoAct_O (k : Nat) : Oracle := ofL [(34, impl_bakeryCopy_x k), (35, impl_BakeryOk_x k), (56, impl_ActOk_x k), (69, impl_BakeLoaves_x k), (70, impl_SellLoaves_x k), (71, impl_NightOver_x k), (72, impl_BuyStock_x k), (73, impl_FlourNeeded_x k)]
theorem impl_DoAct_Ok (k : Nat) : OkO (Ct Tryz.prog) (impl_DoAct_O k) := okO_cons (impl_bakeryCopy_ok k) (okO_cons (impl_BakeryOk_ok k) (okO_cons (impl_ActOk_ok k) (okO_cons (impl_BakeLoaves_ok k) (okO_cons (impl_SellLoaves_ok k) (okO_cons (impl_NightOver_ok k) (okO_cons (impl_BuyStock_ok k) (okO_cons (impl_FlourNeeded_ok k) (okO_nil))))))))
noncomputable def impl_DoAct_A (b : Bakery) (a : Deed) : Pk := ⟨[(.ag [(.sl 0), (.v (.int .i64 b.Dough.Water)), (.v (.int .i64 b.Dough.Salt)), (.v (.int .i64 b.Dough.Leaven)), (.v (.int .i64 b.Loaf.Weight)), (.v (.int .i64 b.Loaf.Loss)), (.sl 1), (.v (.int .i64 b.Book.Rack.Fresh)), (.v (.int .i64 b.Book.Rack.Day)), (.v (.int .i64 b.Book.Rack.Old)), (.v (.int .i64 b.Book.Baked)), (.v (.int .i64 b.Book.Sold)), (.v (.int .i64 b.Book.Thrown)), (.v (.int .i64 b.Money))]), (.ag [(.v (.int .i64 a.Kind)), (.v (.int .i64 a.A)), (.v (.int .i64 a.B))])], [(.row false K.ki64 b.Stock.Grams), (.row false K.k_impl_Event b.Book.Events)]⟩
noncomputable def impl_DoAct_d : Rs → Option (Bakery × Int)
 | ⟨(.tp [(.ag [(.sl 2), (.v (.int .i64 r2)), (.v (.int .i64 r3)), (.v (.int .i64 r4)), (.v (.int .i64 r5)), (.v (.int .i64 r6)), (.sl 3), (.v (.int .i64 r8)), (.v (.int .i64 r9)), (.v (.int .i64 r10)), (.v (.int .i64 r11)), (.v (.int .i64 r12)), (.v (.int .i64 r13)), (.v (.int .i64 r14))]), (.sc (.v (.int .i64 r15)))]), [.dead, .dead, (.row true K.ki64 r1), (.row true K.k_impl_Event r7)]⟩ => some ((⟨(⟨r1⟩ : Stock), (⟨r2, r3, r4⟩ : Dough), (⟨r5, r6⟩ : Loaf), (⟨r7, (⟨r8, r9, r10⟩ : Rack), r11, r12, r13⟩ : Book), r14⟩ : Bakery), r15)
 | _ => none
theorem impl_DoAct_i {r : Rs} {y : Bakery × Int} (h : impl_DoAct_d r = some y) : r = ⟨(.tp [(.ag [(.sl 2), (.v (.int .i64 y.1.Dough.Water)), (.v (.int .i64 y.1.Dough.Salt)), (.v (.int .i64 y.1.Dough.Leaven)), (.v (.int .i64 y.1.Loaf.Weight)), (.v (.int .i64 y.1.Loaf.Loss)), (.sl 3), (.v (.int .i64 y.1.Book.Rack.Fresh)), (.v (.int .i64 y.1.Book.Rack.Day)), (.v (.int .i64 y.1.Book.Rack.Old)), (.v (.int .i64 y.1.Book.Baked)), (.v (.int .i64 y.1.Book.Sold)), (.v (.int .i64 y.1.Book.Thrown)), (.v (.int .i64 y.1.Money))]), (.sc (.v (.int .i64 y.2)))]), [.dead, .dead, (.row true K.ki64 y.1.Stock.Grams), (.row true K.k_impl_Event y.1.Book.Events)]⟩ := by
 unfold impl_DoAct_d at h; split at h
 · cases h; rfl
 · cases h
theorem impl_DoAct_e (k : Nat) (b : Bakery) (a : Deed) : callF env (impl_DoAct_O k) impl_DoAct_v Tryz.f36 (k + 1) (impl_DoAct_A b a) (fun r => impl_DoAct_d (r.fin 2 [])) = impl_DoAct k b a := by kernel_rfl
noncomputable def impl_DoAct_x (k : Nat) : Ent1 := fun A R Q => match A with
 | ⟨[(.ag [(.sl 0), (.v (.int .i64 a2)), (.v (.int .i64 a3)), (.v (.int .i64 a4)), (.v (.int .i64 a5)), (.v (.int .i64 a6)), (.sl 1), (.v (.int .i64 a8)), (.v (.int .i64 a9)), (.v (.int .i64 a10)), (.v (.int .i64 a11)), (.v (.int .i64 a12)), (.v (.int .i64 a13)), (.v (.int .i64 a14))]), (.ag [(.v (.int .i64 a15)), (.v (.int .i64 a16)), (.v (.int .i64 a17))])], [(.row false K.ki64 a1), (.row false K.k_impl_Event a7)]⟩ => (impl_DoAct k (⟨(⟨a1⟩ : Stock), (⟨a2, a3, a4⟩ : Dough), (⟨a5, a6⟩ : Loaf), (⟨a7, (⟨a8, a9, a10⟩ : Rack), a11, a12, a13⟩ : Book), a14⟩ : Bakery) (⟨a15, a16, a17⟩ : Deed)).bind fun y => Q ⟨(.tp [(.ag [(.sl 2), (.v (.int .i64 y.1.Dough.Water)), (.v (.int .i64 y.1.Dough.Salt)), (.v (.int .i64 y.1.Dough.Leaven)), (.v (.int .i64 y.1.Loaf.Weight)), (.v (.int .i64 y.1.Loaf.Loss)), (.sl 3), (.v (.int .i64 y.1.Book.Rack.Fresh)), (.v (.int .i64 y.1.Book.Rack.Day)), (.v (.int .i64 y.1.Book.Rack.Old)), (.v (.int .i64 y.1.Book.Baked)), (.v (.int .i64 y.1.Book.Sold)), (.v (.int .i64 y.1.Book.Thrown)), (.v (.int .i64 y.1.Money))]), (.sc (.v (.int .i64 y.2)))]), [.dead, .dead, (.row true K.ki64 y.1.Stock.Grams), (.row true K.k_impl_Event y.1.Book.Events)]⟩
 | _ => none
theorem impl_DoAct_ok (k : Nat) : OkE Tryz.prog 36 (impl_DoAct_x k) := by
 intro A R Q x h
 unfold impl_DoAct_x at h
 split at h
 · obtain ⟨y, hy, hK⟩ := Option.bind_eq_some_iff.1 h
   obtain ⟨r, hr, hd⟩ := callF_ok envOk (impl_DoAct_Ok k) follows Tryz.func36 (by kernel_rfl) ((impl_DoAct_e k _ _).trans hy)
   exact ⟨_, impl_DoAct_i hd ▸ hr.fin [], hK⟩
 · cases h
/-! ### impl.RunActs: function 13 -/
noncomputable def impl_RunActs_s0 (k : Nat)  (b : Bakery) (acts : (List Deed)) (J : Int → (List Int) → (List Event) → Int → Int → Int → Int → Int → Int → Int → Int → Int → Int → Int → Int → (List Int) → Option (Bakery × (List Int))) (x0_0 : Int) (x0_1 : (List Int)) (x0_2 : (List Event)) (x0_3 : Int) (x0_4 : Int) (x0_5 : Int) (x0_6 : Int) (x0_7 : Int) (x0_8 : Int) (x0_9 : Int) (x0_10 : Int) (x0_11 : Int) (x0_12 : Int) (x0_13 : Int) (x0_14 : Int) (x0_15 : (List Int)) : Option (Bakery × (List Int)) :=
 cond (decide ((x0_0 : Int) < ((acts).length : Int)))
 (if 0 ≤ (x0_0 : Int) ∧ (x0_0 : Int) < ((acts).length : Int) then
  (impl_DoAct k (⟨(⟨x0_1⟩ : Stock), (⟨x0_3, x0_4, x0_5⟩ : Dough), (⟨x0_6, x0_7⟩ : Loaf), (⟨x0_2, (⟨x0_8, x0_9, x0_10⟩ : Rack), x0_11, x0_12, x0_13⟩ : Book), x0_14⟩ : Bakery) (acts.getD (Int.toNat x0_0) dk_impl_Act)).bind fun y4 =>
   if (x0_15 : List Int).length + ([y4.2] : List Int).length ≤ maxRow then
    J (wr (x0_0 + 1)) y4.1.Stock.Grams y4.1.Book.Events y4.1.Dough.Water y4.1.Dough.Salt y4.1.Dough.Leaven y4.1.Loaf.Weight y4.1.Loaf.Loss y4.1.Book.Rack.Fresh y4.1.Book.Rack.Day y4.1.Book.Rack.Old y4.1.Book.Baked y4.1.Book.Sold y4.1.Book.Thrown y4.1.Money (x0_15 ++ [y4.2]) else none else none)
 (some ((⟨(⟨x0_1⟩ : Stock), (⟨x0_3, x0_4, x0_5⟩ : Dough), (⟨x0_6, x0_7⟩ : Loaf), (⟨x0_2, (⟨x0_8, x0_9, x0_10⟩ : Rack), x0_11, x0_12, x0_13⟩ : Book), x0_14⟩ : Bakery), x0_15))
noncomputable def impl_RunActs_l0 (k : Nat) : Nat → Bakery → (List Deed) → Int → (List Int) → (List Event) → Int → Int → Int → Int → Int → Int → Int → Int → Int → Int → Int → Int → (List Int) → Option (Bakery × (List Int))
 | 0, b, acts, x0_0, x0_1, x0_2, x0_3, x0_4, x0_5, x0_6, x0_7, x0_8, x0_9, x0_10, x0_11, x0_12, x0_13, x0_14, x0_15 => impl_RunActs_s0 k b acts (fun _ _ _ _ _ _ _ _ _ _ _ _ _ _ _ _ => none) x0_0 x0_1 x0_2 x0_3 x0_4 x0_5 x0_6 x0_7 x0_8 x0_9 x0_10 x0_11 x0_12 x0_13 x0_14 x0_15
 | m + 1, b, acts, x0_0, x0_1, x0_2, x0_3, x0_4, x0_5, x0_6, x0_7, x0_8, x0_9, x0_10, x0_11, x0_12, x0_13, x0_14, x0_15 => impl_RunActs_s0 k b acts (impl_RunActs_l0 k m b acts) x0_0 x0_1 x0_2 x0_3 x0_4 x0_5 x0_6 x0_7 x0_8 x0_9 x0_10 x0_11 x0_12 x0_13 x0_14 x0_15
noncomputable def impl_RunActs_m (k : Nat) (J0 : Bakery → (List Deed) → Int → (List Int) → (List Event) → Int → Int → Int → Int → Int → Int → Int → Int → Int → Int → Int → Int → (List Int) → Option (Bakery × (List Int))) (b : Bakery) (acts : (List Deed)) : Option (Bakery × (List Int)) :=
 (impl_bakeryCopy k b).bind fun y1 =>
 (impl_BakeryOk k b).bind fun y2 =>
  cond (!y2)
   (some (y1, []))
   (cond (decide ((40 : Int) < ((acts).length : Int)))
    (some (y1, []))
    (J0 b acts 0 y1.Stock.Grams y1.Book.Events y1.Dough.Water y1.Dough.Salt y1.Dough.Leaven y1.Loaf.Weight y1.Loaf.Loss y1.Book.Rack.Fresh y1.Book.Rack.Day y1.Book.Rack.Old y1.Book.Baked y1.Book.Sold y1.Book.Thrown y1.Money ([])))
noncomputable def impl_RunActs (k : Nat) (b : Bakery) (acts : (List Deed)) : Option (Bakery × (List Int)) := impl_RunActs_m k (impl_RunActs_l0 k k) b acts
noncomputable def impl_RunActs_v : Nat → List Nat := fun t => match t with | 5 => [4, 5, 6, 7, 24, 25, 26] | _ => []
noncomputable def impl_RunActs_O (k : Nat) : Oracle := ofL [(34, impl_bakeryCopy_x k), (35, impl_BakeryOk_x k), (36, impl_DoAct_x k)]
theorem impl_RunActs_Ok (k : Nat) : OkO (Ct Tryz.prog) (impl_RunActs_O k) := okO_cons (impl_bakeryCopy_ok k) (okO_cons (impl_BakeryOk_ok k) (okO_cons (impl_DoAct_ok k) (okO_nil)))
noncomputable def impl_RunActs_A (b : Bakery) (acts : (List Deed)) : Pk := ⟨[(.ag [(.sl 0), (.v (.int .i64 b.Dough.Water)), (.v (.int .i64 b.Dough.Salt)), (.v (.int .i64 b.Dough.Leaven)), (.v (.int .i64 b.Loaf.Weight)), (.v (.int .i64 b.Loaf.Loss)), (.sl 1), (.v (.int .i64 b.Book.Rack.Fresh)), (.v (.int .i64 b.Book.Rack.Day)), (.v (.int .i64 b.Book.Rack.Old)), (.v (.int .i64 b.Book.Baked)), (.v (.int .i64 b.Book.Sold)), (.v (.int .i64 b.Book.Thrown)), (.v (.int .i64 b.Money))]), (.sc (.sl 2))], [(.row false K.ki64 b.Stock.Grams), (.row false K.k_impl_Event b.Book.Events), (.row false K.k_impl_Act acts)]⟩
noncomputable def impl_RunActs_d : Rs → Option (Bakery × (List Int))
 | ⟨(.tp [(.ag [(.sl 3), (.v (.int .i64 r2)), (.v (.int .i64 r3)), (.v (.int .i64 r4)), (.v (.int .i64 r5)), (.v (.int .i64 r6)), (.sl 4), (.v (.int .i64 r8)), (.v (.int .i64 r9)), (.v (.int .i64 r10)), (.v (.int .i64 r11)), (.v (.int .i64 r12)), (.v (.int .i64 r13)), (.v (.int .i64 r14))]), (.sc (.sl 5))]), [.dead, .dead, .dead, (.row true K.ki64 r1), (.row true K.k_impl_Event r7), (.row true K.ki64 r15)]⟩ => some ((⟨(⟨r1⟩ : Stock), (⟨r2, r3, r4⟩ : Dough), (⟨r5, r6⟩ : Loaf), (⟨r7, (⟨r8, r9, r10⟩ : Rack), r11, r12, r13⟩ : Book), r14⟩ : Bakery), r15)
 | _ => none
theorem impl_RunActs_i {r : Rs} {y : Bakery × (List Int)} (h : impl_RunActs_d r = some y) : r = ⟨(.tp [(.ag [(.sl 3), (.v (.int .i64 y.1.Dough.Water)), (.v (.int .i64 y.1.Dough.Salt)), (.v (.int .i64 y.1.Dough.Leaven)), (.v (.int .i64 y.1.Loaf.Weight)), (.v (.int .i64 y.1.Loaf.Loss)), (.sl 4), (.v (.int .i64 y.1.Book.Rack.Fresh)), (.v (.int .i64 y.1.Book.Rack.Day)), (.v (.int .i64 y.1.Book.Rack.Old)), (.v (.int .i64 y.1.Book.Baked)), (.v (.int .i64 y.1.Book.Sold)), (.v (.int .i64 y.1.Book.Thrown)), (.v (.int .i64 y.1.Money))]), (.sc (.sl 5))]), [.dead, .dead, .dead, (.row true K.ki64 y.1.Stock.Grams), (.row true K.k_impl_Event y.1.Book.Events), (.row true K.ki64 y.2)]⟩ := by
 unfold impl_RunActs_d at h; split at h
 · cases h; rfl
 · cases h
noncomputable def impl_RunActs_h0 (k m : Nat) (b : Bakery) (acts : (List Deed)) (x0_0 : Int) (x0_1 : (List Int)) (x0_2 : (List Event)) (x0_3 : Int) (x0_4 : Int) (x0_5 : Int) (x0_6 : Int) (x0_7 : Int) (x0_8 : Int) (x0_9 : Int) (x0_10 : Int) (x0_11 : Int) (x0_12 : Int) (x0_13 : Int) (x0_14 : Int) (x0_15 : (List Int)) : Option (Bakery × (List Int)) := hdAt env (impl_RunActs_O k) impl_RunActs_v Tryz.f13 3 (fun r => impl_RunActs_d (r.fin 3 [K.ki64])) [1, 1, 1, 0, 1, 0] k m ⟨tmF [4, 5, 6, 7, 24, 25, 26] [(.a (.sc (.bp 5 0))), (.a (.sc .nl)), (.a (.sc (.bp 8 0))), (.a (.sc (.sl 9))), (.a (.sc (.sl 2))), (.a (.sc (.v (.int .i64 ((acts).length : Int))))), (.a (.sc (.v (.int .i64 x0_0))))], blF [(.row false K.ki64 b.Stock.Grams), (.row false K.k_impl_Event b.Book.Events), (.row false K.k_impl_Act acts), (.row true K.ki64 []), (.row true K.k_impl_Event []), (.box true [(.sl 3), (.v (.int .i64 0)), (.v (.int .i64 0)), (.v (.int .i64 0)), (.v (.int .i64 0)), (.v (.int .i64 0)), (.sl 4), (.v (.int .i64 0)), (.v (.int .i64 0)), (.v (.int .i64 0)), (.v (.int .i64 0)), (.v (.int .i64 0)), (.v (.int .i64 0)), (.v (.int .i64 0))]), (.row true K.ki64 x0_1), (.row true K.k_impl_Event x0_2), (.box true [(.sl 6), (.v (.int .i64 x0_3)), (.v (.int .i64 x0_4)), (.v (.int .i64 x0_5)), (.v (.int .i64 x0_6)), (.v (.int .i64 x0_7)), (.sl 7), (.v (.int .i64 x0_8)), (.v (.int .i64 x0_9)), (.v (.int .i64 x0_10)), (.v (.int .i64 x0_11)), (.v (.int .i64 x0_12)), (.v (.int .i64 x0_13)), (.v (.int .i64 x0_14))]), (.row true K.ki64 x0_15)]⟩
theorem impl_RunActs_z0 (k : Nat) (b : Bakery) (acts : (List Deed)) (x0_0 : Int) (x0_1 : (List Int)) (x0_2 : (List Event)) (x0_3 : Int) (x0_4 : Int) (x0_5 : Int) (x0_6 : Int) (x0_7 : Int) (x0_8 : Int) (x0_9 : Int) (x0_10 : Int) (x0_11 : Int) (x0_12 : Int) (x0_13 : Int) (x0_14 : Int) (x0_15 : (List Int)) : impl_RunActs_h0 k 0 b acts x0_0 x0_1 x0_2 x0_3 x0_4 x0_5 x0_6 x0_7 x0_8 x0_9 x0_10 x0_11 x0_12 x0_13 x0_14 x0_15 = impl_RunActs_s0 k b acts (fun _ _ _ _ _ _ _ _ _ _ _ _ _ _ _ _ => none) x0_0 x0_1 x0_2 x0_3 x0_4 x0_5 x0_6 x0_7 x0_8 x0_9 x0_10 x0_11 x0_12 x0_13 x0_14 x0_15 := by kernel_rfl
theorem impl_RunActs_g0 (k : Nat) (H : St → Option (Bakery × (List Int))) (b : Bakery) (acts : (List Deed)) (x0_0 : Int) (x0_1 : (List Int)) (x0_2 : (List Event)) (x0_3 : Int) (x0_4 : Int) (x0_5 : Int) (x0_6 : Int) (x0_7 : Int) (x0_8 : Int) (x0_9 : Int) (x0_10 : Int) (x0_11 : Int) (x0_12 : Int) (x0_13 : Int) (x0_14 : Int) (x0_15 : (List Int)) : rnd env (impl_RunActs_O k) impl_RunActs_v Tryz.f13 3 (fun r => impl_RunActs_d (r.fin 3 [K.ki64])) [1, 1, 1, 0, 1, 0] k H ⟨tmF [4, 5, 6, 7, 24, 25, 26] [(.a (.sc (.bp 5 0))), (.a (.sc .nl)), (.a (.sc (.bp 8 0))), (.a (.sc (.sl 9))), (.a (.sc (.sl 2))), (.a (.sc (.v (.int .i64 ((acts).length : Int))))), (.a (.sc (.v (.int .i64 x0_0))))], blF [(.row false K.ki64 b.Stock.Grams), (.row false K.k_impl_Event b.Book.Events), (.row false K.k_impl_Act acts), (.row true K.ki64 []), (.row true K.k_impl_Event []), (.box true [(.sl 3), (.v (.int .i64 0)), (.v (.int .i64 0)), (.v (.int .i64 0)), (.v (.int .i64 0)), (.v (.int .i64 0)), (.sl 4), (.v (.int .i64 0)), (.v (.int .i64 0)), (.v (.int .i64 0)), (.v (.int .i64 0)), (.v (.int .i64 0)), (.v (.int .i64 0)), (.v (.int .i64 0))]), (.row true K.ki64 x0_1), (.row true K.k_impl_Event x0_2), (.box true [(.sl 6), (.v (.int .i64 x0_3)), (.v (.int .i64 x0_4)), (.v (.int .i64 x0_5)), (.v (.int .i64 x0_6)), (.v (.int .i64 x0_7)), (.sl 7), (.v (.int .i64 x0_8)), (.v (.int .i64 x0_9)), (.v (.int .i64 x0_10)), (.v (.int .i64 x0_11)), (.v (.int .i64 x0_12)), (.v (.int .i64 x0_13)), (.v (.int .i64 x0_14))]), (.row true K.ki64 x0_15)]⟩ = impl_RunActs_s0 k b acts (fun x0_0 x0_1 x0_2 x0_3 x0_4 x0_5 x0_6 x0_7 x0_8 x0_9 x0_10 x0_11 x0_12 x0_13 x0_14 x0_15 => H ⟨tmF [4, 5, 6, 7, 24, 25, 26] [(.a (.sc (.bp 5 0))), (.a (.sc .nl)), (.a (.sc (.bp 8 0))), (.a (.sc (.sl 9))), (.a (.sc (.sl 2))), (.a (.sc (.v (.int .i64 ((acts).length : Int))))), (.a (.sc (.v (.int .i64 x0_0))))], blF [(.row false K.ki64 b.Stock.Grams), (.row false K.k_impl_Event b.Book.Events), (.row false K.k_impl_Act acts), (.row true K.ki64 []), (.row true K.k_impl_Event []), (.box true [(.sl 3), (.v (.int .i64 0)), (.v (.int .i64 0)), (.v (.int .i64 0)), (.v (.int .i64 0)), (.v (.int .i64 0)), (.sl 4), (.v (.int .i64 0)), (.v (.int .i64 0)), (.v (.int .i64 0)), (.v (.int .i64 0)), (.v (.int .i64 0)), (.v (.int .i64 0)), (.v (.int .i64 0))]), (.row true K.ki64 x0_1), (.row true K.k_impl_Event x0_2), (.box true [(.sl 6), (.v (.int .i64 x0_3)), (.v (.int .i64 x0_4)), (.v (.int .i64 x0_5)), (.v (.int .i64 x0_6)), (.v (.int .i64 x0_7)), (.sl 7), (.v (.int .i64 x0_8)), (.v (.int .i64 x0_9)), (.v (.int .i64 x0_10)), (.v (.int .i64 x0_11)), (.v (.int .i64 x0_12)), (.v (.int .i64 x0_13)), (.v (.int .i64 x0_14))]), (.row true K.ki64 x0_15)]⟩) x0_0 x0_1 x0_2 x0_3 x0_4 x0_5 x0_6 x0_7 x0_8 x0_9 x0_10 x0_11 x0_12 x0_13 x0_14 x0_15 := by kernel_rfl
theorem impl_RunActs_n0 (k m : Nat) (b : Bakery) (acts : (List Deed)) (x0_0 : Int) (x0_1 : (List Int)) (x0_2 : (List Event)) (x0_3 : Int) (x0_4 : Int) (x0_5 : Int) (x0_6 : Int) (x0_7 : Int) (x0_8 : Int) (x0_9 : Int) (x0_10 : Int) (x0_11 : Int) (x0_12 : Int) (x0_13 : Int) (x0_14 : Int) (x0_15 : (List Int)) : impl_RunActs_h0 k (m + 1) b acts x0_0 x0_1 x0_2 x0_3 x0_4 x0_5 x0_6 x0_7 x0_8 x0_9 x0_10 x0_11 x0_12 x0_13 x0_14 x0_15 = impl_RunActs_s0 k b acts (impl_RunActs_h0 k m b acts) x0_0 x0_1 x0_2 x0_3 x0_4 x0_5 x0_6 x0_7 x0_8 x0_9 x0_10 x0_11 x0_12 x0_13 x0_14 x0_15 := (hdAt_succ _ _ _ _ _ _ _ _ _ _).trans (impl_RunActs_g0 k _ b acts x0_0 x0_1 x0_2 x0_3 x0_4 x0_5 x0_6 x0_7 x0_8 x0_9 x0_10 x0_11 x0_12 x0_13 x0_14 x0_15)
theorem impl_RunActs_q0 (k : Nat) : ∀ m, impl_RunActs_h0 k m = impl_RunActs_l0 k m := by
 intro m
 induction m with
 | zero => funext b acts x0_0 x0_1 x0_2 x0_3 x0_4 x0_5 x0_6 x0_7 x0_8 x0_9 x0_10 x0_11 x0_12 x0_13 x0_14 x0_15; rw [impl_RunActs_z0]; rfl
 | succ m ih => funext b acts x0_0 x0_1 x0_2 x0_3 x0_4 x0_5 x0_6 x0_7 x0_8 x0_9 x0_10 x0_11 x0_12 x0_13 x0_14 x0_15; rw [impl_RunActs_n0, ih]; rfl
theorem impl_RunActs_e (k : Nat) (b : Bakery) (acts : (List Deed)) : callF env (impl_RunActs_O k) impl_RunActs_v Tryz.f13 (k + 1) (impl_RunActs_A b acts) (fun r => impl_RunActs_d (r.fin 3 [K.ki64])) = impl_RunActs k b acts := by
 have e : ∀ H : St → Option (Bakery × (List Int)), callE env (impl_RunActs_O k) impl_RunActs_v Tryz.f13 (k + 1) (impl_RunActs_A b acts) [1, 1, 1, 0, 1, 0] (fun r => impl_RunActs_d (r.fin 3 [K.ki64])) H = impl_RunActs_m k (fun b acts x0_0 x0_1 x0_2 x0_3 x0_4 x0_5 x0_6 x0_7 x0_8 x0_9 x0_10 x0_11 x0_12 x0_13 x0_14 x0_15 => H ⟨tmF [4, 5, 6, 7, 24, 25, 26] [(.a (.sc (.bp 5 0))), (.a (.sc .nl)), (.a (.sc (.bp 8 0))), (.a (.sc (.sl 9))), (.a (.sc (.sl 2))), (.a (.sc (.v (.int .i64 ((acts).length : Int))))), (.a (.sc (.v (.int .i64 x0_0))))], blF [(.row false K.ki64 b.Stock.Grams), (.row false K.k_impl_Event b.Book.Events), (.row false K.k_impl_Act acts), (.row true K.ki64 []), (.row true K.k_impl_Event []), (.box true [(.sl 3), (.v (.int .i64 0)), (.v (.int .i64 0)), (.v (.int .i64 0)), (.v (.int .i64 0)), (.v (.int .i64 0)), (.sl 4), (.v (.int .i64 0)), (.v (.int .i64 0)), (.v (.int .i64 0)), (.v (.int .i64 0)), (.v (.int .i64 0)), (.v (.int .i64 0)), (.v (.int .i64 0))]), (.row true K.ki64 x0_1), (.row true K.k_impl_Event x0_2), (.box true [(.sl 6), (.v (.int .i64 x0_3)), (.v (.int .i64 x0_4)), (.v (.int .i64 x0_5)), (.v (.int .i64 x0_6)), (.v (.int .i64 x0_7)), (.sl 7), (.v (.int .i64 x0_8)), (.v (.int .i64 x0_9)), (.v (.int .i64 x0_10)), (.v (.int .i64 x0_11)), (.v (.int .i64 x0_12)), (.v (.int .i64 x0_13)), (.v (.int .i64 x0_14))]), (.row true K.ki64 x0_15)]⟩) b acts := fun H => by kernel_rfl
 exact (callE_eq env (impl_RunActs_O k) impl_RunActs_v Tryz.f13 k (impl_RunActs_A b acts) [1, 1, 1, 0, 1, 0] 3 (fun r => impl_RunActs_d (r.fin 3 [K.ki64])) rfl (by kernel_rfl)).trans ((e (hdAt env (impl_RunActs_O k) impl_RunActs_v Tryz.f13 3 (fun r => impl_RunActs_d (r.fin 3 [K.ki64])) [1, 1, 1, 0, 1, 0] k k)).trans (by
  show impl_RunActs_m k (impl_RunActs_h0 k k) b acts = _
  rw [impl_RunActs_q0]; rfl))
noncomputable def impl_RunActs_x (k : Nat) : Ent1 := fun A R Q => match A with
 | ⟨[(.ag [(.sl 0), (.v (.int .i64 a2)), (.v (.int .i64 a3)), (.v (.int .i64 a4)), (.v (.int .i64 a5)), (.v (.int .i64 a6)), (.sl 1), (.v (.int .i64 a8)), (.v (.int .i64 a9)), (.v (.int .i64 a10)), (.v (.int .i64 a11)), (.v (.int .i64 a12)), (.v (.int .i64 a13)), (.v (.int .i64 a14))]), (.sc (.sl 2))], [(.row false K.ki64 a1), (.row false K.k_impl_Event a7), (.row false K.k_impl_Act a15)]⟩ => (impl_RunActs k (⟨(⟨a1⟩ : Stock), (⟨a2, a3, a4⟩ : Dough), (⟨a5, a6⟩ : Loaf), (⟨a7, (⟨a8, a9, a10⟩ : Rack), a11, a12, a13⟩ : Book), a14⟩ : Bakery) a15).bind fun y => Q ⟨(.tp [(.ag [(.sl 3), (.v (.int .i64 y.1.Dough.Water)), (.v (.int .i64 y.1.Dough.Salt)), (.v (.int .i64 y.1.Dough.Leaven)), (.v (.int .i64 y.1.Loaf.Weight)), (.v (.int .i64 y.1.Loaf.Loss)), (.sl 4), (.v (.int .i64 y.1.Book.Rack.Fresh)), (.v (.int .i64 y.1.Book.Rack.Day)), (.v (.int .i64 y.1.Book.Rack.Old)), (.v (.int .i64 y.1.Book.Baked)), (.v (.int .i64 y.1.Book.Sold)), (.v (.int .i64 y.1.Book.Thrown)), (.v (.int .i64 y.1.Money))]), (.sc (.sl 5))]), [.dead, .dead, .dead, (.row true K.ki64 y.1.Stock.Grams), (.row true K.k_impl_Event y.1.Book.Events), (.row true K.ki64 y.2)]⟩
 | _ => none
theorem impl_RunActs_ok (k : Nat) : OkE Tryz.prog 13 (impl_RunActs_x k) := by
 intro A R Q x h
 unfold impl_RunActs_x at h
 split at h
 · obtain ⟨y, hy, hK⟩ := Option.bind_eq_some_iff.1 h
   obtain ⟨r, hr, hd⟩ := callF_ok envOk (impl_RunActs_Ok k) follows Tryz.func13 (by kernel_rfl) ((impl_RunActs_e k _ _).trans hy)
   exact ⟨_, impl_RunActs_i hd ▸ hr.fin [K.ki64], hK⟩
 · cases h
/-! ### impl.FormatBakery: function 16 -/
noncomputable def impl_FormatBakery (k : Nat)  (b : Bakery) : Option ((List ByteArray)) :=
 (impl_BakeryOk k b).bind fun y1 =>
 cond (!y1)
  (some ([]))
  ((impl_told k (ByteArray.mk #[115, 116, 111, 99, 107]) b.Stock.Grams).bind fun y2 =>
   (impl_told k (ByteArray.mk #[114, 97, 99, 107]) ([b.Book.Rack.Fresh, b.Book.Rack.Day, b.Book.Rack.Old])).bind fun y3 =>
    (impl_told k (ByteArray.mk #[98, 111, 111, 107]) ([b.Book.Baked, b.Book.Sold, b.Book.Thrown])).bind fun y4 =>
     (impl_told k (ByteArray.mk #[109, 111, 110, 101, 121]) ([b.Money])).bind fun y5 =>
      some ([y2, y3, y4, y5]))
noncomputable def impl_FormatBakery_v : Nat → List Nat := fun t => match t with | _ => []
noncomputable def impl_FormatBakery_O (k : Nat) : Oracle := ofL [(35, impl_BakeryOk_x k), (39, impl_told_x k)]
theorem impl_FormatBakery_Ok (k : Nat) : OkO (Ct Tryz.prog) (impl_FormatBakery_O k) := okO_cons (impl_BakeryOk_ok k) (okO_cons (impl_told_ok k) (okO_nil))
noncomputable def impl_FormatBakery_A (b : Bakery) : Pk := ⟨[(.ag [(.sl 0), (.v (.int .i64 b.Dough.Water)), (.v (.int .i64 b.Dough.Salt)), (.v (.int .i64 b.Dough.Leaven)), (.v (.int .i64 b.Loaf.Weight)), (.v (.int .i64 b.Loaf.Loss)), (.sl 1), (.v (.int .i64 b.Book.Rack.Fresh)), (.v (.int .i64 b.Book.Rack.Day)), (.v (.int .i64 b.Book.Rack.Old)), (.v (.int .i64 b.Book.Baked)), (.v (.int .i64 b.Book.Sold)), (.v (.int .i64 b.Book.Thrown)), (.v (.int .i64 b.Money))])], [(.row false K.ki64 b.Stock.Grams), (.row false K.k_impl_Event b.Book.Events)]⟩
noncomputable def impl_FormatBakery_d : Rs → Option ((List ByteArray))
 | ⟨(.a (.sc (.sl 2))), [.dead, .dead, (.row true K.kstr r1)]⟩ => some r1
 | _ => none
theorem impl_FormatBakery_i {r : Rs} {y : (List ByteArray)} (h : impl_FormatBakery_d r = some y) : r = ⟨(.a (.sc (.sl 2))), [.dead, .dead, (.row true K.kstr y)]⟩ := by
 unfold impl_FormatBakery_d at h; split at h
 · cases h; rfl
 · cases h
theorem impl_FormatBakery_e (k : Nat) (b : Bakery) : callF env (impl_FormatBakery_O k) impl_FormatBakery_v Tryz.f16 (k + 1) (impl_FormatBakery_A b) (fun r => impl_FormatBakery_d (r.fin 2 [K.kstr])) = impl_FormatBakery k b := by kernel_rfl
noncomputable def impl_FormatBakery_x (k : Nat) : Ent1 := fun A R Q => match A with
 | ⟨[(.ag [(.sl 0), (.v (.int .i64 a2)), (.v (.int .i64 a3)), (.v (.int .i64 a4)), (.v (.int .i64 a5)), (.v (.int .i64 a6)), (.sl 1), (.v (.int .i64 a8)), (.v (.int .i64 a9)), (.v (.int .i64 a10)), (.v (.int .i64 a11)), (.v (.int .i64 a12)), (.v (.int .i64 a13)), (.v (.int .i64 a14))])], [(.row false K.ki64 a1), (.row false K.k_impl_Event a7)]⟩ => (impl_FormatBakery k (⟨(⟨a1⟩ : Stock), (⟨a2, a3, a4⟩ : Dough), (⟨a5, a6⟩ : Loaf), (⟨a7, (⟨a8, a9, a10⟩ : Rack), a11, a12, a13⟩ : Book), a14⟩ : Bakery)).bind fun y => Q ⟨(.a (.sc (.sl 2))), [.dead, .dead, (.row true K.kstr y)]⟩
 | _ => none
theorem impl_FormatBakery_ok (k : Nat) : OkE Tryz.prog 16 (impl_FormatBakery_x k) := by
 intro A R Q x h
 unfold impl_FormatBakery_x at h
 split at h
 · obtain ⟨y, hy, hK⟩ := Option.bind_eq_some_iff.1 h
   obtain ⟨r, hr, hd⟩ := callF_ok envOk (impl_FormatBakery_Ok k) follows Tryz.func16 (by kernel_rfl) ((impl_FormatBakery_e k _).trans hy)
   exact ⟨_, impl_FormatBakery_i hd ▸ hr.fin [K.kstr], hK⟩
 · cases h
/-! ### impl.RunScript: function 6 -/
noncomputable def impl_RunScript_s1 (k : Nat)  (y15 : Bakery × (List Int)) (J : Int → (List ByteArray) → Option ((List ByteArray) × Bool)) (x1_0 : Int) (x1_1 : (List ByteArray)) : Option ((List ByteArray) × Bool) :=
 cond (decide ((x1_0 : Int) < ((y15.2).length : Int)))
 (if 0 ≤ (x1_0 : Int) ∧ (x1_0 : Int) < ((y15.2).length : Int) then
  (impl_FormatInt k (y15.2.getD (Int.toNat x1_0) 0)).bind fun y18 =>
   if (x1_1 : List ByteArray).length + ([y18] : List ByteArray).length ≤ maxRow then
    J (wr (x1_0 + 1)) (x1_1 ++ [y18]) else none else none)
 ((impl_FormatBakery k y15.1).bind fun y19 =>
  if (x1_1 : List ByteArray).length + (y19 : List ByteArray).length ≤ maxRow then
   some ((x1_1 ++ y19), true) else none)
noncomputable def impl_RunScript_l1 (k : Nat) : Nat → Bakery × (List Int) → Int → (List ByteArray) → Option ((List ByteArray) × Bool)
 | 0, y15, x1_0, x1_1 => impl_RunScript_s1 k y15 (fun _ _ => none) x1_0 x1_1
 | m + 1, y15, x1_0, x1_1 => impl_RunScript_s1 k y15 (impl_RunScript_l1 k m y15) x1_0 x1_1
noncomputable def impl_RunScript_s0 (k : Nat) (J1 : Bakery × (List Int) → Int → (List ByteArray) → Option ((List ByteArray) × Bool)) (y1 : (List ByteArray)) (J : Int → (List Deed) → Option ((List ByteArray) × Bool)) (x0_0 : Int) (x0_1 : (List Deed)) : Option ((List ByteArray) × Bool) :=
 cond (decide ((x0_0 : Int) < ((y1).length : Int)))
 (if 0 ≤ (x0_0 : Int) ∧ (x0_0 : Int) < ((y1).length : Int) then
  (impl_SplitFields k (y1.getD (Int.toNat x0_0) (ByteArray.mk #[]))).bind fun y11 =>
   cond y11.2
    (cond (decide ((((y11.1).length : Int) : Int) = 0))
     (J (wr (x0_0 + 1)) x0_1)
     ((impl_ParseAct k (y1.getD (Int.toNat x0_0) (ByteArray.mk #[]))).bind fun y12 =>
      cond (!y12.2)
       (some ([], false))
       (if (x0_1 : List Deed).length + ([y12.1] : List Deed).length ≤ maxRow then
        J (wr (x0_0 + 1)) (x0_1 ++ [y12.1]) else none)))
    ((impl_ParseAct k (y1.getD (Int.toNat x0_0) (ByteArray.mk #[]))).bind fun y13 =>
     cond (!y13.2)
      (some ([], false))
      (if (x0_1 : List Deed).length + ([y13.1] : List Deed).length ≤ maxRow then
       J (wr (x0_0 + 1)) (x0_1 ++ [y13.1]) else none)) else none)
 (cond (decide ((40 : Int) < ((x0_1).length : Int)))
  (some ([], false))
  ((impl_SampleBakery k).bind fun y14 =>
   (impl_RunActs k y14 x0_1).bind fun y15 =>
    J1 y15 0 ([])))
noncomputable def impl_RunScript_l0 (k : Nat) : Nat → (List ByteArray) → Int → (List Deed) → Option ((List ByteArray) × Bool)
 | 0, y1, x0_0, x0_1 => impl_RunScript_s0 k (impl_RunScript_l1 k k) y1 (fun _ _ => none) x0_0 x0_1
 | m + 1, y1, x0_0, x0_1 => impl_RunScript_s0 k (impl_RunScript_l1 k k) y1 (impl_RunScript_l0 k m y1) x0_0 x0_1
noncomputable def impl_RunScript_m (k : Nat) (J0 : (List ByteArray) → Int → (List Deed) → Option ((List ByteArray) × Bool)) (text : ByteArray) : Option ((List ByteArray) × Bool) :=
 cond (decide ((20000 : Int) < ((text).size : Int)))
 (some ([], false))
 ((strings_Split k text (ByteArray.mk #[10])).bind fun y1 =>
  J0 y1 0 ([]))
noncomputable def impl_RunScript (k : Nat) (text : ByteArray) : Option ((List ByteArray) × Bool) := impl_RunScript_m k (impl_RunScript_l0 k k) text
noncomputable def impl_RunScript_v : Nat → List Nat := fun t => match t with | 5 => [2, 3, 4, 21, 22, 23] | 19 => [2, 3, 11, 13, 60, 61, 62] | _ => []
noncomputable def impl_RunScript_O (k : Nat) : Oracle := ofL [(13, impl_RunActs_x k), (14, impl_SampleBakery_x k), (15, impl_FormatInt_x k), (16, impl_FormatBakery_x k), (24, strings_Split_x k), (25, impl_SplitFields_x k), (26, impl_ParseAct_x k)]
theorem impl_RunScript_Ok (k : Nat) : OkO (Ct Tryz.prog) (impl_RunScript_O k) := okO_cons (impl_RunActs_ok k) (okO_cons (impl_SampleBakery_ok k) (okO_cons (impl_FormatInt_ok k) (okO_cons (impl_FormatBakery_ok k) (okO_cons (strings_Split_ok k) (okO_cons (impl_SplitFields_ok k) (okO_cons (impl_ParseAct_ok k) (okO_nil)))))))
noncomputable def impl_RunScript_A (text : ByteArray) : Pk := ⟨[(.sc (.v (.string text)))], []⟩
noncomputable def impl_RunScript_d : Rs → Option ((List ByteArray) × Bool)
 | ⟨(.tp [(.sc (.sl 0)), (.sc (.v (.bool r2)))]), [(.row true K.kstr r1)]⟩ => some (r1, r2)
 | _ => none
theorem impl_RunScript_i {r : Rs} {y : (List ByteArray) × Bool} (h : impl_RunScript_d r = some y) : r = ⟨(.tp [(.sc (.sl 0)), (.sc (.v (.bool y.2)))]), [(.row true K.kstr y.1)]⟩ := by
 unfold impl_RunScript_d at h; split at h
 · cases h; rfl
 · cases h
noncomputable def impl_RunScript_h1 (k m : Nat) (y15 : Bakery × (List Int)) (x1_0 : Int) (x1_1 : (List ByteArray)) : Option ((List ByteArray) × Bool) := hdAt env (impl_RunScript_O k) impl_RunScript_v Tryz.f6 0 (fun r => impl_RunScript_d (r.fin 0 [K.kstr])) [1, 1, 1, 1, 1, 1, 1, 0, 1, 0] k m ⟨tmF [2, 3, 11, 13, 60, 61, 62] [(.a (.sc .nl)), (.a (.sc (.v (.bool false)))), (.a (.sc (.bp 2 0))), (.a (.sc (.sl 3))), (.a (.sc (.sl 4))), (.a (.sc (.v (.int .i64 ((y15.2).length : Int))))), (.a (.sc (.v (.int .i64 x1_0))))], blF [(.row true K.ki64 y15.1.Stock.Grams), (.row true K.k_impl_Event y15.1.Book.Events), (.box true [(.sl 0), (.v (.int .i64 y15.1.Dough.Water)), (.v (.int .i64 y15.1.Dough.Salt)), (.v (.int .i64 y15.1.Dough.Leaven)), (.v (.int .i64 y15.1.Loaf.Weight)), (.v (.int .i64 y15.1.Loaf.Loss)), (.sl 1), (.v (.int .i64 y15.1.Book.Rack.Fresh)), (.v (.int .i64 y15.1.Book.Rack.Day)), (.v (.int .i64 y15.1.Book.Rack.Old)), (.v (.int .i64 y15.1.Book.Baked)), (.v (.int .i64 y15.1.Book.Sold)), (.v (.int .i64 y15.1.Book.Thrown)), (.v (.int .i64 y15.1.Money))]), (.row true K.kstr x1_1), (.row true K.ki64 y15.2)]⟩
theorem impl_RunScript_z1 (k : Nat) (y15 : Bakery × (List Int)) (x1_0 : Int) (x1_1 : (List ByteArray)) : impl_RunScript_h1 k 0 y15 x1_0 x1_1 = impl_RunScript_s1 k y15 (fun _ _ => none) x1_0 x1_1 := by kernel_rfl
theorem impl_RunScript_g1 (k : Nat) (H : St → Option ((List ByteArray) × Bool)) (y15 : Bakery × (List Int)) (x1_0 : Int) (x1_1 : (List ByteArray)) : rnd env (impl_RunScript_O k) impl_RunScript_v Tryz.f6 0 (fun r => impl_RunScript_d (r.fin 0 [K.kstr])) [1, 1, 1, 1, 1, 1, 1, 0, 1, 0] k H ⟨tmF [2, 3, 11, 13, 60, 61, 62] [(.a (.sc .nl)), (.a (.sc (.v (.bool false)))), (.a (.sc (.bp 2 0))), (.a (.sc (.sl 3))), (.a (.sc (.sl 4))), (.a (.sc (.v (.int .i64 ((y15.2).length : Int))))), (.a (.sc (.v (.int .i64 x1_0))))], blF [(.row true K.ki64 y15.1.Stock.Grams), (.row true K.k_impl_Event y15.1.Book.Events), (.box true [(.sl 0), (.v (.int .i64 y15.1.Dough.Water)), (.v (.int .i64 y15.1.Dough.Salt)), (.v (.int .i64 y15.1.Dough.Leaven)), (.v (.int .i64 y15.1.Loaf.Weight)), (.v (.int .i64 y15.1.Loaf.Loss)), (.sl 1), (.v (.int .i64 y15.1.Book.Rack.Fresh)), (.v (.int .i64 y15.1.Book.Rack.Day)), (.v (.int .i64 y15.1.Book.Rack.Old)), (.v (.int .i64 y15.1.Book.Baked)), (.v (.int .i64 y15.1.Book.Sold)), (.v (.int .i64 y15.1.Book.Thrown)), (.v (.int .i64 y15.1.Money))]), (.row true K.kstr x1_1), (.row true K.ki64 y15.2)]⟩ = impl_RunScript_s1 k y15 (fun x1_0 x1_1 => H ⟨tmF [2, 3, 11, 13, 60, 61, 62] [(.a (.sc .nl)), (.a (.sc (.v (.bool false)))), (.a (.sc (.bp 2 0))), (.a (.sc (.sl 3))), (.a (.sc (.sl 4))), (.a (.sc (.v (.int .i64 ((y15.2).length : Int))))), (.a (.sc (.v (.int .i64 x1_0))))], blF [(.row true K.ki64 y15.1.Stock.Grams), (.row true K.k_impl_Event y15.1.Book.Events), (.box true [(.sl 0), (.v (.int .i64 y15.1.Dough.Water)), (.v (.int .i64 y15.1.Dough.Salt)), (.v (.int .i64 y15.1.Dough.Leaven)), (.v (.int .i64 y15.1.Loaf.Weight)), (.v (.int .i64 y15.1.Loaf.Loss)), (.sl 1), (.v (.int .i64 y15.1.Book.Rack.Fresh)), (.v (.int .i64 y15.1.Book.Rack.Day)), (.v (.int .i64 y15.1.Book.Rack.Old)), (.v (.int .i64 y15.1.Book.Baked)), (.v (.int .i64 y15.1.Book.Sold)), (.v (.int .i64 y15.1.Book.Thrown)), (.v (.int .i64 y15.1.Money))]), (.row true K.kstr x1_1), (.row true K.ki64 y15.2)]⟩) x1_0 x1_1 := by kernel_rfl
theorem impl_RunScript_n1 (k m : Nat) (y15 : Bakery × (List Int)) (x1_0 : Int) (x1_1 : (List ByteArray)) : impl_RunScript_h1 k (m + 1) y15 x1_0 x1_1 = impl_RunScript_s1 k y15 (impl_RunScript_h1 k m y15) x1_0 x1_1 := (hdAt_succ _ _ _ _ _ _ _ _ _ _).trans (impl_RunScript_g1 k _ y15 x1_0 x1_1)
theorem impl_RunScript_q1 (k : Nat) : ∀ m, impl_RunScript_h1 k m = impl_RunScript_l1 k m := by
 intro m
 induction m with
 | zero => funext y15 x1_0 x1_1; rw [impl_RunScript_z1]; rfl
 | succ m ih => funext y15 x1_0 x1_1; rw [impl_RunScript_n1, ih]; rfl
noncomputable def impl_RunScript_h0 (k m : Nat) (y1 : (List ByteArray)) (x0_0 : Int) (x0_1 : (List Deed)) : Option ((List ByteArray) × Bool) := hdAt env (impl_RunScript_O k) impl_RunScript_v Tryz.f6 0 (fun r => impl_RunScript_d (r.fin 0 [K.kstr])) [1, 1, 1, 0, 1, 0] k m ⟨tmF [2, 3, 4, 21, 22, 23] [(.a (.sc .nl)), (.a (.sc (.v (.bool false)))), (.a (.sc (.sl 0))), (.a (.sc (.sl 1))), (.a (.sc (.v (.int .i64 ((y1).length : Int))))), (.a (.sc (.v (.int .i64 x0_0))))], blF [(.row true K.k_impl_Act x0_1), (.row true K.kstr y1)]⟩
theorem impl_RunScript_z0 (k : Nat) (y1 : (List ByteArray)) (x0_0 : Int) (x0_1 : (List Deed)) : impl_RunScript_h0 k 0 y1 x0_0 x0_1 = impl_RunScript_s0 k (impl_RunScript_h1 k k) y1 (fun _ _ => none) x0_0 x0_1 := by kernel_rfl
theorem impl_RunScript_g0 (k : Nat) (H : St → Option ((List ByteArray) × Bool)) (y1 : (List ByteArray)) (x0_0 : Int) (x0_1 : (List Deed)) : rnd env (impl_RunScript_O k) impl_RunScript_v Tryz.f6 0 (fun r => impl_RunScript_d (r.fin 0 [K.kstr])) [1, 1, 1, 0, 1, 0] k H ⟨tmF [2, 3, 4, 21, 22, 23] [(.a (.sc .nl)), (.a (.sc (.v (.bool false)))), (.a (.sc (.sl 0))), (.a (.sc (.sl 1))), (.a (.sc (.v (.int .i64 ((y1).length : Int))))), (.a (.sc (.v (.int .i64 x0_0))))], blF [(.row true K.k_impl_Act x0_1), (.row true K.kstr y1)]⟩ = impl_RunScript_s0 k (impl_RunScript_h1 k k) y1 (fun x0_0 x0_1 => H ⟨tmF [2, 3, 4, 21, 22, 23] [(.a (.sc .nl)), (.a (.sc (.v (.bool false)))), (.a (.sc (.sl 0))), (.a (.sc (.sl 1))), (.a (.sc (.v (.int .i64 ((y1).length : Int))))), (.a (.sc (.v (.int .i64 x0_0))))], blF [(.row true K.k_impl_Act x0_1), (.row true K.kstr y1)]⟩) x0_0 x0_1 := by kernel_rfl
theorem impl_RunScript_n0 (k m : Nat) (y1 : (List ByteArray)) (x0_0 : Int) (x0_1 : (List Deed)) : impl_RunScript_h0 k (m + 1) y1 x0_0 x0_1 = impl_RunScript_s0 k (impl_RunScript_h1 k k) y1 (impl_RunScript_h0 k m y1) x0_0 x0_1 := (hdAt_succ _ _ _ _ _ _ _ _ _ _).trans (impl_RunScript_g0 k _ y1 x0_0 x0_1)
theorem impl_RunScript_q0 (k : Nat) : ∀ m, impl_RunScript_h0 k m = impl_RunScript_l0 k m := by
 intro m
 induction m with
 | zero => funext y1 x0_0 x0_1; rw [impl_RunScript_z0, impl_RunScript_q1]; rfl
 | succ m ih => funext y1 x0_0 x0_1; rw [impl_RunScript_n0, ih, impl_RunScript_q1]; rfl
theorem impl_RunScript_e (k : Nat) (text : ByteArray) : callF env (impl_RunScript_O k) impl_RunScript_v Tryz.f6 (k + 1) (impl_RunScript_A text) (fun r => impl_RunScript_d (r.fin 0 [K.kstr])) = impl_RunScript k text := by
 have e : ∀ H : St → Option ((List ByteArray) × Bool), callE env (impl_RunScript_O k) impl_RunScript_v Tryz.f6 (k + 1) (impl_RunScript_A text) [1, 1, 1, 0, 1, 0] (fun r => impl_RunScript_d (r.fin 0 [K.kstr])) H = impl_RunScript_m k (fun y1 x0_0 x0_1 => H ⟨tmF [2, 3, 4, 21, 22, 23] [(.a (.sc .nl)), (.a (.sc (.v (.bool false)))), (.a (.sc (.sl 0))), (.a (.sc (.sl 1))), (.a (.sc (.v (.int .i64 ((y1).length : Int))))), (.a (.sc (.v (.int .i64 x0_0))))], blF [(.row true K.k_impl_Act x0_1), (.row true K.kstr y1)]⟩) text := fun H => by kernel_rfl
 exact (callE_eq env (impl_RunScript_O k) impl_RunScript_v Tryz.f6 k (impl_RunScript_A text) [1, 1, 1, 0, 1, 0] 0 (fun r => impl_RunScript_d (r.fin 0 [K.kstr])) rfl (by kernel_rfl)).trans ((e (hdAt env (impl_RunScript_O k) impl_RunScript_v Tryz.f6 0 (fun r => impl_RunScript_d (r.fin 0 [K.kstr])) [1, 1, 1, 0, 1, 0] k k)).trans (by
  show impl_RunScript_m k (impl_RunScript_h0 k k) text = _
  rw [impl_RunScript_q0]; rfl))
noncomputable def impl_RunScript_x (k : Nat) : Ent1 := fun A R Q => match A with
 | ⟨[(.sc (.v (.string a1)))], []⟩ => (impl_RunScript k a1).bind fun y => Q ⟨(.tp [(.sc (.sl 0)), (.sc (.v (.bool y.2)))]), [(.row true K.kstr y.1)]⟩
 | _ => none
theorem impl_RunScript_ok (k : Nat) : OkE Tryz.prog 6 (impl_RunScript_x k) := by
 intro A R Q x h
 unfold impl_RunScript_x at h
 split at h
 · obtain ⟨y, hy, hK⟩ := Option.bind_eq_some_iff.1 h
   obtain ⟨r, hr, hd⟩ := callF_ok envOk (impl_RunScript_Ok k) follows Tryz.func6 (by kernel_rfl) ((impl_RunScript_e k _).trans hy)
   exact ⟨_, impl_RunScript_i hd ▸ hr.fin [K.kstr], hK⟩
 · cases h
/-! ### laws.sameTexts: function 17 -/
noncomputable def laws_sameTexts_s0 (k : Nat)  (a : (List ByteArray)) (b : (List ByteArray)) (J : Int → Option (Bool)) (x0_0 : Int) : Option (Bool) :=
 cond (decide ((x0_0 : Int) < ((a).length : Int)))
 (if 0 ≤ (x0_0 : Int) ∧ (x0_0 : Int) < ((a).length : Int) then
  if 0 ≤ (x0_0 : Int) ∧ (x0_0 : Int) < ((b).length : Int) then
   cond (!(decide (((a.getD (Int.toNat x0_0) (ByteArray.mk #[])) : ByteArray) = (b.getD (Int.toNat x0_0) (ByteArray.mk #[])))))
    (some false)
    (J (wr (x0_0 + 1))) else none else none)
 (some true)
noncomputable def laws_sameTexts_l0 (k : Nat) : Nat → (List ByteArray) → (List ByteArray) → Int → Option (Bool)
 | 0, a, b, x0_0 => laws_sameTexts_s0 k a b (fun _ => none) x0_0
 | m + 1, a, b, x0_0 => laws_sameTexts_s0 k a b (laws_sameTexts_l0 k m a b) x0_0
noncomputable def laws_sameTexts_m (k : Nat) (J0 : (List ByteArray) → (List ByteArray) → Int → Option (Bool)) (a : (List ByteArray)) (b : (List ByteArray)) : Option (Bool) :=
 cond (!(decide ((((a).length : Int) : Int) = ((b).length : Int))))
 (some false)
 (J0 a b 0)
noncomputable def laws_sameTexts (k : Nat) (a : (List ByteArray)) (b : (List ByteArray)) : Option (Bool) := laws_sameTexts_m k (laws_sameTexts_l0 k k) a b
noncomputable def laws_sameTexts_v : Nat → List Nat := fun t => match t with | 4 => [0, 1, 4, 5] | _ => []
noncomputable def laws_sameTexts_O (k : Nat) : Oracle := ofL []
theorem laws_sameTexts_Ok (k : Nat) : OkO (Ct Tryz.prog) (laws_sameTexts_O k) := okO_nil
noncomputable def laws_sameTexts_A (a : (List ByteArray)) (b : (List ByteArray)) : Pk := ⟨[(.sc (.sl 0)), (.sc (.sl 1))], [(.row false K.kstr a), (.row false K.kstr b)]⟩
noncomputable def laws_sameTexts_d : Rs → Option (Bool)
 | ⟨(.a (.sc (.v (.bool r1)))), [.dead, .dead]⟩ => some r1
 | _ => none
theorem laws_sameTexts_i {r : Rs} {y : Bool} (h : laws_sameTexts_d r = some y) : r = ⟨(.a (.sc (.v (.bool y)))), [.dead, .dead]⟩ := by
 unfold laws_sameTexts_d at h; split at h
 · cases h; rfl
 · cases h
noncomputable def laws_sameTexts_h0 (k m : Nat) (a : (List ByteArray)) (b : (List ByteArray)) (x0_0 : Int) : Option (Bool) := hdAt env (laws_sameTexts_O k) laws_sameTexts_v Tryz.f17 2 (fun r => laws_sameTexts_d (r.fin 2 [])) [1, 1, 0, 1, 0] k m ⟨tmF [0, 1, 4, 5] [(.a (.sc (.sl 0))), (.a (.sc (.sl 1))), (.a (.sc (.v (.bool false)))), (.a (.sc (.v (.int .i64 x0_0))))], blF [(.row false K.kstr a), (.row false K.kstr b)]⟩
theorem laws_sameTexts_z0 (k : Nat) (a : (List ByteArray)) (b : (List ByteArray)) (x0_0 : Int) : laws_sameTexts_h0 k 0 a b x0_0 = laws_sameTexts_s0 k a b (fun _ => none) x0_0 := by kernel_rfl
theorem laws_sameTexts_g0 (k : Nat) (H : St → Option (Bool)) (a : (List ByteArray)) (b : (List ByteArray)) (x0_0 : Int) : rnd env (laws_sameTexts_O k) laws_sameTexts_v Tryz.f17 2 (fun r => laws_sameTexts_d (r.fin 2 [])) [1, 1, 0, 1, 0] k H ⟨tmF [0, 1, 4, 5] [(.a (.sc (.sl 0))), (.a (.sc (.sl 1))), (.a (.sc (.v (.bool false)))), (.a (.sc (.v (.int .i64 x0_0))))], blF [(.row false K.kstr a), (.row false K.kstr b)]⟩ = laws_sameTexts_s0 k a b (fun x0_0 => H ⟨tmF [0, 1, 4, 5] [(.a (.sc (.sl 0))), (.a (.sc (.sl 1))), (.a (.sc (.v (.bool false)))), (.a (.sc (.v (.int .i64 x0_0))))], blF [(.row false K.kstr a), (.row false K.kstr b)]⟩) x0_0 := by kernel_rfl
theorem laws_sameTexts_n0 (k m : Nat) (a : (List ByteArray)) (b : (List ByteArray)) (x0_0 : Int) : laws_sameTexts_h0 k (m + 1) a b x0_0 = laws_sameTexts_s0 k a b (laws_sameTexts_h0 k m a b) x0_0 := (hdAt_succ _ _ _ _ _ _ _ _ _ _).trans (laws_sameTexts_g0 k _ a b x0_0)
theorem laws_sameTexts_q0 (k : Nat) : ∀ m, laws_sameTexts_h0 k m = laws_sameTexts_l0 k m := by
 intro m
 induction m with
 | zero => funext a b x0_0; rw [laws_sameTexts_z0]; rfl
 | succ m ih => funext a b x0_0; rw [laws_sameTexts_n0, ih]; rfl
theorem laws_sameTexts_e (k : Nat) (a : (List ByteArray)) (b : (List ByteArray)) : callF env (laws_sameTexts_O k) laws_sameTexts_v Tryz.f17 (k + 1) (laws_sameTexts_A a b) (fun r => laws_sameTexts_d (r.fin 2 [])) = laws_sameTexts k a b := by
 have e : ∀ H : St → Option (Bool), callE env (laws_sameTexts_O k) laws_sameTexts_v Tryz.f17 (k + 1) (laws_sameTexts_A a b) [1, 1, 0, 1, 0] (fun r => laws_sameTexts_d (r.fin 2 [])) H = laws_sameTexts_m k (fun a b x0_0 => H ⟨tmF [0, 1, 4, 5] [(.a (.sc (.sl 0))), (.a (.sc (.sl 1))), (.a (.sc (.v (.bool false)))), (.a (.sc (.v (.int .i64 x0_0))))], blF [(.row false K.kstr a), (.row false K.kstr b)]⟩) a b := fun H => by kernel_rfl
 exact (callE_eq env (laws_sameTexts_O k) laws_sameTexts_v Tryz.f17 k (laws_sameTexts_A a b) [1, 1, 0, 1, 0] 2 (fun r => laws_sameTexts_d (r.fin 2 [])) rfl (by kernel_rfl)).trans ((e (hdAt env (laws_sameTexts_O k) laws_sameTexts_v Tryz.f17 2 (fun r => laws_sameTexts_d (r.fin 2 [])) [1, 1, 0, 1, 0] k k)).trans (by
  show laws_sameTexts_m k (laws_sameTexts_h0 k k) a b = _
  rw [laws_sameTexts_q0]; rfl))
noncomputable def laws_sameTexts_x (k : Nat) : Ent1 := fun A R Q => match A with
 | ⟨[(.sc (.sl 0)), (.sc (.sl 1))], [(.row false K.kstr a1), (.row false K.kstr a2)]⟩ => (laws_sameTexts k a1 a2).bind fun y => Q ⟨(.a (.sc (.v (.bool y)))), [.dead, .dead]⟩
 | _ => none
theorem laws_sameTexts_ok (k : Nat) : OkE Tryz.prog 17 (laws_sameTexts_x k) := by
 intro A R Q x h
 unfold laws_sameTexts_x at h
 split at h
 · obtain ⟨y, hy, hK⟩ := Option.bind_eq_some_iff.1 h
   obtain ⟨r, hr, hd⟩ := callF_ok envOk (laws_sameTexts_Ok k) follows Tryz.func17 (by kernel_rfl) ((laws_sameTexts_e k _ _).trans hy)
   exact ⟨_, laws_sameTexts_i hd ▸ hr.fin [], hK⟩
 · cases h
/-! ### laws.FnScripts: function 4 -/
noncomputable def laws_FnScripts_s0 (k : Nat)  (code : (List Int)) (y3 : ByteArray × Bool × (List Deed)) (y4 : (List ByteArray) × Bool) (y6 : Bakery × (List Int)) (J : Int → (List ByteArray) → Option (Bool)) (x0_0 : Int) (x0_1 : (List ByteArray)) : Option (Bool) :=
 cond (decide ((x0_0 : Int) < ((y6.2).length : Int)))
 (if 0 ≤ (x0_0 : Int) ∧ (x0_0 : Int) < ((y6.2).length : Int) then
  (impl_FormatInt k (y6.2.getD (Int.toNat x0_0) 0)).bind fun y12 =>
   if (x0_1 : List ByteArray).length + ([y12] : List ByteArray).length ≤ maxRow then
    J (wr (x0_0 + 1)) (x0_1 ++ [y12]) else none else none)
 ((impl_FormatBakery k y6.1).bind fun y10 =>
  if (x0_1 : List ByteArray).length + (y10 : List ByteArray).length ≤ maxRow then
   cond y3.2.1
    (cond y4.2
     ((laws_sameTexts k y4.1 (x0_1 ++ y10)).bind fun y11 =>
      some y11)
     (some false))
    (some false) else none)
noncomputable def laws_FnScripts_l0 (k : Nat) : Nat → (List Int) → ByteArray × Bool × (List Deed) → (List ByteArray) × Bool → Bakery × (List Int) → Int → (List ByteArray) → Option (Bool)
 | 0, code, y3, y4, y6, x0_0, x0_1 => laws_FnScripts_s0 k code y3 y4 y6 (fun _ _ => none) x0_0 x0_1
 | m + 1, code, y3, y4, y6, x0_0, x0_1 => laws_FnScripts_s0 k code y3 y4 y6 (laws_FnScripts_l0 k m code y3 y4 y6) x0_0 x0_1
noncomputable def laws_FnScripts_m (k : Nat) (J0 : (List Int) → ByteArray × Bool × (List Deed) → (List ByteArray) × Bool → Bakery × (List Int) → Int → (List ByteArray) → Option (Bool)) (code : (List Int)) : Option (Bool) :=
 (laws_big k code).bind fun y1 =>
 cond y1
  (some true)
  ((spec_DrawActs k code).bind fun y2 =>
   (impl_ScriptText k y2.2).bind fun y3 =>
    (impl_RunScript k y3.1).bind fun y4 =>
     (impl_SampleBakery k).bind fun y5 =>
      (impl_RunActs k y5 y3.2.2).bind fun y6 =>
       J0 code y3 y4 y6 0 ([]))
noncomputable def laws_FnScripts (k : Nat) (code : (List Int)) : Option (Bool) := laws_FnScripts_m k (laws_FnScripts_l0 k k) code
noncomputable def laws_FnScripts_v : Nat → List Nat := fun t => match t with | 9 => [2, 6, 7, 8, 9, 10, 11, 12] | _ => []
noncomputable def laws_FnScripts_O (k : Nat) : Oracle := ofL [(10, laws_big_x k), (11, spec_DrawActs_x k), (12, impl_ScriptText_x k), (13, impl_RunActs_x k), (14, impl_SampleBakery_x k), (15, impl_FormatInt_x k), (16, impl_FormatBakery_x k), (17, laws_sameTexts_x k), (6, impl_RunScript_x k)]
theorem laws_FnScripts_Ok (k : Nat) : OkO (Ct Tryz.prog) (laws_FnScripts_O k) := okO_cons (laws_big_ok k) (okO_cons (spec_DrawActs_ok k) (okO_cons (impl_ScriptText_ok k) (okO_cons (impl_RunActs_ok k) (okO_cons (impl_SampleBakery_ok k) (okO_cons (impl_FormatInt_ok k) (okO_cons (impl_FormatBakery_ok k) (okO_cons (laws_sameTexts_ok k) (okO_cons (impl_RunScript_ok k) (okO_nil)))))))))
noncomputable def laws_FnScripts_A (code : (List Int)) : Pk := ⟨[(.sc (.sl 0))], [(.row false K.ku8 code)]⟩
noncomputable def laws_FnScripts_d : Rs → Option (Bool)
 | ⟨(.a (.sc (.v (.bool r1)))), [.dead]⟩ => some r1
 | _ => none
theorem laws_FnScripts_i {r : Rs} {y : Bool} (h : laws_FnScripts_d r = some y) : r = ⟨(.a (.sc (.v (.bool y)))), [.dead]⟩ := by
 unfold laws_FnScripts_d at h; split at h
 · cases h; rfl
 · cases h
noncomputable def laws_FnScripts_h0 (k m : Nat) (code : (List Int)) (y3 : ByteArray × Bool × (List Deed)) (y4 : (List ByteArray) × Bool) (y6 : Bakery × (List Int)) (x0_0 : Int) (x0_1 : (List ByteArray)) : Option (Bool) := hdAt env (laws_FnScripts_O k) laws_FnScripts_v Tryz.f4 1 (fun r => laws_FnScripts_d (r.fin 1 [])) [1, 1, 1, 1, 1, 1, 1, 0, 1, 0] k m ⟨tmF [2, 6, 7, 8, 9, 10, 11, 12] [(.a (.sc (.v (.bool false)))), (.a (.sc (.v (.bool y3.2.1)))), (.a (.sc (.sl 1))), (.a (.sc (.v (.bool y4.2)))), (.a (.sc (.bp 4 0))), (.a (.sc (.sl 5))), (.a (.sc (.sl 6))), (.a (.sc (.v (.int .i64 x0_0))))], blF [(.row false K.ku8 code), (.row true K.kstr y4.1), (.row true K.ki64 y6.1.Stock.Grams), (.row true K.k_impl_Event y6.1.Book.Events), (.box true [(.sl 2), (.v (.int .i64 y6.1.Dough.Water)), (.v (.int .i64 y6.1.Dough.Salt)), (.v (.int .i64 y6.1.Dough.Leaven)), (.v (.int .i64 y6.1.Loaf.Weight)), (.v (.int .i64 y6.1.Loaf.Loss)), (.sl 3), (.v (.int .i64 y6.1.Book.Rack.Fresh)), (.v (.int .i64 y6.1.Book.Rack.Day)), (.v (.int .i64 y6.1.Book.Rack.Old)), (.v (.int .i64 y6.1.Book.Baked)), (.v (.int .i64 y6.1.Book.Sold)), (.v (.int .i64 y6.1.Book.Thrown)), (.v (.int .i64 y6.1.Money))]), (.row true K.ki64 y6.2), (.row true K.kstr x0_1)]⟩
theorem laws_FnScripts_z0 (k : Nat) (code : (List Int)) (y3 : ByteArray × Bool × (List Deed)) (y4 : (List ByteArray) × Bool) (y6 : Bakery × (List Int)) (x0_0 : Int) (x0_1 : (List ByteArray)) : laws_FnScripts_h0 k 0 code y3 y4 y6 x0_0 x0_1 = laws_FnScripts_s0 k code y3 y4 y6 (fun _ _ => none) x0_0 x0_1 := by kernel_rfl
theorem laws_FnScripts_g0 (k : Nat) (H : St → Option (Bool)) (code : (List Int)) (y3 : ByteArray × Bool × (List Deed)) (y4 : (List ByteArray) × Bool) (y6 : Bakery × (List Int)) (x0_0 : Int) (x0_1 : (List ByteArray)) : rnd env (laws_FnScripts_O k) laws_FnScripts_v Tryz.f4 1 (fun r => laws_FnScripts_d (r.fin 1 [])) [1, 1, 1, 1, 1, 1, 1, 0, 1, 0] k H ⟨tmF [2, 6, 7, 8, 9, 10, 11, 12] [(.a (.sc (.v (.bool false)))), (.a (.sc (.v (.bool y3.2.1)))), (.a (.sc (.sl 1))), (.a (.sc (.v (.bool y4.2)))), (.a (.sc (.bp 4 0))), (.a (.sc (.sl 5))), (.a (.sc (.sl 6))), (.a (.sc (.v (.int .i64 x0_0))))], blF [(.row false K.ku8 code), (.row true K.kstr y4.1), (.row true K.ki64 y6.1.Stock.Grams), (.row true K.k_impl_Event y6.1.Book.Events), (.box true [(.sl 2), (.v (.int .i64 y6.1.Dough.Water)), (.v (.int .i64 y6.1.Dough.Salt)), (.v (.int .i64 y6.1.Dough.Leaven)), (.v (.int .i64 y6.1.Loaf.Weight)), (.v (.int .i64 y6.1.Loaf.Loss)), (.sl 3), (.v (.int .i64 y6.1.Book.Rack.Fresh)), (.v (.int .i64 y6.1.Book.Rack.Day)), (.v (.int .i64 y6.1.Book.Rack.Old)), (.v (.int .i64 y6.1.Book.Baked)), (.v (.int .i64 y6.1.Book.Sold)), (.v (.int .i64 y6.1.Book.Thrown)), (.v (.int .i64 y6.1.Money))]), (.row true K.ki64 y6.2), (.row true K.kstr x0_1)]⟩ = laws_FnScripts_s0 k code y3 y4 y6 (fun x0_0 x0_1 => H ⟨tmF [2, 6, 7, 8, 9, 10, 11, 12] [(.a (.sc (.v (.bool false)))), (.a (.sc (.v (.bool y3.2.1)))), (.a (.sc (.sl 1))), (.a (.sc (.v (.bool y4.2)))), (.a (.sc (.bp 4 0))), (.a (.sc (.sl 5))), (.a (.sc (.sl 6))), (.a (.sc (.v (.int .i64 x0_0))))], blF [(.row false K.ku8 code), (.row true K.kstr y4.1), (.row true K.ki64 y6.1.Stock.Grams), (.row true K.k_impl_Event y6.1.Book.Events), (.box true [(.sl 2), (.v (.int .i64 y6.1.Dough.Water)), (.v (.int .i64 y6.1.Dough.Salt)), (.v (.int .i64 y6.1.Dough.Leaven)), (.v (.int .i64 y6.1.Loaf.Weight)), (.v (.int .i64 y6.1.Loaf.Loss)), (.sl 3), (.v (.int .i64 y6.1.Book.Rack.Fresh)), (.v (.int .i64 y6.1.Book.Rack.Day)), (.v (.int .i64 y6.1.Book.Rack.Old)), (.v (.int .i64 y6.1.Book.Baked)), (.v (.int .i64 y6.1.Book.Sold)), (.v (.int .i64 y6.1.Book.Thrown)), (.v (.int .i64 y6.1.Money))]), (.row true K.ki64 y6.2), (.row true K.kstr x0_1)]⟩) x0_0 x0_1 := by kernel_rfl
theorem laws_FnScripts_n0 (k m : Nat) (code : (List Int)) (y3 : ByteArray × Bool × (List Deed)) (y4 : (List ByteArray) × Bool) (y6 : Bakery × (List Int)) (x0_0 : Int) (x0_1 : (List ByteArray)) : laws_FnScripts_h0 k (m + 1) code y3 y4 y6 x0_0 x0_1 = laws_FnScripts_s0 k code y3 y4 y6 (laws_FnScripts_h0 k m code y3 y4 y6) x0_0 x0_1 := (hdAt_succ _ _ _ _ _ _ _ _ _ _).trans (laws_FnScripts_g0 k _ code y3 y4 y6 x0_0 x0_1)
theorem laws_FnScripts_q0 (k : Nat) : ∀ m, laws_FnScripts_h0 k m = laws_FnScripts_l0 k m := by
 intro m
 induction m with
 | zero => funext code y3 y4 y6 x0_0 x0_1; rw [laws_FnScripts_z0]; rfl
 | succ m ih => funext code y3 y4 y6 x0_0 x0_1; rw [laws_FnScripts_n0, ih]; rfl
theorem laws_FnScripts_e (k : Nat) (code : (List Int)) : callF env (laws_FnScripts_O k) laws_FnScripts_v Tryz.f4 (k + 1) (laws_FnScripts_A code) (fun r => laws_FnScripts_d (r.fin 1 [])) = laws_FnScripts k code := by
 have e : ∀ H : St → Option (Bool), callE env (laws_FnScripts_O k) laws_FnScripts_v Tryz.f4 (k + 1) (laws_FnScripts_A code) [1, 1, 1, 1, 1, 1, 1, 0, 1, 0] (fun r => laws_FnScripts_d (r.fin 1 [])) H = laws_FnScripts_m k (fun code y3 y4 y6 x0_0 x0_1 => H ⟨tmF [2, 6, 7, 8, 9, 10, 11, 12] [(.a (.sc (.v (.bool false)))), (.a (.sc (.v (.bool y3.2.1)))), (.a (.sc (.sl 1))), (.a (.sc (.v (.bool y4.2)))), (.a (.sc (.bp 4 0))), (.a (.sc (.sl 5))), (.a (.sc (.sl 6))), (.a (.sc (.v (.int .i64 x0_0))))], blF [(.row false K.ku8 code), (.row true K.kstr y4.1), (.row true K.ki64 y6.1.Stock.Grams), (.row true K.k_impl_Event y6.1.Book.Events), (.box true [(.sl 2), (.v (.int .i64 y6.1.Dough.Water)), (.v (.int .i64 y6.1.Dough.Salt)), (.v (.int .i64 y6.1.Dough.Leaven)), (.v (.int .i64 y6.1.Loaf.Weight)), (.v (.int .i64 y6.1.Loaf.Loss)), (.sl 3), (.v (.int .i64 y6.1.Book.Rack.Fresh)), (.v (.int .i64 y6.1.Book.Rack.Day)), (.v (.int .i64 y6.1.Book.Rack.Old)), (.v (.int .i64 y6.1.Book.Baked)), (.v (.int .i64 y6.1.Book.Sold)), (.v (.int .i64 y6.1.Book.Thrown)), (.v (.int .i64 y6.1.Money))]), (.row true K.ki64 y6.2), (.row true K.kstr x0_1)]⟩) code := fun H => by kernel_rfl
 exact (callE_eq env (laws_FnScripts_O k) laws_FnScripts_v Tryz.f4 k (laws_FnScripts_A code) [1, 1, 1, 1, 1, 1, 1, 0, 1, 0] 1 (fun r => laws_FnScripts_d (r.fin 1 [])) rfl (by kernel_rfl)).trans ((e (hdAt env (laws_FnScripts_O k) laws_FnScripts_v Tryz.f4 1 (fun r => laws_FnScripts_d (r.fin 1 [])) [1, 1, 1, 1, 1, 1, 1, 0, 1, 0] k k)).trans (by
  show laws_FnScripts_m k (laws_FnScripts_h0 k k) code = _
  rw [laws_FnScripts_q0]; rfl))
noncomputable def laws_FnScripts_x (k : Nat) : Ent1 := fun A R Q => match A with
 | ⟨[(.sc (.sl 0))], [(.row false K.ku8 a1)]⟩ => (laws_FnScripts k a1).bind fun y => Q ⟨(.a (.sc (.v (.bool y)))), [.dead]⟩
 | _ => none
theorem laws_FnScripts_ok (k : Nat) : OkE Tryz.prog 4 (laws_FnScripts_x k) := by
 intro A R Q x h
 unfold laws_FnScripts_x at h
 split at h
 · obtain ⟨y, hy, hK⟩ := Option.bind_eq_some_iff.1 h
   obtain ⟨r, hr, hd⟩ := callF_ok envOk (laws_FnScripts_Ok k) follows Tryz.func4 (by kernel_rfl) ((laws_FnScripts_e k _).trans hy)
   exact ⟨_, laws_FnScripts_i hd ▸ hr.fin [], hK⟩
 · cases h
end Go.Proofs.YtlenacakmmikiaaGreatDoorX
