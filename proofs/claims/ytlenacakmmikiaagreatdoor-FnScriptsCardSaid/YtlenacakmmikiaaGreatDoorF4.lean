/- What functions of the program compute, as functions of numbers and lists, and that they do. (The file is written by wip/x/vxp.py of this repository.) -/
import Derived.Test.YtlenacakmmikiaaGreatDoorF3
import Derived.Test.YtlenacakmmikiaaGreatDoorX20
import Derived.WalkKit
import Derived.BigCall
import Derived.Lib.UnsafeStr
import Derived.Test.YtlenacakmmikiaaGreatDoorX18
namespace Go.Proofs.YtlenacakmmikiaaGreatDoorX
open Go Go.Proofs Go.RowKit
set_option linter.unusedVariables false
set_option maxRecDepth 100000
/-! ### impl.Enter: function 134 -/
noncomputable def impl_Enter (k : Nat)  (b : Book) (e : Event) : Option (Book × Bool) :=
 (impl_BookOk k b).bind fun y1 =>
 cond (!y1)
  ((impl_bookCopy k b).bind fun y2 =>
   some (y2, false))
  ((impl_bookCopy k b).bind fun y3 =>
   if (y3.Events : List Event).length + ([e] : List Event).length ≤ maxRow then
    (impl_counted k (y3.Events ++ [e])).bind fun y4 =>
     cond (!y4.2)
      ((impl_bookCopy k b).bind fun y5 =>
       some (y5, false))
      (some (y4.1, true)) else none)
noncomputable def impl_Enter_v : Nat → List Nat := fun t => match t with | _ => []
noncomputable def impl_Enter_O (k : Nat) : Oracle := ofL [(101, impl_counted_x k), (63, impl_bookCopy_x k), (67, impl_BookOk_x k)]
theorem impl_Enter_Ok (k : Nat) : OkO (Ct Tryz.prog) (impl_Enter_O k) := okO_cons (impl_counted_ok k) (okO_cons (impl_bookCopy_ok k) (okO_cons (impl_BookOk_ok k) (okO_nil)))
noncomputable def impl_Enter_A (b : Book) (e : Event) : Pk := ⟨[(.ag [(.sl 0), (.v (.int .i64 b.Rack.Fresh)), (.v (.int .i64 b.Rack.Day)), (.v (.int .i64 b.Rack.Old)), (.v (.int .i64 b.Baked)), (.v (.int .i64 b.Sold)), (.v (.int .i64 b.Thrown))]), (.ag [(.v (.int .i64 e.Kind)), (.v (.int .i64 e.Loaves))])], [(.row false K.k_impl_Event b.Events)]⟩
noncomputable def impl_Enter_d : Rs → Option (Book × Bool)
 | ⟨(.tp [(.ag [(.sl 1), (.v (.int .i64 r2)), (.v (.int .i64 r3)), (.v (.int .i64 r4)), (.v (.int .i64 r5)), (.v (.int .i64 r6)), (.v (.int .i64 r7))]), (.sc (.v (.bool r8)))]), [.dead, (.row true K.k_impl_Event r1)]⟩ => some ((⟨r1, (⟨r2, r3, r4⟩ : Rack), r5, r6, r7⟩ : Book), r8)
 | _ => none
theorem impl_Enter_i {r : Rs} {y : Book × Bool} (h : impl_Enter_d r = some y) : r = ⟨(.tp [(.ag [(.sl 1), (.v (.int .i64 y.1.Rack.Fresh)), (.v (.int .i64 y.1.Rack.Day)), (.v (.int .i64 y.1.Rack.Old)), (.v (.int .i64 y.1.Baked)), (.v (.int .i64 y.1.Sold)), (.v (.int .i64 y.1.Thrown))]), (.sc (.v (.bool y.2)))]), [.dead, (.row true K.k_impl_Event y.1.Events)]⟩ := by
 unfold impl_Enter_d at h; split at h
 · cases h; rfl
 · cases h
theorem impl_Enter_e (k : Nat) (b : Book) (e : Event) : callF env (impl_Enter_O k) impl_Enter_v Tryz.f134 (k + 1) (impl_Enter_A b e) (fun r => impl_Enter_d (r.fin 1 [])) = impl_Enter k b e := by kernel_rfl
noncomputable def impl_Enter_x (k : Nat) : Ent1 := fun A R Q => match A with
 | ⟨[(.ag [(.sl 0), (.v (.int .i64 a2)), (.v (.int .i64 a3)), (.v (.int .i64 a4)), (.v (.int .i64 a5)), (.v (.int .i64 a6)), (.v (.int .i64 a7))]), (.ag [(.v (.int .i64 a8)), (.v (.int .i64 a9))])], [(.row false K.k_impl_Event a1)]⟩ => (impl_Enter k (⟨a1, (⟨a2, a3, a4⟩ : Rack), a5, a6, a7⟩ : Book) (⟨a8, a9⟩ : Event)).bind fun y => Q ⟨(.tp [(.ag [(.sl 1), (.v (.int .i64 y.1.Rack.Fresh)), (.v (.int .i64 y.1.Rack.Day)), (.v (.int .i64 y.1.Rack.Old)), (.v (.int .i64 y.1.Baked)), (.v (.int .i64 y.1.Sold)), (.v (.int .i64 y.1.Thrown))]), (.sc (.v (.bool y.2)))]), [.dead, (.row true K.k_impl_Event y.1.Events)]⟩
 | _ => none
theorem impl_Enter_ok (k : Nat) : OkE Tryz.prog 134 (impl_Enter_x k) := by
 intro A R Q x h
 unfold impl_Enter_x at h
 split at h
 · obtain ⟨y, hy, hK⟩ := Option.bind_eq_some_iff.1 h
   obtain ⟨r, hr, hd⟩ := callF_ok envOk (impl_Enter_Ok k) follows Tryz.func134 (by kernel_rfl) ((impl_Enter_e k _ _).trans hy)
   exact ⟨_, impl_Enter_i hd ▸ hr.fin [], hK⟩
 · cases h
/-! ### impl.Bakery).enter: function 105 -/
noncomputable def impl_Bakery_enter (k : Nat)  (b : Bakery) (e : Event) : Option (Bool × (List Int) × (List Event) × Bakery) :=
 (impl_Enter k b.Book e).bind fun y1 =>
 some (y1.2, b.Stock.Grams, b.Book.Events, (⟨b.Stock, b.Dough, b.Loaf, y1.1, b.Money⟩ : Bakery))
noncomputable def impl_Bakery_enter_v : Nat → List Nat := fun t => match t with | _ => []
noncomputable def impl_Bakery_enter_O (k : Nat) : Oracle := ofL [(134, impl_Enter_x k)]
theorem impl_Bakery_enter_Ok (k : Nat) : OkO (Ct Tryz.prog) (impl_Bakery_enter_O k) := okO_cons (impl_Enter_ok k) (okO_nil)
noncomputable def impl_Bakery_enter_A (b : Bakery) (e : Event) : Pk := ⟨[(.sc (.bp 2 0)), (.ag [(.v (.int .i64 e.Kind)), (.v (.int .i64 e.Loaves))])], [(.row true K.ki64 b.Stock.Grams), (.row true K.k_impl_Event b.Book.Events), (.box true [(.sl 0), (.v (.int .i64 b.Dough.Water)), (.v (.int .i64 b.Dough.Salt)), (.v (.int .i64 b.Dough.Leaven)), (.v (.int .i64 b.Loaf.Weight)), (.v (.int .i64 b.Loaf.Loss)), (.sl 1), (.v (.int .i64 b.Book.Rack.Fresh)), (.v (.int .i64 b.Book.Rack.Day)), (.v (.int .i64 b.Book.Rack.Old)), (.v (.int .i64 b.Book.Baked)), (.v (.int .i64 b.Book.Sold)), (.v (.int .i64 b.Book.Thrown)), (.v (.int .i64 b.Money))])]⟩
noncomputable def impl_Bakery_enter_d : Rs → Option (Bool × (List Int) × (List Event) × Bakery)
 | ⟨(.a (.sc (.v (.bool r1)))), [(.row true K.ki64 r2), (.row true K.k_impl_Event r3), (.box true [(.sl 0), (.v (.int .i64 r4)), (.v (.int .i64 r5)), (.v (.int .i64 r6)), (.v (.int .i64 r7)), (.v (.int .i64 r8)), (.sl 3), (.v (.int .i64 r10)), (.v (.int .i64 r11)), (.v (.int .i64 r12)), (.v (.int .i64 r13)), (.v (.int .i64 r14)), (.v (.int .i64 r15)), (.v (.int .i64 r16))]), (.row true K.k_impl_Event r9)]⟩ => some (r1, r2, r3, (⟨(⟨r2⟩ : Stock), (⟨r4, r5, r6⟩ : Dough), (⟨r7, r8⟩ : Loaf), (⟨r9, (⟨r10, r11, r12⟩ : Rack), r13, r14, r15⟩ : Book), r16⟩ : Bakery))
 | _ => none
theorem impl_Bakery_enter_i {r : Rs} {y : Bool × (List Int) × (List Event) × Bakery} (h : impl_Bakery_enter_d r = some y) : r = ⟨(.a (.sc (.v (.bool y.1)))), [(.row true K.ki64 y.2.1), (.row true K.k_impl_Event y.2.2.1), (.box true [(.sl 0), (.v (.int .i64 y.2.2.2.Dough.Water)), (.v (.int .i64 y.2.2.2.Dough.Salt)), (.v (.int .i64 y.2.2.2.Dough.Leaven)), (.v (.int .i64 y.2.2.2.Loaf.Weight)), (.v (.int .i64 y.2.2.2.Loaf.Loss)), (.sl 3), (.v (.int .i64 y.2.2.2.Book.Rack.Fresh)), (.v (.int .i64 y.2.2.2.Book.Rack.Day)), (.v (.int .i64 y.2.2.2.Book.Rack.Old)), (.v (.int .i64 y.2.2.2.Book.Baked)), (.v (.int .i64 y.2.2.2.Book.Sold)), (.v (.int .i64 y.2.2.2.Book.Thrown)), (.v (.int .i64 y.2.2.2.Money))]), (.row true K.k_impl_Event y.2.2.2.Book.Events)]⟩ := by
 unfold impl_Bakery_enter_d at h; split at h
 · cases h; rfl
 · cases h
theorem impl_Bakery_enter_e (k : Nat) (b : Bakery) (e : Event) : callF env (impl_Bakery_enter_O k) impl_Bakery_enter_v Tryz.f105 (k + 1) (impl_Bakery_enter_A b e) (fun r => impl_Bakery_enter_d (r.fin 3 [])) = impl_Bakery_enter k b e := by kernel_rfl
noncomputable def impl_Bakery_enter_x (k : Nat) : Ent1 := fun A R Q => match A with
 | ⟨[(.sc (.bp 2 0)), (.ag [(.v (.int .i64 a15)), (.v (.int .i64 a16))])], [(.row true K.ki64 a1), (.row true K.k_impl_Event a7), (.box true [(.sl 0), (.v (.int .i64 a2)), (.v (.int .i64 a3)), (.v (.int .i64 a4)), (.v (.int .i64 a5)), (.v (.int .i64 a6)), (.sl 1), (.v (.int .i64 a8)), (.v (.int .i64 a9)), (.v (.int .i64 a10)), (.v (.int .i64 a11)), (.v (.int .i64 a12)), (.v (.int .i64 a13)), (.v (.int .i64 a14))])]⟩ => (impl_Bakery_enter k (⟨(⟨a1⟩ : Stock), (⟨a2, a3, a4⟩ : Dough), (⟨a5, a6⟩ : Loaf), (⟨a7, (⟨a8, a9, a10⟩ : Rack), a11, a12, a13⟩ : Book), a14⟩ : Bakery) (⟨a15, a16⟩ : Event)).bind fun y => Q ⟨(.a (.sc (.v (.bool y.1)))), [(.row true K.ki64 y.2.1), (.row true K.k_impl_Event y.2.2.1), (.box true [(.sl 0), (.v (.int .i64 y.2.2.2.Dough.Water)), (.v (.int .i64 y.2.2.2.Dough.Salt)), (.v (.int .i64 y.2.2.2.Dough.Leaven)), (.v (.int .i64 y.2.2.2.Loaf.Weight)), (.v (.int .i64 y.2.2.2.Loaf.Loss)), (.sl 3), (.v (.int .i64 y.2.2.2.Book.Rack.Fresh)), (.v (.int .i64 y.2.2.2.Book.Rack.Day)), (.v (.int .i64 y.2.2.2.Book.Rack.Old)), (.v (.int .i64 y.2.2.2.Book.Baked)), (.v (.int .i64 y.2.2.2.Book.Sold)), (.v (.int .i64 y.2.2.2.Book.Thrown)), (.v (.int .i64 y.2.2.2.Money))]), (.row true K.k_impl_Event y.2.2.2.Book.Events)]⟩
 | _ => none
theorem impl_Bakery_enter_ok (k : Nat) : OkE Tryz.prog 105 (impl_Bakery_enter_x k) := by
 intro A R Q x h
 unfold impl_Bakery_enter_x at h
 split at h
 · obtain ⟨y, hy, hK⟩ := Option.bind_eq_some_iff.1 h
   obtain ⟨r, hr, hd⟩ := callF_ok envOk (impl_Bakery_enter_Ok k) follows Tryz.func105 (by kernel_rfl) ((impl_Bakery_enter_e k _ _).trans hy)
   exact ⟨_, impl_Bakery_enter_i hd ▸ hr.fin [], hK⟩
 · cases h
/-! ### impl.BakeLoaves$1: function 103 -/
noncomputable def impl_BakeLoaves_1 (k : Nat)  (own : Bakery) (p1 : Bakery) (p2 : Int) : Option (Bool × (List Int) × Bakery) :=
 (impl_FlourNeeded k p1 p2).bind fun y1 =>
 (impl_TakeFor k own.Stock own.Dough y1).bind fun y2 =>
  cond y2.2
   ((impl_Bakery_enter k (⟨y2.1, own.Dough, own.Loaf, own.Book, own.Money⟩ : Bakery) (⟨1, p2⟩ : Event)).bind fun y3 =>
    some (y3.1, own.Stock.Grams, (⟨(⟨y3.2.1⟩ : Stock), y3.2.2.2.Dough, y3.2.2.2.Loaf, y3.2.2.2.Book, y3.2.2.2.Money⟩ : Bakery)))
   (some (false, own.Stock.Grams, (⟨y2.1, own.Dough, own.Loaf, own.Book, own.Money⟩ : Bakery)))
noncomputable def impl_BakeLoaves_1_v : Nat → List Nat := fun t => match t with | _ => []
noncomputable def impl_BakeLoaves_1_O (k : Nat) : Oracle := ofL [(104, impl_TakeFor_x k), (105, impl_Bakery_enter_x k), (73, impl_FlourNeeded_x k)]
theorem impl_BakeLoaves_1_Ok (k : Nat) : OkO (Ct Tryz.prog) (impl_BakeLoaves_1_O k) := okO_cons (impl_TakeFor_ok k) (okO_cons (impl_Bakery_enter_ok k) (okO_cons (impl_FlourNeeded_ok k) (okO_nil)))
noncomputable def impl_BakeLoaves_1_A (own : Bakery) (p1 : Bakery) (p2 : Int) : Pk := ⟨[(.sc (.bp 2 0)), (.sc (.bp 5 0)), (.sc (.bp 6 0))], [(.row true K.ki64 own.Stock.Grams), (.row true K.k_impl_Event own.Book.Events), (.box true [(.sl 0), (.v (.int .i64 own.Dough.Water)), (.v (.int .i64 own.Dough.Salt)), (.v (.int .i64 own.Dough.Leaven)), (.v (.int .i64 own.Loaf.Weight)), (.v (.int .i64 own.Loaf.Loss)), (.sl 1), (.v (.int .i64 own.Book.Rack.Fresh)), (.v (.int .i64 own.Book.Rack.Day)), (.v (.int .i64 own.Book.Rack.Old)), (.v (.int .i64 own.Book.Baked)), (.v (.int .i64 own.Book.Sold)), (.v (.int .i64 own.Book.Thrown)), (.v (.int .i64 own.Money))]), (.row false K.ki64 p1.Stock.Grams), (.row false K.k_impl_Event p1.Book.Events), (.box false [(.sl 3), (.v (.int .i64 p1.Dough.Water)), (.v (.int .i64 p1.Dough.Salt)), (.v (.int .i64 p1.Dough.Leaven)), (.v (.int .i64 p1.Loaf.Weight)), (.v (.int .i64 p1.Loaf.Loss)), (.sl 4), (.v (.int .i64 p1.Book.Rack.Fresh)), (.v (.int .i64 p1.Book.Rack.Day)), (.v (.int .i64 p1.Book.Rack.Old)), (.v (.int .i64 p1.Book.Baked)), (.v (.int .i64 p1.Book.Sold)), (.v (.int .i64 p1.Book.Thrown)), (.v (.int .i64 p1.Money))]), (.box false [(.v (.int .i64 p2))])]⟩
noncomputable def impl_BakeLoaves_1_d : Rs → Option (Bool × (List Int) × Bakery)
 | ⟨(.a (.sc (.v (.bool r1)))), [(.row true K.ki64 r2), .dead, (.box true [(.sl 7), (.v (.int .i64 r4)), (.v (.int .i64 r5)), (.v (.int .i64 r6)), (.v (.int .i64 r7)), (.v (.int .i64 r8)), (.sl 8), (.v (.int .i64 r10)), (.v (.int .i64 r11)), (.v (.int .i64 r12)), (.v (.int .i64 r13)), (.v (.int .i64 r14)), (.v (.int .i64 r15)), (.v (.int .i64 r16))]), .dead, .dead, .dead, .dead, (.row true K.ki64 r3), (.row true K.k_impl_Event r9)]⟩ => some (r1, r2, (⟨(⟨r3⟩ : Stock), (⟨r4, r5, r6⟩ : Dough), (⟨r7, r8⟩ : Loaf), (⟨r9, (⟨r10, r11, r12⟩ : Rack), r13, r14, r15⟩ : Book), r16⟩ : Bakery))
 | _ => none
theorem impl_BakeLoaves_1_i {r : Rs} {y : Bool × (List Int) × Bakery} (h : impl_BakeLoaves_1_d r = some y) : r = ⟨(.a (.sc (.v (.bool y.1)))), [(.row true K.ki64 y.2.1), .dead, (.box true [(.sl 7), (.v (.int .i64 y.2.2.Dough.Water)), (.v (.int .i64 y.2.2.Dough.Salt)), (.v (.int .i64 y.2.2.Dough.Leaven)), (.v (.int .i64 y.2.2.Loaf.Weight)), (.v (.int .i64 y.2.2.Loaf.Loss)), (.sl 8), (.v (.int .i64 y.2.2.Book.Rack.Fresh)), (.v (.int .i64 y.2.2.Book.Rack.Day)), (.v (.int .i64 y.2.2.Book.Rack.Old)), (.v (.int .i64 y.2.2.Book.Baked)), (.v (.int .i64 y.2.2.Book.Sold)), (.v (.int .i64 y.2.2.Book.Thrown)), (.v (.int .i64 y.2.2.Money))]), .dead, .dead, .dead, .dead, (.row true K.ki64 y.2.2.Stock.Grams), (.row true K.k_impl_Event y.2.2.Book.Events)]⟩ := by
 unfold impl_BakeLoaves_1_d at h; split at h
 · cases h; rfl
 · cases h
theorem impl_BakeLoaves_1_e (k : Nat) (own : Bakery) (p1 : Bakery) (p2 : Int) : callF env (impl_BakeLoaves_1_O k) impl_BakeLoaves_1_v Tryz.f103 (k + 1) (impl_BakeLoaves_1_A own p1 p2) (fun r => impl_BakeLoaves_1_d ((r.mv [1]).fin 7 [])) = impl_BakeLoaves_1 k own p1 p2 := by kernel_rfl
noncomputable def impl_BakeLoaves_1_x (k : Nat) : Ent1 := fun A R Q => match A with
 | ⟨[(.sc (.bp 2 0)), (.sc (.bp 5 0)), (.sc (.bp 6 0))], [(.row true K.ki64 a1), (.row true K.k_impl_Event a7), (.box true [(.sl 0), (.v (.int .i64 a2)), (.v (.int .i64 a3)), (.v (.int .i64 a4)), (.v (.int .i64 a5)), (.v (.int .i64 a6)), (.sl 1), (.v (.int .i64 a8)), (.v (.int .i64 a9)), (.v (.int .i64 a10)), (.v (.int .i64 a11)), (.v (.int .i64 a12)), (.v (.int .i64 a13)), (.v (.int .i64 a14))]), (.row false K.ki64 a15), (.row false K.k_impl_Event a21), (.box false [(.sl 3), (.v (.int .i64 a16)), (.v (.int .i64 a17)), (.v (.int .i64 a18)), (.v (.int .i64 a19)), (.v (.int .i64 a20)), (.sl 4), (.v (.int .i64 a22)), (.v (.int .i64 a23)), (.v (.int .i64 a24)), (.v (.int .i64 a25)), (.v (.int .i64 a26)), (.v (.int .i64 a27)), (.v (.int .i64 a28))]), (.box false [(.v (.int .i64 a29))])]⟩ => (impl_BakeLoaves_1 k (⟨(⟨a1⟩ : Stock), (⟨a2, a3, a4⟩ : Dough), (⟨a5, a6⟩ : Loaf), (⟨a7, (⟨a8, a9, a10⟩ : Rack), a11, a12, a13⟩ : Book), a14⟩ : Bakery) (⟨(⟨a15⟩ : Stock), (⟨a16, a17, a18⟩ : Dough), (⟨a19, a20⟩ : Loaf), (⟨a21, (⟨a22, a23, a24⟩ : Rack), a25, a26, a27⟩ : Book), a28⟩ : Bakery) a29).bind fun y => Q ⟨(.a (.sc (.v (.bool y.1)))), [(.row true K.ki64 y.2.1), .dead, (.box true [(.sl 7), (.v (.int .i64 y.2.2.Dough.Water)), (.v (.int .i64 y.2.2.Dough.Salt)), (.v (.int .i64 y.2.2.Dough.Leaven)), (.v (.int .i64 y.2.2.Loaf.Weight)), (.v (.int .i64 y.2.2.Loaf.Loss)), (.sl 8), (.v (.int .i64 y.2.2.Book.Rack.Fresh)), (.v (.int .i64 y.2.2.Book.Rack.Day)), (.v (.int .i64 y.2.2.Book.Rack.Old)), (.v (.int .i64 y.2.2.Book.Baked)), (.v (.int .i64 y.2.2.Book.Sold)), (.v (.int .i64 y.2.2.Book.Thrown)), (.v (.int .i64 y.2.2.Money))]), .dead, .dead, .dead, .dead, (.row true K.ki64 y.2.2.Stock.Grams), (.row true K.k_impl_Event y.2.2.Book.Events)]⟩
 | _ => none
theorem impl_BakeLoaves_1_ok (k : Nat) : OkE Tryz.prog 103 (impl_BakeLoaves_1_x k) := by
 intro A R Q x h
 unfold impl_BakeLoaves_1_x at h
 split at h
 · obtain ⟨y, hy, hK⟩ := Option.bind_eq_some_iff.1 h
   obtain ⟨r, hr, hd⟩ := callF_ok envOk (impl_BakeLoaves_1_Ok k) follows Tryz.func103 (by kernel_rfl) ((impl_BakeLoaves_1_e k _ _ _).trans hy)
   exact ⟨_, impl_BakeLoaves_1_i hd ▸ (hr.mvn (l := [1]) 7 rfl rfl).fin [], hK⟩
 · cases h
/-! ### impl.changed: function 102 -/
noncomputable def impl_changed_103 (k : Nat)  (b : Bakery) (how_0 : Bakery) (how_1 : Int) : Option (Bakery × Bool) :=
 (impl_bakeryCopy k b).bind fun y1 =>
 (impl_BakeryOk k b).bind fun y2 =>
  cond (!y2)
   ((impl_bakeryCopy k b).bind fun y5 =>
    some (y5, false))
   ((impl_BakeLoaves_1 k y1 how_0 how_1).bind fun y3 =>
    cond (!y3.1)
     ((impl_bakeryCopy k b).bind fun y6 =>
      some (y6, false))
     ((impl_BakeryOk k y3.2.2).bind fun y4 =>
      cond (!y4)
       ((impl_bakeryCopy k b).bind fun y7 =>
        some (y7, false))
       (some (y3.2.2, true))))
noncomputable def impl_changed_103_v : Nat → List Nat := fun t => match t with | _ => []
noncomputable def impl_changed_103_O (k : Nat) : Oracle := ofL [(103, impl_BakeLoaves_1_x k), (34, impl_bakeryCopy_x k), (35, impl_BakeryOk_x k)]
theorem impl_changed_103_Ok (k : Nat) : OkO (Ct Tryz.prog) (impl_changed_103_O k) := okO_cons (impl_BakeLoaves_1_ok k) (okO_cons (impl_bakeryCopy_ok k) (okO_cons (impl_BakeryOk_ok k) (okO_nil)))
noncomputable def impl_changed_103_A (b : Bakery) (how_0 : Bakery) (how_1 : Int) : Pk := ⟨[(.ag [(.sl 0), (.v (.int .i64 b.Dough.Water)), (.v (.int .i64 b.Dough.Salt)), (.v (.int .i64 b.Dough.Leaven)), (.v (.int .i64 b.Loaf.Weight)), (.v (.int .i64 b.Loaf.Loss)), (.sl 1), (.v (.int .i64 b.Book.Rack.Fresh)), (.v (.int .i64 b.Book.Rack.Day)), (.v (.int .i64 b.Book.Rack.Old)), (.v (.int .i64 b.Book.Baked)), (.v (.int .i64 b.Book.Sold)), (.v (.int .i64 b.Book.Thrown)), (.v (.int .i64 b.Money))]), (.sc (.fn 103 [4, 5]))], [(.row false K.ki64 b.Stock.Grams), (.row false K.k_impl_Event b.Book.Events), (.row false K.ki64 how_0.Stock.Grams), (.row false K.k_impl_Event how_0.Book.Events), (.box false [(.sl 2), (.v (.int .i64 how_0.Dough.Water)), (.v (.int .i64 how_0.Dough.Salt)), (.v (.int .i64 how_0.Dough.Leaven)), (.v (.int .i64 how_0.Loaf.Weight)), (.v (.int .i64 how_0.Loaf.Loss)), (.sl 3), (.v (.int .i64 how_0.Book.Rack.Fresh)), (.v (.int .i64 how_0.Book.Rack.Day)), (.v (.int .i64 how_0.Book.Rack.Old)), (.v (.int .i64 how_0.Book.Baked)), (.v (.int .i64 how_0.Book.Sold)), (.v (.int .i64 how_0.Book.Thrown)), (.v (.int .i64 how_0.Money))]), (.box false [(.v (.int .i64 how_1))])]⟩
noncomputable def impl_changed_103_d : Rs → Option (Bakery × Bool)
 | ⟨(.tp [(.ag [(.sl 6), (.v (.int .i64 r2)), (.v (.int .i64 r3)), (.v (.int .i64 r4)), (.v (.int .i64 r5)), (.v (.int .i64 r6)), (.sl 7), (.v (.int .i64 r8)), (.v (.int .i64 r9)), (.v (.int .i64 r10)), (.v (.int .i64 r11)), (.v (.int .i64 r12)), (.v (.int .i64 r13)), (.v (.int .i64 r14))]), (.sc (.v (.bool r15)))]), [.dead, .dead, .dead, .dead, .dead, .dead, (.row true K.ki64 r1), (.row true K.k_impl_Event r7)]⟩ => some ((⟨(⟨r1⟩ : Stock), (⟨r2, r3, r4⟩ : Dough), (⟨r5, r6⟩ : Loaf), (⟨r7, (⟨r8, r9, r10⟩ : Rack), r11, r12, r13⟩ : Book), r14⟩ : Bakery), r15)
 | _ => none
theorem impl_changed_103_i {r : Rs} {y : Bakery × Bool} (h : impl_changed_103_d r = some y) : r = ⟨(.tp [(.ag [(.sl 6), (.v (.int .i64 y.1.Dough.Water)), (.v (.int .i64 y.1.Dough.Salt)), (.v (.int .i64 y.1.Dough.Leaven)), (.v (.int .i64 y.1.Loaf.Weight)), (.v (.int .i64 y.1.Loaf.Loss)), (.sl 7), (.v (.int .i64 y.1.Book.Rack.Fresh)), (.v (.int .i64 y.1.Book.Rack.Day)), (.v (.int .i64 y.1.Book.Rack.Old)), (.v (.int .i64 y.1.Book.Baked)), (.v (.int .i64 y.1.Book.Sold)), (.v (.int .i64 y.1.Book.Thrown)), (.v (.int .i64 y.1.Money))]), (.sc (.v (.bool y.2)))]), [.dead, .dead, .dead, .dead, .dead, .dead, (.row true K.ki64 y.1.Stock.Grams), (.row true K.k_impl_Event y.1.Book.Events)]⟩ := by
 unfold impl_changed_103_d at h; split at h
 · cases h; rfl
 · cases h
theorem impl_changed_103_e (k : Nat) (b : Bakery) (how_0 : Bakery) (how_1 : Int) : callF env (impl_changed_103_O k) impl_changed_103_v Tryz.f102 (k + 1) (impl_changed_103_A b how_0 how_1) (fun r => impl_changed_103_d (r.fin 6 [])) = impl_changed_103 k b how_0 how_1 := by kernel_rfl
noncomputable def impl_changed_103_x (k : Nat) : Ent1 := fun A R Q => match A with
 | ⟨[(.ag [(.sl 0), (.v (.int .i64 a2)), (.v (.int .i64 a3)), (.v (.int .i64 a4)), (.v (.int .i64 a5)), (.v (.int .i64 a6)), (.sl 1), (.v (.int .i64 a8)), (.v (.int .i64 a9)), (.v (.int .i64 a10)), (.v (.int .i64 a11)), (.v (.int .i64 a12)), (.v (.int .i64 a13)), (.v (.int .i64 a14))]), (.sc (.fn 103 [4, 5]))], [(.row false K.ki64 a1), (.row false K.k_impl_Event a7), (.row false K.ki64 a15), (.row false K.k_impl_Event a21), (.box false [(.sl 2), (.v (.int .i64 a16)), (.v (.int .i64 a17)), (.v (.int .i64 a18)), (.v (.int .i64 a19)), (.v (.int .i64 a20)), (.sl 3), (.v (.int .i64 a22)), (.v (.int .i64 a23)), (.v (.int .i64 a24)), (.v (.int .i64 a25)), (.v (.int .i64 a26)), (.v (.int .i64 a27)), (.v (.int .i64 a28))]), (.box false [(.v (.int .i64 a29))])]⟩ => (impl_changed_103 k (⟨(⟨a1⟩ : Stock), (⟨a2, a3, a4⟩ : Dough), (⟨a5, a6⟩ : Loaf), (⟨a7, (⟨a8, a9, a10⟩ : Rack), a11, a12, a13⟩ : Book), a14⟩ : Bakery) (⟨(⟨a15⟩ : Stock), (⟨a16, a17, a18⟩ : Dough), (⟨a19, a20⟩ : Loaf), (⟨a21, (⟨a22, a23, a24⟩ : Rack), a25, a26, a27⟩ : Book), a28⟩ : Bakery) a29).bind fun y => Q ⟨(.tp [(.ag [(.sl 6), (.v (.int .i64 y.1.Dough.Water)), (.v (.int .i64 y.1.Dough.Salt)), (.v (.int .i64 y.1.Dough.Leaven)), (.v (.int .i64 y.1.Loaf.Weight)), (.v (.int .i64 y.1.Loaf.Loss)), (.sl 7), (.v (.int .i64 y.1.Book.Rack.Fresh)), (.v (.int .i64 y.1.Book.Rack.Day)), (.v (.int .i64 y.1.Book.Rack.Old)), (.v (.int .i64 y.1.Book.Baked)), (.v (.int .i64 y.1.Book.Sold)), (.v (.int .i64 y.1.Book.Thrown)), (.v (.int .i64 y.1.Money))]), (.sc (.v (.bool y.2)))]), [.dead, .dead, .dead, .dead, .dead, .dead, (.row true K.ki64 y.1.Stock.Grams), (.row true K.k_impl_Event y.1.Book.Events)]⟩
 | _ => none
theorem impl_changed_103_ok (k : Nat) : OkE Tryz.prog 102 (impl_changed_103_x k) := by
 intro A R Q x h
 unfold impl_changed_103_x at h
 split at h
 · obtain ⟨y, hy, hK⟩ := Option.bind_eq_some_iff.1 h
   obtain ⟨r, hr, hd⟩ := callF_ok envOk (impl_changed_103_Ok k) follows Tryz.func102 (by kernel_rfl) ((impl_changed_103_e k _ _ _).trans hy)
   exact ⟨_, impl_changed_103_i hd ▸ hr.fin [], hK⟩
 · cases h
/-! ### impl.BakeLoaves: function 69 -/
noncomputable def impl_BakeLoaves (k : Nat)  (b : Bakery) (loaves : Int) : Option (Bakery × Bool) :=
 (impl_changed_103 k b b loaves).bind fun y1 =>
 some (y1.1, y1.2)
noncomputable def impl_BakeLoaves_v : Nat → List Nat := fun t => match t with | _ => []
noncomputable def impl_BakeLoaves_O (k : Nat) : Oracle := ofL [(102, impl_changed_103_x k)]
theorem impl_BakeLoaves_Ok (k : Nat) : OkO (Ct Tryz.prog) (impl_BakeLoaves_O k) := okO_cons (impl_changed_103_ok k) (okO_nil)
noncomputable def impl_BakeLoaves_A (b : Bakery) (loaves : Int) : Pk := ⟨[(.ag [(.sl 0), (.v (.int .i64 b.Dough.Water)), (.v (.int .i64 b.Dough.Salt)), (.v (.int .i64 b.Dough.Leaven)), (.v (.int .i64 b.Loaf.Weight)), (.v (.int .i64 b.Loaf.Loss)), (.sl 1), (.v (.int .i64 b.Book.Rack.Fresh)), (.v (.int .i64 b.Book.Rack.Day)), (.v (.int .i64 b.Book.Rack.Old)), (.v (.int .i64 b.Book.Baked)), (.v (.int .i64 b.Book.Sold)), (.v (.int .i64 b.Book.Thrown)), (.v (.int .i64 b.Money))]), (.sc (.v (.int .i64 loaves)))], [(.row false K.ki64 b.Stock.Grams), (.row false K.k_impl_Event b.Book.Events)]⟩
noncomputable def impl_BakeLoaves_d : Rs → Option (Bakery × Bool)
 | ⟨(.tp [(.ag [(.sl 2), (.v (.int .i64 r2)), (.v (.int .i64 r3)), (.v (.int .i64 r4)), (.v (.int .i64 r5)), (.v (.int .i64 r6)), (.sl 3), (.v (.int .i64 r8)), (.v (.int .i64 r9)), (.v (.int .i64 r10)), (.v (.int .i64 r11)), (.v (.int .i64 r12)), (.v (.int .i64 r13)), (.v (.int .i64 r14))]), (.sc (.v (.bool r15)))]), [.dead, .dead, (.row true K.ki64 r1), (.row true K.k_impl_Event r7)]⟩ => some ((⟨(⟨r1⟩ : Stock), (⟨r2, r3, r4⟩ : Dough), (⟨r5, r6⟩ : Loaf), (⟨r7, (⟨r8, r9, r10⟩ : Rack), r11, r12, r13⟩ : Book), r14⟩ : Bakery), r15)
 | _ => none
theorem impl_BakeLoaves_i {r : Rs} {y : Bakery × Bool} (h : impl_BakeLoaves_d r = some y) : r = ⟨(.tp [(.ag [(.sl 2), (.v (.int .i64 y.1.Dough.Water)), (.v (.int .i64 y.1.Dough.Salt)), (.v (.int .i64 y.1.Dough.Leaven)), (.v (.int .i64 y.1.Loaf.Weight)), (.v (.int .i64 y.1.Loaf.Loss)), (.sl 3), (.v (.int .i64 y.1.Book.Rack.Fresh)), (.v (.int .i64 y.1.Book.Rack.Day)), (.v (.int .i64 y.1.Book.Rack.Old)), (.v (.int .i64 y.1.Book.Baked)), (.v (.int .i64 y.1.Book.Sold)), (.v (.int .i64 y.1.Book.Thrown)), (.v (.int .i64 y.1.Money))]), (.sc (.v (.bool y.2)))]), [.dead, .dead, (.row true K.ki64 y.1.Stock.Grams), (.row true K.k_impl_Event y.1.Book.Events)]⟩ := by
 unfold impl_BakeLoaves_d at h; split at h
 · cases h; rfl
 · cases h
theorem impl_BakeLoaves_e (k : Nat) (b : Bakery) (loaves : Int) : callF env (impl_BakeLoaves_O k) impl_BakeLoaves_v Tryz.f69 (k + 1) (impl_BakeLoaves_A b loaves) (fun r => impl_BakeLoaves_d (r.fin 2 [])) = impl_BakeLoaves k b loaves := by kernel_rfl
noncomputable def impl_BakeLoaves_x (k : Nat) : Ent1 := fun A R Q => match A with
 | ⟨[(.ag [(.sl 0), (.v (.int .i64 a2)), (.v (.int .i64 a3)), (.v (.int .i64 a4)), (.v (.int .i64 a5)), (.v (.int .i64 a6)), (.sl 1), (.v (.int .i64 a8)), (.v (.int .i64 a9)), (.v (.int .i64 a10)), (.v (.int .i64 a11)), (.v (.int .i64 a12)), (.v (.int .i64 a13)), (.v (.int .i64 a14))]), (.sc (.v (.int .i64 a15)))], [(.row false K.ki64 a1), (.row false K.k_impl_Event a7)]⟩ => (impl_BakeLoaves k (⟨(⟨a1⟩ : Stock), (⟨a2, a3, a4⟩ : Dough), (⟨a5, a6⟩ : Loaf), (⟨a7, (⟨a8, a9, a10⟩ : Rack), a11, a12, a13⟩ : Book), a14⟩ : Bakery) a15).bind fun y => Q ⟨(.tp [(.ag [(.sl 2), (.v (.int .i64 y.1.Dough.Water)), (.v (.int .i64 y.1.Dough.Salt)), (.v (.int .i64 y.1.Dough.Leaven)), (.v (.int .i64 y.1.Loaf.Weight)), (.v (.int .i64 y.1.Loaf.Loss)), (.sl 3), (.v (.int .i64 y.1.Book.Rack.Fresh)), (.v (.int .i64 y.1.Book.Rack.Day)), (.v (.int .i64 y.1.Book.Rack.Old)), (.v (.int .i64 y.1.Book.Baked)), (.v (.int .i64 y.1.Book.Sold)), (.v (.int .i64 y.1.Book.Thrown)), (.v (.int .i64 y.1.Money))]), (.sc (.v (.bool y.2)))]), [.dead, .dead, (.row true K.ki64 y.1.Stock.Grams), (.row true K.k_impl_Event y.1.Book.Events)]⟩
 | _ => none
theorem impl_BakeLoaves_ok (k : Nat) : OkE Tryz.prog 69 (impl_BakeLoaves_x k) := by
 intro A R Q x h
 unfold impl_BakeLoaves_x at h
 split at h
 · obtain ⟨y, hy, hK⟩ := Option.bind_eq_some_iff.1 h
   obtain ⟨r, hr, hd⟩ := callF_ok envOk (impl_BakeLoaves_Ok k) follows Tryz.func69 (by kernel_rfl) ((impl_BakeLoaves_e k _ _).trans hy)
   exact ⟨_, impl_BakeLoaves_i hd ▸ hr.fin [], hK⟩
 · cases h
/-! ### impl.SellLoaves$1: function 106 -/
noncomputable def impl_SellLoaves_1 (k : Nat)  (own : Bakery) (p1 : Bool) (p2 : Int) : Option (Bool × (List Int) × (List Event) × Bakery) :=
 cond p1
 ((impl_Bakery_enter k (⟨own.Stock, own.Dough, own.Loaf, own.Book, (wr (own.Money + (wr ((2 : Int) * p2))))⟩ : Bakery) (⟨3, p2⟩ : Event)).bind fun y1 =>
  some (y1.1, y1.2.1, y1.2.2.1, (⟨(⟨y1.2.1⟩ : Stock), y1.2.2.2.Dough, y1.2.2.2.Loaf, y1.2.2.2.Book, y1.2.2.2.Money⟩ : Bakery)))
 ((impl_Bakery_enter k (⟨own.Stock, own.Dough, own.Loaf, own.Book, (wr (own.Money + (wr ((4 : Int) * p2))))⟩ : Bakery) (⟨2, p2⟩ : Event)).bind fun y2 =>
  some (y2.1, y2.2.1, y2.2.2.1, (⟨(⟨y2.2.1⟩ : Stock), y2.2.2.2.Dough, y2.2.2.2.Loaf, y2.2.2.2.Book, y2.2.2.2.Money⟩ : Bakery)))
noncomputable def impl_SellLoaves_1_v : Nat → List Nat := fun t => match t with | _ => []
noncomputable def impl_SellLoaves_1_O (k : Nat) : Oracle := ofL [(105, impl_Bakery_enter_x k)]
theorem impl_SellLoaves_1_Ok (k : Nat) : OkO (Ct Tryz.prog) (impl_SellLoaves_1_O k) := okO_cons (impl_Bakery_enter_ok k) (okO_nil)
noncomputable def impl_SellLoaves_1_A (own : Bakery) (p1 : Bool) (p2 : Int) : Pk := ⟨[(.sc (.bp 2 0)), (.sc (.bp 3 0)), (.sc (.bp 4 0))], [(.row true K.ki64 own.Stock.Grams), (.row true K.k_impl_Event own.Book.Events), (.box true [(.sl 0), (.v (.int .i64 own.Dough.Water)), (.v (.int .i64 own.Dough.Salt)), (.v (.int .i64 own.Dough.Leaven)), (.v (.int .i64 own.Loaf.Weight)), (.v (.int .i64 own.Loaf.Loss)), (.sl 1), (.v (.int .i64 own.Book.Rack.Fresh)), (.v (.int .i64 own.Book.Rack.Day)), (.v (.int .i64 own.Book.Rack.Old)), (.v (.int .i64 own.Book.Baked)), (.v (.int .i64 own.Book.Sold)), (.v (.int .i64 own.Book.Thrown)), (.v (.int .i64 own.Money))]), (.box false [(.v (.bool p1))]), (.box false [(.v (.int .i64 p2))])]⟩
noncomputable def impl_SellLoaves_1_d : Rs → Option (Bool × (List Int) × (List Event) × Bakery)
 | ⟨(.a (.sc (.v (.bool r1)))), [(.row true K.ki64 r2), (.row true K.k_impl_Event r3), (.box true [(.sl 0), (.v (.int .i64 r4)), (.v (.int .i64 r5)), (.v (.int .i64 r6)), (.v (.int .i64 r7)), (.v (.int .i64 r8)), (.sl 5), (.v (.int .i64 r10)), (.v (.int .i64 r11)), (.v (.int .i64 r12)), (.v (.int .i64 r13)), (.v (.int .i64 r14)), (.v (.int .i64 r15)), (.v (.int .i64 r16))]), .dead, .dead, (.row true K.k_impl_Event r9)]⟩ => some (r1, r2, r3, (⟨(⟨r2⟩ : Stock), (⟨r4, r5, r6⟩ : Dough), (⟨r7, r8⟩ : Loaf), (⟨r9, (⟨r10, r11, r12⟩ : Rack), r13, r14, r15⟩ : Book), r16⟩ : Bakery))
 | _ => none
theorem impl_SellLoaves_1_i {r : Rs} {y : Bool × (List Int) × (List Event) × Bakery} (h : impl_SellLoaves_1_d r = some y) : r = ⟨(.a (.sc (.v (.bool y.1)))), [(.row true K.ki64 y.2.1), (.row true K.k_impl_Event y.2.2.1), (.box true [(.sl 0), (.v (.int .i64 y.2.2.2.Dough.Water)), (.v (.int .i64 y.2.2.2.Dough.Salt)), (.v (.int .i64 y.2.2.2.Dough.Leaven)), (.v (.int .i64 y.2.2.2.Loaf.Weight)), (.v (.int .i64 y.2.2.2.Loaf.Loss)), (.sl 5), (.v (.int .i64 y.2.2.2.Book.Rack.Fresh)), (.v (.int .i64 y.2.2.2.Book.Rack.Day)), (.v (.int .i64 y.2.2.2.Book.Rack.Old)), (.v (.int .i64 y.2.2.2.Book.Baked)), (.v (.int .i64 y.2.2.2.Book.Sold)), (.v (.int .i64 y.2.2.2.Book.Thrown)), (.v (.int .i64 y.2.2.2.Money))]), .dead, .dead, (.row true K.k_impl_Event y.2.2.2.Book.Events)]⟩ := by
 unfold impl_SellLoaves_1_d at h; split at h
 · cases h; rfl
 · cases h
theorem impl_SellLoaves_1_e (k : Nat) (own : Bakery) (p1 : Bool) (p2 : Int) : callF env (impl_SellLoaves_1_O k) impl_SellLoaves_1_v Tryz.f106 (k + 1) (impl_SellLoaves_1_A own p1 p2) (fun r => impl_SellLoaves_1_d (r.fin 5 [])) = impl_SellLoaves_1 k own p1 p2 := by kernel_rfl
noncomputable def impl_SellLoaves_1_x (k : Nat) : Ent1 := fun A R Q => match A with
 | ⟨[(.sc (.bp 2 0)), (.sc (.bp 3 0)), (.sc (.bp 4 0))], [(.row true K.ki64 a1), (.row true K.k_impl_Event a7), (.box true [(.sl 0), (.v (.int .i64 a2)), (.v (.int .i64 a3)), (.v (.int .i64 a4)), (.v (.int .i64 a5)), (.v (.int .i64 a6)), (.sl 1), (.v (.int .i64 a8)), (.v (.int .i64 a9)), (.v (.int .i64 a10)), (.v (.int .i64 a11)), (.v (.int .i64 a12)), (.v (.int .i64 a13)), (.v (.int .i64 a14))]), (.box false [(.v (.bool a15))]), (.box false [(.v (.int .i64 a16))])]⟩ => (impl_SellLoaves_1 k (⟨(⟨a1⟩ : Stock), (⟨a2, a3, a4⟩ : Dough), (⟨a5, a6⟩ : Loaf), (⟨a7, (⟨a8, a9, a10⟩ : Rack), a11, a12, a13⟩ : Book), a14⟩ : Bakery) a15 a16).bind fun y => Q ⟨(.a (.sc (.v (.bool y.1)))), [(.row true K.ki64 y.2.1), (.row true K.k_impl_Event y.2.2.1), (.box true [(.sl 0), (.v (.int .i64 y.2.2.2.Dough.Water)), (.v (.int .i64 y.2.2.2.Dough.Salt)), (.v (.int .i64 y.2.2.2.Dough.Leaven)), (.v (.int .i64 y.2.2.2.Loaf.Weight)), (.v (.int .i64 y.2.2.2.Loaf.Loss)), (.sl 5), (.v (.int .i64 y.2.2.2.Book.Rack.Fresh)), (.v (.int .i64 y.2.2.2.Book.Rack.Day)), (.v (.int .i64 y.2.2.2.Book.Rack.Old)), (.v (.int .i64 y.2.2.2.Book.Baked)), (.v (.int .i64 y.2.2.2.Book.Sold)), (.v (.int .i64 y.2.2.2.Book.Thrown)), (.v (.int .i64 y.2.2.2.Money))]), .dead, .dead, (.row true K.k_impl_Event y.2.2.2.Book.Events)]⟩
 | _ => none
theorem impl_SellLoaves_1_ok (k : Nat) : OkE Tryz.prog 106 (impl_SellLoaves_1_x k) := by
 intro A R Q x h
 unfold impl_SellLoaves_1_x at h
 split at h
 · obtain ⟨y, hy, hK⟩ := Option.bind_eq_some_iff.1 h
   obtain ⟨r, hr, hd⟩ := callF_ok envOk (impl_SellLoaves_1_Ok k) follows Tryz.func106 (by kernel_rfl) ((impl_SellLoaves_1_e k _ _ _).trans hy)
   exact ⟨_, impl_SellLoaves_1_i hd ▸ hr.fin [], hK⟩
 · cases h
/-! ### impl.changed: function 102 -/
noncomputable def impl_changed_106 (k : Nat)  (b : Bakery) (how_0 : Bool) (how_1 : Int) : Option (Bakery × Bool) :=
 (impl_bakeryCopy k b).bind fun y1 =>
 (impl_BakeryOk k b).bind fun y2 =>
  cond (!y2)
   ((impl_bakeryCopy k b).bind fun y5 =>
    some (y5, false))
   ((impl_SellLoaves_1 k y1 how_0 how_1).bind fun y3 =>
    cond (!y3.1)
     ((impl_bakeryCopy k b).bind fun y6 =>
      some (y6, false))
     ((impl_BakeryOk k (⟨(⟨y3.2.1⟩ : Stock), y3.2.2.2.Dough, y3.2.2.2.Loaf, y3.2.2.2.Book, y3.2.2.2.Money⟩ : Bakery)).bind fun y4 =>
      cond (!y4)
       ((impl_bakeryCopy k b).bind fun y7 =>
        some (y7, false))
       (some ((⟨(⟨y3.2.1⟩ : Stock), y3.2.2.2.Dough, y3.2.2.2.Loaf, y3.2.2.2.Book, y3.2.2.2.Money⟩ : Bakery), true))))
noncomputable def impl_changed_106_v : Nat → List Nat := fun t => match t with | _ => []
noncomputable def impl_changed_106_O (k : Nat) : Oracle := ofL [(106, impl_SellLoaves_1_x k), (34, impl_bakeryCopy_x k), (35, impl_BakeryOk_x k)]
theorem impl_changed_106_Ok (k : Nat) : OkO (Ct Tryz.prog) (impl_changed_106_O k) := okO_cons (impl_SellLoaves_1_ok k) (okO_cons (impl_bakeryCopy_ok k) (okO_cons (impl_BakeryOk_ok k) (okO_nil)))
noncomputable def impl_changed_106_A (b : Bakery) (how_0 : Bool) (how_1 : Int) : Pk := ⟨[(.ag [(.sl 0), (.v (.int .i64 b.Dough.Water)), (.v (.int .i64 b.Dough.Salt)), (.v (.int .i64 b.Dough.Leaven)), (.v (.int .i64 b.Loaf.Weight)), (.v (.int .i64 b.Loaf.Loss)), (.sl 1), (.v (.int .i64 b.Book.Rack.Fresh)), (.v (.int .i64 b.Book.Rack.Day)), (.v (.int .i64 b.Book.Rack.Old)), (.v (.int .i64 b.Book.Baked)), (.v (.int .i64 b.Book.Sold)), (.v (.int .i64 b.Book.Thrown)), (.v (.int .i64 b.Money))]), (.sc (.fn 106 [2, 3]))], [(.row false K.ki64 b.Stock.Grams), (.row false K.k_impl_Event b.Book.Events), (.box false [(.v (.bool how_0))]), (.box false [(.v (.int .i64 how_1))])]⟩
noncomputable def impl_changed_106_d : Rs → Option (Bakery × Bool)
 | ⟨(.tp [(.ag [(.sl 4), (.v (.int .i64 r2)), (.v (.int .i64 r3)), (.v (.int .i64 r4)), (.v (.int .i64 r5)), (.v (.int .i64 r6)), (.sl 5), (.v (.int .i64 r8)), (.v (.int .i64 r9)), (.v (.int .i64 r10)), (.v (.int .i64 r11)), (.v (.int .i64 r12)), (.v (.int .i64 r13)), (.v (.int .i64 r14))]), (.sc (.v (.bool r15)))]), [.dead, .dead, .dead, .dead, (.row true K.ki64 r1), (.row true K.k_impl_Event r7)]⟩ => some ((⟨(⟨r1⟩ : Stock), (⟨r2, r3, r4⟩ : Dough), (⟨r5, r6⟩ : Loaf), (⟨r7, (⟨r8, r9, r10⟩ : Rack), r11, r12, r13⟩ : Book), r14⟩ : Bakery), r15)
 | _ => none
theorem impl_changed_106_i {r : Rs} {y : Bakery × Bool} (h : impl_changed_106_d r = some y) : r = ⟨(.tp [(.ag [(.sl 4), (.v (.int .i64 y.1.Dough.Water)), (.v (.int .i64 y.1.Dough.Salt)), (.v (.int .i64 y.1.Dough.Leaven)), (.v (.int .i64 y.1.Loaf.Weight)), (.v (.int .i64 y.1.Loaf.Loss)), (.sl 5), (.v (.int .i64 y.1.Book.Rack.Fresh)), (.v (.int .i64 y.1.Book.Rack.Day)), (.v (.int .i64 y.1.Book.Rack.Old)), (.v (.int .i64 y.1.Book.Baked)), (.v (.int .i64 y.1.Book.Sold)), (.v (.int .i64 y.1.Book.Thrown)), (.v (.int .i64 y.1.Money))]), (.sc (.v (.bool y.2)))]), [.dead, .dead, .dead, .dead, (.row true K.ki64 y.1.Stock.Grams), (.row true K.k_impl_Event y.1.Book.Events)]⟩ := by
 unfold impl_changed_106_d at h; split at h
 · cases h; rfl
 · cases h
theorem impl_changed_106_e (k : Nat) (b : Bakery) (how_0 : Bool) (how_1 : Int) : callF env (impl_changed_106_O k) impl_changed_106_v Tryz.f102 (k + 1) (impl_changed_106_A b how_0 how_1) (fun r => impl_changed_106_d (r.fin 4 [])) = impl_changed_106 k b how_0 how_1 := by kernel_rfl
noncomputable def impl_changed_106_x (k : Nat) : Ent1 := fun A R Q => match A with
 | ⟨[(.ag [(.sl 0), (.v (.int .i64 a2)), (.v (.int .i64 a3)), (.v (.int .i64 a4)), (.v (.int .i64 a5)), (.v (.int .i64 a6)), (.sl 1), (.v (.int .i64 a8)), (.v (.int .i64 a9)), (.v (.int .i64 a10)), (.v (.int .i64 a11)), (.v (.int .i64 a12)), (.v (.int .i64 a13)), (.v (.int .i64 a14))]), (.sc (.fn 106 [2, 3]))], [(.row false K.ki64 a1), (.row false K.k_impl_Event a7), (.box false [(.v (.bool a15))]), (.box false [(.v (.int .i64 a16))])]⟩ => (impl_changed_106 k (⟨(⟨a1⟩ : Stock), (⟨a2, a3, a4⟩ : Dough), (⟨a5, a6⟩ : Loaf), (⟨a7, (⟨a8, a9, a10⟩ : Rack), a11, a12, a13⟩ : Book), a14⟩ : Bakery) a15 a16).bind fun y => Q ⟨(.tp [(.ag [(.sl 4), (.v (.int .i64 y.1.Dough.Water)), (.v (.int .i64 y.1.Dough.Salt)), (.v (.int .i64 y.1.Dough.Leaven)), (.v (.int .i64 y.1.Loaf.Weight)), (.v (.int .i64 y.1.Loaf.Loss)), (.sl 5), (.v (.int .i64 y.1.Book.Rack.Fresh)), (.v (.int .i64 y.1.Book.Rack.Day)), (.v (.int .i64 y.1.Book.Rack.Old)), (.v (.int .i64 y.1.Book.Baked)), (.v (.int .i64 y.1.Book.Sold)), (.v (.int .i64 y.1.Book.Thrown)), (.v (.int .i64 y.1.Money))]), (.sc (.v (.bool y.2)))]), [.dead, .dead, .dead, .dead, (.row true K.ki64 y.1.Stock.Grams), (.row true K.k_impl_Event y.1.Book.Events)]⟩
 | _ => none
theorem impl_changed_106_ok (k : Nat) : OkE Tryz.prog 102 (impl_changed_106_x k) := by
 intro A R Q x h
 unfold impl_changed_106_x at h
 split at h
 · obtain ⟨y, hy, hK⟩ := Option.bind_eq_some_iff.1 h
   obtain ⟨r, hr, hd⟩ := callF_ok envOk (impl_changed_106_Ok k) follows Tryz.func102 (by kernel_rfl) ((impl_changed_106_e k _ _ _).trans hy)
   exact ⟨_, impl_changed_106_i hd ▸ hr.fin [], hK⟩
 · cases h
/-! ### impl.SellLoaves: function 70 -/
noncomputable def impl_SellLoaves (k : Nat)  (b : Bakery) (loaves : Int) (cheap : Bool) : Option (Bakery × Bool) :=
 (impl_changed_106 k b cheap loaves).bind fun y1 =>
 some (y1.1, y1.2)
noncomputable def impl_SellLoaves_v : Nat → List Nat := fun t => match t with | _ => []
noncomputable def impl_SellLoaves_O (k : Nat) : Oracle := ofL [(102, impl_changed_106_x k)]
theorem impl_SellLoaves_Ok (k : Nat) : OkO (Ct Tryz.prog) (impl_SellLoaves_O k) := okO_cons (impl_changed_106_ok k) (okO_nil)
noncomputable def impl_SellLoaves_A (b : Bakery) (loaves : Int) (cheap : Bool) : Pk := ⟨[(.ag [(.sl 0), (.v (.int .i64 b.Dough.Water)), (.v (.int .i64 b.Dough.Salt)), (.v (.int .i64 b.Dough.Leaven)), (.v (.int .i64 b.Loaf.Weight)), (.v (.int .i64 b.Loaf.Loss)), (.sl 1), (.v (.int .i64 b.Book.Rack.Fresh)), (.v (.int .i64 b.Book.Rack.Day)), (.v (.int .i64 b.Book.Rack.Old)), (.v (.int .i64 b.Book.Baked)), (.v (.int .i64 b.Book.Sold)), (.v (.int .i64 b.Book.Thrown)), (.v (.int .i64 b.Money))]), (.sc (.v (.int .i64 loaves))), (.sc (.v (.bool cheap)))], [(.row false K.ki64 b.Stock.Grams), (.row false K.k_impl_Event b.Book.Events)]⟩
noncomputable def impl_SellLoaves_d : Rs → Option (Bakery × Bool)
 | ⟨(.tp [(.ag [(.sl 2), (.v (.int .i64 r2)), (.v (.int .i64 r3)), (.v (.int .i64 r4)), (.v (.int .i64 r5)), (.v (.int .i64 r6)), (.sl 3), (.v (.int .i64 r8)), (.v (.int .i64 r9)), (.v (.int .i64 r10)), (.v (.int .i64 r11)), (.v (.int .i64 r12)), (.v (.int .i64 r13)), (.v (.int .i64 r14))]), (.sc (.v (.bool r15)))]), [.dead, .dead, (.row true K.ki64 r1), (.row true K.k_impl_Event r7)]⟩ => some ((⟨(⟨r1⟩ : Stock), (⟨r2, r3, r4⟩ : Dough), (⟨r5, r6⟩ : Loaf), (⟨r7, (⟨r8, r9, r10⟩ : Rack), r11, r12, r13⟩ : Book), r14⟩ : Bakery), r15)
 | _ => none
theorem impl_SellLoaves_i {r : Rs} {y : Bakery × Bool} (h : impl_SellLoaves_d r = some y) : r = ⟨(.tp [(.ag [(.sl 2), (.v (.int .i64 y.1.Dough.Water)), (.v (.int .i64 y.1.Dough.Salt)), (.v (.int .i64 y.1.Dough.Leaven)), (.v (.int .i64 y.1.Loaf.Weight)), (.v (.int .i64 y.1.Loaf.Loss)), (.sl 3), (.v (.int .i64 y.1.Book.Rack.Fresh)), (.v (.int .i64 y.1.Book.Rack.Day)), (.v (.int .i64 y.1.Book.Rack.Old)), (.v (.int .i64 y.1.Book.Baked)), (.v (.int .i64 y.1.Book.Sold)), (.v (.int .i64 y.1.Book.Thrown)), (.v (.int .i64 y.1.Money))]), (.sc (.v (.bool y.2)))]), [.dead, .dead, (.row true K.ki64 y.1.Stock.Grams), (.row true K.k_impl_Event y.1.Book.Events)]⟩ := by
 unfold impl_SellLoaves_d at h; split at h
 · cases h; rfl
 · cases h
theorem impl_SellLoaves_e (k : Nat) (b : Bakery) (loaves : Int) (cheap : Bool) : callF env (impl_SellLoaves_O k) impl_SellLoaves_v Tryz.f70 (k + 1) (impl_SellLoaves_A b loaves cheap) (fun r => impl_SellLoaves_d (r.fin 2 [])) = impl_SellLoaves k b loaves cheap := by kernel_rfl
noncomputable def impl_SellLoaves_x (k : Nat) : Ent1 := fun A R Q => match A with
 | ⟨[(.ag [(.sl 0), (.v (.int .i64 a2)), (.v (.int .i64 a3)), (.v (.int .i64 a4)), (.v (.int .i64 a5)), (.v (.int .i64 a6)), (.sl 1), (.v (.int .i64 a8)), (.v (.int .i64 a9)), (.v (.int .i64 a10)), (.v (.int .i64 a11)), (.v (.int .i64 a12)), (.v (.int .i64 a13)), (.v (.int .i64 a14))]), (.sc (.v (.int .i64 a15))), (.sc (.v (.bool a16)))], [(.row false K.ki64 a1), (.row false K.k_impl_Event a7)]⟩ => (impl_SellLoaves k (⟨(⟨a1⟩ : Stock), (⟨a2, a3, a4⟩ : Dough), (⟨a5, a6⟩ : Loaf), (⟨a7, (⟨a8, a9, a10⟩ : Rack), a11, a12, a13⟩ : Book), a14⟩ : Bakery) a15 a16).bind fun y => Q ⟨(.tp [(.ag [(.sl 2), (.v (.int .i64 y.1.Dough.Water)), (.v (.int .i64 y.1.Dough.Salt)), (.v (.int .i64 y.1.Dough.Leaven)), (.v (.int .i64 y.1.Loaf.Weight)), (.v (.int .i64 y.1.Loaf.Loss)), (.sl 3), (.v (.int .i64 y.1.Book.Rack.Fresh)), (.v (.int .i64 y.1.Book.Rack.Day)), (.v (.int .i64 y.1.Book.Rack.Old)), (.v (.int .i64 y.1.Book.Baked)), (.v (.int .i64 y.1.Book.Sold)), (.v (.int .i64 y.1.Book.Thrown)), (.v (.int .i64 y.1.Money))]), (.sc (.v (.bool y.2)))]), [.dead, .dead, (.row true K.ki64 y.1.Stock.Grams), (.row true K.k_impl_Event y.1.Book.Events)]⟩
 | _ => none
theorem impl_SellLoaves_ok (k : Nat) : OkE Tryz.prog 70 (impl_SellLoaves_x k) := by
 intro A R Q x h
 unfold impl_SellLoaves_x at h
 split at h
 · obtain ⟨y, hy, hK⟩ := Option.bind_eq_some_iff.1 h
   obtain ⟨r, hr, hd⟩ := callF_ok envOk (impl_SellLoaves_Ok k) follows Tryz.func70 (by kernel_rfl) ((impl_SellLoaves_e k _ _ _).trans hy)
   exact ⟨_, impl_SellLoaves_i hd ▸ hr.fin [], hK⟩
 · cases h
/-! ### impl.NightOver$1: function 107 -/
noncomputable def impl_NightOver_1 (k : Nat)  (own : Bakery) : Option (Bool × (List Int) × (List Event) × Bakery) :=
 (impl_Bakery_enter k own (⟨4, 0⟩ : Event)).bind fun y1 =>
 some (y1.1, y1.2.1, y1.2.2.1, (⟨(⟨y1.2.1⟩ : Stock), y1.2.2.2.Dough, y1.2.2.2.Loaf, y1.2.2.2.Book, y1.2.2.2.Money⟩ : Bakery))
noncomputable def impl_NightOver_1_v : Nat → List Nat := fun t => match t with | _ => []
noncomputable def impl_NightOver_1_O (k : Nat) : Oracle := ofL [(105, impl_Bakery_enter_x k)]
theorem impl_NightOver_1_Ok (k : Nat) : OkO (Ct Tryz.prog) (impl_NightOver_1_O k) := okO_cons (impl_Bakery_enter_ok k) (okO_nil)
noncomputable def impl_NightOver_1_A (own : Bakery) : Pk := ⟨[(.sc (.bp 2 0))], [(.row true K.ki64 own.Stock.Grams), (.row true K.k_impl_Event own.Book.Events), (.box true [(.sl 0), (.v (.int .i64 own.Dough.Water)), (.v (.int .i64 own.Dough.Salt)), (.v (.int .i64 own.Dough.Leaven)), (.v (.int .i64 own.Loaf.Weight)), (.v (.int .i64 own.Loaf.Loss)), (.sl 1), (.v (.int .i64 own.Book.Rack.Fresh)), (.v (.int .i64 own.Book.Rack.Day)), (.v (.int .i64 own.Book.Rack.Old)), (.v (.int .i64 own.Book.Baked)), (.v (.int .i64 own.Book.Sold)), (.v (.int .i64 own.Book.Thrown)), (.v (.int .i64 own.Money))])]⟩
noncomputable def impl_NightOver_1_d : Rs → Option (Bool × (List Int) × (List Event) × Bakery)
 | ⟨(.a (.sc (.v (.bool r1)))), [(.row true K.ki64 r2), (.row true K.k_impl_Event r3), (.box true [(.sl 0), (.v (.int .i64 r4)), (.v (.int .i64 r5)), (.v (.int .i64 r6)), (.v (.int .i64 r7)), (.v (.int .i64 r8)), (.sl 3), (.v (.int .i64 r10)), (.v (.int .i64 r11)), (.v (.int .i64 r12)), (.v (.int .i64 r13)), (.v (.int .i64 r14)), (.v (.int .i64 r15)), (.v (.int .i64 r16))]), (.row true K.k_impl_Event r9)]⟩ => some (r1, r2, r3, (⟨(⟨r2⟩ : Stock), (⟨r4, r5, r6⟩ : Dough), (⟨r7, r8⟩ : Loaf), (⟨r9, (⟨r10, r11, r12⟩ : Rack), r13, r14, r15⟩ : Book), r16⟩ : Bakery))
 | _ => none
theorem impl_NightOver_1_i {r : Rs} {y : Bool × (List Int) × (List Event) × Bakery} (h : impl_NightOver_1_d r = some y) : r = ⟨(.a (.sc (.v (.bool y.1)))), [(.row true K.ki64 y.2.1), (.row true K.k_impl_Event y.2.2.1), (.box true [(.sl 0), (.v (.int .i64 y.2.2.2.Dough.Water)), (.v (.int .i64 y.2.2.2.Dough.Salt)), (.v (.int .i64 y.2.2.2.Dough.Leaven)), (.v (.int .i64 y.2.2.2.Loaf.Weight)), (.v (.int .i64 y.2.2.2.Loaf.Loss)), (.sl 3), (.v (.int .i64 y.2.2.2.Book.Rack.Fresh)), (.v (.int .i64 y.2.2.2.Book.Rack.Day)), (.v (.int .i64 y.2.2.2.Book.Rack.Old)), (.v (.int .i64 y.2.2.2.Book.Baked)), (.v (.int .i64 y.2.2.2.Book.Sold)), (.v (.int .i64 y.2.2.2.Book.Thrown)), (.v (.int .i64 y.2.2.2.Money))]), (.row true K.k_impl_Event y.2.2.2.Book.Events)]⟩ := by
 unfold impl_NightOver_1_d at h; split at h
 · cases h; rfl
 · cases h
theorem impl_NightOver_1_e (k : Nat) (own : Bakery) : callF env (impl_NightOver_1_O k) impl_NightOver_1_v Tryz.f107 (k + 1) (impl_NightOver_1_A own) (fun r => impl_NightOver_1_d (r.fin 3 [])) = impl_NightOver_1 k own := by kernel_rfl
noncomputable def impl_NightOver_1_x (k : Nat) : Ent1 := fun A R Q => match A with
 | ⟨[(.sc (.bp 2 0))], [(.row true K.ki64 a1), (.row true K.k_impl_Event a7), (.box true [(.sl 0), (.v (.int .i64 a2)), (.v (.int .i64 a3)), (.v (.int .i64 a4)), (.v (.int .i64 a5)), (.v (.int .i64 a6)), (.sl 1), (.v (.int .i64 a8)), (.v (.int .i64 a9)), (.v (.int .i64 a10)), (.v (.int .i64 a11)), (.v (.int .i64 a12)), (.v (.int .i64 a13)), (.v (.int .i64 a14))])]⟩ => (impl_NightOver_1 k (⟨(⟨a1⟩ : Stock), (⟨a2, a3, a4⟩ : Dough), (⟨a5, a6⟩ : Loaf), (⟨a7, (⟨a8, a9, a10⟩ : Rack), a11, a12, a13⟩ : Book), a14⟩ : Bakery)).bind fun y => Q ⟨(.a (.sc (.v (.bool y.1)))), [(.row true K.ki64 y.2.1), (.row true K.k_impl_Event y.2.2.1), (.box true [(.sl 0), (.v (.int .i64 y.2.2.2.Dough.Water)), (.v (.int .i64 y.2.2.2.Dough.Salt)), (.v (.int .i64 y.2.2.2.Dough.Leaven)), (.v (.int .i64 y.2.2.2.Loaf.Weight)), (.v (.int .i64 y.2.2.2.Loaf.Loss)), (.sl 3), (.v (.int .i64 y.2.2.2.Book.Rack.Fresh)), (.v (.int .i64 y.2.2.2.Book.Rack.Day)), (.v (.int .i64 y.2.2.2.Book.Rack.Old)), (.v (.int .i64 y.2.2.2.Book.Baked)), (.v (.int .i64 y.2.2.2.Book.Sold)), (.v (.int .i64 y.2.2.2.Book.Thrown)), (.v (.int .i64 y.2.2.2.Money))]), (.row true K.k_impl_Event y.2.2.2.Book.Events)]⟩
 | _ => none
theorem impl_NightOver_1_ok (k : Nat) : OkE Tryz.prog 107 (impl_NightOver_1_x k) := by
 intro A R Q x h
 unfold impl_NightOver_1_x at h
 split at h
 · obtain ⟨y, hy, hK⟩ := Option.bind_eq_some_iff.1 h
   obtain ⟨r, hr, hd⟩ := callF_ok envOk (impl_NightOver_1_Ok k) follows Tryz.func107 (by kernel_rfl) ((impl_NightOver_1_e k _).trans hy)
   exact ⟨_, impl_NightOver_1_i hd ▸ hr.fin [], hK⟩
 · cases h
/-! ### impl.changed: function 102 -/
noncomputable def impl_changed_107 (k : Nat)  (b : Bakery) : Option (Bakery × Bool) :=
 (impl_bakeryCopy k b).bind fun y1 =>
 (impl_BakeryOk k b).bind fun y2 =>
  cond (!y2)
   ((impl_bakeryCopy k b).bind fun y5 =>
    some (y5, false))
   ((impl_NightOver_1 k y1).bind fun y3 =>
    cond (!y3.1)
     ((impl_bakeryCopy k b).bind fun y6 =>
      some (y6, false))
     ((impl_BakeryOk k (⟨(⟨y3.2.1⟩ : Stock), y3.2.2.2.Dough, y3.2.2.2.Loaf, y3.2.2.2.Book, y3.2.2.2.Money⟩ : Bakery)).bind fun y4 =>
      cond (!y4)
       ((impl_bakeryCopy k b).bind fun y7 =>
        some (y7, false))
       (some ((⟨(⟨y3.2.1⟩ : Stock), y3.2.2.2.Dough, y3.2.2.2.Loaf, y3.2.2.2.Book, y3.2.2.2.Money⟩ : Bakery), true))))
noncomputable def impl_changed_107_v : Nat → List Nat := fun t => match t with | _ => []
noncomputable def impl_changed_107_O (k : Nat) : Oracle := ofL [(107, impl_NightOver_1_x k), (34, impl_bakeryCopy_x k), (35, impl_BakeryOk_x k)]
theorem impl_changed_107_Ok (k : Nat) : OkO (Ct Tryz.prog) (impl_changed_107_O k) := okO_cons (impl_NightOver_1_ok k) (okO_cons (impl_bakeryCopy_ok k) (okO_cons (impl_BakeryOk_ok k) (okO_nil)))
noncomputable def impl_changed_107_A (b : Bakery) : Pk := ⟨[(.ag [(.sl 0), (.v (.int .i64 b.Dough.Water)), (.v (.int .i64 b.Dough.Salt)), (.v (.int .i64 b.Dough.Leaven)), (.v (.int .i64 b.Loaf.Weight)), (.v (.int .i64 b.Loaf.Loss)), (.sl 1), (.v (.int .i64 b.Book.Rack.Fresh)), (.v (.int .i64 b.Book.Rack.Day)), (.v (.int .i64 b.Book.Rack.Old)), (.v (.int .i64 b.Book.Baked)), (.v (.int .i64 b.Book.Sold)), (.v (.int .i64 b.Book.Thrown)), (.v (.int .i64 b.Money))]), (.sc (.fn 107 []))], [(.row false K.ki64 b.Stock.Grams), (.row false K.k_impl_Event b.Book.Events)]⟩
noncomputable def impl_changed_107_d : Rs → Option (Bakery × Bool)
 | ⟨(.tp [(.ag [(.sl 2), (.v (.int .i64 r2)), (.v (.int .i64 r3)), (.v (.int .i64 r4)), (.v (.int .i64 r5)), (.v (.int .i64 r6)), (.sl 3), (.v (.int .i64 r8)), (.v (.int .i64 r9)), (.v (.int .i64 r10)), (.v (.int .i64 r11)), (.v (.int .i64 r12)), (.v (.int .i64 r13)), (.v (.int .i64 r14))]), (.sc (.v (.bool r15)))]), [.dead, .dead, (.row true K.ki64 r1), (.row true K.k_impl_Event r7)]⟩ => some ((⟨(⟨r1⟩ : Stock), (⟨r2, r3, r4⟩ : Dough), (⟨r5, r6⟩ : Loaf), (⟨r7, (⟨r8, r9, r10⟩ : Rack), r11, r12, r13⟩ : Book), r14⟩ : Bakery), r15)
 | _ => none
theorem impl_changed_107_i {r : Rs} {y : Bakery × Bool} (h : impl_changed_107_d r = some y) : r = ⟨(.tp [(.ag [(.sl 2), (.v (.int .i64 y.1.Dough.Water)), (.v (.int .i64 y.1.Dough.Salt)), (.v (.int .i64 y.1.Dough.Leaven)), (.v (.int .i64 y.1.Loaf.Weight)), (.v (.int .i64 y.1.Loaf.Loss)), (.sl 3), (.v (.int .i64 y.1.Book.Rack.Fresh)), (.v (.int .i64 y.1.Book.Rack.Day)), (.v (.int .i64 y.1.Book.Rack.Old)), (.v (.int .i64 y.1.Book.Baked)), (.v (.int .i64 y.1.Book.Sold)), (.v (.int .i64 y.1.Book.Thrown)), (.v (.int .i64 y.1.Money))]), (.sc (.v (.bool y.2)))]), [.dead, .dead, (.row true K.ki64 y.1.Stock.Grams), (.row true K.k_impl_Event y.1.Book.Events)]⟩ := by
 unfold impl_changed_107_d at h; split at h
 · cases h; rfl
 · cases h
theorem impl_changed_107_e (k : Nat) (b : Bakery) : callF env (impl_changed_107_O k) impl_changed_107_v Tryz.f102 (k + 1) (impl_changed_107_A b) (fun r => impl_changed_107_d (r.fin 2 [])) = impl_changed_107 k b := by kernel_rfl
noncomputable def impl_changed_107_x (k : Nat) : Ent1 := fun A R Q => match A with
 | ⟨[(.ag [(.sl 0), (.v (.int .i64 a2)), (.v (.int .i64 a3)), (.v (.int .i64 a4)), (.v (.int .i64 a5)), (.v (.int .i64 a6)), (.sl 1), (.v (.int .i64 a8)), (.v (.int .i64 a9)), (.v (.int .i64 a10)), (.v (.int .i64 a11)), (.v (.int .i64 a12)), (.v (.int .i64 a13)), (.v (.int .i64 a14))]), (.sc (.fn 107 []))], [(.row false K.ki64 a1), (.row false K.k_impl_Event a7)]⟩ => (impl_changed_107 k (⟨(⟨a1⟩ : Stock), (⟨a2, a3, a4⟩ : Dough), (⟨a5, a6⟩ : Loaf), (⟨a7, (⟨a8, a9, a10⟩ : Rack), a11, a12, a13⟩ : Book), a14⟩ : Bakery)).bind fun y => Q ⟨(.tp [(.ag [(.sl 2), (.v (.int .i64 y.1.Dough.Water)), (.v (.int .i64 y.1.Dough.Salt)), (.v (.int .i64 y.1.Dough.Leaven)), (.v (.int .i64 y.1.Loaf.Weight)), (.v (.int .i64 y.1.Loaf.Loss)), (.sl 3), (.v (.int .i64 y.1.Book.Rack.Fresh)), (.v (.int .i64 y.1.Book.Rack.Day)), (.v (.int .i64 y.1.Book.Rack.Old)), (.v (.int .i64 y.1.Book.Baked)), (.v (.int .i64 y.1.Book.Sold)), (.v (.int .i64 y.1.Book.Thrown)), (.v (.int .i64 y.1.Money))]), (.sc (.v (.bool y.2)))]), [.dead, .dead, (.row true K.ki64 y.1.Stock.Grams), (.row true K.k_impl_Event y.1.Book.Events)]⟩
 | _ => none
theorem impl_changed_107_ok (k : Nat) : OkE Tryz.prog 102 (impl_changed_107_x k) := by
 intro A R Q x h
 unfold impl_changed_107_x at h
 split at h
 · obtain ⟨y, hy, hK⟩ := Option.bind_eq_some_iff.1 h
   obtain ⟨r, hr, hd⟩ := callF_ok envOk (impl_changed_107_Ok k) follows Tryz.func102 (by kernel_rfl) ((impl_changed_107_e k _).trans hy)
   exact ⟨_, impl_changed_107_i hd ▸ hr.fin [], hK⟩
 · cases h
/-! ### impl.NightOver: function 71 -/
noncomputable def impl_NightOver (k : Nat)  (b : Bakery) : Option (Bakery × Bool) :=
 (impl_changed_107 k b).bind fun y1 =>
 some (y1.1, y1.2)
noncomputable def impl_NightOver_v : Nat → List Nat := fun t => match t with | _ => []
noncomputable def impl_NightOver_O (k : Nat) : Oracle := ofL [(102, impl_changed_107_x k)]
theorem impl_NightOver_Ok (k : Nat) : OkO (Ct Tryz.prog) (impl_NightOver_O k) := okO_cons (impl_changed_107_ok k) (okO_nil)
noncomputable def impl_NightOver_A (b : Bakery) : Pk := ⟨[(.ag [(.sl 0), (.v (.int .i64 b.Dough.Water)), (.v (.int .i64 b.Dough.Salt)), (.v (.int .i64 b.Dough.Leaven)), (.v (.int .i64 b.Loaf.Weight)), (.v (.int .i64 b.Loaf.Loss)), (.sl 1), (.v (.int .i64 b.Book.Rack.Fresh)), (.v (.int .i64 b.Book.Rack.Day)), (.v (.int .i64 b.Book.Rack.Old)), (.v (.int .i64 b.Book.Baked)), (.v (.int .i64 b.Book.Sold)), (.v (.int .i64 b.Book.Thrown)), (.v (.int .i64 b.Money))])], [(.row false K.ki64 b.Stock.Grams), (.row false K.k_impl_Event b.Book.Events)]⟩
noncomputable def impl_NightOver_d : Rs → Option (Bakery × Bool)
 | ⟨(.tp [(.ag [(.sl 2), (.v (.int .i64 r2)), (.v (.int .i64 r3)), (.v (.int .i64 r4)), (.v (.int .i64 r5)), (.v (.int .i64 r6)), (.sl 3), (.v (.int .i64 r8)), (.v (.int .i64 r9)), (.v (.int .i64 r10)), (.v (.int .i64 r11)), (.v (.int .i64 r12)), (.v (.int .i64 r13)), (.v (.int .i64 r14))]), (.sc (.v (.bool r15)))]), [.dead, .dead, (.row true K.ki64 r1), (.row true K.k_impl_Event r7)]⟩ => some ((⟨(⟨r1⟩ : Stock), (⟨r2, r3, r4⟩ : Dough), (⟨r5, r6⟩ : Loaf), (⟨r7, (⟨r8, r9, r10⟩ : Rack), r11, r12, r13⟩ : Book), r14⟩ : Bakery), r15)
 | _ => none
theorem impl_NightOver_i {r : Rs} {y : Bakery × Bool} (h : impl_NightOver_d r = some y) : r = ⟨(.tp [(.ag [(.sl 2), (.v (.int .i64 y.1.Dough.Water)), (.v (.int .i64 y.1.Dough.Salt)), (.v (.int .i64 y.1.Dough.Leaven)), (.v (.int .i64 y.1.Loaf.Weight)), (.v (.int .i64 y.1.Loaf.Loss)), (.sl 3), (.v (.int .i64 y.1.Book.Rack.Fresh)), (.v (.int .i64 y.1.Book.Rack.Day)), (.v (.int .i64 y.1.Book.Rack.Old)), (.v (.int .i64 y.1.Book.Baked)), (.v (.int .i64 y.1.Book.Sold)), (.v (.int .i64 y.1.Book.Thrown)), (.v (.int .i64 y.1.Money))]), (.sc (.v (.bool y.2)))]), [.dead, .dead, (.row true K.ki64 y.1.Stock.Grams), (.row true K.k_impl_Event y.1.Book.Events)]⟩ := by
 unfold impl_NightOver_d at h; split at h
 · cases h; rfl
 · cases h
theorem impl_NightOver_e (k : Nat) (b : Bakery) : callF env (impl_NightOver_O k) impl_NightOver_v Tryz.f71 (k + 1) (impl_NightOver_A b) (fun r => impl_NightOver_d (r.fin 2 [])) = impl_NightOver k b := by kernel_rfl
noncomputable def impl_NightOver_x (k : Nat) : Ent1 := fun A R Q => match A with
 | ⟨[(.ag [(.sl 0), (.v (.int .i64 a2)), (.v (.int .i64 a3)), (.v (.int .i64 a4)), (.v (.int .i64 a5)), (.v (.int .i64 a6)), (.sl 1), (.v (.int .i64 a8)), (.v (.int .i64 a9)), (.v (.int .i64 a10)), (.v (.int .i64 a11)), (.v (.int .i64 a12)), (.v (.int .i64 a13)), (.v (.int .i64 a14))])], [(.row false K.ki64 a1), (.row false K.k_impl_Event a7)]⟩ => (impl_NightOver k (⟨(⟨a1⟩ : Stock), (⟨a2, a3, a4⟩ : Dough), (⟨a5, a6⟩ : Loaf), (⟨a7, (⟨a8, a9, a10⟩ : Rack), a11, a12, a13⟩ : Book), a14⟩ : Bakery)).bind fun y => Q ⟨(.tp [(.ag [(.sl 2), (.v (.int .i64 y.1.Dough.Water)), (.v (.int .i64 y.1.Dough.Salt)), (.v (.int .i64 y.1.Dough.Leaven)), (.v (.int .i64 y.1.Loaf.Weight)), (.v (.int .i64 y.1.Loaf.Loss)), (.sl 3), (.v (.int .i64 y.1.Book.Rack.Fresh)), (.v (.int .i64 y.1.Book.Rack.Day)), (.v (.int .i64 y.1.Book.Rack.Old)), (.v (.int .i64 y.1.Book.Baked)), (.v (.int .i64 y.1.Book.Sold)), (.v (.int .i64 y.1.Book.Thrown)), (.v (.int .i64 y.1.Money))]), (.sc (.v (.bool y.2)))]), [.dead, .dead, (.row true K.ki64 y.1.Stock.Grams), (.row true K.k_impl_Event y.1.Book.Events)]⟩
 | _ => none
theorem impl_NightOver_ok (k : Nat) : OkE Tryz.prog 71 (impl_NightOver_x k) := by
 intro A R Q x h
 unfold impl_NightOver_x at h
 split at h
 · obtain ⟨y, hy, hK⟩ := Option.bind_eq_some_iff.1 h
   obtain ⟨r, hr, hd⟩ := callF_ok envOk (impl_NightOver_Ok k) follows Tryz.func71 (by kernel_rfl) ((impl_NightOver_e k _).trans hy)
   exact ⟨_, impl_NightOver_i hd ▸ hr.fin [], hK⟩
 · cases h
/-! ### impl.FillStock: function 109 -/
noncomputable def impl_FillStock (k : Nat)  (s : Stock) (k_ : Int) (grams : Int) : Option (Stock × Bool) :=
 (impl_stockCopy k s).bind fun y1 =>
 (impl_StoreOk k s).bind fun y2 =>
  cond (!y2)
   (some (y1, false))
   ((impl_in k k_ 0 3).bind fun y3 =>
    cond (!y3)
     (some (y1, false))
     ((impl_in k grams 0 1000000).bind fun y4 =>
      cond (!y4)
       (some (y1, false))
       (if 0 ≤ (k_ : Int) ∧ (k_ : Int) < ((y1.Grams).length : Int) then
        if 0 ≤ (k_ : Int) ∧ (k_ : Int) < ((y1.Grams).length : Int) then
        (impl_StoreOk k (⟨(y1.Grams.set (Int.toNat k_) (wr ((y1.Grams.getD (Int.toNat k_) 0) + grams)))⟩ : Stock)).bind fun y5 =>
        cond (!y5)
        ((impl_stockCopy k s).bind fun y6 =>
        some (y6, false))
        (some ((⟨(y1.Grams.set (Int.toNat k_) (wr ((y1.Grams.getD (Int.toNat k_) 0) + grams)))⟩ : Stock), true)) else none else none)))
noncomputable def impl_FillStock_v : Nat → List Nat := fun t => match t with | _ => []
noncomputable def impl_FillStock_O (k : Nat) : Oracle := ofL [(62, impl_stockCopy_x k), (64, impl_StoreOk_x k), (68, impl_in_x k)]
theorem impl_FillStock_Ok (k : Nat) : OkO (Ct Tryz.prog) (impl_FillStock_O k) := okO_cons (impl_stockCopy_ok k) (okO_cons (impl_StoreOk_ok k) (okO_cons (impl_in_ok k) (okO_nil)))
noncomputable def impl_FillStock_A (s : Stock) (k_ : Int) (grams : Int) : Pk := ⟨[(.ag [(.sl 0)]), (.sc (.v (.int .i64 k_))), (.sc (.v (.int .i64 grams)))], [(.row false K.ki64 s.Grams)]⟩
noncomputable def impl_FillStock_d : Rs → Option (Stock × Bool)
 | ⟨(.tp [(.ag [(.sl 1)]), (.sc (.v (.bool r2)))]), [.dead, (.row true K.ki64 r1)]⟩ => some ((⟨r1⟩ : Stock), r2)
 | _ => none
theorem impl_FillStock_i {r : Rs} {y : Stock × Bool} (h : impl_FillStock_d r = some y) : r = ⟨(.tp [(.ag [(.sl 1)]), (.sc (.v (.bool y.2)))]), [.dead, (.row true K.ki64 y.1.Grams)]⟩ := by
 unfold impl_FillStock_d at h; split at h
 · cases h; rfl
 · cases h
theorem impl_FillStock_e (k : Nat) (s : Stock) (k_ : Int) (grams : Int) : callF env (impl_FillStock_O k) impl_FillStock_v Tryz.f109 (k + 1) (impl_FillStock_A s k_ grams) (fun r => impl_FillStock_d (r.fin 1 [])) = impl_FillStock k s k_ grams := by kernel_rfl
noncomputable def impl_FillStock_x (k : Nat) : Ent1 := fun A R Q => match A with
 | ⟨[(.ag [(.sl 0)]), (.sc (.v (.int .i64 a2))), (.sc (.v (.int .i64 a3)))], [(.row false K.ki64 a1)]⟩ => (impl_FillStock k (⟨a1⟩ : Stock) a2 a3).bind fun y => Q ⟨(.tp [(.ag [(.sl 1)]), (.sc (.v (.bool y.2)))]), [.dead, (.row true K.ki64 y.1.Grams)]⟩
 | _ => none
theorem impl_FillStock_ok (k : Nat) : OkE Tryz.prog 109 (impl_FillStock_x k) := by
 intro A R Q x h
 unfold impl_FillStock_x at h
 split at h
 · obtain ⟨y, hy, hK⟩ := Option.bind_eq_some_iff.1 h
   obtain ⟨r, hr, hd⟩ := callF_ok envOk (impl_FillStock_Ok k) follows Tryz.func109 (by kernel_rfl) ((impl_FillStock_e k _ _ _).trans hy)
   exact ⟨_, impl_FillStock_i hd ▸ hr.fin [], hK⟩
 · cases h
/-! ### impl.BuyStock$1: function 108 -/
noncomputable def impl_BuyStock_1 (k : Nat)  (own : Bakery) (p1 : Int) (p2 : Int) : Option (Bool × (List Int) × (List Event) × Bakery) :=
 (impl_FillStock k own.Stock p1 p2).bind fun y1 =>
 cond y1.2
  ((impl_up k p2 100).bind fun y2 =>
   some (y1.2, own.Stock.Grams, own.Book.Events, (⟨y1.1, own.Dough, own.Loaf, own.Book, (wr (own.Money - y2))⟩ : Bakery)))
  (some (y1.2, own.Stock.Grams, own.Book.Events, (⟨y1.1, own.Dough, own.Loaf, own.Book, own.Money⟩ : Bakery)))
noncomputable def impl_BuyStock_1_v : Nat → List Nat := fun t => match t with | _ => []
noncomputable def impl_BuyStock_1_O (k : Nat) : Oracle := ofL [(109, impl_FillStock_x k), (110, impl_up_x k)]
theorem impl_BuyStock_1_Ok (k : Nat) : OkO (Ct Tryz.prog) (impl_BuyStock_1_O k) := okO_cons (impl_FillStock_ok k) (okO_cons (impl_up_ok k) (okO_nil))
noncomputable def impl_BuyStock_1_A (own : Bakery) (p1 : Int) (p2 : Int) : Pk := ⟨[(.sc (.bp 2 0)), (.sc (.bp 3 0)), (.sc (.bp 4 0))], [(.row true K.ki64 own.Stock.Grams), (.row true K.k_impl_Event own.Book.Events), (.box true [(.sl 0), (.v (.int .i64 own.Dough.Water)), (.v (.int .i64 own.Dough.Salt)), (.v (.int .i64 own.Dough.Leaven)), (.v (.int .i64 own.Loaf.Weight)), (.v (.int .i64 own.Loaf.Loss)), (.sl 1), (.v (.int .i64 own.Book.Rack.Fresh)), (.v (.int .i64 own.Book.Rack.Day)), (.v (.int .i64 own.Book.Rack.Old)), (.v (.int .i64 own.Book.Baked)), (.v (.int .i64 own.Book.Sold)), (.v (.int .i64 own.Book.Thrown)), (.v (.int .i64 own.Money))]), (.box false [(.v (.int .i64 p1))]), (.box false [(.v (.int .i64 p2))])]⟩
noncomputable def impl_BuyStock_1_d : Rs → Option (Bool × (List Int) × (List Event) × Bakery)
 | ⟨(.a (.sc (.v (.bool r1)))), [(.row true K.ki64 r2), (.row true K.k_impl_Event r3), (.box true [(.sl 5), (.v (.int .i64 r5)), (.v (.int .i64 r6)), (.v (.int .i64 r7)), (.v (.int .i64 r8)), (.v (.int .i64 r9)), (.sl 1), (.v (.int .i64 r10)), (.v (.int .i64 r11)), (.v (.int .i64 r12)), (.v (.int .i64 r13)), (.v (.int .i64 r14)), (.v (.int .i64 r15)), (.v (.int .i64 r16))]), .dead, .dead, (.row true K.ki64 r4)]⟩ => some (r1, r2, r3, (⟨(⟨r4⟩ : Stock), (⟨r5, r6, r7⟩ : Dough), (⟨r8, r9⟩ : Loaf), (⟨r3, (⟨r10, r11, r12⟩ : Rack), r13, r14, r15⟩ : Book), r16⟩ : Bakery))
 | _ => none
theorem impl_BuyStock_1_i {r : Rs} {y : Bool × (List Int) × (List Event) × Bakery} (h : impl_BuyStock_1_d r = some y) : r = ⟨(.a (.sc (.v (.bool y.1)))), [(.row true K.ki64 y.2.1), (.row true K.k_impl_Event y.2.2.1), (.box true [(.sl 5), (.v (.int .i64 y.2.2.2.Dough.Water)), (.v (.int .i64 y.2.2.2.Dough.Salt)), (.v (.int .i64 y.2.2.2.Dough.Leaven)), (.v (.int .i64 y.2.2.2.Loaf.Weight)), (.v (.int .i64 y.2.2.2.Loaf.Loss)), (.sl 1), (.v (.int .i64 y.2.2.2.Book.Rack.Fresh)), (.v (.int .i64 y.2.2.2.Book.Rack.Day)), (.v (.int .i64 y.2.2.2.Book.Rack.Old)), (.v (.int .i64 y.2.2.2.Book.Baked)), (.v (.int .i64 y.2.2.2.Book.Sold)), (.v (.int .i64 y.2.2.2.Book.Thrown)), (.v (.int .i64 y.2.2.2.Money))]), .dead, .dead, (.row true K.ki64 y.2.2.2.Stock.Grams)]⟩ := by
 unfold impl_BuyStock_1_d at h; split at h
 · cases h; rfl
 · cases h
theorem impl_BuyStock_1_e (k : Nat) (own : Bakery) (p1 : Int) (p2 : Int) : callF env (impl_BuyStock_1_O k) impl_BuyStock_1_v Tryz.f108 (k + 1) (impl_BuyStock_1_A own p1 p2) (fun r => impl_BuyStock_1_d (r.fin 5 [])) = impl_BuyStock_1 k own p1 p2 := by kernel_rfl
noncomputable def impl_BuyStock_1_x (k : Nat) : Ent1 := fun A R Q => match A with
 | ⟨[(.sc (.bp 2 0)), (.sc (.bp 3 0)), (.sc (.bp 4 0))], [(.row true K.ki64 a1), (.row true K.k_impl_Event a7), (.box true [(.sl 0), (.v (.int .i64 a2)), (.v (.int .i64 a3)), (.v (.int .i64 a4)), (.v (.int .i64 a5)), (.v (.int .i64 a6)), (.sl 1), (.v (.int .i64 a8)), (.v (.int .i64 a9)), (.v (.int .i64 a10)), (.v (.int .i64 a11)), (.v (.int .i64 a12)), (.v (.int .i64 a13)), (.v (.int .i64 a14))]), (.box false [(.v (.int .i64 a15))]), (.box false [(.v (.int .i64 a16))])]⟩ => (impl_BuyStock_1 k (⟨(⟨a1⟩ : Stock), (⟨a2, a3, a4⟩ : Dough), (⟨a5, a6⟩ : Loaf), (⟨a7, (⟨a8, a9, a10⟩ : Rack), a11, a12, a13⟩ : Book), a14⟩ : Bakery) a15 a16).bind fun y => Q ⟨(.a (.sc (.v (.bool y.1)))), [(.row true K.ki64 y.2.1), (.row true K.k_impl_Event y.2.2.1), (.box true [(.sl 5), (.v (.int .i64 y.2.2.2.Dough.Water)), (.v (.int .i64 y.2.2.2.Dough.Salt)), (.v (.int .i64 y.2.2.2.Dough.Leaven)), (.v (.int .i64 y.2.2.2.Loaf.Weight)), (.v (.int .i64 y.2.2.2.Loaf.Loss)), (.sl 1), (.v (.int .i64 y.2.2.2.Book.Rack.Fresh)), (.v (.int .i64 y.2.2.2.Book.Rack.Day)), (.v (.int .i64 y.2.2.2.Book.Rack.Old)), (.v (.int .i64 y.2.2.2.Book.Baked)), (.v (.int .i64 y.2.2.2.Book.Sold)), (.v (.int .i64 y.2.2.2.Book.Thrown)), (.v (.int .i64 y.2.2.2.Money))]), .dead, .dead, (.row true K.ki64 y.2.2.2.Stock.Grams)]⟩
 | _ => none
theorem impl_BuyStock_1_ok (k : Nat) : OkE Tryz.prog 108 (impl_BuyStock_1_x k) := by
 intro A R Q x h
 unfold impl_BuyStock_1_x at h
 split at h
 · obtain ⟨y, hy, hK⟩ := Option.bind_eq_some_iff.1 h
   obtain ⟨r, hr, hd⟩ := callF_ok envOk (impl_BuyStock_1_Ok k) follows Tryz.func108 (by kernel_rfl) ((impl_BuyStock_1_e k _ _ _).trans hy)
   exact ⟨_, impl_BuyStock_1_i hd ▸ hr.fin [], hK⟩
 · cases h
end Go.Proofs.YtlenacakmmikiaaGreatDoorX
