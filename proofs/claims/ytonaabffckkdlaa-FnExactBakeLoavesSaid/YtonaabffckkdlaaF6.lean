/- What functions of the program compute, as functions of numbers and lists, and that they do. (The file is written by wip/x/vxp.py of this repository.) -/
import Derived.Test.YtonaabffckkdlaaF5
namespace Go.Proofs.YtonaabffckkdlaaX
open Go Go.Proofs
set_option linter.unusedVariables false
set_option maxRecDepth 100000
/-! ### impl.BakeLoaves$1: function 93 -/
noncomputable def impl_BakeLoaves_1 (k : Nat)  (own : Bakery) (p1 : Bakery) (p2 : Int) : Option (Bool × (List Int) × Bakery) :=
 (impl_FlourNeeded k p1 p2).bind fun y1 =>
 (impl_TakeFor k own.Stock own.Dough y1).bind fun y2 =>
  cond y2.2
   ((impl_Bakery_enter k (⟨y2.1, own.Dough, own.Loaf, own.Book, own.Money⟩ : Bakery) (⟨1, p2⟩ : Event)).bind fun y3 =>
    some (y3.1, own.Stock.Grams, (⟨(⟨y3.2.1⟩ : Stock), y3.2.2.2.Dough, y3.2.2.2.Loaf, y3.2.2.2.Book, y3.2.2.2.Money⟩ : Bakery)))
   (some (false, own.Stock.Grams, (⟨y2.1, own.Dough, own.Loaf, own.Book, own.Money⟩ : Bakery)))
noncomputable def impl_BakeLoaves_1_v : Nat → List Nat := fun t => match t with | _ => []
noncomputable def impl_BakeLoaves_1_O (k : Nat) : Oracle := ofL [(40, impl_FlourNeeded_x k), (85, impl_Bakery_enter_x k), (94, impl_TakeFor_x k)]
theorem impl_BakeLoaves_1_Ok (k : Nat) : OkO (Ct Try.prog) (impl_BakeLoaves_1_O k) := okO_cons (impl_FlourNeeded_ok k) (okO_cons (impl_Bakery_enter_ok k) (okO_cons (impl_TakeFor_ok k) (okO_nil)))
noncomputable def impl_BakeLoaves_1_A (own : Bakery) (p1 : Bakery) (p2 : Int) : Pk := ⟨[(.sc (.bp 2 0)), (.sc (.bp 5 0)), (.sc (.bp 6 0))], [(.row true K.ki64 own.Stock.Grams), (.row true K.k_impl_Event own.Book.Events), (.box true [(.sl 0), (.v (.int .i64 own.Dough.Water)), (.v (.int .i64 own.Dough.Salt)), (.v (.int .i64 own.Dough.Leaven)), (.v (.int .i64 own.Loaf.Weight)), (.v (.int .i64 own.Loaf.Loss)), (.sl 1), (.v (.int .i64 own.Book.Rack.Fresh)), (.v (.int .i64 own.Book.Rack.Day)), (.v (.int .i64 own.Book.Rack.Old)), (.v (.int .i64 own.Book.Baked)), (.v (.int .i64 own.Book.Sold)), (.v (.int .i64 own.Book.Thrown)), (.v (.int .i64 own.Money))]), (.row false K.ki64 p1.Stock.Grams), (.row false K.k_impl_Event p1.Book.Events), (.box false [(.sl 3), (.v (.int .i64 p1.Dough.Water)), (.v (.int .i64 p1.Dough.Salt)), (.v (.int .i64 p1.Dough.Leaven)), (.v (.int .i64 p1.Loaf.Weight)), (.v (.int .i64 p1.Loaf.Loss)), (.sl 4), (.v (.int .i64 p1.Book.Rack.Fresh)), (.v (.int .i64 p1.Book.Rack.Day)), (.v (.int .i64 p1.Book.Rack.Old)), (.v (.int .i64 p1.Book.Baked)), (.v (.int .i64 p1.Book.Sold)), (.v (.int .i64 p1.Book.Thrown)), (.v (.int .i64 p1.Money))]), (.box false [(.v (.int .i64 p2))])]⟩
noncomputable def impl_BakeLoaves_1_d : Rs → Option (Bool × (List Int) × Bakery)
 | ⟨(.a (.sc (.v (.bool r1)))), [(.row true K.ki64 r2), .dead, (.box true [(.sl 7), (.v (.int .i64 r4)), (.v (.int .i64 r5)), (.v (.int .i64 r6)), (.v (.int .i64 r7)), (.v (.int .i64 r8)), (.sl 8), (.v (.int .i64 r10)), (.v (.int .i64 r11)), (.v (.int .i64 r12)), (.v (.int .i64 r13)), (.v (.int .i64 r14)), (.v (.int .i64 r15)), (.v (.int .i64 r16))]), .dead, .dead, .dead, .dead, (.row true K.ki64 r3), (.row true K.k_impl_Event r9)]⟩ => some (r1, r2, (⟨(⟨r3⟩ : Stock), (⟨r4, r5, r6⟩ : Dough), (⟨r7, r8⟩ : Loaf), (⟨r9, (⟨r10, r11, r12⟩ : Rack), r13, r14, r15⟩ : Book), r16⟩ : Bakery))
 | _ => none
theorem impl_BakeLoaves_1_i {r : Rs} {y : Bool × (List Int) × Bakery} (h : impl_BakeLoaves_1_d r = some y) : r = ⟨(.a (.sc (.v (.bool y.1)))), [(.row true K.ki64 y.2.1), .dead, (.box true [(.sl 7), (.v (.int .i64 y.2.2.Dough.Water)), (.v (.int .i64 y.2.2.Dough.Salt)), (.v (.int .i64 y.2.2.Dough.Leaven)), (.v (.int .i64 y.2.2.Loaf.Weight)), (.v (.int .i64 y.2.2.Loaf.Loss)), (.sl 8), (.v (.int .i64 y.2.2.Book.Rack.Fresh)), (.v (.int .i64 y.2.2.Book.Rack.Day)), (.v (.int .i64 y.2.2.Book.Rack.Old)), (.v (.int .i64 y.2.2.Book.Baked)), (.v (.int .i64 y.2.2.Book.Sold)), (.v (.int .i64 y.2.2.Book.Thrown)), (.v (.int .i64 y.2.2.Money))]), .dead, .dead, .dead, .dead, (.row true K.ki64 y.2.2.Stock.Grams), (.row true K.k_impl_Event y.2.2.Book.Events)]⟩ := by
 unfold impl_BakeLoaves_1_d at h; split at h
 · cases h; rfl
 · cases h
theorem impl_BakeLoaves_1_e (k : Nat) (own : Bakery) (p1 : Bakery) (p2 : Int) : callF env (impl_BakeLoaves_1_O k) impl_BakeLoaves_1_v Try.f93 (k + 1) (impl_BakeLoaves_1_A own p1 p2) (fun r => impl_BakeLoaves_1_d ((r.mv [1]).fin 7 [])) = impl_BakeLoaves_1 k own p1 p2 := by kernel_rfl
noncomputable def impl_BakeLoaves_1_x (k : Nat) : Ent1 := fun A R Q => match A with
 | ⟨[(.sc (.bp 2 0)), (.sc (.bp 5 0)), (.sc (.bp 6 0))], [(.row true K.ki64 a1), (.row true K.k_impl_Event a7), (.box true [(.sl 0), (.v (.int .i64 a2)), (.v (.int .i64 a3)), (.v (.int .i64 a4)), (.v (.int .i64 a5)), (.v (.int .i64 a6)), (.sl 1), (.v (.int .i64 a8)), (.v (.int .i64 a9)), (.v (.int .i64 a10)), (.v (.int .i64 a11)), (.v (.int .i64 a12)), (.v (.int .i64 a13)), (.v (.int .i64 a14))]), (.row false K.ki64 a15), (.row false K.k_impl_Event a21), (.box false [(.sl 3), (.v (.int .i64 a16)), (.v (.int .i64 a17)), (.v (.int .i64 a18)), (.v (.int .i64 a19)), (.v (.int .i64 a20)), (.sl 4), (.v (.int .i64 a22)), (.v (.int .i64 a23)), (.v (.int .i64 a24)), (.v (.int .i64 a25)), (.v (.int .i64 a26)), (.v (.int .i64 a27)), (.v (.int .i64 a28))]), (.box false [(.v (.int .i64 a29))])]⟩ => (impl_BakeLoaves_1 k (⟨(⟨a1⟩ : Stock), (⟨a2, a3, a4⟩ : Dough), (⟨a5, a6⟩ : Loaf), (⟨a7, (⟨a8, a9, a10⟩ : Rack), a11, a12, a13⟩ : Book), a14⟩ : Bakery) (⟨(⟨a15⟩ : Stock), (⟨a16, a17, a18⟩ : Dough), (⟨a19, a20⟩ : Loaf), (⟨a21, (⟨a22, a23, a24⟩ : Rack), a25, a26, a27⟩ : Book), a28⟩ : Bakery) a29).bind fun y => Q ⟨(.a (.sc (.v (.bool y.1)))), [(.row true K.ki64 y.2.1), .dead, (.box true [(.sl 7), (.v (.int .i64 y.2.2.Dough.Water)), (.v (.int .i64 y.2.2.Dough.Salt)), (.v (.int .i64 y.2.2.Dough.Leaven)), (.v (.int .i64 y.2.2.Loaf.Weight)), (.v (.int .i64 y.2.2.Loaf.Loss)), (.sl 8), (.v (.int .i64 y.2.2.Book.Rack.Fresh)), (.v (.int .i64 y.2.2.Book.Rack.Day)), (.v (.int .i64 y.2.2.Book.Rack.Old)), (.v (.int .i64 y.2.2.Book.Baked)), (.v (.int .i64 y.2.2.Book.Sold)), (.v (.int .i64 y.2.2.Book.Thrown)), (.v (.int .i64 y.2.2.Money))]), .dead, .dead, .dead, .dead, (.row true K.ki64 y.2.2.Stock.Grams), (.row true K.k_impl_Event y.2.2.Book.Events)]⟩
 | _ => none
theorem impl_BakeLoaves_1_ok (k : Nat) : OkE Try.prog 93 (impl_BakeLoaves_1_x k) := by
 intro A R Q x h
 unfold impl_BakeLoaves_1_x at h
 split at h
 · obtain ⟨y, hy, hK⟩ := Option.bind_eq_some_iff.1 h
   obtain ⟨r, hr, hd⟩ := callF_ok envOk (impl_BakeLoaves_1_Ok k) follows Try.func93 (by kernel_rfl) ((impl_BakeLoaves_1_e k _ _ _).trans hy)
   exact ⟨_, impl_BakeLoaves_1_i hd ▸ (hr.mvn (l := [1]) 7 rfl rfl).fin [], hK⟩
 · cases h
/-! ### impl.changed: function 83 -/
noncomputable def impl_changed_93 (k : Nat)  (b : Bakery) (how_0 : Bakery) (how_1 : Int) : Option (Bakery × Bool) :=
 (impl_bakeryCopy k b).bind fun y1 =>
 (impl_BakeryOk k b).bind fun y2 =>
  cond (!y2)
   ((impl_bakeryCopy k b).bind fun y3 =>
    some (y3, false))
   ((impl_BakeLoaves_1 k y1 how_0 how_1).bind fun y4 =>
    cond (!y4.1)
     ((impl_bakeryCopy k b).bind fun y5 =>
      some (y5, false))
     ((impl_BakeryOk k y4.2.2).bind fun y6 =>
      cond (!y6)
       ((impl_bakeryCopy k b).bind fun y7 =>
        some (y7, false))
       (some (y4.2.2, true))))
noncomputable def impl_changed_93_v : Nat → List Nat := fun t => match t with | _ => []
noncomputable def impl_changed_93_O (k : Nat) : Oracle := ofL [(26, impl_BakeryOk_x k), (77, impl_bakeryCopy_x k), (93, impl_BakeLoaves_1_x k)]
theorem impl_changed_93_Ok (k : Nat) : OkO (Ct Try.prog) (impl_changed_93_O k) := okO_cons (impl_BakeryOk_ok k) (okO_cons (impl_bakeryCopy_ok k) (okO_cons (impl_BakeLoaves_1_ok k) (okO_nil)))
noncomputable def impl_changed_93_A (b : Bakery) (how_0 : Bakery) (how_1 : Int) : Pk := ⟨[(.ag [(.sl 0), (.v (.int .i64 b.Dough.Water)), (.v (.int .i64 b.Dough.Salt)), (.v (.int .i64 b.Dough.Leaven)), (.v (.int .i64 b.Loaf.Weight)), (.v (.int .i64 b.Loaf.Loss)), (.sl 1), (.v (.int .i64 b.Book.Rack.Fresh)), (.v (.int .i64 b.Book.Rack.Day)), (.v (.int .i64 b.Book.Rack.Old)), (.v (.int .i64 b.Book.Baked)), (.v (.int .i64 b.Book.Sold)), (.v (.int .i64 b.Book.Thrown)), (.v (.int .i64 b.Money))]), (.sc (.fn 93 [4, 5]))], [(.row false K.ki64 b.Stock.Grams), (.row false K.k_impl_Event b.Book.Events), (.row false K.ki64 how_0.Stock.Grams), (.row false K.k_impl_Event how_0.Book.Events), (.box false [(.sl 2), (.v (.int .i64 how_0.Dough.Water)), (.v (.int .i64 how_0.Dough.Salt)), (.v (.int .i64 how_0.Dough.Leaven)), (.v (.int .i64 how_0.Loaf.Weight)), (.v (.int .i64 how_0.Loaf.Loss)), (.sl 3), (.v (.int .i64 how_0.Book.Rack.Fresh)), (.v (.int .i64 how_0.Book.Rack.Day)), (.v (.int .i64 how_0.Book.Rack.Old)), (.v (.int .i64 how_0.Book.Baked)), (.v (.int .i64 how_0.Book.Sold)), (.v (.int .i64 how_0.Book.Thrown)), (.v (.int .i64 how_0.Money))]), (.box false [(.v (.int .i64 how_1))])]⟩
noncomputable def impl_changed_93_d : Rs → Option (Bakery × Bool)
 | ⟨(.tp [(.ag [(.sl 6), (.v (.int .i64 r2)), (.v (.int .i64 r3)), (.v (.int .i64 r4)), (.v (.int .i64 r5)), (.v (.int .i64 r6)), (.sl 7), (.v (.int .i64 r8)), (.v (.int .i64 r9)), (.v (.int .i64 r10)), (.v (.int .i64 r11)), (.v (.int .i64 r12)), (.v (.int .i64 r13)), (.v (.int .i64 r14))]), (.sc (.v (.bool r15)))]), [.dead, .dead, .dead, .dead, .dead, .dead, (.row true K.ki64 r1), (.row true K.k_impl_Event r7)]⟩ => some ((⟨(⟨r1⟩ : Stock), (⟨r2, r3, r4⟩ : Dough), (⟨r5, r6⟩ : Loaf), (⟨r7, (⟨r8, r9, r10⟩ : Rack), r11, r12, r13⟩ : Book), r14⟩ : Bakery), r15)
 | _ => none
theorem impl_changed_93_i {r : Rs} {y : Bakery × Bool} (h : impl_changed_93_d r = some y) : r = ⟨(.tp [(.ag [(.sl 6), (.v (.int .i64 y.1.Dough.Water)), (.v (.int .i64 y.1.Dough.Salt)), (.v (.int .i64 y.1.Dough.Leaven)), (.v (.int .i64 y.1.Loaf.Weight)), (.v (.int .i64 y.1.Loaf.Loss)), (.sl 7), (.v (.int .i64 y.1.Book.Rack.Fresh)), (.v (.int .i64 y.1.Book.Rack.Day)), (.v (.int .i64 y.1.Book.Rack.Old)), (.v (.int .i64 y.1.Book.Baked)), (.v (.int .i64 y.1.Book.Sold)), (.v (.int .i64 y.1.Book.Thrown)), (.v (.int .i64 y.1.Money))]), (.sc (.v (.bool y.2)))]), [.dead, .dead, .dead, .dead, .dead, .dead, (.row true K.ki64 y.1.Stock.Grams), (.row true K.k_impl_Event y.1.Book.Events)]⟩ := by
 unfold impl_changed_93_d at h; split at h
 · cases h; rfl
 · cases h
theorem impl_changed_93_e (k : Nat) (b : Bakery) (how_0 : Bakery) (how_1 : Int) : callF env (impl_changed_93_O k) impl_changed_93_v Try.f83 (k + 1) (impl_changed_93_A b how_0 how_1) (fun r => impl_changed_93_d (r.fin 6 [])) = impl_changed_93 k b how_0 how_1 := by kernel_rfl
noncomputable def impl_changed_93_x (k : Nat) : Ent1 := fun A R Q => match A with
 | ⟨[(.ag [(.sl 0), (.v (.int .i64 a2)), (.v (.int .i64 a3)), (.v (.int .i64 a4)), (.v (.int .i64 a5)), (.v (.int .i64 a6)), (.sl 1), (.v (.int .i64 a8)), (.v (.int .i64 a9)), (.v (.int .i64 a10)), (.v (.int .i64 a11)), (.v (.int .i64 a12)), (.v (.int .i64 a13)), (.v (.int .i64 a14))]), (.sc (.fn 93 [4, 5]))], [(.row false K.ki64 a1), (.row false K.k_impl_Event a7), (.row false K.ki64 a15), (.row false K.k_impl_Event a21), (.box false [(.sl 2), (.v (.int .i64 a16)), (.v (.int .i64 a17)), (.v (.int .i64 a18)), (.v (.int .i64 a19)), (.v (.int .i64 a20)), (.sl 3), (.v (.int .i64 a22)), (.v (.int .i64 a23)), (.v (.int .i64 a24)), (.v (.int .i64 a25)), (.v (.int .i64 a26)), (.v (.int .i64 a27)), (.v (.int .i64 a28))]), (.box false [(.v (.int .i64 a29))])]⟩ => (impl_changed_93 k (⟨(⟨a1⟩ : Stock), (⟨a2, a3, a4⟩ : Dough), (⟨a5, a6⟩ : Loaf), (⟨a7, (⟨a8, a9, a10⟩ : Rack), a11, a12, a13⟩ : Book), a14⟩ : Bakery) (⟨(⟨a15⟩ : Stock), (⟨a16, a17, a18⟩ : Dough), (⟨a19, a20⟩ : Loaf), (⟨a21, (⟨a22, a23, a24⟩ : Rack), a25, a26, a27⟩ : Book), a28⟩ : Bakery) a29).bind fun y => Q ⟨(.tp [(.ag [(.sl 6), (.v (.int .i64 y.1.Dough.Water)), (.v (.int .i64 y.1.Dough.Salt)), (.v (.int .i64 y.1.Dough.Leaven)), (.v (.int .i64 y.1.Loaf.Weight)), (.v (.int .i64 y.1.Loaf.Loss)), (.sl 7), (.v (.int .i64 y.1.Book.Rack.Fresh)), (.v (.int .i64 y.1.Book.Rack.Day)), (.v (.int .i64 y.1.Book.Rack.Old)), (.v (.int .i64 y.1.Book.Baked)), (.v (.int .i64 y.1.Book.Sold)), (.v (.int .i64 y.1.Book.Thrown)), (.v (.int .i64 y.1.Money))]), (.sc (.v (.bool y.2)))]), [.dead, .dead, .dead, .dead, .dead, .dead, (.row true K.ki64 y.1.Stock.Grams), (.row true K.k_impl_Event y.1.Book.Events)]⟩
 | _ => none
theorem impl_changed_93_ok (k : Nat) : OkE Try.prog 83 (impl_changed_93_x k) := by
 intro A R Q x h
 unfold impl_changed_93_x at h
 split at h
 · obtain ⟨y, hy, hK⟩ := Option.bind_eq_some_iff.1 h
   obtain ⟨r, hr, hd⟩ := callF_ok envOk (impl_changed_93_Ok k) follows Try.func83 (by kernel_rfl) ((impl_changed_93_e k _ _ _).trans hy)
   exact ⟨_, impl_changed_93_i hd ▸ hr.fin [], hK⟩
 · cases h
/-! ### impl.BakeLoaves: function 48 -/
noncomputable def impl_BakeLoaves (k : Nat)  (b : Bakery) (loaves : Int) : Option (Bakery × Bool) :=
 (impl_changed_93 k b b loaves).bind fun y1 =>
 some (y1.1, y1.2)
noncomputable def impl_BakeLoaves_v : Nat → List Nat := fun t => match t with | _ => []
noncomputable def impl_BakeLoaves_O (k : Nat) : Oracle := ofL [(83, impl_changed_93_x k)]
theorem impl_BakeLoaves_Ok (k : Nat) : OkO (Ct Try.prog) (impl_BakeLoaves_O k) := okO_cons (impl_changed_93_ok k) (okO_nil)
noncomputable def impl_BakeLoaves_A (b : Bakery) (loaves : Int) : Pk := ⟨[(.ag [(.sl 0), (.v (.int .i64 b.Dough.Water)), (.v (.int .i64 b.Dough.Salt)), (.v (.int .i64 b.Dough.Leaven)), (.v (.int .i64 b.Loaf.Weight)), (.v (.int .i64 b.Loaf.Loss)), (.sl 1), (.v (.int .i64 b.Book.Rack.Fresh)), (.v (.int .i64 b.Book.Rack.Day)), (.v (.int .i64 b.Book.Rack.Old)), (.v (.int .i64 b.Book.Baked)), (.v (.int .i64 b.Book.Sold)), (.v (.int .i64 b.Book.Thrown)), (.v (.int .i64 b.Money))]), (.sc (.v (.int .i64 loaves)))], [(.row false K.ki64 b.Stock.Grams), (.row false K.k_impl_Event b.Book.Events)]⟩
noncomputable def impl_BakeLoaves_d : Rs → Option (Bakery × Bool)
 | ⟨(.tp [(.ag [(.sl 2), (.v (.int .i64 r2)), (.v (.int .i64 r3)), (.v (.int .i64 r4)), (.v (.int .i64 r5)), (.v (.int .i64 r6)), (.sl 3), (.v (.int .i64 r8)), (.v (.int .i64 r9)), (.v (.int .i64 r10)), (.v (.int .i64 r11)), (.v (.int .i64 r12)), (.v (.int .i64 r13)), (.v (.int .i64 r14))]), (.sc (.v (.bool r15)))]), [.dead, .dead, (.row true K.ki64 r1), (.row true K.k_impl_Event r7)]⟩ => some ((⟨(⟨r1⟩ : Stock), (⟨r2, r3, r4⟩ : Dough), (⟨r5, r6⟩ : Loaf), (⟨r7, (⟨r8, r9, r10⟩ : Rack), r11, r12, r13⟩ : Book), r14⟩ : Bakery), r15)
 | _ => none
theorem impl_BakeLoaves_i {r : Rs} {y : Bakery × Bool} (h : impl_BakeLoaves_d r = some y) : r = ⟨(.tp [(.ag [(.sl 2), (.v (.int .i64 y.1.Dough.Water)), (.v (.int .i64 y.1.Dough.Salt)), (.v (.int .i64 y.1.Dough.Leaven)), (.v (.int .i64 y.1.Loaf.Weight)), (.v (.int .i64 y.1.Loaf.Loss)), (.sl 3), (.v (.int .i64 y.1.Book.Rack.Fresh)), (.v (.int .i64 y.1.Book.Rack.Day)), (.v (.int .i64 y.1.Book.Rack.Old)), (.v (.int .i64 y.1.Book.Baked)), (.v (.int .i64 y.1.Book.Sold)), (.v (.int .i64 y.1.Book.Thrown)), (.v (.int .i64 y.1.Money))]), (.sc (.v (.bool y.2)))]), [.dead, .dead, (.row true K.ki64 y.1.Stock.Grams), (.row true K.k_impl_Event y.1.Book.Events)]⟩ := by
 unfold impl_BakeLoaves_d at h; split at h
 · cases h; rfl
 · cases h
theorem impl_BakeLoaves_e (k : Nat) (b : Bakery) (loaves : Int) : callF env (impl_BakeLoaves_O k) impl_BakeLoaves_v Try.f48 (k + 1) (impl_BakeLoaves_A b loaves) (fun r => impl_BakeLoaves_d (r.fin 2 [])) = impl_BakeLoaves k b loaves := by kernel_rfl
noncomputable def impl_BakeLoaves_x (k : Nat) : Ent1 := fun A R Q => match A with
 | ⟨[(.ag [(.sl 0), (.v (.int .i64 a2)), (.v (.int .i64 a3)), (.v (.int .i64 a4)), (.v (.int .i64 a5)), (.v (.int .i64 a6)), (.sl 1), (.v (.int .i64 a8)), (.v (.int .i64 a9)), (.v (.int .i64 a10)), (.v (.int .i64 a11)), (.v (.int .i64 a12)), (.v (.int .i64 a13)), (.v (.int .i64 a14))]), (.sc (.v (.int .i64 a15)))], [(.row false K.ki64 a1), (.row false K.k_impl_Event a7)]⟩ => (impl_BakeLoaves k (⟨(⟨a1⟩ : Stock), (⟨a2, a3, a4⟩ : Dough), (⟨a5, a6⟩ : Loaf), (⟨a7, (⟨a8, a9, a10⟩ : Rack), a11, a12, a13⟩ : Book), a14⟩ : Bakery) a15).bind fun y => Q ⟨(.tp [(.ag [(.sl 2), (.v (.int .i64 y.1.Dough.Water)), (.v (.int .i64 y.1.Dough.Salt)), (.v (.int .i64 y.1.Dough.Leaven)), (.v (.int .i64 y.1.Loaf.Weight)), (.v (.int .i64 y.1.Loaf.Loss)), (.sl 3), (.v (.int .i64 y.1.Book.Rack.Fresh)), (.v (.int .i64 y.1.Book.Rack.Day)), (.v (.int .i64 y.1.Book.Rack.Old)), (.v (.int .i64 y.1.Book.Baked)), (.v (.int .i64 y.1.Book.Sold)), (.v (.int .i64 y.1.Book.Thrown)), (.v (.int .i64 y.1.Money))]), (.sc (.v (.bool y.2)))]), [.dead, .dead, (.row true K.ki64 y.1.Stock.Grams), (.row true K.k_impl_Event y.1.Book.Events)]⟩
 | _ => none
theorem impl_BakeLoaves_ok (k : Nat) : OkE Try.prog 48 (impl_BakeLoaves_x k) := by
 intro A R Q x h
 unfold impl_BakeLoaves_x at h
 split at h
 · obtain ⟨y, hy, hK⟩ := Option.bind_eq_some_iff.1 h
   obtain ⟨r, hr, hd⟩ := callF_ok envOk (impl_BakeLoaves_Ok k) follows Try.func48 (by kernel_rfl) ((impl_BakeLoaves_e k _ _).trans hy)
   exact ⟨_, impl_BakeLoaves_i hd ▸ hr.fin [], hK⟩
 · cases h
/-! ### laws.FnExactBakeLoaves: function 12 -/
noncomputable def laws_FnExactBakeLoaves (k : Nat)  (p0 : Bakery) (p1 : Int) : Option (Bool) :=
 (laws_szBakery k p0 1048576).bind fun y1 =>
 cond (decide ((y1 : Int) < 0))
  (some true)
  ((laws_toBakery k p0).bind fun y2 =>
   (spec_BakeLoaves k y2 p1).bind fun y3 =>
    (laws_toBakery k p0).bind fun y4 =>
     (impl_BakeLoaves k y4 p1).bind fun y5 =>
      (laws_eqBakery k y5.1 y3.1).bind fun y6 =>
       cond (!y6)
        (some false)
        (cond (!(y5.2 == y3.2))
        (some false)
        ((laws_toBakery k p0).bind fun y7 =>
        (laws_eqBakery k y4 y7).bind fun y8 =>
        cond (!y8)
        (some false)
        ((laws_markBakery k y4 1).bind fun y9 =>
        cond (decide ((y9.1 : Int) < 0))
        (some false)
        ((laws_eqBakery k y5.1 y3.1).bind fun y10 =>
        cond (!y10)
        (some false)
        (cond (!(y5.2 == y3.2))
        (some false)
        ((laws_markBakery k y5.1 1).bind fun y11 =>
        (laws_heldBakery k (⟨(⟨y11.2.1⟩ : Stock), y5.1.Dough, y5.1.Loaf, (⟨y11.2.2, y5.1.Book.Rack, y5.1.Book.Baked, y5.1.Book.Sold, y5.1.Book.Thrown⟩ : Book), y5.1.Money⟩ : Bakery) 1).bind fun y12 =>
        cond (decide ((y12 : Int) < 0))
        (some false)
        (cond (!(decide ((y12 : Int) = y11.1)))
        (some false)
        ((laws_toBakery k p0).bind fun y13 =>
        (impl_BakeLoaves k y13 p1).bind fun y14 =>
        (laws_eqBakery k y14.1 y3.1).bind fun y15 =>
        cond (!y15)
        (some false)
        (cond (!(y14.2 == y3.2))
        (some false)
        ((laws_heldBakery k (⟨(⟨y11.2.1⟩ : Stock), y5.1.Dough, y5.1.Loaf, (⟨y11.2.2, y5.1.Book.Rack, y5.1.Book.Baked, y5.1.Book.Sold, y5.1.Book.Thrown⟩ : Book), y5.1.Money⟩ : Bakery) 1).bind fun y16 =>
        cond (decide ((y16 : Int) < 0))
        (some false)
        (cond (!(decide ((y16 : Int) = y11.1)))
        (some false)
        (some true)))))))))))))
noncomputable def laws_FnExactBakeLoaves_v : Nat → List Nat := fun t => match t with | _ => []
noncomputable def laws_FnExactBakeLoaves_O (k : Nat) : Oracle := ofL [(23, laws_szBakery_x k), (25, laws_toBakery_x k), (27, laws_eqBakery_x k), (30, laws_markBakery_x k), (31, laws_heldBakery_x k), (47, spec_BakeLoaves_x k), (48, impl_BakeLoaves_x k)]
theorem laws_FnExactBakeLoaves_Ok (k : Nat) : OkO (Ct Try.prog) (laws_FnExactBakeLoaves_O k) := okO_cons (laws_szBakery_ok k) (okO_cons (laws_toBakery_ok k) (okO_cons (laws_eqBakery_ok k) (okO_cons (laws_markBakery_ok k) (okO_cons (laws_heldBakery_ok k) (okO_cons (spec_BakeLoaves_ok k) (okO_cons (impl_BakeLoaves_ok k) (okO_nil)))))))
noncomputable def laws_FnExactBakeLoaves_A (p0 : Bakery) (p1 : Int) : Pk := ⟨[(.ag [(.sl 0), (.v (.int .i64 p0.Dough.Water)), (.v (.int .i64 p0.Dough.Salt)), (.v (.int .i64 p0.Dough.Leaven)), (.v (.int .i64 p0.Loaf.Weight)), (.v (.int .i64 p0.Loaf.Loss)), (.sl 1), (.v (.int .i64 p0.Book.Rack.Fresh)), (.v (.int .i64 p0.Book.Rack.Day)), (.v (.int .i64 p0.Book.Rack.Old)), (.v (.int .i64 p0.Book.Baked)), (.v (.int .i64 p0.Book.Sold)), (.v (.int .i64 p0.Book.Thrown)), (.v (.int .i64 p0.Money))]), (.sc (.v (.int .i64 p1)))], [(.row false K.ki64 p0.Stock.Grams), (.row false K.k_laws_Event p0.Book.Events)]⟩
noncomputable def laws_FnExactBakeLoaves_d : Rs → Option (Bool)
 | ⟨(.a (.sc (.v (.bool r1)))), [.dead, .dead]⟩ => some r1
 | _ => none
theorem laws_FnExactBakeLoaves_i {r : Rs} {y : Bool} (h : laws_FnExactBakeLoaves_d r = some y) : r = ⟨(.a (.sc (.v (.bool y)))), [.dead, .dead]⟩ := by
 unfold laws_FnExactBakeLoaves_d at h; split at h
 · cases h; rfl
 · cases h
theorem laws_FnExactBakeLoaves_e (k : Nat) (p0 : Bakery) (p1 : Int) : callF env (laws_FnExactBakeLoaves_O k) laws_FnExactBakeLoaves_v Try.f12 (k + 1) (laws_FnExactBakeLoaves_A p0 p1) (fun r => laws_FnExactBakeLoaves_d (r.fin 2 [])) = laws_FnExactBakeLoaves k p0 p1 := by kernel_rfl
noncomputable def laws_FnExactBakeLoaves_x (k : Nat) : Ent1 := fun A R Q => match A with
 | ⟨[(.ag [(.sl 0), (.v (.int .i64 a2)), (.v (.int .i64 a3)), (.v (.int .i64 a4)), (.v (.int .i64 a5)), (.v (.int .i64 a6)), (.sl 1), (.v (.int .i64 a8)), (.v (.int .i64 a9)), (.v (.int .i64 a10)), (.v (.int .i64 a11)), (.v (.int .i64 a12)), (.v (.int .i64 a13)), (.v (.int .i64 a14))]), (.sc (.v (.int .i64 a15)))], [(.row false K.ki64 a1), (.row false K.k_laws_Event a7)]⟩ => (laws_FnExactBakeLoaves k (⟨(⟨a1⟩ : Stock), (⟨a2, a3, a4⟩ : Dough), (⟨a5, a6⟩ : Loaf), (⟨a7, (⟨a8, a9, a10⟩ : Rack), a11, a12, a13⟩ : Book), a14⟩ : Bakery) a15).bind fun y => Q ⟨(.a (.sc (.v (.bool y)))), [.dead, .dead]⟩
 | _ => none
theorem laws_FnExactBakeLoaves_ok (k : Nat) : OkE Try.prog 12 (laws_FnExactBakeLoaves_x k) := by
 intro A R Q x h
 unfold laws_FnExactBakeLoaves_x at h
 split at h
 · obtain ⟨y, hy, hK⟩ := Option.bind_eq_some_iff.1 h
   obtain ⟨r, hr, hd⟩ := callF_ok envOk (laws_FnExactBakeLoaves_Ok k) follows Try.func12 (by kernel_rfl) ((laws_FnExactBakeLoaves_e k _ _).trans hy)
   exact ⟨_, laws_FnExactBakeLoaves_i hd ▸ hr.fin [], hK⟩
 · cases h
end Go.Proofs.YtonaabffckkdlaaX
