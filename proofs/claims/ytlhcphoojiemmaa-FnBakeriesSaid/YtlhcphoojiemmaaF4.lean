/- What functions of the program compute, as functions of numbers and lists, and that they do. (The file is written by wip/x/vxp.py of this repository.) -/
import Derived.Test.YtlhcphoojiemmaaF3
namespace Go.Proofs.YtlhcphoojiemmaaX
open Go Go.Proofs
set_option linter.unusedVariables false
set_option maxRecDepth 100000
/-! ### impl.SellLoaves$1: function 66 -/
noncomputable def impl_SellLoaves_1 (k : Nat)  (own : Bakery) (p1 : Bool) (p2 : Int) : Option (Bool × (List Int) × (List Event) × Bakery) :=
 cond p1
 ((impl_Bakery_enter k (⟨own.Stock, own.Dough, own.Loaf, own.Book, (wr (own.Money + (wr ((2 : Int) * p2))))⟩ : Bakery) (⟨3, p2⟩ : Event)).bind fun y1 =>
  some (y1.1, y1.2.1, y1.2.2.1, (⟨(⟨y1.2.1⟩ : Stock), y1.2.2.2.Dough, y1.2.2.2.Loaf, y1.2.2.2.Book, y1.2.2.2.Money⟩ : Bakery)))
 ((impl_Bakery_enter k (⟨own.Stock, own.Dough, own.Loaf, own.Book, (wr (own.Money + (wr ((4 : Int) * p2))))⟩ : Bakery) (⟨2, p2⟩ : Event)).bind fun y2 =>
  some (y2.1, y2.2.1, y2.2.2.1, (⟨(⟨y2.2.1⟩ : Stock), y2.2.2.2.Dough, y2.2.2.2.Loaf, y2.2.2.2.Book, y2.2.2.2.Money⟩ : Bakery)))
noncomputable def impl_SellLoaves_1_v : Nat → List Nat := fun t => match t with | _ => []
noncomputable def impl_SellLoaves_1_O (k : Nat) : Oracle := ofL [(61, impl_Bakery_enter_x k)]
theorem impl_SellLoaves_1_Ok (k : Nat) : OkO (Ct Try.prog) (impl_SellLoaves_1_O k) := okO_cons (impl_Bakery_enter_ok k) (okO_nil)
noncomputable def impl_SellLoaves_1_A (own : Bakery) (p1 : Bool) (p2 : Int) : Pk := ⟨[(.sc (.bp 2 0)), (.sc (.bp 3 0)), (.sc (.bp 4 0))], [(.row true K.ki64 own.Stock.Grams), (.row true K.k_impl_Event own.Book.Events), (.box true [(.sl 0), (.v (.int .i64 own.Dough.Water)), (.v (.int .i64 own.Dough.Salt)), (.v (.int .i64 own.Dough.Leaven)), (.v (.int .i64 own.Loaf.Weight)), (.v (.int .i64 own.Loaf.Loss)), (.sl 1), (.v (.int .i64 own.Book.Rack.Fresh)), (.v (.int .i64 own.Book.Rack.Day)), (.v (.int .i64 own.Book.Rack.Old)), (.v (.int .i64 own.Book.Baked)), (.v (.int .i64 own.Book.Sold)), (.v (.int .i64 own.Book.Thrown)), (.v (.int .i64 own.Money))]), (.box false [(.v (.bool p1))]), (.box false [(.v (.int .i64 p2))])]⟩
noncomputable def impl_SellLoaves_1_d : Rs → Option (Bool × (List Int) × (List Event) × Bakery)
 | ⟨(.a (.sc (.v (.bool r1)))), [(.row true K.ki64 r2), (.row true K.k_impl_Event r3), (.box true [(.sl 0), (.v (.int .i64 r4)), (.v (.int .i64 r5)), (.v (.int .i64 r6)), (.v (.int .i64 r7)), (.v (.int .i64 r8)), (.sl 5), (.v (.int .i64 r10)), (.v (.int .i64 r11)), (.v (.int .i64 r12)), (.v (.int .i64 r13)), (.v (.int .i64 r14)), (.v (.int .i64 r15)), (.v (.int .i64 r16))]), .dead, .dead, (.row true K.k_impl_Event r9)]⟩ => some (r1, r2, r3, (⟨(⟨r2⟩ : Stock), (⟨r4, r5, r6⟩ : Dough), (⟨r7, r8⟩ : Loaf), (⟨r9, (⟨r10, r11, r12⟩ : Rack), r13, r14, r15⟩ : Book), r16⟩ : Bakery))
 | _ => none
theorem impl_SellLoaves_1_i {r : Rs} {y : Bool × (List Int) × (List Event) × Bakery} (h : impl_SellLoaves_1_d r = some y) : r = ⟨(.a (.sc (.v (.bool y.1)))), [(.row true K.ki64 y.2.1), (.row true K.k_impl_Event y.2.2.1), (.box true [(.sl 0), (.v (.int .i64 y.2.2.2.Dough.Water)), (.v (.int .i64 y.2.2.2.Dough.Salt)), (.v (.int .i64 y.2.2.2.Dough.Leaven)), (.v (.int .i64 y.2.2.2.Loaf.Weight)), (.v (.int .i64 y.2.2.2.Loaf.Loss)), (.sl 5), (.v (.int .i64 y.2.2.2.Book.Rack.Fresh)), (.v (.int .i64 y.2.2.2.Book.Rack.Day)), (.v (.int .i64 y.2.2.2.Book.Rack.Old)), (.v (.int .i64 y.2.2.2.Book.Baked)), (.v (.int .i64 y.2.2.2.Book.Sold)), (.v (.int .i64 y.2.2.2.Book.Thrown)), (.v (.int .i64 y.2.2.2.Money))]), .dead, .dead, (.row true K.k_impl_Event y.2.2.2.Book.Events)]⟩ := by
 unfold impl_SellLoaves_1_d at h; split at h
 · cases h; rfl
 · cases h
theorem impl_SellLoaves_1_e (k : Nat) (own : Bakery) (p1 : Bool) (p2 : Int) : callF env (impl_SellLoaves_1_O k) impl_SellLoaves_1_v Try.f66 (k + 1) (impl_SellLoaves_1_A own p1 p2) (fun r => impl_SellLoaves_1_d (r.fin 5 [])) = impl_SellLoaves_1 k own p1 p2 := by kernel_rfl
noncomputable def impl_SellLoaves_1_x (k : Nat) : Ent1 := fun A R Q => match A with
 | ⟨[(.sc (.bp 2 0)), (.sc (.bp 3 0)), (.sc (.bp 4 0))], [(.row true K.ki64 a1), (.row true K.k_impl_Event a7), (.box true [(.sl 0), (.v (.int .i64 a2)), (.v (.int .i64 a3)), (.v (.int .i64 a4)), (.v (.int .i64 a5)), (.v (.int .i64 a6)), (.sl 1), (.v (.int .i64 a8)), (.v (.int .i64 a9)), (.v (.int .i64 a10)), (.v (.int .i64 a11)), (.v (.int .i64 a12)), (.v (.int .i64 a13)), (.v (.int .i64 a14))]), (.box false [(.v (.bool a15))]), (.box false [(.v (.int .i64 a16))])]⟩ => (impl_SellLoaves_1 k (⟨(⟨a1⟩ : Stock), (⟨a2, a3, a4⟩ : Dough), (⟨a5, a6⟩ : Loaf), (⟨a7, (⟨a8, a9, a10⟩ : Rack), a11, a12, a13⟩ : Book), a14⟩ : Bakery) a15 a16).bind fun y => Q ⟨(.a (.sc (.v (.bool y.1)))), [(.row true K.ki64 y.2.1), (.row true K.k_impl_Event y.2.2.1), (.box true [(.sl 0), (.v (.int .i64 y.2.2.2.Dough.Water)), (.v (.int .i64 y.2.2.2.Dough.Salt)), (.v (.int .i64 y.2.2.2.Dough.Leaven)), (.v (.int .i64 y.2.2.2.Loaf.Weight)), (.v (.int .i64 y.2.2.2.Loaf.Loss)), (.sl 5), (.v (.int .i64 y.2.2.2.Book.Rack.Fresh)), (.v (.int .i64 y.2.2.2.Book.Rack.Day)), (.v (.int .i64 y.2.2.2.Book.Rack.Old)), (.v (.int .i64 y.2.2.2.Book.Baked)), (.v (.int .i64 y.2.2.2.Book.Sold)), (.v (.int .i64 y.2.2.2.Book.Thrown)), (.v (.int .i64 y.2.2.2.Money))]), .dead, .dead, (.row true K.k_impl_Event y.2.2.2.Book.Events)]⟩
 | _ => none
theorem impl_SellLoaves_1_ok (k : Nat) : OkE Try.prog 66 (impl_SellLoaves_1_x k) := by
 intro A R Q x h
 unfold impl_SellLoaves_1_x at h
 split at h
 · obtain ⟨y, hy, hK⟩ := Option.bind_eq_some_iff.1 h
   obtain ⟨r, hr, hd⟩ := callF_ok envOk (impl_SellLoaves_1_Ok k) follows Try.func66 (by kernel_rfl) ((impl_SellLoaves_1_e k _ _ _).trans hy)
   exact ⟨_, impl_SellLoaves_1_i hd ▸ hr.fin [], hK⟩
 · cases h
/-! ### impl.changed: function 58 -/
noncomputable def impl_changed_66 (k : Nat)  (b : Bakery) (how_0 : Bool) (how_1 : Int) : Option (Bakery × Bool) :=
 (impl_bakeryCopy k b).bind fun y1 =>
 (impl_BakeryOk k b).bind fun y2 =>
  cond (!y2)
   ((impl_bakeryCopy k b).bind fun y5 =>
    some (y5, false))
   ((impl_SellLoaves_1 k y1 how_0 how_1).bind fun y3 =>
    cond (!y3.1)
     ((impl_bakeryCopy k b).bind fun y6 =>
      some (y6, false))
     ((impl_BakeryOk k (⟨(⟨y3.2.1⟩ : Stock), y3.2.2.2.Dough, y3.2.2.2.Loaf, y3.2.2.2.Book, y3.2.2.2.Money⟩ : Bakery)).bind fun y4 =>
      cond (!y4)
       ((impl_bakeryCopy k b).bind fun y7 =>
        some (y7, false))
       (some ((⟨(⟨y3.2.1⟩ : Stock), y3.2.2.2.Dough, y3.2.2.2.Loaf, y3.2.2.2.Book, y3.2.2.2.Money⟩ : Bakery), true))))
noncomputable def impl_changed_66_v : Nat → List Nat := fun t => match t with | _ => []
noncomputable def impl_changed_66_O (k : Nat) : Oracle := ofL [(13, impl_BakeryOk_x k), (42, impl_bakeryCopy_x k), (66, impl_SellLoaves_1_x k)]
theorem impl_changed_66_Ok (k : Nat) : OkO (Ct Try.prog) (impl_changed_66_O k) := okO_cons (impl_BakeryOk_ok k) (okO_cons (impl_bakeryCopy_ok k) (okO_cons (impl_SellLoaves_1_ok k) (okO_nil)))
noncomputable def impl_changed_66_A (b : Bakery) (how_0 : Bool) (how_1 : Int) : Pk := ⟨[(.ag [(.sl 0), (.v (.int .i64 b.Dough.Water)), (.v (.int .i64 b.Dough.Salt)), (.v (.int .i64 b.Dough.Leaven)), (.v (.int .i64 b.Loaf.Weight)), (.v (.int .i64 b.Loaf.Loss)), (.sl 1), (.v (.int .i64 b.Book.Rack.Fresh)), (.v (.int .i64 b.Book.Rack.Day)), (.v (.int .i64 b.Book.Rack.Old)), (.v (.int .i64 b.Book.Baked)), (.v (.int .i64 b.Book.Sold)), (.v (.int .i64 b.Book.Thrown)), (.v (.int .i64 b.Money))]), (.sc (.fn 66 [2, 3]))], [(.row false K.ki64 b.Stock.Grams), (.row false K.k_impl_Event b.Book.Events), (.box false [(.v (.bool how_0))]), (.box false [(.v (.int .i64 how_1))])]⟩
noncomputable def impl_changed_66_d : Rs → Option (Bakery × Bool)
 | ⟨(.tp [(.ag [(.sl 4), (.v (.int .i64 r2)), (.v (.int .i64 r3)), (.v (.int .i64 r4)), (.v (.int .i64 r5)), (.v (.int .i64 r6)), (.sl 5), (.v (.int .i64 r8)), (.v (.int .i64 r9)), (.v (.int .i64 r10)), (.v (.int .i64 r11)), (.v (.int .i64 r12)), (.v (.int .i64 r13)), (.v (.int .i64 r14))]), (.sc (.v (.bool r15)))]), [.dead, .dead, .dead, .dead, (.row true K.ki64 r1), (.row true K.k_impl_Event r7)]⟩ => some ((⟨(⟨r1⟩ : Stock), (⟨r2, r3, r4⟩ : Dough), (⟨r5, r6⟩ : Loaf), (⟨r7, (⟨r8, r9, r10⟩ : Rack), r11, r12, r13⟩ : Book), r14⟩ : Bakery), r15)
 | _ => none
theorem impl_changed_66_i {r : Rs} {y : Bakery × Bool} (h : impl_changed_66_d r = some y) : r = ⟨(.tp [(.ag [(.sl 4), (.v (.int .i64 y.1.Dough.Water)), (.v (.int .i64 y.1.Dough.Salt)), (.v (.int .i64 y.1.Dough.Leaven)), (.v (.int .i64 y.1.Loaf.Weight)), (.v (.int .i64 y.1.Loaf.Loss)), (.sl 5), (.v (.int .i64 y.1.Book.Rack.Fresh)), (.v (.int .i64 y.1.Book.Rack.Day)), (.v (.int .i64 y.1.Book.Rack.Old)), (.v (.int .i64 y.1.Book.Baked)), (.v (.int .i64 y.1.Book.Sold)), (.v (.int .i64 y.1.Book.Thrown)), (.v (.int .i64 y.1.Money))]), (.sc (.v (.bool y.2)))]), [.dead, .dead, .dead, .dead, (.row true K.ki64 y.1.Stock.Grams), (.row true K.k_impl_Event y.1.Book.Events)]⟩ := by
 unfold impl_changed_66_d at h; split at h
 · cases h; rfl
 · cases h
theorem impl_changed_66_e (k : Nat) (b : Bakery) (how_0 : Bool) (how_1 : Int) : callF env (impl_changed_66_O k) impl_changed_66_v Try.f58 (k + 1) (impl_changed_66_A b how_0 how_1) (fun r => impl_changed_66_d (r.fin 4 [])) = impl_changed_66 k b how_0 how_1 := by kernel_rfl
noncomputable def impl_changed_66_x (k : Nat) : Ent1 := fun A R Q => match A with
 | ⟨[(.ag [(.sl 0), (.v (.int .i64 a2)), (.v (.int .i64 a3)), (.v (.int .i64 a4)), (.v (.int .i64 a5)), (.v (.int .i64 a6)), (.sl 1), (.v (.int .i64 a8)), (.v (.int .i64 a9)), (.v (.int .i64 a10)), (.v (.int .i64 a11)), (.v (.int .i64 a12)), (.v (.int .i64 a13)), (.v (.int .i64 a14))]), (.sc (.fn 66 [2, 3]))], [(.row false K.ki64 a1), (.row false K.k_impl_Event a7), (.box false [(.v (.bool a15))]), (.box false [(.v (.int .i64 a16))])]⟩ => (impl_changed_66 k (⟨(⟨a1⟩ : Stock), (⟨a2, a3, a4⟩ : Dough), (⟨a5, a6⟩ : Loaf), (⟨a7, (⟨a8, a9, a10⟩ : Rack), a11, a12, a13⟩ : Book), a14⟩ : Bakery) a15 a16).bind fun y => Q ⟨(.tp [(.ag [(.sl 4), (.v (.int .i64 y.1.Dough.Water)), (.v (.int .i64 y.1.Dough.Salt)), (.v (.int .i64 y.1.Dough.Leaven)), (.v (.int .i64 y.1.Loaf.Weight)), (.v (.int .i64 y.1.Loaf.Loss)), (.sl 5), (.v (.int .i64 y.1.Book.Rack.Fresh)), (.v (.int .i64 y.1.Book.Rack.Day)), (.v (.int .i64 y.1.Book.Rack.Old)), (.v (.int .i64 y.1.Book.Baked)), (.v (.int .i64 y.1.Book.Sold)), (.v (.int .i64 y.1.Book.Thrown)), (.v (.int .i64 y.1.Money))]), (.sc (.v (.bool y.2)))]), [.dead, .dead, .dead, .dead, (.row true K.ki64 y.1.Stock.Grams), (.row true K.k_impl_Event y.1.Book.Events)]⟩
 | _ => none
theorem impl_changed_66_ok (k : Nat) : OkE Try.prog 58 (impl_changed_66_x k) := by
 intro A R Q x h
 unfold impl_changed_66_x at h
 split at h
 · obtain ⟨y, hy, hK⟩ := Option.bind_eq_some_iff.1 h
   obtain ⟨r, hr, hd⟩ := callF_ok envOk (impl_changed_66_Ok k) follows Try.func58 (by kernel_rfl) ((impl_changed_66_e k _ _ _).trans hy)
   exact ⟨_, impl_changed_66_i hd ▸ hr.fin [], hK⟩
 · cases h
/-! ### impl.SellLoaves: function 21 -/
noncomputable def impl_SellLoaves (k : Nat)  (b : Bakery) (loaves : Int) (cheap : Bool) : Option (Bakery × Bool) :=
 (impl_changed_66 k b cheap loaves).bind fun y1 =>
 some (y1.1, y1.2)
noncomputable def impl_SellLoaves_v : Nat → List Nat := fun t => match t with | _ => []
noncomputable def impl_SellLoaves_O (k : Nat) : Oracle := ofL [(58, impl_changed_66_x k)]
theorem impl_SellLoaves_Ok (k : Nat) : OkO (Ct Try.prog) (impl_SellLoaves_O k) := okO_cons (impl_changed_66_ok k) (okO_nil)
noncomputable def impl_SellLoaves_A (b : Bakery) (loaves : Int) (cheap : Bool) : Pk := ⟨[(.ag [(.sl 0), (.v (.int .i64 b.Dough.Water)), (.v (.int .i64 b.Dough.Salt)), (.v (.int .i64 b.Dough.Leaven)), (.v (.int .i64 b.Loaf.Weight)), (.v (.int .i64 b.Loaf.Loss)), (.sl 1), (.v (.int .i64 b.Book.Rack.Fresh)), (.v (.int .i64 b.Book.Rack.Day)), (.v (.int .i64 b.Book.Rack.Old)), (.v (.int .i64 b.Book.Baked)), (.v (.int .i64 b.Book.Sold)), (.v (.int .i64 b.Book.Thrown)), (.v (.int .i64 b.Money))]), (.sc (.v (.int .i64 loaves))), (.sc (.v (.bool cheap)))], [(.row false K.ki64 b.Stock.Grams), (.row false K.k_impl_Event b.Book.Events)]⟩
noncomputable def impl_SellLoaves_d : Rs → Option (Bakery × Bool)
 | ⟨(.tp [(.ag [(.sl 2), (.v (.int .i64 r2)), (.v (.int .i64 r3)), (.v (.int .i64 r4)), (.v (.int .i64 r5)), (.v (.int .i64 r6)), (.sl 3), (.v (.int .i64 r8)), (.v (.int .i64 r9)), (.v (.int .i64 r10)), (.v (.int .i64 r11)), (.v (.int .i64 r12)), (.v (.int .i64 r13)), (.v (.int .i64 r14))]), (.sc (.v (.bool r15)))]), [.dead, .dead, (.row true K.ki64 r1), (.row true K.k_impl_Event r7)]⟩ => some ((⟨(⟨r1⟩ : Stock), (⟨r2, r3, r4⟩ : Dough), (⟨r5, r6⟩ : Loaf), (⟨r7, (⟨r8, r9, r10⟩ : Rack), r11, r12, r13⟩ : Book), r14⟩ : Bakery), r15)
 | _ => none
theorem impl_SellLoaves_i {r : Rs} {y : Bakery × Bool} (h : impl_SellLoaves_d r = some y) : r = ⟨(.tp [(.ag [(.sl 2), (.v (.int .i64 y.1.Dough.Water)), (.v (.int .i64 y.1.Dough.Salt)), (.v (.int .i64 y.1.Dough.Leaven)), (.v (.int .i64 y.1.Loaf.Weight)), (.v (.int .i64 y.1.Loaf.Loss)), (.sl 3), (.v (.int .i64 y.1.Book.Rack.Fresh)), (.v (.int .i64 y.1.Book.Rack.Day)), (.v (.int .i64 y.1.Book.Rack.Old)), (.v (.int .i64 y.1.Book.Baked)), (.v (.int .i64 y.1.Book.Sold)), (.v (.int .i64 y.1.Book.Thrown)), (.v (.int .i64 y.1.Money))]), (.sc (.v (.bool y.2)))]), [.dead, .dead, (.row true K.ki64 y.1.Stock.Grams), (.row true K.k_impl_Event y.1.Book.Events)]⟩ := by
 unfold impl_SellLoaves_d at h; split at h
 · cases h; rfl
 · cases h
theorem impl_SellLoaves_e (k : Nat) (b : Bakery) (loaves : Int) (cheap : Bool) : callF env (impl_SellLoaves_O k) impl_SellLoaves_v Try.f21 (k + 1) (impl_SellLoaves_A b loaves cheap) (fun r => impl_SellLoaves_d (r.fin 2 [])) = impl_SellLoaves k b loaves cheap := by kernel_rfl
noncomputable def impl_SellLoaves_x (k : Nat) : Ent1 := fun A R Q => match A with
 | ⟨[(.ag [(.sl 0), (.v (.int .i64 a2)), (.v (.int .i64 a3)), (.v (.int .i64 a4)), (.v (.int .i64 a5)), (.v (.int .i64 a6)), (.sl 1), (.v (.int .i64 a8)), (.v (.int .i64 a9)), (.v (.int .i64 a10)), (.v (.int .i64 a11)), (.v (.int .i64 a12)), (.v (.int .i64 a13)), (.v (.int .i64 a14))]), (.sc (.v (.int .i64 a15))), (.sc (.v (.bool a16)))], [(.row false K.ki64 a1), (.row false K.k_impl_Event a7)]⟩ => (impl_SellLoaves k (⟨(⟨a1⟩ : Stock), (⟨a2, a3, a4⟩ : Dough), (⟨a5, a6⟩ : Loaf), (⟨a7, (⟨a8, a9, a10⟩ : Rack), a11, a12, a13⟩ : Book), a14⟩ : Bakery) a15 a16).bind fun y => Q ⟨(.tp [(.ag [(.sl 2), (.v (.int .i64 y.1.Dough.Water)), (.v (.int .i64 y.1.Dough.Salt)), (.v (.int .i64 y.1.Dough.Leaven)), (.v (.int .i64 y.1.Loaf.Weight)), (.v (.int .i64 y.1.Loaf.Loss)), (.sl 3), (.v (.int .i64 y.1.Book.Rack.Fresh)), (.v (.int .i64 y.1.Book.Rack.Day)), (.v (.int .i64 y.1.Book.Rack.Old)), (.v (.int .i64 y.1.Book.Baked)), (.v (.int .i64 y.1.Book.Sold)), (.v (.int .i64 y.1.Book.Thrown)), (.v (.int .i64 y.1.Money))]), (.sc (.v (.bool y.2)))]), [.dead, .dead, (.row true K.ki64 y.1.Stock.Grams), (.row true K.k_impl_Event y.1.Book.Events)]⟩
 | _ => none
theorem impl_SellLoaves_ok (k : Nat) : OkE Try.prog 21 (impl_SellLoaves_x k) := by
 intro A R Q x h
 unfold impl_SellLoaves_x at h
 split at h
 · obtain ⟨y, hy, hK⟩ := Option.bind_eq_some_iff.1 h
   obtain ⟨r, hr, hd⟩ := callF_ok envOk (impl_SellLoaves_Ok k) follows Try.func21 (by kernel_rfl) ((impl_SellLoaves_e k _ _ _).trans hy)
   exact ⟨_, impl_SellLoaves_i hd ▸ hr.fin [], hK⟩
 · cases h
/-! ### impl.NightOver$1: function 67 -/
noncomputable def impl_NightOver_1 (k : Nat)  (own : Bakery) : Option (Bool × (List Int) × (List Event) × Bakery) :=
 (impl_Bakery_enter k own (⟨4, 0⟩ : Event)).bind fun y1 =>
 some (y1.1, y1.2.1, y1.2.2.1, (⟨(⟨y1.2.1⟩ : Stock), y1.2.2.2.Dough, y1.2.2.2.Loaf, y1.2.2.2.Book, y1.2.2.2.Money⟩ : Bakery))
noncomputable def impl_NightOver_1_v : Nat → List Nat := fun t => match t with | _ => []
noncomputable def impl_NightOver_1_O (k : Nat) : Oracle := ofL [(61, impl_Bakery_enter_x k)]
theorem impl_NightOver_1_Ok (k : Nat) : OkO (Ct Try.prog) (impl_NightOver_1_O k) := okO_cons (impl_Bakery_enter_ok k) (okO_nil)
noncomputable def impl_NightOver_1_A (own : Bakery) : Pk := ⟨[(.sc (.bp 2 0))], [(.row true K.ki64 own.Stock.Grams), (.row true K.k_impl_Event own.Book.Events), (.box true [(.sl 0), (.v (.int .i64 own.Dough.Water)), (.v (.int .i64 own.Dough.Salt)), (.v (.int .i64 own.Dough.Leaven)), (.v (.int .i64 own.Loaf.Weight)), (.v (.int .i64 own.Loaf.Loss)), (.sl 1), (.v (.int .i64 own.Book.Rack.Fresh)), (.v (.int .i64 own.Book.Rack.Day)), (.v (.int .i64 own.Book.Rack.Old)), (.v (.int .i64 own.Book.Baked)), (.v (.int .i64 own.Book.Sold)), (.v (.int .i64 own.Book.Thrown)), (.v (.int .i64 own.Money))])]⟩
noncomputable def impl_NightOver_1_d : Rs → Option (Bool × (List Int) × (List Event) × Bakery)
 | ⟨(.a (.sc (.v (.bool r1)))), [(.row true K.ki64 r2), (.row true K.k_impl_Event r3), (.box true [(.sl 0), (.v (.int .i64 r4)), (.v (.int .i64 r5)), (.v (.int .i64 r6)), (.v (.int .i64 r7)), (.v (.int .i64 r8)), (.sl 3), (.v (.int .i64 r10)), (.v (.int .i64 r11)), (.v (.int .i64 r12)), (.v (.int .i64 r13)), (.v (.int .i64 r14)), (.v (.int .i64 r15)), (.v (.int .i64 r16))]), (.row true K.k_impl_Event r9)]⟩ => some (r1, r2, r3, (⟨(⟨r2⟩ : Stock), (⟨r4, r5, r6⟩ : Dough), (⟨r7, r8⟩ : Loaf), (⟨r9, (⟨r10, r11, r12⟩ : Rack), r13, r14, r15⟩ : Book), r16⟩ : Bakery))
 | _ => none
theorem impl_NightOver_1_i {r : Rs} {y : Bool × (List Int) × (List Event) × Bakery} (h : impl_NightOver_1_d r = some y) : r = ⟨(.a (.sc (.v (.bool y.1)))), [(.row true K.ki64 y.2.1), (.row true K.k_impl_Event y.2.2.1), (.box true [(.sl 0), (.v (.int .i64 y.2.2.2.Dough.Water)), (.v (.int .i64 y.2.2.2.Dough.Salt)), (.v (.int .i64 y.2.2.2.Dough.Leaven)), (.v (.int .i64 y.2.2.2.Loaf.Weight)), (.v (.int .i64 y.2.2.2.Loaf.Loss)), (.sl 3), (.v (.int .i64 y.2.2.2.Book.Rack.Fresh)), (.v (.int .i64 y.2.2.2.Book.Rack.Day)), (.v (.int .i64 y.2.2.2.Book.Rack.Old)), (.v (.int .i64 y.2.2.2.Book.Baked)), (.v (.int .i64 y.2.2.2.Book.Sold)), (.v (.int .i64 y.2.2.2.Book.Thrown)), (.v (.int .i64 y.2.2.2.Money))]), (.row true K.k_impl_Event y.2.2.2.Book.Events)]⟩ := by
 unfold impl_NightOver_1_d at h; split at h
 · cases h; rfl
 · cases h
theorem impl_NightOver_1_e (k : Nat) (own : Bakery) : callF env (impl_NightOver_1_O k) impl_NightOver_1_v Try.f67 (k + 1) (impl_NightOver_1_A own) (fun r => impl_NightOver_1_d (r.fin 3 [])) = impl_NightOver_1 k own := by kernel_rfl
noncomputable def impl_NightOver_1_x (k : Nat) : Ent1 := fun A R Q => match A with
 | ⟨[(.sc (.bp 2 0))], [(.row true K.ki64 a1), (.row true K.k_impl_Event a7), (.box true [(.sl 0), (.v (.int .i64 a2)), (.v (.int .i64 a3)), (.v (.int .i64 a4)), (.v (.int .i64 a5)), (.v (.int .i64 a6)), (.sl 1), (.v (.int .i64 a8)), (.v (.int .i64 a9)), (.v (.int .i64 a10)), (.v (.int .i64 a11)), (.v (.int .i64 a12)), (.v (.int .i64 a13)), (.v (.int .i64 a14))])]⟩ => (impl_NightOver_1 k (⟨(⟨a1⟩ : Stock), (⟨a2, a3, a4⟩ : Dough), (⟨a5, a6⟩ : Loaf), (⟨a7, (⟨a8, a9, a10⟩ : Rack), a11, a12, a13⟩ : Book), a14⟩ : Bakery)).bind fun y => Q ⟨(.a (.sc (.v (.bool y.1)))), [(.row true K.ki64 y.2.1), (.row true K.k_impl_Event y.2.2.1), (.box true [(.sl 0), (.v (.int .i64 y.2.2.2.Dough.Water)), (.v (.int .i64 y.2.2.2.Dough.Salt)), (.v (.int .i64 y.2.2.2.Dough.Leaven)), (.v (.int .i64 y.2.2.2.Loaf.Weight)), (.v (.int .i64 y.2.2.2.Loaf.Loss)), (.sl 3), (.v (.int .i64 y.2.2.2.Book.Rack.Fresh)), (.v (.int .i64 y.2.2.2.Book.Rack.Day)), (.v (.int .i64 y.2.2.2.Book.Rack.Old)), (.v (.int .i64 y.2.2.2.Book.Baked)), (.v (.int .i64 y.2.2.2.Book.Sold)), (.v (.int .i64 y.2.2.2.Book.Thrown)), (.v (.int .i64 y.2.2.2.Money))]), (.row true K.k_impl_Event y.2.2.2.Book.Events)]⟩
 | _ => none
theorem impl_NightOver_1_ok (k : Nat) : OkE Try.prog 67 (impl_NightOver_1_x k) := by
 intro A R Q x h
 unfold impl_NightOver_1_x at h
 split at h
 · obtain ⟨y, hy, hK⟩ := Option.bind_eq_some_iff.1 h
   obtain ⟨r, hr, hd⟩ := callF_ok envOk (impl_NightOver_1_Ok k) follows Try.func67 (by kernel_rfl) ((impl_NightOver_1_e k _).trans hy)
   exact ⟨_, impl_NightOver_1_i hd ▸ hr.fin [], hK⟩
 · cases h
/-! ### impl.changed: function 58 -/
noncomputable def impl_changed_67 (k : Nat)  (b : Bakery) : Option (Bakery × Bool) :=
 (impl_bakeryCopy k b).bind fun y1 =>
 (impl_BakeryOk k b).bind fun y2 =>
  cond (!y2)
   ((impl_bakeryCopy k b).bind fun y5 =>
    some (y5, false))
   ((impl_NightOver_1 k y1).bind fun y3 =>
    cond (!y3.1)
     ((impl_bakeryCopy k b).bind fun y6 =>
      some (y6, false))
     ((impl_BakeryOk k (⟨(⟨y3.2.1⟩ : Stock), y3.2.2.2.Dough, y3.2.2.2.Loaf, y3.2.2.2.Book, y3.2.2.2.Money⟩ : Bakery)).bind fun y4 =>
      cond (!y4)
       ((impl_bakeryCopy k b).bind fun y7 =>
        some (y7, false))
       (some ((⟨(⟨y3.2.1⟩ : Stock), y3.2.2.2.Dough, y3.2.2.2.Loaf, y3.2.2.2.Book, y3.2.2.2.Money⟩ : Bakery), true))))
noncomputable def impl_changed_67_v : Nat → List Nat := fun t => match t with | _ => []
noncomputable def impl_changed_67_O (k : Nat) : Oracle := ofL [(13, impl_BakeryOk_x k), (42, impl_bakeryCopy_x k), (67, impl_NightOver_1_x k)]
theorem impl_changed_67_Ok (k : Nat) : OkO (Ct Try.prog) (impl_changed_67_O k) := okO_cons (impl_BakeryOk_ok k) (okO_cons (impl_bakeryCopy_ok k) (okO_cons (impl_NightOver_1_ok k) (okO_nil)))
noncomputable def impl_changed_67_A (b : Bakery) : Pk := ⟨[(.ag [(.sl 0), (.v (.int .i64 b.Dough.Water)), (.v (.int .i64 b.Dough.Salt)), (.v (.int .i64 b.Dough.Leaven)), (.v (.int .i64 b.Loaf.Weight)), (.v (.int .i64 b.Loaf.Loss)), (.sl 1), (.v (.int .i64 b.Book.Rack.Fresh)), (.v (.int .i64 b.Book.Rack.Day)), (.v (.int .i64 b.Book.Rack.Old)), (.v (.int .i64 b.Book.Baked)), (.v (.int .i64 b.Book.Sold)), (.v (.int .i64 b.Book.Thrown)), (.v (.int .i64 b.Money))]), (.sc (.fn 67 []))], [(.row false K.ki64 b.Stock.Grams), (.row false K.k_impl_Event b.Book.Events)]⟩
noncomputable def impl_changed_67_d : Rs → Option (Bakery × Bool)
 | ⟨(.tp [(.ag [(.sl 2), (.v (.int .i64 r2)), (.v (.int .i64 r3)), (.v (.int .i64 r4)), (.v (.int .i64 r5)), (.v (.int .i64 r6)), (.sl 3), (.v (.int .i64 r8)), (.v (.int .i64 r9)), (.v (.int .i64 r10)), (.v (.int .i64 r11)), (.v (.int .i64 r12)), (.v (.int .i64 r13)), (.v (.int .i64 r14))]), (.sc (.v (.bool r15)))]), [.dead, .dead, (.row true K.ki64 r1), (.row true K.k_impl_Event r7)]⟩ => some ((⟨(⟨r1⟩ : Stock), (⟨r2, r3, r4⟩ : Dough), (⟨r5, r6⟩ : Loaf), (⟨r7, (⟨r8, r9, r10⟩ : Rack), r11, r12, r13⟩ : Book), r14⟩ : Bakery), r15)
 | _ => none
theorem impl_changed_67_i {r : Rs} {y : Bakery × Bool} (h : impl_changed_67_d r = some y) : r = ⟨(.tp [(.ag [(.sl 2), (.v (.int .i64 y.1.Dough.Water)), (.v (.int .i64 y.1.Dough.Salt)), (.v (.int .i64 y.1.Dough.Leaven)), (.v (.int .i64 y.1.Loaf.Weight)), (.v (.int .i64 y.1.Loaf.Loss)), (.sl 3), (.v (.int .i64 y.1.Book.Rack.Fresh)), (.v (.int .i64 y.1.Book.Rack.Day)), (.v (.int .i64 y.1.Book.Rack.Old)), (.v (.int .i64 y.1.Book.Baked)), (.v (.int .i64 y.1.Book.Sold)), (.v (.int .i64 y.1.Book.Thrown)), (.v (.int .i64 y.1.Money))]), (.sc (.v (.bool y.2)))]), [.dead, .dead, (.row true K.ki64 y.1.Stock.Grams), (.row true K.k_impl_Event y.1.Book.Events)]⟩ := by
 unfold impl_changed_67_d at h; split at h
 · cases h; rfl
 · cases h
theorem impl_changed_67_e (k : Nat) (b : Bakery) : callF env (impl_changed_67_O k) impl_changed_67_v Try.f58 (k + 1) (impl_changed_67_A b) (fun r => impl_changed_67_d (r.fin 2 [])) = impl_changed_67 k b := by kernel_rfl
noncomputable def impl_changed_67_x (k : Nat) : Ent1 := fun A R Q => match A with
 | ⟨[(.ag [(.sl 0), (.v (.int .i64 a2)), (.v (.int .i64 a3)), (.v (.int .i64 a4)), (.v (.int .i64 a5)), (.v (.int .i64 a6)), (.sl 1), (.v (.int .i64 a8)), (.v (.int .i64 a9)), (.v (.int .i64 a10)), (.v (.int .i64 a11)), (.v (.int .i64 a12)), (.v (.int .i64 a13)), (.v (.int .i64 a14))]), (.sc (.fn 67 []))], [(.row false K.ki64 a1), (.row false K.k_impl_Event a7)]⟩ => (impl_changed_67 k (⟨(⟨a1⟩ : Stock), (⟨a2, a3, a4⟩ : Dough), (⟨a5, a6⟩ : Loaf), (⟨a7, (⟨a8, a9, a10⟩ : Rack), a11, a12, a13⟩ : Book), a14⟩ : Bakery)).bind fun y => Q ⟨(.tp [(.ag [(.sl 2), (.v (.int .i64 y.1.Dough.Water)), (.v (.int .i64 y.1.Dough.Salt)), (.v (.int .i64 y.1.Dough.Leaven)), (.v (.int .i64 y.1.Loaf.Weight)), (.v (.int .i64 y.1.Loaf.Loss)), (.sl 3), (.v (.int .i64 y.1.Book.Rack.Fresh)), (.v (.int .i64 y.1.Book.Rack.Day)), (.v (.int .i64 y.1.Book.Rack.Old)), (.v (.int .i64 y.1.Book.Baked)), (.v (.int .i64 y.1.Book.Sold)), (.v (.int .i64 y.1.Book.Thrown)), (.v (.int .i64 y.1.Money))]), (.sc (.v (.bool y.2)))]), [.dead, .dead, (.row true K.ki64 y.1.Stock.Grams), (.row true K.k_impl_Event y.1.Book.Events)]⟩
 | _ => none
theorem impl_changed_67_ok (k : Nat) : OkE Try.prog 58 (impl_changed_67_x k) := by
 intro A R Q x h
 unfold impl_changed_67_x at h
 split at h
 · obtain ⟨y, hy, hK⟩ := Option.bind_eq_some_iff.1 h
   obtain ⟨r, hr, hd⟩ := callF_ok envOk (impl_changed_67_Ok k) follows Try.func58 (by kernel_rfl) ((impl_changed_67_e k _).trans hy)
   exact ⟨_, impl_changed_67_i hd ▸ hr.fin [], hK⟩
 · cases h
/-! ### impl.NightOver: function 22 -/
noncomputable def impl_NightOver (k : Nat)  (b : Bakery) : Option (Bakery × Bool) :=
 (impl_changed_67 k b).bind fun y1 =>
 some (y1.1, y1.2)
noncomputable def impl_NightOver_v : Nat → List Nat := fun t => match t with | _ => []
noncomputable def impl_NightOver_O (k : Nat) : Oracle := ofL [(58, impl_changed_67_x k)]
theorem impl_NightOver_Ok (k : Nat) : OkO (Ct Try.prog) (impl_NightOver_O k) := okO_cons (impl_changed_67_ok k) (okO_nil)
noncomputable def impl_NightOver_A (b : Bakery) : Pk := ⟨[(.ag [(.sl 0), (.v (.int .i64 b.Dough.Water)), (.v (.int .i64 b.Dough.Salt)), (.v (.int .i64 b.Dough.Leaven)), (.v (.int .i64 b.Loaf.Weight)), (.v (.int .i64 b.Loaf.Loss)), (.sl 1), (.v (.int .i64 b.Book.Rack.Fresh)), (.v (.int .i64 b.Book.Rack.Day)), (.v (.int .i64 b.Book.Rack.Old)), (.v (.int .i64 b.Book.Baked)), (.v (.int .i64 b.Book.Sold)), (.v (.int .i64 b.Book.Thrown)), (.v (.int .i64 b.Money))])], [(.row false K.ki64 b.Stock.Grams), (.row false K.k_impl_Event b.Book.Events)]⟩
noncomputable def impl_NightOver_d : Rs → Option (Bakery × Bool)
 | ⟨(.tp [(.ag [(.sl 2), (.v (.int .i64 r2)), (.v (.int .i64 r3)), (.v (.int .i64 r4)), (.v (.int .i64 r5)), (.v (.int .i64 r6)), (.sl 3), (.v (.int .i64 r8)), (.v (.int .i64 r9)), (.v (.int .i64 r10)), (.v (.int .i64 r11)), (.v (.int .i64 r12)), (.v (.int .i64 r13)), (.v (.int .i64 r14))]), (.sc (.v (.bool r15)))]), [.dead, .dead, (.row true K.ki64 r1), (.row true K.k_impl_Event r7)]⟩ => some ((⟨(⟨r1⟩ : Stock), (⟨r2, r3, r4⟩ : Dough), (⟨r5, r6⟩ : Loaf), (⟨r7, (⟨r8, r9, r10⟩ : Rack), r11, r12, r13⟩ : Book), r14⟩ : Bakery), r15)
 | _ => none
theorem impl_NightOver_i {r : Rs} {y : Bakery × Bool} (h : impl_NightOver_d r = some y) : r = ⟨(.tp [(.ag [(.sl 2), (.v (.int .i64 y.1.Dough.Water)), (.v (.int .i64 y.1.Dough.Salt)), (.v (.int .i64 y.1.Dough.Leaven)), (.v (.int .i64 y.1.Loaf.Weight)), (.v (.int .i64 y.1.Loaf.Loss)), (.sl 3), (.v (.int .i64 y.1.Book.Rack.Fresh)), (.v (.int .i64 y.1.Book.Rack.Day)), (.v (.int .i64 y.1.Book.Rack.Old)), (.v (.int .i64 y.1.Book.Baked)), (.v (.int .i64 y.1.Book.Sold)), (.v (.int .i64 y.1.Book.Thrown)), (.v (.int .i64 y.1.Money))]), (.sc (.v (.bool y.2)))]), [.dead, .dead, (.row true K.ki64 y.1.Stock.Grams), (.row true K.k_impl_Event y.1.Book.Events)]⟩ := by
 unfold impl_NightOver_d at h; split at h
 · cases h; rfl
 · cases h
theorem impl_NightOver_e (k : Nat) (b : Bakery) : callF env (impl_NightOver_O k) impl_NightOver_v Try.f22 (k + 1) (impl_NightOver_A b) (fun r => impl_NightOver_d (r.fin 2 [])) = impl_NightOver k b := by kernel_rfl
noncomputable def impl_NightOver_x (k : Nat) : Ent1 := fun A R Q => match A with
 | ⟨[(.ag [(.sl 0), (.v (.int .i64 a2)), (.v (.int .i64 a3)), (.v (.int .i64 a4)), (.v (.int .i64 a5)), (.v (.int .i64 a6)), (.sl 1), (.v (.int .i64 a8)), (.v (.int .i64 a9)), (.v (.int .i64 a10)), (.v (.int .i64 a11)), (.v (.int .i64 a12)), (.v (.int .i64 a13)), (.v (.int .i64 a14))])], [(.row false K.ki64 a1), (.row false K.k_impl_Event a7)]⟩ => (impl_NightOver k (⟨(⟨a1⟩ : Stock), (⟨a2, a3, a4⟩ : Dough), (⟨a5, a6⟩ : Loaf), (⟨a7, (⟨a8, a9, a10⟩ : Rack), a11, a12, a13⟩ : Book), a14⟩ : Bakery)).bind fun y => Q ⟨(.tp [(.ag [(.sl 2), (.v (.int .i64 y.1.Dough.Water)), (.v (.int .i64 y.1.Dough.Salt)), (.v (.int .i64 y.1.Dough.Leaven)), (.v (.int .i64 y.1.Loaf.Weight)), (.v (.int .i64 y.1.Loaf.Loss)), (.sl 3), (.v (.int .i64 y.1.Book.Rack.Fresh)), (.v (.int .i64 y.1.Book.Rack.Day)), (.v (.int .i64 y.1.Book.Rack.Old)), (.v (.int .i64 y.1.Book.Baked)), (.v (.int .i64 y.1.Book.Sold)), (.v (.int .i64 y.1.Book.Thrown)), (.v (.int .i64 y.1.Money))]), (.sc (.v (.bool y.2)))]), [.dead, .dead, (.row true K.ki64 y.1.Stock.Grams), (.row true K.k_impl_Event y.1.Book.Events)]⟩
 | _ => none
theorem impl_NightOver_ok (k : Nat) : OkE Try.prog 22 (impl_NightOver_x k) := by
 intro A R Q x h
 unfold impl_NightOver_x at h
 split at h
 · obtain ⟨y, hy, hK⟩ := Option.bind_eq_some_iff.1 h
   obtain ⟨r, hr, hd⟩ := callF_ok envOk (impl_NightOver_Ok k) follows Try.func22 (by kernel_rfl) ((impl_NightOver_e k _).trans hy)
   exact ⟨_, impl_NightOver_i hd ▸ hr.fin [], hK⟩
 · cases h
/-! ### impl.FillStock: function 69 -/
noncomputable def impl_FillStock (k : Nat)  (s : Stock) (k_ : Int) (grams : Int) : Option (Stock × Bool) :=
 (impl_stockCopy k s).bind fun y1 =>
 (impl_StoreOk k s).bind fun y2 =>
  cond (!y2)
   (some (y1, false))
   ((impl_in k k_ 0 3).bind fun y3 =>
    cond (!y3)
     (some (y1, false))
     ((impl_in k grams 0 1000000).bind fun y4 =>
      cond (!y4)
       (some (y1, false))
       (if 0 ≤ (k_ : Int) ∧ (k_ : Int) < ((y1.Grams).length : Int) then
        if 0 ≤ (k_ : Int) ∧ (k_ : Int) < ((y1.Grams).length : Int) then
        (impl_StoreOk k (⟨(y1.Grams.set (Int.toNat k_) (wr ((y1.Grams.getD (Int.toNat k_) 0) + grams)))⟩ : Stock)).bind fun y5 =>
        cond (!y5)
        ((impl_stockCopy k s).bind fun y6 =>
        some (y6, false))
        (some ((⟨(y1.Grams.set (Int.toNat k_) (wr ((y1.Grams.getD (Int.toNat k_) 0) + grams)))⟩ : Stock), true)) else none else none)))
noncomputable def impl_FillStock_v : Nat → List Nat := fun t => match t with | _ => []
noncomputable def impl_FillStock_O (k : Nat) : Oracle := ofL [(50, impl_StoreOk_x k), (53, impl_in_x k), (88, impl_stockCopy_x k)]
theorem impl_FillStock_Ok (k : Nat) : OkO (Ct Try.prog) (impl_FillStock_O k) := okO_cons (impl_StoreOk_ok k) (okO_cons (impl_in_ok k) (okO_cons (impl_stockCopy_ok k) (okO_nil)))
noncomputable def impl_FillStock_A (s : Stock) (k_ : Int) (grams : Int) : Pk := ⟨[(.ag [(.sl 0)]), (.sc (.v (.int .i64 k_))), (.sc (.v (.int .i64 grams)))], [(.row false K.ki64 s.Grams)]⟩
noncomputable def impl_FillStock_d : Rs → Option (Stock × Bool)
 | ⟨(.tp [(.ag [(.sl 1)]), (.sc (.v (.bool r2)))]), [.dead, (.row true K.ki64 r1)]⟩ => some ((⟨r1⟩ : Stock), r2)
 | _ => none
theorem impl_FillStock_i {r : Rs} {y : Stock × Bool} (h : impl_FillStock_d r = some y) : r = ⟨(.tp [(.ag [(.sl 1)]), (.sc (.v (.bool y.2)))]), [.dead, (.row true K.ki64 y.1.Grams)]⟩ := by
 unfold impl_FillStock_d at h; split at h
 · cases h; rfl
 · cases h
theorem impl_FillStock_e (k : Nat) (s : Stock) (k_ : Int) (grams : Int) : callF env (impl_FillStock_O k) impl_FillStock_v Try.f69 (k + 1) (impl_FillStock_A s k_ grams) (fun r => impl_FillStock_d (r.fin 1 [])) = impl_FillStock k s k_ grams := by kernel_rfl
noncomputable def impl_FillStock_x (k : Nat) : Ent1 := fun A R Q => match A with
 | ⟨[(.ag [(.sl 0)]), (.sc (.v (.int .i64 a2))), (.sc (.v (.int .i64 a3)))], [(.row false K.ki64 a1)]⟩ => (impl_FillStock k (⟨a1⟩ : Stock) a2 a3).bind fun y => Q ⟨(.tp [(.ag [(.sl 1)]), (.sc (.v (.bool y.2)))]), [.dead, (.row true K.ki64 y.1.Grams)]⟩
 | _ => none
theorem impl_FillStock_ok (k : Nat) : OkE Try.prog 69 (impl_FillStock_x k) := by
 intro A R Q x h
 unfold impl_FillStock_x at h
 split at h
 · obtain ⟨y, hy, hK⟩ := Option.bind_eq_some_iff.1 h
   obtain ⟨r, hr, hd⟩ := callF_ok envOk (impl_FillStock_Ok k) follows Try.func69 (by kernel_rfl) ((impl_FillStock_e k _ _ _).trans hy)
   exact ⟨_, impl_FillStock_i hd ▸ hr.fin [], hK⟩
 · cases h
/-! ### impl.BuyStock$1: function 68 -/
noncomputable def impl_BuyStock_1 (k : Nat)  (own : Bakery) (p1 : Int) (p2 : Int) : Option (Bool × (List Int) × (List Event) × Bakery) :=
 (impl_FillStock k own.Stock p1 p2).bind fun y1 =>
 cond y1.2
  ((impl_up k p2 100).bind fun y2 =>
   some (y1.2, own.Stock.Grams, own.Book.Events, (⟨y1.1, own.Dough, own.Loaf, own.Book, (wr (own.Money - y2))⟩ : Bakery)))
  (some (y1.2, own.Stock.Grams, own.Book.Events, (⟨y1.1, own.Dough, own.Loaf, own.Book, own.Money⟩ : Bakery)))
noncomputable def impl_BuyStock_1_v : Nat → List Nat := fun t => match t with | _ => []
noncomputable def impl_BuyStock_1_O (k : Nat) : Oracle := ofL [(69, impl_FillStock_x k), (70, impl_up_x k)]
theorem impl_BuyStock_1_Ok (k : Nat) : OkO (Ct Try.prog) (impl_BuyStock_1_O k) := okO_cons (impl_FillStock_ok k) (okO_cons (impl_up_ok k) (okO_nil))
noncomputable def impl_BuyStock_1_A (own : Bakery) (p1 : Int) (p2 : Int) : Pk := ⟨[(.sc (.bp 2 0)), (.sc (.bp 3 0)), (.sc (.bp 4 0))], [(.row true K.ki64 own.Stock.Grams), (.row true K.k_impl_Event own.Book.Events), (.box true [(.sl 0), (.v (.int .i64 own.Dough.Water)), (.v (.int .i64 own.Dough.Salt)), (.v (.int .i64 own.Dough.Leaven)), (.v (.int .i64 own.Loaf.Weight)), (.v (.int .i64 own.Loaf.Loss)), (.sl 1), (.v (.int .i64 own.Book.Rack.Fresh)), (.v (.int .i64 own.Book.Rack.Day)), (.v (.int .i64 own.Book.Rack.Old)), (.v (.int .i64 own.Book.Baked)), (.v (.int .i64 own.Book.Sold)), (.v (.int .i64 own.Book.Thrown)), (.v (.int .i64 own.Money))]), (.box false [(.v (.int .i64 p1))]), (.box false [(.v (.int .i64 p2))])]⟩
noncomputable def impl_BuyStock_1_d : Rs → Option (Bool × (List Int) × (List Event) × Bakery)
 | ⟨(.a (.sc (.v (.bool r1)))), [(.row true K.ki64 r2), (.row true K.k_impl_Event r3), (.box true [(.sl 5), (.v (.int .i64 r5)), (.v (.int .i64 r6)), (.v (.int .i64 r7)), (.v (.int .i64 r8)), (.v (.int .i64 r9)), (.sl 1), (.v (.int .i64 r10)), (.v (.int .i64 r11)), (.v (.int .i64 r12)), (.v (.int .i64 r13)), (.v (.int .i64 r14)), (.v (.int .i64 r15)), (.v (.int .i64 r16))]), .dead, .dead, (.row true K.ki64 r4)]⟩ => some (r1, r2, r3, (⟨(⟨r4⟩ : Stock), (⟨r5, r6, r7⟩ : Dough), (⟨r8, r9⟩ : Loaf), (⟨r3, (⟨r10, r11, r12⟩ : Rack), r13, r14, r15⟩ : Book), r16⟩ : Bakery))
 | _ => none
theorem impl_BuyStock_1_i {r : Rs} {y : Bool × (List Int) × (List Event) × Bakery} (h : impl_BuyStock_1_d r = some y) : r = ⟨(.a (.sc (.v (.bool y.1)))), [(.row true K.ki64 y.2.1), (.row true K.k_impl_Event y.2.2.1), (.box true [(.sl 5), (.v (.int .i64 y.2.2.2.Dough.Water)), (.v (.int .i64 y.2.2.2.Dough.Salt)), (.v (.int .i64 y.2.2.2.Dough.Leaven)), (.v (.int .i64 y.2.2.2.Loaf.Weight)), (.v (.int .i64 y.2.2.2.Loaf.Loss)), (.sl 1), (.v (.int .i64 y.2.2.2.Book.Rack.Fresh)), (.v (.int .i64 y.2.2.2.Book.Rack.Day)), (.v (.int .i64 y.2.2.2.Book.Rack.Old)), (.v (.int .i64 y.2.2.2.Book.Baked)), (.v (.int .i64 y.2.2.2.Book.Sold)), (.v (.int .i64 y.2.2.2.Book.Thrown)), (.v (.int .i64 y.2.2.2.Money))]), .dead, .dead, (.row true K.ki64 y.2.2.2.Stock.Grams)]⟩ := by
 unfold impl_BuyStock_1_d at h; split at h
 · cases h; rfl
 · cases h
theorem impl_BuyStock_1_e (k : Nat) (own : Bakery) (p1 : Int) (p2 : Int) : callF env (impl_BuyStock_1_O k) impl_BuyStock_1_v Try.f68 (k + 1) (impl_BuyStock_1_A own p1 p2) (fun r => impl_BuyStock_1_d (r.fin 5 [])) = impl_BuyStock_1 k own p1 p2 := by kernel_rfl
noncomputable def impl_BuyStock_1_x (k : Nat) : Ent1 := fun A R Q => match A with
 | ⟨[(.sc (.bp 2 0)), (.sc (.bp 3 0)), (.sc (.bp 4 0))], [(.row true K.ki64 a1), (.row true K.k_impl_Event a7), (.box true [(.sl 0), (.v (.int .i64 a2)), (.v (.int .i64 a3)), (.v (.int .i64 a4)), (.v (.int .i64 a5)), (.v (.int .i64 a6)), (.sl 1), (.v (.int .i64 a8)), (.v (.int .i64 a9)), (.v (.int .i64 a10)), (.v (.int .i64 a11)), (.v (.int .i64 a12)), (.v (.int .i64 a13)), (.v (.int .i64 a14))]), (.box false [(.v (.int .i64 a15))]), (.box false [(.v (.int .i64 a16))])]⟩ => (impl_BuyStock_1 k (⟨(⟨a1⟩ : Stock), (⟨a2, a3, a4⟩ : Dough), (⟨a5, a6⟩ : Loaf), (⟨a7, (⟨a8, a9, a10⟩ : Rack), a11, a12, a13⟩ : Book), a14⟩ : Bakery) a15 a16).bind fun y => Q ⟨(.a (.sc (.v (.bool y.1)))), [(.row true K.ki64 y.2.1), (.row true K.k_impl_Event y.2.2.1), (.box true [(.sl 5), (.v (.int .i64 y.2.2.2.Dough.Water)), (.v (.int .i64 y.2.2.2.Dough.Salt)), (.v (.int .i64 y.2.2.2.Dough.Leaven)), (.v (.int .i64 y.2.2.2.Loaf.Weight)), (.v (.int .i64 y.2.2.2.Loaf.Loss)), (.sl 1), (.v (.int .i64 y.2.2.2.Book.Rack.Fresh)), (.v (.int .i64 y.2.2.2.Book.Rack.Day)), (.v (.int .i64 y.2.2.2.Book.Rack.Old)), (.v (.int .i64 y.2.2.2.Book.Baked)), (.v (.int .i64 y.2.2.2.Book.Sold)), (.v (.int .i64 y.2.2.2.Book.Thrown)), (.v (.int .i64 y.2.2.2.Money))]), .dead, .dead, (.row true K.ki64 y.2.2.2.Stock.Grams)]⟩
 | _ => none
theorem impl_BuyStock_1_ok (k : Nat) : OkE Try.prog 68 (impl_BuyStock_1_x k) := by
 intro A R Q x h
 unfold impl_BuyStock_1_x at h
 split at h
 · obtain ⟨y, hy, hK⟩ := Option.bind_eq_some_iff.1 h
   obtain ⟨r, hr, hd⟩ := callF_ok envOk (impl_BuyStock_1_Ok k) follows Try.func68 (by kernel_rfl) ((impl_BuyStock_1_e k _ _ _).trans hy)
   exact ⟨_, impl_BuyStock_1_i hd ▸ hr.fin [], hK⟩
 · cases h
/-! ### impl.changed: function 58 -/
noncomputable def impl_changed_68 (k : Nat)  (b : Bakery) (how_0 : Int) (how_1 : Int) : Option (Bakery × Bool) :=
 (impl_bakeryCopy k b).bind fun y1 =>
 (impl_BakeryOk k b).bind fun y2 =>
  cond (!y2)
   ((impl_bakeryCopy k b).bind fun y5 =>
    some (y5, false))
   ((impl_BuyStock_1 k y1 how_0 how_1).bind fun y3 =>
    cond (!y3.1)
     ((impl_bakeryCopy k b).bind fun y6 =>
      some (y6, false))
     ((impl_BakeryOk k (⟨y3.2.2.2.Stock, y3.2.2.2.Dough, y3.2.2.2.Loaf, (⟨y3.2.2.1, y3.2.2.2.Book.Rack, y3.2.2.2.Book.Baked, y3.2.2.2.Book.Sold, y3.2.2.2.Book.Thrown⟩ : Book), y3.2.2.2.Money⟩ : Bakery)).bind fun y4 =>
      cond (!y4)
       ((impl_bakeryCopy k b).bind fun y7 =>
        some (y7, false))
       (some ((⟨y3.2.2.2.Stock, y3.2.2.2.Dough, y3.2.2.2.Loaf, (⟨y3.2.2.1, y3.2.2.2.Book.Rack, y3.2.2.2.Book.Baked, y3.2.2.2.Book.Sold, y3.2.2.2.Book.Thrown⟩ : Book), y3.2.2.2.Money⟩ : Bakery), true))))
noncomputable def impl_changed_68_v : Nat → List Nat := fun t => match t with | _ => []
noncomputable def impl_changed_68_O (k : Nat) : Oracle := ofL [(13, impl_BakeryOk_x k), (42, impl_bakeryCopy_x k), (68, impl_BuyStock_1_x k)]
theorem impl_changed_68_Ok (k : Nat) : OkO (Ct Try.prog) (impl_changed_68_O k) := okO_cons (impl_BakeryOk_ok k) (okO_cons (impl_bakeryCopy_ok k) (okO_cons (impl_BuyStock_1_ok k) (okO_nil)))
noncomputable def impl_changed_68_A (b : Bakery) (how_0 : Int) (how_1 : Int) : Pk := ⟨[(.ag [(.sl 0), (.v (.int .i64 b.Dough.Water)), (.v (.int .i64 b.Dough.Salt)), (.v (.int .i64 b.Dough.Leaven)), (.v (.int .i64 b.Loaf.Weight)), (.v (.int .i64 b.Loaf.Loss)), (.sl 1), (.v (.int .i64 b.Book.Rack.Fresh)), (.v (.int .i64 b.Book.Rack.Day)), (.v (.int .i64 b.Book.Rack.Old)), (.v (.int .i64 b.Book.Baked)), (.v (.int .i64 b.Book.Sold)), (.v (.int .i64 b.Book.Thrown)), (.v (.int .i64 b.Money))]), (.sc (.fn 68 [2, 3]))], [(.row false K.ki64 b.Stock.Grams), (.row false K.k_impl_Event b.Book.Events), (.box false [(.v (.int .i64 how_0))]), (.box false [(.v (.int .i64 how_1))])]⟩
noncomputable def impl_changed_68_d : Rs → Option (Bakery × Bool)
 | ⟨(.tp [(.ag [(.sl 4), (.v (.int .i64 r2)), (.v (.int .i64 r3)), (.v (.int .i64 r4)), (.v (.int .i64 r5)), (.v (.int .i64 r6)), (.sl 5), (.v (.int .i64 r8)), (.v (.int .i64 r9)), (.v (.int .i64 r10)), (.v (.int .i64 r11)), (.v (.int .i64 r12)), (.v (.int .i64 r13)), (.v (.int .i64 r14))]), (.sc (.v (.bool r15)))]), [.dead, .dead, .dead, .dead, (.row true K.ki64 r1), (.row true K.k_impl_Event r7)]⟩ => some ((⟨(⟨r1⟩ : Stock), (⟨r2, r3, r4⟩ : Dough), (⟨r5, r6⟩ : Loaf), (⟨r7, (⟨r8, r9, r10⟩ : Rack), r11, r12, r13⟩ : Book), r14⟩ : Bakery), r15)
 | _ => none
theorem impl_changed_68_i {r : Rs} {y : Bakery × Bool} (h : impl_changed_68_d r = some y) : r = ⟨(.tp [(.ag [(.sl 4), (.v (.int .i64 y.1.Dough.Water)), (.v (.int .i64 y.1.Dough.Salt)), (.v (.int .i64 y.1.Dough.Leaven)), (.v (.int .i64 y.1.Loaf.Weight)), (.v (.int .i64 y.1.Loaf.Loss)), (.sl 5), (.v (.int .i64 y.1.Book.Rack.Fresh)), (.v (.int .i64 y.1.Book.Rack.Day)), (.v (.int .i64 y.1.Book.Rack.Old)), (.v (.int .i64 y.1.Book.Baked)), (.v (.int .i64 y.1.Book.Sold)), (.v (.int .i64 y.1.Book.Thrown)), (.v (.int .i64 y.1.Money))]), (.sc (.v (.bool y.2)))]), [.dead, .dead, .dead, .dead, (.row true K.ki64 y.1.Stock.Grams), (.row true K.k_impl_Event y.1.Book.Events)]⟩ := by
 unfold impl_changed_68_d at h; split at h
 · cases h; rfl
 · cases h
theorem impl_changed_68_e (k : Nat) (b : Bakery) (how_0 : Int) (how_1 : Int) : callF env (impl_changed_68_O k) impl_changed_68_v Try.f58 (k + 1) (impl_changed_68_A b how_0 how_1) (fun r => impl_changed_68_d (r.fin 4 [])) = impl_changed_68 k b how_0 how_1 := by kernel_rfl
noncomputable def impl_changed_68_x (k : Nat) : Ent1 := fun A R Q => match A with
 | ⟨[(.ag [(.sl 0), (.v (.int .i64 a2)), (.v (.int .i64 a3)), (.v (.int .i64 a4)), (.v (.int .i64 a5)), (.v (.int .i64 a6)), (.sl 1), (.v (.int .i64 a8)), (.v (.int .i64 a9)), (.v (.int .i64 a10)), (.v (.int .i64 a11)), (.v (.int .i64 a12)), (.v (.int .i64 a13)), (.v (.int .i64 a14))]), (.sc (.fn 68 [2, 3]))], [(.row false K.ki64 a1), (.row false K.k_impl_Event a7), (.box false [(.v (.int .i64 a15))]), (.box false [(.v (.int .i64 a16))])]⟩ => (impl_changed_68 k (⟨(⟨a1⟩ : Stock), (⟨a2, a3, a4⟩ : Dough), (⟨a5, a6⟩ : Loaf), (⟨a7, (⟨a8, a9, a10⟩ : Rack), a11, a12, a13⟩ : Book), a14⟩ : Bakery) a15 a16).bind fun y => Q ⟨(.tp [(.ag [(.sl 4), (.v (.int .i64 y.1.Dough.Water)), (.v (.int .i64 y.1.Dough.Salt)), (.v (.int .i64 y.1.Dough.Leaven)), (.v (.int .i64 y.1.Loaf.Weight)), (.v (.int .i64 y.1.Loaf.Loss)), (.sl 5), (.v (.int .i64 y.1.Book.Rack.Fresh)), (.v (.int .i64 y.1.Book.Rack.Day)), (.v (.int .i64 y.1.Book.Rack.Old)), (.v (.int .i64 y.1.Book.Baked)), (.v (.int .i64 y.1.Book.Sold)), (.v (.int .i64 y.1.Book.Thrown)), (.v (.int .i64 y.1.Money))]), (.sc (.v (.bool y.2)))]), [.dead, .dead, .dead, .dead, (.row true K.ki64 y.1.Stock.Grams), (.row true K.k_impl_Event y.1.Book.Events)]⟩
 | _ => none
theorem impl_changed_68_ok (k : Nat) : OkE Try.prog 58 (impl_changed_68_x k) := by
 intro A R Q x h
 unfold impl_changed_68_x at h
 split at h
 · obtain ⟨y, hy, hK⟩ := Option.bind_eq_some_iff.1 h
   obtain ⟨r, hr, hd⟩ := callF_ok envOk (impl_changed_68_Ok k) follows Try.func58 (by kernel_rfl) ((impl_changed_68_e k _ _ _).trans hy)
   exact ⟨_, impl_changed_68_i hd ▸ hr.fin [], hK⟩
 · cases h
/-! ### impl.BuyStock: function 23 -/
noncomputable def impl_BuyStock (k : Nat)  (b : Bakery) (k_ : Int) (grams : Int) : Option (Bakery × Bool) :=
 (impl_changed_68 k b k_ grams).bind fun y1 =>
 some (y1.1, y1.2)
noncomputable def impl_BuyStock_v : Nat → List Nat := fun t => match t with | _ => []
noncomputable def impl_BuyStock_O (k : Nat) : Oracle := ofL [(58, impl_changed_68_x k)]
theorem impl_BuyStock_Ok (k : Nat) : OkO (Ct Try.prog) (impl_BuyStock_O k) := okO_cons (impl_changed_68_ok k) (okO_nil)
noncomputable def impl_BuyStock_A (b : Bakery) (k_ : Int) (grams : Int) : Pk := ⟨[(.ag [(.sl 0), (.v (.int .i64 b.Dough.Water)), (.v (.int .i64 b.Dough.Salt)), (.v (.int .i64 b.Dough.Leaven)), (.v (.int .i64 b.Loaf.Weight)), (.v (.int .i64 b.Loaf.Loss)), (.sl 1), (.v (.int .i64 b.Book.Rack.Fresh)), (.v (.int .i64 b.Book.Rack.Day)), (.v (.int .i64 b.Book.Rack.Old)), (.v (.int .i64 b.Book.Baked)), (.v (.int .i64 b.Book.Sold)), (.v (.int .i64 b.Book.Thrown)), (.v (.int .i64 b.Money))]), (.sc (.v (.int .i64 k_))), (.sc (.v (.int .i64 grams)))], [(.row false K.ki64 b.Stock.Grams), (.row false K.k_impl_Event b.Book.Events)]⟩
noncomputable def impl_BuyStock_d : Rs → Option (Bakery × Bool)
 | ⟨(.tp [(.ag [(.sl 2), (.v (.int .i64 r2)), (.v (.int .i64 r3)), (.v (.int .i64 r4)), (.v (.int .i64 r5)), (.v (.int .i64 r6)), (.sl 3), (.v (.int .i64 r8)), (.v (.int .i64 r9)), (.v (.int .i64 r10)), (.v (.int .i64 r11)), (.v (.int .i64 r12)), (.v (.int .i64 r13)), (.v (.int .i64 r14))]), (.sc (.v (.bool r15)))]), [.dead, .dead, (.row true K.ki64 r1), (.row true K.k_impl_Event r7)]⟩ => some ((⟨(⟨r1⟩ : Stock), (⟨r2, r3, r4⟩ : Dough), (⟨r5, r6⟩ : Loaf), (⟨r7, (⟨r8, r9, r10⟩ : Rack), r11, r12, r13⟩ : Book), r14⟩ : Bakery), r15)
 | _ => none
theorem impl_BuyStock_i {r : Rs} {y : Bakery × Bool} (h : impl_BuyStock_d r = some y) : r = ⟨(.tp [(.ag [(.sl 2), (.v (.int .i64 y.1.Dough.Water)), (.v (.int .i64 y.1.Dough.Salt)), (.v (.int .i64 y.1.Dough.Leaven)), (.v (.int .i64 y.1.Loaf.Weight)), (.v (.int .i64 y.1.Loaf.Loss)), (.sl 3), (.v (.int .i64 y.1.Book.Rack.Fresh)), (.v (.int .i64 y.1.Book.Rack.Day)), (.v (.int .i64 y.1.Book.Rack.Old)), (.v (.int .i64 y.1.Book.Baked)), (.v (.int .i64 y.1.Book.Sold)), (.v (.int .i64 y.1.Book.Thrown)), (.v (.int .i64 y.1.Money))]), (.sc (.v (.bool y.2)))]), [.dead, .dead, (.row true K.ki64 y.1.Stock.Grams), (.row true K.k_impl_Event y.1.Book.Events)]⟩ := by
 unfold impl_BuyStock_d at h; split at h
 · cases h; rfl
 · cases h
theorem impl_BuyStock_e (k : Nat) (b : Bakery) (k_ : Int) (grams : Int) : callF env (impl_BuyStock_O k) impl_BuyStock_v Try.f23 (k + 1) (impl_BuyStock_A b k_ grams) (fun r => impl_BuyStock_d (r.fin 2 [])) = impl_BuyStock k b k_ grams := by kernel_rfl
noncomputable def impl_BuyStock_x (k : Nat) : Ent1 := fun A R Q => match A with
 | ⟨[(.ag [(.sl 0), (.v (.int .i64 a2)), (.v (.int .i64 a3)), (.v (.int .i64 a4)), (.v (.int .i64 a5)), (.v (.int .i64 a6)), (.sl 1), (.v (.int .i64 a8)), (.v (.int .i64 a9)), (.v (.int .i64 a10)), (.v (.int .i64 a11)), (.v (.int .i64 a12)), (.v (.int .i64 a13)), (.v (.int .i64 a14))]), (.sc (.v (.int .i64 a15))), (.sc (.v (.int .i64 a16)))], [(.row false K.ki64 a1), (.row false K.k_impl_Event a7)]⟩ => (impl_BuyStock k (⟨(⟨a1⟩ : Stock), (⟨a2, a3, a4⟩ : Dough), (⟨a5, a6⟩ : Loaf), (⟨a7, (⟨a8, a9, a10⟩ : Rack), a11, a12, a13⟩ : Book), a14⟩ : Bakery) a15 a16).bind fun y => Q ⟨(.tp [(.ag [(.sl 2), (.v (.int .i64 y.1.Dough.Water)), (.v (.int .i64 y.1.Dough.Salt)), (.v (.int .i64 y.1.Dough.Leaven)), (.v (.int .i64 y.1.Loaf.Weight)), (.v (.int .i64 y.1.Loaf.Loss)), (.sl 3), (.v (.int .i64 y.1.Book.Rack.Fresh)), (.v (.int .i64 y.1.Book.Rack.Day)), (.v (.int .i64 y.1.Book.Rack.Old)), (.v (.int .i64 y.1.Book.Baked)), (.v (.int .i64 y.1.Book.Sold)), (.v (.int .i64 y.1.Book.Thrown)), (.v (.int .i64 y.1.Money))]), (.sc (.v (.bool y.2)))]), [.dead, .dead, (.row true K.ki64 y.1.Stock.Grams), (.row true K.k_impl_Event y.1.Book.Events)]⟩
 | _ => none
theorem impl_BuyStock_ok (k : Nat) : OkE Try.prog 23 (impl_BuyStock_x k) := by
 intro A R Q x h
 unfold impl_BuyStock_x at h
 split at h
 · obtain ⟨y, hy, hK⟩ := Option.bind_eq_some_iff.1 h
   obtain ⟨r, hr, hd⟩ := callF_ok envOk (impl_BuyStock_Ok k) follows Try.func23 (by kernel_rfl) ((impl_BuyStock_e k _ _ _).trans hy)
   exact ⟨_, impl_BuyStock_i hd ▸ hr.fin [], hK⟩
 · cases h
/-! ### impl.DoAct: function 11 -/
noncomputable def impl_DoAct (k : Nat)  (b : Bakery) (a : Deed) : Option (Bakery × Int) :=
 (impl_BakeryOk k b).bind fun y1 =>
 cond (!y1)
  ((impl_bakeryCopy k b).bind fun y3 =>
   some (y3, (-1)))
  ((impl_ActOk k a).bind fun y2 =>
   cond (!y2)
    ((impl_bakeryCopy k b).bind fun y4 =>
     some (y4, (-1)))
    (cond (decide ((a.Kind : Int) = 1))
     ((impl_BakeLoaves k b a.A).bind fun y5 =>
      cond y5.2
       (some (y5.1, 1))
       (some (y5.1, 0)))
     (cond (decide ((a.Kind : Int) = 2))
      ((impl_SellLoaves k b a.A false).bind fun y6 =>
       cond y6.2
        (some (y6.1, 1))
        (some (y6.1, 0)))
      (cond (decide ((a.Kind : Int) = 3))
       ((impl_SellLoaves k b a.A true).bind fun y7 =>
        cond y7.2
        (some (y7.1, 1))
        (some (y7.1, 0)))
       (cond (decide ((a.Kind : Int) = 4))
        ((impl_NightOver k b).bind fun y8 =>
        cond y8.2
        (some (y8.1, 1))
        (some (y8.1, 0)))
        (cond (decide ((a.Kind : Int) = 5))
        ((impl_BuyStock k b a.A a.B).bind fun y9 =>
        cond y9.2
        (some (y9.1, 1))
        (some (y9.1, 0)))
        ((impl_bakeryCopy k b).bind fun y10 =>
        (impl_FlourNeeded k b a.A).bind fun y11 =>
        some (y10, y11))))))))
noncomputable def impl_DoAct_v : Nat → List Nat := fun t => match t with | _ => []
noncomputable def impl_DoAct_O (k : Nat) : Oracle := ofL [(13, impl_BakeryOk_x k), (18, impl_FlourNeeded_x k), (19, impl_BakeLoaves_x k), (21, impl_SellLoaves_x k), (22, impl_NightOver_x k), (23, impl_BuyStock_x k), (41, impl_ActOk_x k), (42, impl_bakeryCopy_x k)]
theorem impl_DoAct_Ok (k : Nat) : OkO (Ct Try.prog) (impl_DoAct_O k) := okO_cons (impl_BakeryOk_ok k) (okO_cons (impl_FlourNeeded_ok k) (okO_cons (impl_BakeLoaves_ok k) (okO_cons (impl_SellLoaves_ok k) (okO_cons (impl_NightOver_ok k) (okO_cons (impl_BuyStock_ok k) (okO_cons (impl_ActOk_ok k) (okO_cons (impl_bakeryCopy_ok k) (okO_nil))))))))
noncomputable def impl_DoAct_A (b : Bakery) (a : Deed) : Pk := ⟨[(.ag [(.sl 0), (.v (.int .i64 b.Dough.Water)), (.v (.int .i64 b.Dough.Salt)), (.v (.int .i64 b.Dough.Leaven)), (.v (.int .i64 b.Loaf.Weight)), (.v (.int .i64 b.Loaf.Loss)), (.sl 1), (.v (.int .i64 b.Book.Rack.Fresh)), (.v (.int .i64 b.Book.Rack.Day)), (.v (.int .i64 b.Book.Rack.Old)), (.v (.int .i64 b.Book.Baked)), (.v (.int .i64 b.Book.Sold)), (.v (.int .i64 b.Book.Thrown)), (.v (.int .i64 b.Money))]), (.ag [(.v (.int .i64 a.Kind)), (.v (.int .i64 a.A)), (.v (.int .i64 a.B))])], [(.row false K.ki64 b.Stock.Grams), (.row false K.k_impl_Event b.Book.Events)]⟩
noncomputable def impl_DoAct_d : Rs → Option (Bakery × Int)
 | ⟨(.tp [(.ag [(.sl 2), (.v (.int .i64 r2)), (.v (.int .i64 r3)), (.v (.int .i64 r4)), (.v (.int .i64 r5)), (.v (.int .i64 r6)), (.sl 3), (.v (.int .i64 r8)), (.v (.int .i64 r9)), (.v (.int .i64 r10)), (.v (.int .i64 r11)), (.v (.int .i64 r12)), (.v (.int .i64 r13)), (.v (.int .i64 r14))]), (.sc (.v (.int .i64 r15)))]), [.dead, .dead, (.row true K.ki64 r1), (.row true K.k_impl_Event r7)]⟩ => some ((⟨(⟨r1⟩ : Stock), (⟨r2, r3, r4⟩ : Dough), (⟨r5, r6⟩ : Loaf), (⟨r7, (⟨r8, r9, r10⟩ : Rack), r11, r12, r13⟩ : Book), r14⟩ : Bakery), r15)
 | _ => none
theorem impl_DoAct_i {r : Rs} {y : Bakery × Int} (h : impl_DoAct_d r = some y) : r = ⟨(.tp [(.ag [(.sl 2), (.v (.int .i64 y.1.Dough.Water)), (.v (.int .i64 y.1.Dough.Salt)), (.v (.int .i64 y.1.Dough.Leaven)), (.v (.int .i64 y.1.Loaf.Weight)), (.v (.int .i64 y.1.Loaf.Loss)), (.sl 3), (.v (.int .i64 y.1.Book.Rack.Fresh)), (.v (.int .i64 y.1.Book.Rack.Day)), (.v (.int .i64 y.1.Book.Rack.Old)), (.v (.int .i64 y.1.Book.Baked)), (.v (.int .i64 y.1.Book.Sold)), (.v (.int .i64 y.1.Book.Thrown)), (.v (.int .i64 y.1.Money))]), (.sc (.v (.int .i64 y.2)))]), [.dead, .dead, (.row true K.ki64 y.1.Stock.Grams), (.row true K.k_impl_Event y.1.Book.Events)]⟩ := by
 unfold impl_DoAct_d at h; split at h
 · cases h; rfl
 · cases h
theorem impl_DoAct_e (k : Nat) (b : Bakery) (a : Deed) : callF env (impl_DoAct_O k) impl_DoAct_v Try.f11 (k + 1) (impl_DoAct_A b a) (fun r => impl_DoAct_d (r.fin 2 [])) = impl_DoAct k b a := by kernel_rfl
noncomputable def impl_DoAct_x (k : Nat) : Ent1 := fun A R Q => match A with
 | ⟨[(.ag [(.sl 0), (.v (.int .i64 a2)), (.v (.int .i64 a3)), (.v (.int .i64 a4)), (.v (.int .i64 a5)), (.v (.int .i64 a6)), (.sl 1), (.v (.int .i64 a8)), (.v (.int .i64 a9)), (.v (.int .i64 a10)), (.v (.int .i64 a11)), (.v (.int .i64 a12)), (.v (.int .i64 a13)), (.v (.int .i64 a14))]), (.ag [(.v (.int .i64 a15)), (.v (.int .i64 a16)), (.v (.int .i64 a17))])], [(.row false K.ki64 a1), (.row false K.k_impl_Event a7)]⟩ => (impl_DoAct k (⟨(⟨a1⟩ : Stock), (⟨a2, a3, a4⟩ : Dough), (⟨a5, a6⟩ : Loaf), (⟨a7, (⟨a8, a9, a10⟩ : Rack), a11, a12, a13⟩ : Book), a14⟩ : Bakery) (⟨a15, a16, a17⟩ : Deed)).bind fun y => Q ⟨(.tp [(.ag [(.sl 2), (.v (.int .i64 y.1.Dough.Water)), (.v (.int .i64 y.1.Dough.Salt)), (.v (.int .i64 y.1.Dough.Leaven)), (.v (.int .i64 y.1.Loaf.Weight)), (.v (.int .i64 y.1.Loaf.Loss)), (.sl 3), (.v (.int .i64 y.1.Book.Rack.Fresh)), (.v (.int .i64 y.1.Book.Rack.Day)), (.v (.int .i64 y.1.Book.Rack.Old)), (.v (.int .i64 y.1.Book.Baked)), (.v (.int .i64 y.1.Book.Sold)), (.v (.int .i64 y.1.Book.Thrown)), (.v (.int .i64 y.1.Money))]), (.sc (.v (.int .i64 y.2)))]), [.dead, .dead, (.row true K.ki64 y.1.Stock.Grams), (.row true K.k_impl_Event y.1.Book.Events)]⟩
 | _ => none
theorem impl_DoAct_ok (k : Nat) : OkE Try.prog 11 (impl_DoAct_x k) := by
 intro A R Q x h
 unfold impl_DoAct_x at h
 split at h
 · obtain ⟨y, hy, hK⟩ := Option.bind_eq_some_iff.1 h
   obtain ⟨r, hr, hd⟩ := callF_ok envOk (impl_DoAct_Ok k) follows Try.func11 (by kernel_rfl) ((impl_DoAct_e k _ _).trans hy)
   exact ⟨_, impl_DoAct_i hd ▸ hr.fin [], hK⟩
 · cases h
/-! ### impl.RunActs: function 24 -/
noncomputable def impl_RunActs_s0 (k : Nat)  (b : Bakery) (acts : (List Deed)) (J : Int → (List Int) → (List Event) → Int → Int → Int → Int → Int → Int → Int → Int → Int → Int → Int → Int → (List Int) → Option (Bakery × (List Int))) (x0_0 : Int) (x0_1 : (List Int)) (x0_2 : (List Event)) (x0_3 : Int) (x0_4 : Int) (x0_5 : Int) (x0_6 : Int) (x0_7 : Int) (x0_8 : Int) (x0_9 : Int) (x0_10 : Int) (x0_11 : Int) (x0_12 : Int) (x0_13 : Int) (x0_14 : Int) (x0_15 : (List Int)) : Option (Bakery × (List Int)) :=
 cond (decide ((x0_0 : Int) < ((acts).length : Int)))
 (if 0 ≤ (x0_0 : Int) ∧ (x0_0 : Int) < ((acts).length : Int) then
  (impl_DoAct k (⟨(⟨x0_1⟩ : Stock), (⟨x0_3, x0_4, x0_5⟩ : Dough), (⟨x0_6, x0_7⟩ : Loaf), (⟨x0_2, (⟨x0_8, x0_9, x0_10⟩ : Rack), x0_11, x0_12, x0_13⟩ : Book), x0_14⟩ : Bakery) (acts.getD (Int.toNat x0_0) dk_impl_Act)).bind fun y4 =>
   if (x0_15 : List Int).length + ([y4.2] : List Int).length ≤ maxRow then
    J (wr (x0_0 + 1)) y4.1.Stock.Grams y4.1.Book.Events y4.1.Dough.Water y4.1.Dough.Salt y4.1.Dough.Leaven y4.1.Loaf.Weight y4.1.Loaf.Loss y4.1.Book.Rack.Fresh y4.1.Book.Rack.Day y4.1.Book.Rack.Old y4.1.Book.Baked y4.1.Book.Sold y4.1.Book.Thrown y4.1.Money (x0_15 ++ [y4.2]) else none else none)
 (some ((⟨(⟨x0_1⟩ : Stock), (⟨x0_3, x0_4, x0_5⟩ : Dough), (⟨x0_6, x0_7⟩ : Loaf), (⟨x0_2, (⟨x0_8, x0_9, x0_10⟩ : Rack), x0_11, x0_12, x0_13⟩ : Book), x0_14⟩ : Bakery), x0_15))
noncomputable def impl_RunActs_l0 (k : Nat) : Nat → Bakery → (List Deed) → Int → (List Int) → (List Event) → Int → Int → Int → Int → Int → Int → Int → Int → Int → Int → Int → Int → (List Int) → Option (Bakery × (List Int))
 | 0, b, acts, x0_0, x0_1, x0_2, x0_3, x0_4, x0_5, x0_6, x0_7, x0_8, x0_9, x0_10, x0_11, x0_12, x0_13, x0_14, x0_15 => impl_RunActs_s0 k b acts (fun _ _ _ _ _ _ _ _ _ _ _ _ _ _ _ _ => none) x0_0 x0_1 x0_2 x0_3 x0_4 x0_5 x0_6 x0_7 x0_8 x0_9 x0_10 x0_11 x0_12 x0_13 x0_14 x0_15
 | m + 1, b, acts, x0_0, x0_1, x0_2, x0_3, x0_4, x0_5, x0_6, x0_7, x0_8, x0_9, x0_10, x0_11, x0_12, x0_13, x0_14, x0_15 => impl_RunActs_s0 k b acts (impl_RunActs_l0 k m b acts) x0_0 x0_1 x0_2 x0_3 x0_4 x0_5 x0_6 x0_7 x0_8 x0_9 x0_10 x0_11 x0_12 x0_13 x0_14 x0_15
noncomputable def impl_RunActs_m (k : Nat) (J0 : Bakery → (List Deed) → Int → (List Int) → (List Event) → Int → Int → Int → Int → Int → Int → Int → Int → Int → Int → Int → Int → (List Int) → Option (Bakery × (List Int))) (b : Bakery) (acts : (List Deed)) : Option (Bakery × (List Int)) :=
 (impl_bakeryCopy k b).bind fun y1 =>
 (impl_BakeryOk k b).bind fun y2 =>
  cond (!y2)
   (some (y1, []))
   (cond (decide ((40 : Int) < ((acts).length : Int)))
    (some (y1, []))
    (J0 b acts 0 y1.Stock.Grams y1.Book.Events y1.Dough.Water y1.Dough.Salt y1.Dough.Leaven y1.Loaf.Weight y1.Loaf.Loss y1.Book.Rack.Fresh y1.Book.Rack.Day y1.Book.Rack.Old y1.Book.Baked y1.Book.Sold y1.Book.Thrown y1.Money ([])))
noncomputable def impl_RunActs (k : Nat) (b : Bakery) (acts : (List Deed)) : Option (Bakery × (List Int)) := impl_RunActs_m k (impl_RunActs_l0 k k) b acts
noncomputable def impl_RunActs_v : Nat → List Nat := fun t => match t with | 5 => [4, 5, 6, 7, 24, 25, 26] | _ => []
noncomputable def impl_RunActs_O (k : Nat) : Oracle := ofL [(11, impl_DoAct_x k), (13, impl_BakeryOk_x k), (42, impl_bakeryCopy_x k)]
theorem impl_RunActs_Ok (k : Nat) : OkO (Ct Try.prog) (impl_RunActs_O k) := okO_cons (impl_DoAct_ok k) (okO_cons (impl_BakeryOk_ok k) (okO_cons (impl_bakeryCopy_ok k) (okO_nil)))
noncomputable def impl_RunActs_A (b : Bakery) (acts : (List Deed)) : Pk := ⟨[(.ag [(.sl 0), (.v (.int .i64 b.Dough.Water)), (.v (.int .i64 b.Dough.Salt)), (.v (.int .i64 b.Dough.Leaven)), (.v (.int .i64 b.Loaf.Weight)), (.v (.int .i64 b.Loaf.Loss)), (.sl 1), (.v (.int .i64 b.Book.Rack.Fresh)), (.v (.int .i64 b.Book.Rack.Day)), (.v (.int .i64 b.Book.Rack.Old)), (.v (.int .i64 b.Book.Baked)), (.v (.int .i64 b.Book.Sold)), (.v (.int .i64 b.Book.Thrown)), (.v (.int .i64 b.Money))]), (.sc (.sl 2))], [(.row false K.ki64 b.Stock.Grams), (.row false K.k_impl_Event b.Book.Events), (.row false K.k_impl_Act acts)]⟩
noncomputable def impl_RunActs_d : Rs → Option (Bakery × (List Int))
 | ⟨(.tp [(.ag [(.sl 3), (.v (.int .i64 r2)), (.v (.int .i64 r3)), (.v (.int .i64 r4)), (.v (.int .i64 r5)), (.v (.int .i64 r6)), (.sl 4), (.v (.int .i64 r8)), (.v (.int .i64 r9)), (.v (.int .i64 r10)), (.v (.int .i64 r11)), (.v (.int .i64 r12)), (.v (.int .i64 r13)), (.v (.int .i64 r14))]), (.sc (.sl 5))]), [.dead, .dead, .dead, (.row true K.ki64 r1), (.row true K.k_impl_Event r7), (.row true K.ki64 r15)]⟩ => some ((⟨(⟨r1⟩ : Stock), (⟨r2, r3, r4⟩ : Dough), (⟨r5, r6⟩ : Loaf), (⟨r7, (⟨r8, r9, r10⟩ : Rack), r11, r12, r13⟩ : Book), r14⟩ : Bakery), r15)
 | _ => none
theorem impl_RunActs_i {r : Rs} {y : Bakery × (List Int)} (h : impl_RunActs_d r = some y) : r = ⟨(.tp [(.ag [(.sl 3), (.v (.int .i64 y.1.Dough.Water)), (.v (.int .i64 y.1.Dough.Salt)), (.v (.int .i64 y.1.Dough.Leaven)), (.v (.int .i64 y.1.Loaf.Weight)), (.v (.int .i64 y.1.Loaf.Loss)), (.sl 4), (.v (.int .i64 y.1.Book.Rack.Fresh)), (.v (.int .i64 y.1.Book.Rack.Day)), (.v (.int .i64 y.1.Book.Rack.Old)), (.v (.int .i64 y.1.Book.Baked)), (.v (.int .i64 y.1.Book.Sold)), (.v (.int .i64 y.1.Book.Thrown)), (.v (.int .i64 y.1.Money))]), (.sc (.sl 5))]), [.dead, .dead, .dead, (.row true K.ki64 y.1.Stock.Grams), (.row true K.k_impl_Event y.1.Book.Events), (.row true K.ki64 y.2)]⟩ := by
 unfold impl_RunActs_d at h; split at h
 · cases h; rfl
 · cases h
noncomputable def impl_RunActs_h0 (k m : Nat) (b : Bakery) (acts : (List Deed)) (x0_0 : Int) (x0_1 : (List Int)) (x0_2 : (List Event)) (x0_3 : Int) (x0_4 : Int) (x0_5 : Int) (x0_6 : Int) (x0_7 : Int) (x0_8 : Int) (x0_9 : Int) (x0_10 : Int) (x0_11 : Int) (x0_12 : Int) (x0_13 : Int) (x0_14 : Int) (x0_15 : (List Int)) : Option (Bakery × (List Int)) := hdAt env (impl_RunActs_O k) impl_RunActs_v Try.f24 3 (fun r => impl_RunActs_d (r.fin 3 [K.ki64])) [1, 1, 1, 0, 1, 0] k m ⟨tmF [4, 5, 6, 7, 24, 25, 26] [(.a (.sc (.bp 5 0))), (.a (.sc .nl)), (.a (.sc (.bp 8 0))), (.a (.sc (.sl 9))), (.a (.sc (.sl 2))), (.a (.sc (.v (.int .i64 ((acts).length : Int))))), (.a (.sc (.v (.int .i64 x0_0))))], blF [(.row false K.ki64 b.Stock.Grams), (.row false K.k_impl_Event b.Book.Events), (.row false K.k_impl_Act acts), (.row true K.ki64 []), (.row true K.k_impl_Event []), (.box true [(.sl 3), (.v (.int .i64 0)), (.v (.int .i64 0)), (.v (.int .i64 0)), (.v (.int .i64 0)), (.v (.int .i64 0)), (.sl 4), (.v (.int .i64 0)), (.v (.int .i64 0)), (.v (.int .i64 0)), (.v (.int .i64 0)), (.v (.int .i64 0)), (.v (.int .i64 0)), (.v (.int .i64 0))]), (.row true K.ki64 x0_1), (.row true K.k_impl_Event x0_2), (.box true [(.sl 6), (.v (.int .i64 x0_3)), (.v (.int .i64 x0_4)), (.v (.int .i64 x0_5)), (.v (.int .i64 x0_6)), (.v (.int .i64 x0_7)), (.sl 7), (.v (.int .i64 x0_8)), (.v (.int .i64 x0_9)), (.v (.int .i64 x0_10)), (.v (.int .i64 x0_11)), (.v (.int .i64 x0_12)), (.v (.int .i64 x0_13)), (.v (.int .i64 x0_14))]), (.row true K.ki64 x0_15)]⟩
theorem impl_RunActs_z0 (k : Nat) (b : Bakery) (acts : (List Deed)) (x0_0 : Int) (x0_1 : (List Int)) (x0_2 : (List Event)) (x0_3 : Int) (x0_4 : Int) (x0_5 : Int) (x0_6 : Int) (x0_7 : Int) (x0_8 : Int) (x0_9 : Int) (x0_10 : Int) (x0_11 : Int) (x0_12 : Int) (x0_13 : Int) (x0_14 : Int) (x0_15 : (List Int)) : impl_RunActs_h0 k 0 b acts x0_0 x0_1 x0_2 x0_3 x0_4 x0_5 x0_6 x0_7 x0_8 x0_9 x0_10 x0_11 x0_12 x0_13 x0_14 x0_15 = impl_RunActs_s0 k b acts (fun _ _ _ _ _ _ _ _ _ _ _ _ _ _ _ _ => none) x0_0 x0_1 x0_2 x0_3 x0_4 x0_5 x0_6 x0_7 x0_8 x0_9 x0_10 x0_11 x0_12 x0_13 x0_14 x0_15 := by kernel_rfl
theorem impl_RunActs_g0 (k : Nat) (H : St → Option (Bakery × (List Int))) (b : Bakery) (acts : (List Deed)) (x0_0 : Int) (x0_1 : (List Int)) (x0_2 : (List Event)) (x0_3 : Int) (x0_4 : Int) (x0_5 : Int) (x0_6 : Int) (x0_7 : Int) (x0_8 : Int) (x0_9 : Int) (x0_10 : Int) (x0_11 : Int) (x0_12 : Int) (x0_13 : Int) (x0_14 : Int) (x0_15 : (List Int)) : rnd env (impl_RunActs_O k) impl_RunActs_v Try.f24 3 (fun r => impl_RunActs_d (r.fin 3 [K.ki64])) [1, 1, 1, 0, 1, 0] k H ⟨tmF [4, 5, 6, 7, 24, 25, 26] [(.a (.sc (.bp 5 0))), (.a (.sc .nl)), (.a (.sc (.bp 8 0))), (.a (.sc (.sl 9))), (.a (.sc (.sl 2))), (.a (.sc (.v (.int .i64 ((acts).length : Int))))), (.a (.sc (.v (.int .i64 x0_0))))], blF [(.row false K.ki64 b.Stock.Grams), (.row false K.k_impl_Event b.Book.Events), (.row false K.k_impl_Act acts), (.row true K.ki64 []), (.row true K.k_impl_Event []), (.box true [(.sl 3), (.v (.int .i64 0)), (.v (.int .i64 0)), (.v (.int .i64 0)), (.v (.int .i64 0)), (.v (.int .i64 0)), (.sl 4), (.v (.int .i64 0)), (.v (.int .i64 0)), (.v (.int .i64 0)), (.v (.int .i64 0)), (.v (.int .i64 0)), (.v (.int .i64 0)), (.v (.int .i64 0))]), (.row true K.ki64 x0_1), (.row true K.k_impl_Event x0_2), (.box true [(.sl 6), (.v (.int .i64 x0_3)), (.v (.int .i64 x0_4)), (.v (.int .i64 x0_5)), (.v (.int .i64 x0_6)), (.v (.int .i64 x0_7)), (.sl 7), (.v (.int .i64 x0_8)), (.v (.int .i64 x0_9)), (.v (.int .i64 x0_10)), (.v (.int .i64 x0_11)), (.v (.int .i64 x0_12)), (.v (.int .i64 x0_13)), (.v (.int .i64 x0_14))]), (.row true K.ki64 x0_15)]⟩ = impl_RunActs_s0 k b acts (fun x0_0 x0_1 x0_2 x0_3 x0_4 x0_5 x0_6 x0_7 x0_8 x0_9 x0_10 x0_11 x0_12 x0_13 x0_14 x0_15 => H ⟨tmF [4, 5, 6, 7, 24, 25, 26] [(.a (.sc (.bp 5 0))), (.a (.sc .nl)), (.a (.sc (.bp 8 0))), (.a (.sc (.sl 9))), (.a (.sc (.sl 2))), (.a (.sc (.v (.int .i64 ((acts).length : Int))))), (.a (.sc (.v (.int .i64 x0_0))))], blF [(.row false K.ki64 b.Stock.Grams), (.row false K.k_impl_Event b.Book.Events), (.row false K.k_impl_Act acts), (.row true K.ki64 []), (.row true K.k_impl_Event []), (.box true [(.sl 3), (.v (.int .i64 0)), (.v (.int .i64 0)), (.v (.int .i64 0)), (.v (.int .i64 0)), (.v (.int .i64 0)), (.sl 4), (.v (.int .i64 0)), (.v (.int .i64 0)), (.v (.int .i64 0)), (.v (.int .i64 0)), (.v (.int .i64 0)), (.v (.int .i64 0)), (.v (.int .i64 0))]), (.row true K.ki64 x0_1), (.row true K.k_impl_Event x0_2), (.box true [(.sl 6), (.v (.int .i64 x0_3)), (.v (.int .i64 x0_4)), (.v (.int .i64 x0_5)), (.v (.int .i64 x0_6)), (.v (.int .i64 x0_7)), (.sl 7), (.v (.int .i64 x0_8)), (.v (.int .i64 x0_9)), (.v (.int .i64 x0_10)), (.v (.int .i64 x0_11)), (.v (.int .i64 x0_12)), (.v (.int .i64 x0_13)), (.v (.int .i64 x0_14))]), (.row true K.ki64 x0_15)]⟩) x0_0 x0_1 x0_2 x0_3 x0_4 x0_5 x0_6 x0_7 x0_8 x0_9 x0_10 x0_11 x0_12 x0_13 x0_14 x0_15 := by kernel_rfl
theorem impl_RunActs_n0 (k m : Nat) (b : Bakery) (acts : (List Deed)) (x0_0 : Int) (x0_1 : (List Int)) (x0_2 : (List Event)) (x0_3 : Int) (x0_4 : Int) (x0_5 : Int) (x0_6 : Int) (x0_7 : Int) (x0_8 : Int) (x0_9 : Int) (x0_10 : Int) (x0_11 : Int) (x0_12 : Int) (x0_13 : Int) (x0_14 : Int) (x0_15 : (List Int)) : impl_RunActs_h0 k (m + 1) b acts x0_0 x0_1 x0_2 x0_3 x0_4 x0_5 x0_6 x0_7 x0_8 x0_9 x0_10 x0_11 x0_12 x0_13 x0_14 x0_15 = impl_RunActs_s0 k b acts (impl_RunActs_h0 k m b acts) x0_0 x0_1 x0_2 x0_3 x0_4 x0_5 x0_6 x0_7 x0_8 x0_9 x0_10 x0_11 x0_12 x0_13 x0_14 x0_15 := (hdAt_succ _ _ _ _ _ _ _ _ _ _).trans (impl_RunActs_g0 k _ b acts x0_0 x0_1 x0_2 x0_3 x0_4 x0_5 x0_6 x0_7 x0_8 x0_9 x0_10 x0_11 x0_12 x0_13 x0_14 x0_15)
theorem impl_RunActs_q0 (k : Nat) : ∀ m, impl_RunActs_h0 k m = impl_RunActs_l0 k m := by
 intro m
 induction m with
 | zero => funext b acts x0_0 x0_1 x0_2 x0_3 x0_4 x0_5 x0_6 x0_7 x0_8 x0_9 x0_10 x0_11 x0_12 x0_13 x0_14 x0_15; rw [impl_RunActs_z0]; rfl
 | succ m ih => funext b acts x0_0 x0_1 x0_2 x0_3 x0_4 x0_5 x0_6 x0_7 x0_8 x0_9 x0_10 x0_11 x0_12 x0_13 x0_14 x0_15; rw [impl_RunActs_n0, ih]; rfl
theorem impl_RunActs_e (k : Nat) (b : Bakery) (acts : (List Deed)) : callF env (impl_RunActs_O k) impl_RunActs_v Try.f24 (k + 1) (impl_RunActs_A b acts) (fun r => impl_RunActs_d (r.fin 3 [K.ki64])) = impl_RunActs k b acts := by
 have e : callF env (impl_RunActs_O k) impl_RunActs_v Try.f24 (k + 1) (impl_RunActs_A b acts) (fun r => impl_RunActs_d (r.fin 3 [K.ki64])) = impl_RunActs_m k (impl_RunActs_h0 k k) b acts := by kernel_rfl
 rw [e, impl_RunActs_q0]; rfl
noncomputable def impl_RunActs_x (k : Nat) : Ent1 := fun A R Q => match A with
 | ⟨[(.ag [(.sl 0), (.v (.int .i64 a2)), (.v (.int .i64 a3)), (.v (.int .i64 a4)), (.v (.int .i64 a5)), (.v (.int .i64 a6)), (.sl 1), (.v (.int .i64 a8)), (.v (.int .i64 a9)), (.v (.int .i64 a10)), (.v (.int .i64 a11)), (.v (.int .i64 a12)), (.v (.int .i64 a13)), (.v (.int .i64 a14))]), (.sc (.sl 2))], [(.row false K.ki64 a1), (.row false K.k_impl_Event a7), (.row false K.k_impl_Act a15)]⟩ => (impl_RunActs k (⟨(⟨a1⟩ : Stock), (⟨a2, a3, a4⟩ : Dough), (⟨a5, a6⟩ : Loaf), (⟨a7, (⟨a8, a9, a10⟩ : Rack), a11, a12, a13⟩ : Book), a14⟩ : Bakery) a15).bind fun y => Q ⟨(.tp [(.ag [(.sl 3), (.v (.int .i64 y.1.Dough.Water)), (.v (.int .i64 y.1.Dough.Salt)), (.v (.int .i64 y.1.Dough.Leaven)), (.v (.int .i64 y.1.Loaf.Weight)), (.v (.int .i64 y.1.Loaf.Loss)), (.sl 4), (.v (.int .i64 y.1.Book.Rack.Fresh)), (.v (.int .i64 y.1.Book.Rack.Day)), (.v (.int .i64 y.1.Book.Rack.Old)), (.v (.int .i64 y.1.Book.Baked)), (.v (.int .i64 y.1.Book.Sold)), (.v (.int .i64 y.1.Book.Thrown)), (.v (.int .i64 y.1.Money))]), (.sc (.sl 5))]), [.dead, .dead, .dead, (.row true K.ki64 y.1.Stock.Grams), (.row true K.k_impl_Event y.1.Book.Events), (.row true K.ki64 y.2)]⟩
 | _ => none
theorem impl_RunActs_ok (k : Nat) : OkE Try.prog 24 (impl_RunActs_x k) := by
 intro A R Q x h
 unfold impl_RunActs_x at h
 split at h
 · obtain ⟨y, hy, hK⟩ := Option.bind_eq_some_iff.1 h
   obtain ⟨r, hr, hd⟩ := callF_ok envOk (impl_RunActs_Ok k) follows Try.func24 (by kernel_rfl) ((impl_RunActs_e k _ _).trans hy)
   exact ⟨_, impl_RunActs_i hd ▸ hr.fin [K.ki64], hK⟩
 · cases h
end Go.Proofs.YtlhcphoojiemmaaX
