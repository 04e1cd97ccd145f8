/- What functions of the program compute, as functions of numbers and lists, and that they do. (The file is written by wip/x/vxp.py of this repository.) -/
import Derived.Test.YtlhcphoojiemmaaF5
namespace Go.Proofs.YtlhcphoojiemmaaX
open Go Go.Proofs
set_option linter.unusedVariables false
set_option maxRecDepth 100000
/-! ### spec.l38Enter: function 90 -/
noncomputable def spec_l38Enter (k : Nat)  (b : Bakery) (e : Event) (money : Int) : Option (Bakery × Bool) :=
 (spec_l38Copy k b).bind fun y1 =>
 (spec_BakeryOk k b).bind fun y2 =>
  cond (!y2)
   (some (y1, false))
   ((spec_Enter k b.Book e).bind fun y3 =>
    cond (!y3.2)
     ((spec_l38Copy k b).bind fun y5 =>
      some (y5, false))
     ((spec_BakeryOk k (⟨y1.Stock, y1.Dough, y1.Loaf, y3.1, (wr (b.Money + money))⟩ : Bakery)).bind fun y4 =>
      cond (!y4)
       ((spec_l38Copy k b).bind fun y6 =>
        some (y6, false))
       (some ((⟨y1.Stock, y1.Dough, y1.Loaf, y3.1, (wr (b.Money + money))⟩ : Bakery), true))))
noncomputable def spec_l38Enter_v : Nat → List Nat := fun t => match t with | _ => []
noncomputable def spec_l38Enter_O (k : Nat) : Oracle := ofL [(102, spec_Enter_x k), (37, spec_BakeryOk_x k), (43, spec_l38Copy_x k)]
theorem spec_l38Enter_Ok (k : Nat) : OkO (Ct Try.prog) (spec_l38Enter_O k) := okO_cons (spec_Enter_ok k) (okO_cons (spec_BakeryOk_ok k) (okO_cons (spec_l38Copy_ok k) (okO_nil)))
noncomputable def spec_l38Enter_A (b : Bakery) (e : Event) (money : Int) : Pk := ⟨[(.ag [(.sl 0), (.v (.int .i64 b.Dough.Water)), (.v (.int .i64 b.Dough.Salt)), (.v (.int .i64 b.Dough.Leaven)), (.v (.int .i64 b.Loaf.Weight)), (.v (.int .i64 b.Loaf.Loss)), (.sl 1), (.v (.int .i64 b.Book.Rack.Fresh)), (.v (.int .i64 b.Book.Rack.Day)), (.v (.int .i64 b.Book.Rack.Old)), (.v (.int .i64 b.Book.Baked)), (.v (.int .i64 b.Book.Sold)), (.v (.int .i64 b.Book.Thrown)), (.v (.int .i64 b.Money))]), (.ag [(.v (.int .i64 e.Kind)), (.v (.int .i64 e.Loaves))]), (.sc (.v (.int .i64 money)))], [(.row false K.ki64 b.Stock.Grams), (.row false K.k_impl_Event b.Book.Events)]⟩
noncomputable def spec_l38Enter_d : Rs → Option (Bakery × Bool)
 | ⟨(.tp [(.ag [(.sl 2), (.v (.int .i64 r2)), (.v (.int .i64 r3)), (.v (.int .i64 r4)), (.v (.int .i64 r5)), (.v (.int .i64 r6)), (.sl 3), (.v (.int .i64 r8)), (.v (.int .i64 r9)), (.v (.int .i64 r10)), (.v (.int .i64 r11)), (.v (.int .i64 r12)), (.v (.int .i64 r13)), (.v (.int .i64 r14))]), (.sc (.v (.bool r15)))]), [.dead, .dead, (.row true K.ki64 r1), (.row true K.k_impl_Event r7)]⟩ => some ((⟨(⟨r1⟩ : Stock), (⟨r2, r3, r4⟩ : Dough), (⟨r5, r6⟩ : Loaf), (⟨r7, (⟨r8, r9, r10⟩ : Rack), r11, r12, r13⟩ : Book), r14⟩ : Bakery), r15)
 | _ => none
theorem spec_l38Enter_i {r : Rs} {y : Bakery × Bool} (h : spec_l38Enter_d r = some y) : r = ⟨(.tp [(.ag [(.sl 2), (.v (.int .i64 y.1.Dough.Water)), (.v (.int .i64 y.1.Dough.Salt)), (.v (.int .i64 y.1.Dough.Leaven)), (.v (.int .i64 y.1.Loaf.Weight)), (.v (.int .i64 y.1.Loaf.Loss)), (.sl 3), (.v (.int .i64 y.1.Book.Rack.Fresh)), (.v (.int .i64 y.1.Book.Rack.Day)), (.v (.int .i64 y.1.Book.Rack.Old)), (.v (.int .i64 y.1.Book.Baked)), (.v (.int .i64 y.1.Book.Sold)), (.v (.int .i64 y.1.Book.Thrown)), (.v (.int .i64 y.1.Money))]), (.sc (.v (.bool y.2)))]), [.dead, .dead, (.row true K.ki64 y.1.Stock.Grams), (.row true K.k_impl_Event y.1.Book.Events)]⟩ := by
 unfold spec_l38Enter_d at h; split at h
 · cases h; rfl
 · cases h
theorem spec_l38Enter_e (k : Nat) (b : Bakery) (e : Event) (money : Int) : callF env (spec_l38Enter_O k) spec_l38Enter_v Try.f90 (k + 1) (spec_l38Enter_A b e money) (fun r => spec_l38Enter_d (r.fin 2 [])) = spec_l38Enter k b e money := by kernel_rfl
noncomputable def spec_l38Enter_x (k : Nat) : Ent1 := fun A R Q => match A with
 | ⟨[(.ag [(.sl 0), (.v (.int .i64 a2)), (.v (.int .i64 a3)), (.v (.int .i64 a4)), (.v (.int .i64 a5)), (.v (.int .i64 a6)), (.sl 1), (.v (.int .i64 a8)), (.v (.int .i64 a9)), (.v (.int .i64 a10)), (.v (.int .i64 a11)), (.v (.int .i64 a12)), (.v (.int .i64 a13)), (.v (.int .i64 a14))]), (.ag [(.v (.int .i64 a15)), (.v (.int .i64 a16))]), (.sc (.v (.int .i64 a17)))], [(.row false K.ki64 a1), (.row false K.k_impl_Event a7)]⟩ => (spec_l38Enter k (⟨(⟨a1⟩ : Stock), (⟨a2, a3, a4⟩ : Dough), (⟨a5, a6⟩ : Loaf), (⟨a7, (⟨a8, a9, a10⟩ : Rack), a11, a12, a13⟩ : Book), a14⟩ : Bakery) (⟨a15, a16⟩ : Event) a17).bind fun y => Q ⟨(.tp [(.ag [(.sl 2), (.v (.int .i64 y.1.Dough.Water)), (.v (.int .i64 y.1.Dough.Salt)), (.v (.int .i64 y.1.Dough.Leaven)), (.v (.int .i64 y.1.Loaf.Weight)), (.v (.int .i64 y.1.Loaf.Loss)), (.sl 3), (.v (.int .i64 y.1.Book.Rack.Fresh)), (.v (.int .i64 y.1.Book.Rack.Day)), (.v (.int .i64 y.1.Book.Rack.Old)), (.v (.int .i64 y.1.Book.Baked)), (.v (.int .i64 y.1.Book.Sold)), (.v (.int .i64 y.1.Book.Thrown)), (.v (.int .i64 y.1.Money))]), (.sc (.v (.bool y.2)))]), [.dead, .dead, (.row true K.ki64 y.1.Stock.Grams), (.row true K.k_impl_Event y.1.Book.Events)]⟩
 | _ => none
theorem spec_l38Enter_ok (k : Nat) : OkE Try.prog 90 (spec_l38Enter_x k) := by
 intro A R Q x h
 unfold spec_l38Enter_x at h
 split at h
 · obtain ⟨y, hy, hK⟩ := Option.bind_eq_some_iff.1 h
   obtain ⟨r, hr, hd⟩ := callF_ok envOk (spec_l38Enter_Ok k) follows Try.func90 (by kernel_rfl) ((spec_l38Enter_e k _ _ _).trans hy)
   exact ⟨_, spec_l38Enter_i hd ▸ hr.fin [], hK⟩
 · cases h
/-! ### spec.BakeLoaves: function 45 -/
noncomputable def spec_BakeLoaves (k : Nat)  (b : Bakery) (loaves : Int) : Option (Bakery × Bool) :=
 (spec_FlourNeeded k b loaves).bind fun y1 =>
 cond (decide ((y1 : Int) < 0))
  ((spec_l38Copy k b).bind fun y2 =>
   some (y2, false))
  ((spec_TakeFor k b.Stock b.Dough y1).bind fun y3 =>
   (spec_l38Enter k b (⟨1, loaves⟩ : Event) 0).bind fun y4 =>
    cond (!y3.2)
     ((spec_l38Copy k b).bind fun y5 =>
      some (y5, false))
     (cond (!y4.2)
      ((spec_l38Copy k b).bind fun y6 =>
       some (y6, false))
      (some ((⟨y3.1, y4.1.Dough, y4.1.Loaf, y4.1.Book, y4.1.Money⟩ : Bakery), true))))
noncomputable def spec_BakeLoaves_v : Nat → List Nat := fun t => match t with | _ => []
noncomputable def spec_BakeLoaves_O (k : Nat) : Oracle := ofL [(10, spec_FlourNeeded_x k), (20, spec_TakeFor_x k), (43, spec_l38Copy_x k), (90, spec_l38Enter_x k)]
theorem spec_BakeLoaves_Ok (k : Nat) : OkO (Ct Try.prog) (spec_BakeLoaves_O k) := okO_cons (spec_FlourNeeded_ok k) (okO_cons (spec_TakeFor_ok k) (okO_cons (spec_l38Copy_ok k) (okO_cons (spec_l38Enter_ok k) (okO_nil))))
noncomputable def spec_BakeLoaves_A (b : Bakery) (loaves : Int) : Pk := ⟨[(.ag [(.sl 0), (.v (.int .i64 b.Dough.Water)), (.v (.int .i64 b.Dough.Salt)), (.v (.int .i64 b.Dough.Leaven)), (.v (.int .i64 b.Loaf.Weight)), (.v (.int .i64 b.Loaf.Loss)), (.sl 1), (.v (.int .i64 b.Book.Rack.Fresh)), (.v (.int .i64 b.Book.Rack.Day)), (.v (.int .i64 b.Book.Rack.Old)), (.v (.int .i64 b.Book.Baked)), (.v (.int .i64 b.Book.Sold)), (.v (.int .i64 b.Book.Thrown)), (.v (.int .i64 b.Money))]), (.sc (.v (.int .i64 loaves)))], [(.row false K.ki64 b.Stock.Grams), (.row false K.k_impl_Event b.Book.Events)]⟩
noncomputable def spec_BakeLoaves_d : Rs → Option (Bakery × Bool)
 | ⟨(.tp [(.ag [(.sl 2), (.v (.int .i64 r2)), (.v (.int .i64 r3)), (.v (.int .i64 r4)), (.v (.int .i64 r5)), (.v (.int .i64 r6)), (.sl 3), (.v (.int .i64 r8)), (.v (.int .i64 r9)), (.v (.int .i64 r10)), (.v (.int .i64 r11)), (.v (.int .i64 r12)), (.v (.int .i64 r13)), (.v (.int .i64 r14))]), (.sc (.v (.bool r15)))]), [.dead, .dead, (.row true K.ki64 r1), (.row true K.k_impl_Event r7)]⟩ => some ((⟨(⟨r1⟩ : Stock), (⟨r2, r3, r4⟩ : Dough), (⟨r5, r6⟩ : Loaf), (⟨r7, (⟨r8, r9, r10⟩ : Rack), r11, r12, r13⟩ : Book), r14⟩ : Bakery), r15)
 | _ => none
theorem spec_BakeLoaves_i {r : Rs} {y : Bakery × Bool} (h : spec_BakeLoaves_d r = some y) : r = ⟨(.tp [(.ag [(.sl 2), (.v (.int .i64 y.1.Dough.Water)), (.v (.int .i64 y.1.Dough.Salt)), (.v (.int .i64 y.1.Dough.Leaven)), (.v (.int .i64 y.1.Loaf.Weight)), (.v (.int .i64 y.1.Loaf.Loss)), (.sl 3), (.v (.int .i64 y.1.Book.Rack.Fresh)), (.v (.int .i64 y.1.Book.Rack.Day)), (.v (.int .i64 y.1.Book.Rack.Old)), (.v (.int .i64 y.1.Book.Baked)), (.v (.int .i64 y.1.Book.Sold)), (.v (.int .i64 y.1.Book.Thrown)), (.v (.int .i64 y.1.Money))]), (.sc (.v (.bool y.2)))]), [.dead, .dead, (.row true K.ki64 y.1.Stock.Grams), (.row true K.k_impl_Event y.1.Book.Events)]⟩ := by
 unfold spec_BakeLoaves_d at h; split at h
 · cases h; rfl
 · cases h
theorem spec_BakeLoaves_e (k : Nat) (b : Bakery) (loaves : Int) : callF env (spec_BakeLoaves_O k) spec_BakeLoaves_v Try.f45 (k + 1) (spec_BakeLoaves_A b loaves) (fun r => spec_BakeLoaves_d (r.fin 2 [])) = spec_BakeLoaves k b loaves := by kernel_rfl
noncomputable def spec_BakeLoaves_x (k : Nat) : Ent1 := fun A R Q => match A with
 | ⟨[(.ag [(.sl 0), (.v (.int .i64 a2)), (.v (.int .i64 a3)), (.v (.int .i64 a4)), (.v (.int .i64 a5)), (.v (.int .i64 a6)), (.sl 1), (.v (.int .i64 a8)), (.v (.int .i64 a9)), (.v (.int .i64 a10)), (.v (.int .i64 a11)), (.v (.int .i64 a12)), (.v (.int .i64 a13)), (.v (.int .i64 a14))]), (.sc (.v (.int .i64 a15)))], [(.row false K.ki64 a1), (.row false K.k_impl_Event a7)]⟩ => (spec_BakeLoaves k (⟨(⟨a1⟩ : Stock), (⟨a2, a3, a4⟩ : Dough), (⟨a5, a6⟩ : Loaf), (⟨a7, (⟨a8, a9, a10⟩ : Rack), a11, a12, a13⟩ : Book), a14⟩ : Bakery) a15).bind fun y => Q ⟨(.tp [(.ag [(.sl 2), (.v (.int .i64 y.1.Dough.Water)), (.v (.int .i64 y.1.Dough.Salt)), (.v (.int .i64 y.1.Dough.Leaven)), (.v (.int .i64 y.1.Loaf.Weight)), (.v (.int .i64 y.1.Loaf.Loss)), (.sl 3), (.v (.int .i64 y.1.Book.Rack.Fresh)), (.v (.int .i64 y.1.Book.Rack.Day)), (.v (.int .i64 y.1.Book.Rack.Old)), (.v (.int .i64 y.1.Book.Baked)), (.v (.int .i64 y.1.Book.Sold)), (.v (.int .i64 y.1.Book.Thrown)), (.v (.int .i64 y.1.Money))]), (.sc (.v (.bool y.2)))]), [.dead, .dead, (.row true K.ki64 y.1.Stock.Grams), (.row true K.k_impl_Event y.1.Book.Events)]⟩
 | _ => none
theorem spec_BakeLoaves_ok (k : Nat) : OkE Try.prog 45 (spec_BakeLoaves_x k) := by
 intro A R Q x h
 unfold spec_BakeLoaves_x at h
 split at h
 · obtain ⟨y, hy, hK⟩ := Option.bind_eq_some_iff.1 h
   obtain ⟨r, hr, hd⟩ := callF_ok envOk (spec_BakeLoaves_Ok k) follows Try.func45 (by kernel_rfl) ((spec_BakeLoaves_e k _ _).trans hy)
   exact ⟨_, spec_BakeLoaves_i hd ▸ hr.fin [], hK⟩
 · cases h
/-! ### spec.l39Bool: function 49 -/
noncomputable def spec_l39Bool (k : Nat)  (ok : Bool) : Option (Int) :=
 cond ok
 (some 1)
 (some 0)
noncomputable def spec_l39Bool_v : Nat → List Nat := fun t => match t with | _ => []
noncomputable def spec_l39Bool_O (k : Nat) : Oracle := ofL []
theorem spec_l39Bool_Ok (k : Nat) : OkO (Ct Try.prog) (spec_l39Bool_O k) := okO_nil
noncomputable def spec_l39Bool_A (ok : Bool) : Pk := ⟨[(.sc (.v (.bool ok)))], []⟩
noncomputable def spec_l39Bool_d : Rs → Option (Int)
 | ⟨(.a (.sc (.v (.int .i64 r1)))), []⟩ => some r1
 | _ => none
theorem spec_l39Bool_i {r : Rs} {y : Int} (h : spec_l39Bool_d r = some y) : r = ⟨(.a (.sc (.v (.int .i64 y)))), []⟩ := by
 unfold spec_l39Bool_d at h; split at h
 · cases h; rfl
 · cases h
theorem spec_l39Bool_e (k : Nat) (ok : Bool) : callF env (spec_l39Bool_O k) spec_l39Bool_v Try.f49 (k + 1) (spec_l39Bool_A ok) (fun r => spec_l39Bool_d (r.fin 0 [])) = spec_l39Bool k ok := by kernel_rfl
noncomputable def spec_l39Bool_x (k : Nat) : Ent1 := fun A R Q => match A with
 | ⟨[(.sc (.v (.bool a1)))], []⟩ => (spec_l39Bool k a1).bind fun y => Q ⟨(.a (.sc (.v (.int .i64 y)))), []⟩
 | _ => none
theorem spec_l39Bool_ok (k : Nat) : OkE Try.prog 49 (spec_l39Bool_x k) := by
 intro A R Q x h
 unfold spec_l39Bool_x at h
 split at h
 · obtain ⟨y, hy, hK⟩ := Option.bind_eq_some_iff.1 h
   obtain ⟨r, hr, hd⟩ := callF_ok envOk (spec_l39Bool_Ok k) follows Try.func49 (by kernel_rfl) ((spec_l39Bool_e k _).trans hy)
   exact ⟨_, spec_l39Bool_i hd ▸ hr.fin [], hK⟩
 · cases h
/-! ### spec.SellLoaves: function 46 -/
noncomputable def spec_SellLoaves (k : Nat)  (b : Bakery) (loaves : Int) (cheap : Bool) : Option (Bakery × Bool) :=
 (spec_l01In k loaves 0 1000).bind fun y1 =>
 cond (!y1)
  ((spec_l38Copy k b).bind fun y2 =>
   some (y2, false))
  (cond cheap
   ((spec_l38Enter k b (⟨3, loaves⟩ : Event) (wr ((2 : Int) * loaves))).bind fun y3 =>
    some (y3.1, y3.2))
   ((spec_l38Enter k b (⟨2, loaves⟩ : Event) (wr ((4 : Int) * loaves))).bind fun y4 =>
    some (y4.1, y4.2)))
noncomputable def spec_SellLoaves_v : Nat → List Nat := fun t => match t with | _ => []
noncomputable def spec_SellLoaves_O (k : Nat) : Oracle := ofL [(38, spec_l01In_x k), (43, spec_l38Copy_x k), (90, spec_l38Enter_x k)]
theorem spec_SellLoaves_Ok (k : Nat) : OkO (Ct Try.prog) (spec_SellLoaves_O k) := okO_cons (spec_l01In_ok k) (okO_cons (spec_l38Copy_ok k) (okO_cons (spec_l38Enter_ok k) (okO_nil)))
noncomputable def spec_SellLoaves_A (b : Bakery) (loaves : Int) (cheap : Bool) : Pk := ⟨[(.ag [(.sl 0), (.v (.int .i64 b.Dough.Water)), (.v (.int .i64 b.Dough.Salt)), (.v (.int .i64 b.Dough.Leaven)), (.v (.int .i64 b.Loaf.Weight)), (.v (.int .i64 b.Loaf.Loss)), (.sl 1), (.v (.int .i64 b.Book.Rack.Fresh)), (.v (.int .i64 b.Book.Rack.Day)), (.v (.int .i64 b.Book.Rack.Old)), (.v (.int .i64 b.Book.Baked)), (.v (.int .i64 b.Book.Sold)), (.v (.int .i64 b.Book.Thrown)), (.v (.int .i64 b.Money))]), (.sc (.v (.int .i64 loaves))), (.sc (.v (.bool cheap)))], [(.row false K.ki64 b.Stock.Grams), (.row false K.k_impl_Event b.Book.Events)]⟩
noncomputable def spec_SellLoaves_d : Rs → Option (Bakery × Bool)
 | ⟨(.tp [(.ag [(.sl 2), (.v (.int .i64 r2)), (.v (.int .i64 r3)), (.v (.int .i64 r4)), (.v (.int .i64 r5)), (.v (.int .i64 r6)), (.sl 3), (.v (.int .i64 r8)), (.v (.int .i64 r9)), (.v (.int .i64 r10)), (.v (.int .i64 r11)), (.v (.int .i64 r12)), (.v (.int .i64 r13)), (.v (.int .i64 r14))]), (.sc (.v (.bool r15)))]), [.dead, .dead, (.row true K.ki64 r1), (.row true K.k_impl_Event r7)]⟩ => some ((⟨(⟨r1⟩ : Stock), (⟨r2, r3, r4⟩ : Dough), (⟨r5, r6⟩ : Loaf), (⟨r7, (⟨r8, r9, r10⟩ : Rack), r11, r12, r13⟩ : Book), r14⟩ : Bakery), r15)
 | _ => none
theorem spec_SellLoaves_i {r : Rs} {y : Bakery × Bool} (h : spec_SellLoaves_d r = some y) : r = ⟨(.tp [(.ag [(.sl 2), (.v (.int .i64 y.1.Dough.Water)), (.v (.int .i64 y.1.Dough.Salt)), (.v (.int .i64 y.1.Dough.Leaven)), (.v (.int .i64 y.1.Loaf.Weight)), (.v (.int .i64 y.1.Loaf.Loss)), (.sl 3), (.v (.int .i64 y.1.Book.Rack.Fresh)), (.v (.int .i64 y.1.Book.Rack.Day)), (.v (.int .i64 y.1.Book.Rack.Old)), (.v (.int .i64 y.1.Book.Baked)), (.v (.int .i64 y.1.Book.Sold)), (.v (.int .i64 y.1.Book.Thrown)), (.v (.int .i64 y.1.Money))]), (.sc (.v (.bool y.2)))]), [.dead, .dead, (.row true K.ki64 y.1.Stock.Grams), (.row true K.k_impl_Event y.1.Book.Events)]⟩ := by
 unfold spec_SellLoaves_d at h; split at h
 · cases h; rfl
 · cases h
theorem spec_SellLoaves_e (k : Nat) (b : Bakery) (loaves : Int) (cheap : Bool) : callF env (spec_SellLoaves_O k) spec_SellLoaves_v Try.f46 (k + 1) (spec_SellLoaves_A b loaves cheap) (fun r => spec_SellLoaves_d (r.fin 2 [])) = spec_SellLoaves k b loaves cheap := by kernel_rfl
noncomputable def spec_SellLoaves_x (k : Nat) : Ent1 := fun A R Q => match A with
 | ⟨[(.ag [(.sl 0), (.v (.int .i64 a2)), (.v (.int .i64 a3)), (.v (.int .i64 a4)), (.v (.int .i64 a5)), (.v (.int .i64 a6)), (.sl 1), (.v (.int .i64 a8)), (.v (.int .i64 a9)), (.v (.int .i64 a10)), (.v (.int .i64 a11)), (.v (.int .i64 a12)), (.v (.int .i64 a13)), (.v (.int .i64 a14))]), (.sc (.v (.int .i64 a15))), (.sc (.v (.bool a16)))], [(.row false K.ki64 a1), (.row false K.k_impl_Event a7)]⟩ => (spec_SellLoaves k (⟨(⟨a1⟩ : Stock), (⟨a2, a3, a4⟩ : Dough), (⟨a5, a6⟩ : Loaf), (⟨a7, (⟨a8, a9, a10⟩ : Rack), a11, a12, a13⟩ : Book), a14⟩ : Bakery) a15 a16).bind fun y => Q ⟨(.tp [(.ag [(.sl 2), (.v (.int .i64 y.1.Dough.Water)), (.v (.int .i64 y.1.Dough.Salt)), (.v (.int .i64 y.1.Dough.Leaven)), (.v (.int .i64 y.1.Loaf.Weight)), (.v (.int .i64 y.1.Loaf.Loss)), (.sl 3), (.v (.int .i64 y.1.Book.Rack.Fresh)), (.v (.int .i64 y.1.Book.Rack.Day)), (.v (.int .i64 y.1.Book.Rack.Old)), (.v (.int .i64 y.1.Book.Baked)), (.v (.int .i64 y.1.Book.Sold)), (.v (.int .i64 y.1.Book.Thrown)), (.v (.int .i64 y.1.Money))]), (.sc (.v (.bool y.2)))]), [.dead, .dead, (.row true K.ki64 y.1.Stock.Grams), (.row true K.k_impl_Event y.1.Book.Events)]⟩
 | _ => none
theorem spec_SellLoaves_ok (k : Nat) : OkE Try.prog 46 (spec_SellLoaves_x k) := by
 intro A R Q x h
 unfold spec_SellLoaves_x at h
 split at h
 · obtain ⟨y, hy, hK⟩ := Option.bind_eq_some_iff.1 h
   obtain ⟨r, hr, hd⟩ := callF_ok envOk (spec_SellLoaves_Ok k) follows Try.func46 (by kernel_rfl) ((spec_SellLoaves_e k _ _ _).trans hy)
   exact ⟨_, spec_SellLoaves_i hd ▸ hr.fin [], hK⟩
 · cases h
/-! ### spec.NightOver: function 47 -/
noncomputable def spec_NightOver (k : Nat)  (b : Bakery) : Option (Bakery × Bool) :=
 (spec_l38Enter k b (⟨4, 0⟩ : Event) 0).bind fun y1 =>
 some (y1.1, y1.2)
noncomputable def spec_NightOver_v : Nat → List Nat := fun t => match t with | _ => []
noncomputable def spec_NightOver_O (k : Nat) : Oracle := ofL [(90, spec_l38Enter_x k)]
theorem spec_NightOver_Ok (k : Nat) : OkO (Ct Try.prog) (spec_NightOver_O k) := okO_cons (spec_l38Enter_ok k) (okO_nil)
noncomputable def spec_NightOver_A (b : Bakery) : Pk := ⟨[(.ag [(.sl 0), (.v (.int .i64 b.Dough.Water)), (.v (.int .i64 b.Dough.Salt)), (.v (.int .i64 b.Dough.Leaven)), (.v (.int .i64 b.Loaf.Weight)), (.v (.int .i64 b.Loaf.Loss)), (.sl 1), (.v (.int .i64 b.Book.Rack.Fresh)), (.v (.int .i64 b.Book.Rack.Day)), (.v (.int .i64 b.Book.Rack.Old)), (.v (.int .i64 b.Book.Baked)), (.v (.int .i64 b.Book.Sold)), (.v (.int .i64 b.Book.Thrown)), (.v (.int .i64 b.Money))])], [(.row false K.ki64 b.Stock.Grams), (.row false K.k_impl_Event b.Book.Events)]⟩
noncomputable def spec_NightOver_d : Rs → Option (Bakery × Bool)
 | ⟨(.tp [(.ag [(.sl 2), (.v (.int .i64 r2)), (.v (.int .i64 r3)), (.v (.int .i64 r4)), (.v (.int .i64 r5)), (.v (.int .i64 r6)), (.sl 3), (.v (.int .i64 r8)), (.v (.int .i64 r9)), (.v (.int .i64 r10)), (.v (.int .i64 r11)), (.v (.int .i64 r12)), (.v (.int .i64 r13)), (.v (.int .i64 r14))]), (.sc (.v (.bool r15)))]), [.dead, .dead, (.row true K.ki64 r1), (.row true K.k_impl_Event r7)]⟩ => some ((⟨(⟨r1⟩ : Stock), (⟨r2, r3, r4⟩ : Dough), (⟨r5, r6⟩ : Loaf), (⟨r7, (⟨r8, r9, r10⟩ : Rack), r11, r12, r13⟩ : Book), r14⟩ : Bakery), r15)
 | _ => none
theorem spec_NightOver_i {r : Rs} {y : Bakery × Bool} (h : spec_NightOver_d r = some y) : r = ⟨(.tp [(.ag [(.sl 2), (.v (.int .i64 y.1.Dough.Water)), (.v (.int .i64 y.1.Dough.Salt)), (.v (.int .i64 y.1.Dough.Leaven)), (.v (.int .i64 y.1.Loaf.Weight)), (.v (.int .i64 y.1.Loaf.Loss)), (.sl 3), (.v (.int .i64 y.1.Book.Rack.Fresh)), (.v (.int .i64 y.1.Book.Rack.Day)), (.v (.int .i64 y.1.Book.Rack.Old)), (.v (.int .i64 y.1.Book.Baked)), (.v (.int .i64 y.1.Book.Sold)), (.v (.int .i64 y.1.Book.Thrown)), (.v (.int .i64 y.1.Money))]), (.sc (.v (.bool y.2)))]), [.dead, .dead, (.row true K.ki64 y.1.Stock.Grams), (.row true K.k_impl_Event y.1.Book.Events)]⟩ := by
 unfold spec_NightOver_d at h; split at h
 · cases h; rfl
 · cases h
theorem spec_NightOver_e (k : Nat) (b : Bakery) : callF env (spec_NightOver_O k) spec_NightOver_v Try.f47 (k + 1) (spec_NightOver_A b) (fun r => spec_NightOver_d (r.fin 2 [])) = spec_NightOver k b := by kernel_rfl
noncomputable def spec_NightOver_x (k : Nat) : Ent1 := fun A R Q => match A with
 | ⟨[(.ag [(.sl 0), (.v (.int .i64 a2)), (.v (.int .i64 a3)), (.v (.int .i64 a4)), (.v (.int .i64 a5)), (.v (.int .i64 a6)), (.sl 1), (.v (.int .i64 a8)), (.v (.int .i64 a9)), (.v (.int .i64 a10)), (.v (.int .i64 a11)), (.v (.int .i64 a12)), (.v (.int .i64 a13)), (.v (.int .i64 a14))])], [(.row false K.ki64 a1), (.row false K.k_impl_Event a7)]⟩ => (spec_NightOver k (⟨(⟨a1⟩ : Stock), (⟨a2, a3, a4⟩ : Dough), (⟨a5, a6⟩ : Loaf), (⟨a7, (⟨a8, a9, a10⟩ : Rack), a11, a12, a13⟩ : Book), a14⟩ : Bakery)).bind fun y => Q ⟨(.tp [(.ag [(.sl 2), (.v (.int .i64 y.1.Dough.Water)), (.v (.int .i64 y.1.Dough.Salt)), (.v (.int .i64 y.1.Dough.Leaven)), (.v (.int .i64 y.1.Loaf.Weight)), (.v (.int .i64 y.1.Loaf.Loss)), (.sl 3), (.v (.int .i64 y.1.Book.Rack.Fresh)), (.v (.int .i64 y.1.Book.Rack.Day)), (.v (.int .i64 y.1.Book.Rack.Old)), (.v (.int .i64 y.1.Book.Baked)), (.v (.int .i64 y.1.Book.Sold)), (.v (.int .i64 y.1.Book.Thrown)), (.v (.int .i64 y.1.Money))]), (.sc (.v (.bool y.2)))]), [.dead, .dead, (.row true K.ki64 y.1.Stock.Grams), (.row true K.k_impl_Event y.1.Book.Events)]⟩
 | _ => none
theorem spec_NightOver_ok (k : Nat) : OkE Try.prog 47 (spec_NightOver_x k) := by
 intro A R Q x h
 unfold spec_NightOver_x at h
 split at h
 · obtain ⟨y, hy, hK⟩ := Option.bind_eq_some_iff.1 h
   obtain ⟨r, hr, hd⟩ := callF_ok envOk (spec_NightOver_Ok k) follows Try.func47 (by kernel_rfl) ((spec_NightOver_e k _).trans hy)
   exact ⟨_, spec_NightOver_i hd ▸ hr.fin [], hK⟩
 · cases h
/-! ### spec.FillStock: function 91 -/
noncomputable def spec_FillStock (k : Nat)  (s : Stock) (k_ : Int) (grams : Int) : Option (Stock × Bool) :=
 (spec_l36Copy k s).bind fun y1 =>
 (spec_StoreOk k s).bind fun y2 =>
  cond (!y2)
   (some (y1, false))
   ((spec_l01In k k_ 0 3).bind fun y3 =>
    cond (!y3)
     (some (y1, false))
     ((spec_l01In k grams 0 1000000).bind fun y4 =>
      cond (!y4)
       (some (y1, false))
       (if 0 ≤ (k_ : Int) ∧ (k_ : Int) < ((s.Grams).length : Int) then
        cond (decide ((1000000 : Int) < (wr ((s.Grams.getD (Int.toNat k_) 0) + grams))))
        (some (y1, false))
        (if 0 ≤ (k_ : Int) ∧ (k_ : Int) < ((s.Grams).length : Int) then
        if 0 ≤ (k_ : Int) ∧ (k_ : Int) < ((y1.Grams).length : Int) then
        some ((⟨(y1.Grams.set (Int.toNat k_) (wr ((s.Grams.getD (Int.toNat k_) 0) + grams)))⟩ : Stock), true) else none else none) else none)))
noncomputable def spec_FillStock_v : Nat → List Nat := fun t => match t with | _ => []
noncomputable def spec_FillStock_O (k : Nat) : Oracle := ofL [(38, spec_l01In_x k), (62, spec_l36Copy_x k), (64, spec_StoreOk_x k)]
theorem spec_FillStock_Ok (k : Nat) : OkO (Ct Try.prog) (spec_FillStock_O k) := okO_cons (spec_l01In_ok k) (okO_cons (spec_l36Copy_ok k) (okO_cons (spec_StoreOk_ok k) (okO_nil)))
noncomputable def spec_FillStock_A (s : Stock) (k_ : Int) (grams : Int) : Pk := ⟨[(.ag [(.sl 0)]), (.sc (.v (.int .i64 k_))), (.sc (.v (.int .i64 grams)))], [(.row false K.ki64 s.Grams)]⟩
noncomputable def spec_FillStock_d : Rs → Option (Stock × Bool)
 | ⟨(.tp [(.ag [(.sl 1)]), (.sc (.v (.bool r2)))]), [.dead, (.row true K.ki64 r1)]⟩ => some ((⟨r1⟩ : Stock), r2)
 | _ => none
theorem spec_FillStock_i {r : Rs} {y : Stock × Bool} (h : spec_FillStock_d r = some y) : r = ⟨(.tp [(.ag [(.sl 1)]), (.sc (.v (.bool y.2)))]), [.dead, (.row true K.ki64 y.1.Grams)]⟩ := by
 unfold spec_FillStock_d at h; split at h
 · cases h; rfl
 · cases h
theorem spec_FillStock_e (k : Nat) (s : Stock) (k_ : Int) (grams : Int) : callF env (spec_FillStock_O k) spec_FillStock_v Try.f91 (k + 1) (spec_FillStock_A s k_ grams) (fun r => spec_FillStock_d (r.fin 1 [])) = spec_FillStock k s k_ grams := by kernel_rfl
noncomputable def spec_FillStock_x (k : Nat) : Ent1 := fun A R Q => match A with
 | ⟨[(.ag [(.sl 0)]), (.sc (.v (.int .i64 a2))), (.sc (.v (.int .i64 a3)))], [(.row false K.ki64 a1)]⟩ => (spec_FillStock k (⟨a1⟩ : Stock) a2 a3).bind fun y => Q ⟨(.tp [(.ag [(.sl 1)]), (.sc (.v (.bool y.2)))]), [.dead, (.row true K.ki64 y.1.Grams)]⟩
 | _ => none
theorem spec_FillStock_ok (k : Nat) : OkE Try.prog 91 (spec_FillStock_x k) := by
 intro A R Q x h
 unfold spec_FillStock_x at h
 split at h
 · obtain ⟨y, hy, hK⟩ := Option.bind_eq_some_iff.1 h
   obtain ⟨r, hr, hd⟩ := callF_ok envOk (spec_FillStock_Ok k) follows Try.func91 (by kernel_rfl) ((spec_FillStock_e k _ _ _).trans hy)
   exact ⟨_, spec_FillStock_i hd ▸ hr.fin [], hK⟩
 · cases h
/-! ### spec.BuyStock: function 48 -/
noncomputable def spec_BuyStock (k : Nat)  (b : Bakery) (k_ : Int) (grams : Int) : Option (Bakery × Bool) :=
 (spec_l38Copy k b).bind fun y1 =>
 (spec_FillStock k b.Stock k_ grams).bind fun y2 =>
  (spec_BakeryOk k b).bind fun y3 =>
   cond (!y3)
    (some (y1, false))
    (cond (!y2.2)
     (some (y1, false))
     (if (100 : Int) ≠ 0 then
      (spec_BakeryOk k (⟨y2.1, y1.Dough, y1.Loaf, y1.Book, (wr (b.Money - (wr (Int.tdiv (wr (grams + 99)) 100))))⟩ : Bakery)).bind fun y4 =>
       cond (!y4)
        ((spec_l38Copy k b).bind fun y5 =>
        some (y5, false))
        (some ((⟨y2.1, y1.Dough, y1.Loaf, y1.Book, (wr (b.Money - (wr (Int.tdiv (wr (grams + 99)) 100))))⟩ : Bakery), true)) else none))
noncomputable def spec_BuyStock_v : Nat → List Nat := fun t => match t with | _ => []
noncomputable def spec_BuyStock_O (k : Nat) : Oracle := ofL [(37, spec_BakeryOk_x k), (43, spec_l38Copy_x k), (91, spec_FillStock_x k)]
theorem spec_BuyStock_Ok (k : Nat) : OkO (Ct Try.prog) (spec_BuyStock_O k) := okO_cons (spec_BakeryOk_ok k) (okO_cons (spec_l38Copy_ok k) (okO_cons (spec_FillStock_ok k) (okO_nil)))
noncomputable def spec_BuyStock_A (b : Bakery) (k_ : Int) (grams : Int) : Pk := ⟨[(.ag [(.sl 0), (.v (.int .i64 b.Dough.Water)), (.v (.int .i64 b.Dough.Salt)), (.v (.int .i64 b.Dough.Leaven)), (.v (.int .i64 b.Loaf.Weight)), (.v (.int .i64 b.Loaf.Loss)), (.sl 1), (.v (.int .i64 b.Book.Rack.Fresh)), (.v (.int .i64 b.Book.Rack.Day)), (.v (.int .i64 b.Book.Rack.Old)), (.v (.int .i64 b.Book.Baked)), (.v (.int .i64 b.Book.Sold)), (.v (.int .i64 b.Book.Thrown)), (.v (.int .i64 b.Money))]), (.sc (.v (.int .i64 k_))), (.sc (.v (.int .i64 grams)))], [(.row false K.ki64 b.Stock.Grams), (.row false K.k_impl_Event b.Book.Events)]⟩
noncomputable def spec_BuyStock_d : Rs → Option (Bakery × Bool)
 | ⟨(.tp [(.ag [(.sl 2), (.v (.int .i64 r2)), (.v (.int .i64 r3)), (.v (.int .i64 r4)), (.v (.int .i64 r5)), (.v (.int .i64 r6)), (.sl 3), (.v (.int .i64 r8)), (.v (.int .i64 r9)), (.v (.int .i64 r10)), (.v (.int .i64 r11)), (.v (.int .i64 r12)), (.v (.int .i64 r13)), (.v (.int .i64 r14))]), (.sc (.v (.bool r15)))]), [.dead, .dead, (.row true K.ki64 r1), (.row true K.k_impl_Event r7)]⟩ => some ((⟨(⟨r1⟩ : Stock), (⟨r2, r3, r4⟩ : Dough), (⟨r5, r6⟩ : Loaf), (⟨r7, (⟨r8, r9, r10⟩ : Rack), r11, r12, r13⟩ : Book), r14⟩ : Bakery), r15)
 | _ => none
theorem spec_BuyStock_i {r : Rs} {y : Bakery × Bool} (h : spec_BuyStock_d r = some y) : r = ⟨(.tp [(.ag [(.sl 2), (.v (.int .i64 y.1.Dough.Water)), (.v (.int .i64 y.1.Dough.Salt)), (.v (.int .i64 y.1.Dough.Leaven)), (.v (.int .i64 y.1.Loaf.Weight)), (.v (.int .i64 y.1.Loaf.Loss)), (.sl 3), (.v (.int .i64 y.1.Book.Rack.Fresh)), (.v (.int .i64 y.1.Book.Rack.Day)), (.v (.int .i64 y.1.Book.Rack.Old)), (.v (.int .i64 y.1.Book.Baked)), (.v (.int .i64 y.1.Book.Sold)), (.v (.int .i64 y.1.Book.Thrown)), (.v (.int .i64 y.1.Money))]), (.sc (.v (.bool y.2)))]), [.dead, .dead, (.row true K.ki64 y.1.Stock.Grams), (.row true K.k_impl_Event y.1.Book.Events)]⟩ := by
 unfold spec_BuyStock_d at h; split at h
 · cases h; rfl
 · cases h
theorem spec_BuyStock_e (k : Nat) (b : Bakery) (k_ : Int) (grams : Int) : callF env (spec_BuyStock_O k) spec_BuyStock_v Try.f48 (k + 1) (spec_BuyStock_A b k_ grams) (fun r => spec_BuyStock_d (r.fin 2 [])) = spec_BuyStock k b k_ grams := by kernel_rfl
noncomputable def spec_BuyStock_x (k : Nat) : Ent1 := fun A R Q => match A with
 | ⟨[(.ag [(.sl 0), (.v (.int .i64 a2)), (.v (.int .i64 a3)), (.v (.int .i64 a4)), (.v (.int .i64 a5)), (.v (.int .i64 a6)), (.sl 1), (.v (.int .i64 a8)), (.v (.int .i64 a9)), (.v (.int .i64 a10)), (.v (.int .i64 a11)), (.v (.int .i64 a12)), (.v (.int .i64 a13)), (.v (.int .i64 a14))]), (.sc (.v (.int .i64 a15))), (.sc (.v (.int .i64 a16)))], [(.row false K.ki64 a1), (.row false K.k_impl_Event a7)]⟩ => (spec_BuyStock k (⟨(⟨a1⟩ : Stock), (⟨a2, a3, a4⟩ : Dough), (⟨a5, a6⟩ : Loaf), (⟨a7, (⟨a8, a9, a10⟩ : Rack), a11, a12, a13⟩ : Book), a14⟩ : Bakery) a15 a16).bind fun y => Q ⟨(.tp [(.ag [(.sl 2), (.v (.int .i64 y.1.Dough.Water)), (.v (.int .i64 y.1.Dough.Salt)), (.v (.int .i64 y.1.Dough.Leaven)), (.v (.int .i64 y.1.Loaf.Weight)), (.v (.int .i64 y.1.Loaf.Loss)), (.sl 3), (.v (.int .i64 y.1.Book.Rack.Fresh)), (.v (.int .i64 y.1.Book.Rack.Day)), (.v (.int .i64 y.1.Book.Rack.Old)), (.v (.int .i64 y.1.Book.Baked)), (.v (.int .i64 y.1.Book.Sold)), (.v (.int .i64 y.1.Book.Thrown)), (.v (.int .i64 y.1.Money))]), (.sc (.v (.bool y.2)))]), [.dead, .dead, (.row true K.ki64 y.1.Stock.Grams), (.row true K.k_impl_Event y.1.Book.Events)]⟩
 | _ => none
theorem spec_BuyStock_ok (k : Nat) : OkE Try.prog 48 (spec_BuyStock_x k) := by
 intro A R Q x h
 unfold spec_BuyStock_x at h
 split at h
 · obtain ⟨y, hy, hK⟩ := Option.bind_eq_some_iff.1 h
   obtain ⟨r, hr, hd⟩ := callF_ok envOk (spec_BuyStock_Ok k) follows Try.func48 (by kernel_rfl) ((spec_BuyStock_e k _ _ _).trans hy)
   exact ⟨_, spec_BuyStock_i hd ▸ hr.fin [], hK⟩
 · cases h
/-! ### spec.DoAct: function 12 -/
noncomputable def spec_DoAct (k : Nat)  (b : Bakery) (a : Deed) : Option (Bakery × Int) :=
 (spec_l38Copy k b).bind fun y1 =>
 (spec_BakeryOk k b).bind fun y2 =>
  cond (!y2)
   (some (y1, (-1)))
   ((spec_ActOk k a).bind fun y3 =>
    cond (!y3)
     (some (y1, (-1)))
     (cond (decide ((a.Kind : Int) = 1))
      ((spec_BakeLoaves k b a.A).bind fun y4 =>
       (spec_l39Bool k y4.2).bind fun y5 =>
        some (y4.1, y5))
      (cond (decide ((a.Kind : Int) = 2))
       ((spec_SellLoaves k b a.A false).bind fun y6 =>
        (spec_l39Bool k y6.2).bind fun y7 =>
        some (y6.1, y7))
       (cond (decide ((a.Kind : Int) = 3))
        ((spec_SellLoaves k b a.A true).bind fun y8 =>
        (spec_l39Bool k y8.2).bind fun y9 =>
        some (y8.1, y9))
        (cond (decide ((a.Kind : Int) = 4))
        ((spec_NightOver k b).bind fun y10 =>
        (spec_l39Bool k y10.2).bind fun y11 =>
        some (y10.1, y11))
        (cond (decide ((a.Kind : Int) = 5))
        ((spec_BuyStock k b a.A a.B).bind fun y12 =>
        (spec_l39Bool k y12.2).bind fun y13 =>
        some (y12.1, y13))
        (cond (decide ((a.Kind : Int) = 6))
        ((spec_FlourNeeded k b a.A).bind fun y14 =>
        some (y1, y14))
        ((spec_l39Bool k false).bind fun y15 =>
        some (y1, y15)))))))))
noncomputable def spec_DoAct_v : Nat → List Nat := fun t => match t with | _ => []
noncomputable def spec_DoAct_O (k : Nat) : Oracle := ofL [(10, spec_FlourNeeded_x k), (37, spec_BakeryOk_x k), (43, spec_l38Copy_x k), (44, spec_ActOk_x k), (45, spec_BakeLoaves_x k), (46, spec_SellLoaves_x k), (47, spec_NightOver_x k), (48, spec_BuyStock_x k), (49, spec_l39Bool_x k)]
theorem spec_DoAct_Ok (k : Nat) : OkO (Ct Try.prog) (spec_DoAct_O k) := okO_cons (spec_FlourNeeded_ok k) (okO_cons (spec_BakeryOk_ok k) (okO_cons (spec_l38Copy_ok k) (okO_cons (spec_ActOk_ok k) (okO_cons (spec_BakeLoaves_ok k) (okO_cons (spec_SellLoaves_ok k) (okO_cons (spec_NightOver_ok k) (okO_cons (spec_BuyStock_ok k) (okO_cons (spec_l39Bool_ok k) (okO_nil)))))))))
noncomputable def spec_DoAct_A (b : Bakery) (a : Deed) : Pk := ⟨[(.ag [(.sl 0), (.v (.int .i64 b.Dough.Water)), (.v (.int .i64 b.Dough.Salt)), (.v (.int .i64 b.Dough.Leaven)), (.v (.int .i64 b.Loaf.Weight)), (.v (.int .i64 b.Loaf.Loss)), (.sl 1), (.v (.int .i64 b.Book.Rack.Fresh)), (.v (.int .i64 b.Book.Rack.Day)), (.v (.int .i64 b.Book.Rack.Old)), (.v (.int .i64 b.Book.Baked)), (.v (.int .i64 b.Book.Sold)), (.v (.int .i64 b.Book.Thrown)), (.v (.int .i64 b.Money))]), (.ag [(.v (.int .i64 a.Kind)), (.v (.int .i64 a.A)), (.v (.int .i64 a.B))])], [(.row false K.ki64 b.Stock.Grams), (.row false K.k_impl_Event b.Book.Events)]⟩
noncomputable def spec_DoAct_d : Rs → Option (Bakery × Int)
 | ⟨(.tp [(.ag [(.sl 2), (.v (.int .i64 r2)), (.v (.int .i64 r3)), (.v (.int .i64 r4)), (.v (.int .i64 r5)), (.v (.int .i64 r6)), (.sl 3), (.v (.int .i64 r8)), (.v (.int .i64 r9)), (.v (.int .i64 r10)), (.v (.int .i64 r11)), (.v (.int .i64 r12)), (.v (.int .i64 r13)), (.v (.int .i64 r14))]), (.sc (.v (.int .i64 r15)))]), [.dead, .dead, (.row true K.ki64 r1), (.row true K.k_impl_Event r7)]⟩ => some ((⟨(⟨r1⟩ : Stock), (⟨r2, r3, r4⟩ : Dough), (⟨r5, r6⟩ : Loaf), (⟨r7, (⟨r8, r9, r10⟩ : Rack), r11, r12, r13⟩ : Book), r14⟩ : Bakery), r15)
 | _ => none
theorem spec_DoAct_i {r : Rs} {y : Bakery × Int} (h : spec_DoAct_d r = some y) : r = ⟨(.tp [(.ag [(.sl 2), (.v (.int .i64 y.1.Dough.Water)), (.v (.int .i64 y.1.Dough.Salt)), (.v (.int .i64 y.1.Dough.Leaven)), (.v (.int .i64 y.1.Loaf.Weight)), (.v (.int .i64 y.1.Loaf.Loss)), (.sl 3), (.v (.int .i64 y.1.Book.Rack.Fresh)), (.v (.int .i64 y.1.Book.Rack.Day)), (.v (.int .i64 y.1.Book.Rack.Old)), (.v (.int .i64 y.1.Book.Baked)), (.v (.int .i64 y.1.Book.Sold)), (.v (.int .i64 y.1.Book.Thrown)), (.v (.int .i64 y.1.Money))]), (.sc (.v (.int .i64 y.2)))]), [.dead, .dead, (.row true K.ki64 y.1.Stock.Grams), (.row true K.k_impl_Event y.1.Book.Events)]⟩ := by
 unfold spec_DoAct_d at h; split at h
 · cases h; rfl
 · cases h
theorem spec_DoAct_e (k : Nat) (b : Bakery) (a : Deed) : callF env (spec_DoAct_O k) spec_DoAct_v Try.f12 (k + 1) (spec_DoAct_A b a) (fun r => spec_DoAct_d (r.fin 2 [])) = spec_DoAct k b a := by kernel_rfl
noncomputable def spec_DoAct_x (k : Nat) : Ent1 := fun A R Q => match A with
 | ⟨[(.ag [(.sl 0), (.v (.int .i64 a2)), (.v (.int .i64 a3)), (.v (.int .i64 a4)), (.v (.int .i64 a5)), (.v (.int .i64 a6)), (.sl 1), (.v (.int .i64 a8)), (.v (.int .i64 a9)), (.v (.int .i64 a10)), (.v (.int .i64 a11)), (.v (.int .i64 a12)), (.v (.int .i64 a13)), (.v (.int .i64 a14))]), (.ag [(.v (.int .i64 a15)), (.v (.int .i64 a16)), (.v (.int .i64 a17))])], [(.row false K.ki64 a1), (.row false K.k_impl_Event a7)]⟩ => (spec_DoAct k (⟨(⟨a1⟩ : Stock), (⟨a2, a3, a4⟩ : Dough), (⟨a5, a6⟩ : Loaf), (⟨a7, (⟨a8, a9, a10⟩ : Rack), a11, a12, a13⟩ : Book), a14⟩ : Bakery) (⟨a15, a16, a17⟩ : Deed)).bind fun y => Q ⟨(.tp [(.ag [(.sl 2), (.v (.int .i64 y.1.Dough.Water)), (.v (.int .i64 y.1.Dough.Salt)), (.v (.int .i64 y.1.Dough.Leaven)), (.v (.int .i64 y.1.Loaf.Weight)), (.v (.int .i64 y.1.Loaf.Loss)), (.sl 3), (.v (.int .i64 y.1.Book.Rack.Fresh)), (.v (.int .i64 y.1.Book.Rack.Day)), (.v (.int .i64 y.1.Book.Rack.Old)), (.v (.int .i64 y.1.Book.Baked)), (.v (.int .i64 y.1.Book.Sold)), (.v (.int .i64 y.1.Book.Thrown)), (.v (.int .i64 y.1.Money))]), (.sc (.v (.int .i64 y.2)))]), [.dead, .dead, (.row true K.ki64 y.1.Stock.Grams), (.row true K.k_impl_Event y.1.Book.Events)]⟩
 | _ => none
theorem spec_DoAct_ok (k : Nat) : OkE Try.prog 12 (spec_DoAct_x k) := by
 intro A R Q x h
 unfold spec_DoAct_x at h
 split at h
 · obtain ⟨y, hy, hK⟩ := Option.bind_eq_some_iff.1 h
   obtain ⟨r, hr, hd⟩ := callF_ok envOk (spec_DoAct_Ok k) follows Try.func12 (by kernel_rfl) ((spec_DoAct_e k _ _).trans hy)
   exact ⟨_, spec_DoAct_i hd ▸ hr.fin [], hK⟩
 · cases h
/-! ### laws.sameInts: function 14 -/
noncomputable def laws_sameInts_s0 (k : Nat)  (a : (List Int)) (b : (List Int)) (J : Int → Option (Bool)) (x0_0 : Int) : Option (Bool) :=
 cond (decide ((x0_0 : Int) < ((a).length : Int)))
 (if 0 ≤ (x0_0 : Int) ∧ (x0_0 : Int) < ((a).length : Int) then
  if 0 ≤ (x0_0 : Int) ∧ (x0_0 : Int) < ((b).length : Int) then
   cond (!(decide (((a.getD (Int.toNat x0_0) 0) : Int) = (b.getD (Int.toNat x0_0) 0))))
    (some false)
    (J (wr (x0_0 + 1))) else none else none)
 (some true)
noncomputable def laws_sameInts_l0 (k : Nat) : Nat → (List Int) → (List Int) → Int → Option (Bool)
 | 0, a, b, x0_0 => laws_sameInts_s0 k a b (fun _ => none) x0_0
 | m + 1, a, b, x0_0 => laws_sameInts_s0 k a b (laws_sameInts_l0 k m a b) x0_0
noncomputable def laws_sameInts_m (k : Nat) (J0 : (List Int) → (List Int) → Int → Option (Bool)) (a : (List Int)) (b : (List Int)) : Option (Bool) :=
 cond (!(decide ((((a).length : Int) : Int) = ((b).length : Int))))
 (some false)
 (J0 a b 0)
noncomputable def laws_sameInts (k : Nat) (a : (List Int)) (b : (List Int)) : Option (Bool) := laws_sameInts_m k (laws_sameInts_l0 k k) a b
noncomputable def laws_sameInts_v : Nat → List Nat := fun t => match t with | 4 => [0, 1, 4, 5] | _ => []
noncomputable def laws_sameInts_O (k : Nat) : Oracle := ofL []
theorem laws_sameInts_Ok (k : Nat) : OkO (Ct Try.prog) (laws_sameInts_O k) := okO_nil
noncomputable def laws_sameInts_A (a : (List Int)) (b : (List Int)) : Pk := ⟨[(.sc (.sl 0)), (.sc (.sl 1))], [(.row false K.ki64 a), (.row false K.ki64 b)]⟩
noncomputable def laws_sameInts_d : Rs → Option (Bool)
 | ⟨(.a (.sc (.v (.bool r1)))), [.dead, .dead]⟩ => some r1
 | _ => none
theorem laws_sameInts_i {r : Rs} {y : Bool} (h : laws_sameInts_d r = some y) : r = ⟨(.a (.sc (.v (.bool y)))), [.dead, .dead]⟩ := by
 unfold laws_sameInts_d at h; split at h
 · cases h; rfl
 · cases h
noncomputable def laws_sameInts_h0 (k m : Nat) (a : (List Int)) (b : (List Int)) (x0_0 : Int) : Option (Bool) := hdAt env (laws_sameInts_O k) laws_sameInts_v Try.f14 2 (fun r => laws_sameInts_d (r.fin 2 [])) [1, 1, 0, 1, 0] k m ⟨tmF [0, 1, 4, 5] [(.a (.sc (.sl 0))), (.a (.sc (.sl 1))), (.a (.sc (.v (.bool false)))), (.a (.sc (.v (.int .i64 x0_0))))], blF [(.row false K.ki64 a), (.row false K.ki64 b)]⟩
theorem laws_sameInts_z0 (k : Nat) (a : (List Int)) (b : (List Int)) (x0_0 : Int) : laws_sameInts_h0 k 0 a b x0_0 = laws_sameInts_s0 k a b (fun _ => none) x0_0 := by kernel_rfl
theorem laws_sameInts_g0 (k : Nat) (H : St → Option (Bool)) (a : (List Int)) (b : (List Int)) (x0_0 : Int) : rnd env (laws_sameInts_O k) laws_sameInts_v Try.f14 2 (fun r => laws_sameInts_d (r.fin 2 [])) [1, 1, 0, 1, 0] k H ⟨tmF [0, 1, 4, 5] [(.a (.sc (.sl 0))), (.a (.sc (.sl 1))), (.a (.sc (.v (.bool false)))), (.a (.sc (.v (.int .i64 x0_0))))], blF [(.row false K.ki64 a), (.row false K.ki64 b)]⟩ = laws_sameInts_s0 k a b (fun x0_0 => H ⟨tmF [0, 1, 4, 5] [(.a (.sc (.sl 0))), (.a (.sc (.sl 1))), (.a (.sc (.v (.bool false)))), (.a (.sc (.v (.int .i64 x0_0))))], blF [(.row false K.ki64 a), (.row false K.ki64 b)]⟩) x0_0 := by kernel_rfl
theorem laws_sameInts_n0 (k m : Nat) (a : (List Int)) (b : (List Int)) (x0_0 : Int) : laws_sameInts_h0 k (m + 1) a b x0_0 = laws_sameInts_s0 k a b (laws_sameInts_h0 k m a b) x0_0 := (hdAt_succ _ _ _ _ _ _ _ _ _ _).trans (laws_sameInts_g0 k _ a b x0_0)
theorem laws_sameInts_q0 (k : Nat) : ∀ m, laws_sameInts_h0 k m = laws_sameInts_l0 k m := by
 intro m
 induction m with
 | zero => funext a b x0_0; rw [laws_sameInts_z0]; rfl
 | succ m ih => funext a b x0_0; rw [laws_sameInts_n0, ih]; rfl
theorem laws_sameInts_e (k : Nat) (a : (List Int)) (b : (List Int)) : callF env (laws_sameInts_O k) laws_sameInts_v Try.f14 (k + 1) (laws_sameInts_A a b) (fun r => laws_sameInts_d (r.fin 2 [])) = laws_sameInts k a b := by
 have e : callF env (laws_sameInts_O k) laws_sameInts_v Try.f14 (k + 1) (laws_sameInts_A a b) (fun r => laws_sameInts_d (r.fin 2 [])) = laws_sameInts_m k (laws_sameInts_h0 k k) a b := by kernel_rfl
 rw [e, laws_sameInts_q0]; rfl
noncomputable def laws_sameInts_x (k : Nat) : Ent1 := fun A R Q => match A with
 | ⟨[(.sc (.sl 0)), (.sc (.sl 1))], [(.row false K.ki64 a1), (.row false K.ki64 a2)]⟩ => (laws_sameInts k a1 a2).bind fun y => Q ⟨(.a (.sc (.v (.bool y)))), [.dead, .dead]⟩
 | _ => none
theorem laws_sameInts_ok (k : Nat) : OkE Try.prog 14 (laws_sameInts_x k) := by
 intro A R Q x h
 unfold laws_sameInts_x at h
 split at h
 · obtain ⟨y, hy, hK⟩ := Option.bind_eq_some_iff.1 h
   obtain ⟨r, hr, hd⟩ := callF_ok envOk (laws_sameInts_Ok k) follows Try.func14 (by kernel_rfl) ((laws_sameInts_e k _ _).trans hy)
   exact ⟨_, laws_sameInts_i hd ▸ hr.fin [], hK⟩
 · cases h
/-! ### laws.FnTop: function 3 -/
noncomputable def laws_FnTop_s0 (k : Nat)  (code : (List Int)) (y2 : Bakery × (List Deed)) (J : Int → Int → (List Int) → (List Event) → Int → Int → Int → Int → Int → Int → Int → Int → Int → Int → Int → Int → Option (Bool)) (x0_0 : Int) (x0_1 : Int) (x0_2 : (List Int)) (x0_3 : (List Event)) (x0_4 : Int) (x0_5 : Int) (x0_6 : Int) (x0_7 : Int) (x0_8 : Int) (x0_9 : Int) (x0_10 : Int) (x0_11 : Int) (x0_12 : Int) (x0_13 : Int) (x0_14 : Int) (x0_15 : Int) : Option (Bool) :=
 cond (decide ((x0_1 : Int) < ((y2.2).length : Int)))
 (if 0 ≤ (x0_1 : Int) ∧ (x0_1 : Int) < ((y2.2).length : Int) then
  (spec_FlourNeeded k (⟨(⟨x0_2⟩ : Stock), (⟨x0_4, x0_5, x0_6⟩ : Dough), (⟨x0_7, x0_8⟩ : Loaf), (⟨x0_3, (⟨x0_9, x0_10, x0_11⟩ : Rack), x0_12, x0_13, x0_14⟩ : Book), x0_15⟩ : Bakery) ((y2.2.getD (Int.toNat x0_1) dk_impl_Act).A)).bind fun y12 =>
   (impl_DoAct k (⟨(⟨x0_2⟩ : Stock), (⟨x0_4, x0_5, x0_6⟩ : Dough), (⟨x0_7, x0_8⟩ : Loaf), (⟨x0_3, (⟨x0_9, x0_10, x0_11⟩ : Rack), x0_12, x0_13, x0_14⟩ : Book), x0_15⟩ : Bakery) (y2.2.getD (Int.toNat x0_1) dk_impl_Act)).bind fun y13 =>
    (spec_DoAct k (⟨(⟨x0_2⟩ : Stock), (⟨x0_4, x0_5, x0_6⟩ : Dough), (⟨x0_7, x0_8⟩ : Loaf), (⟨x0_3, (⟨x0_9, x0_10, x0_11⟩ : Rack), x0_12, x0_13, x0_14⟩ : Book), x0_15⟩ : Bakery) (y2.2.getD (Int.toNat x0_1) dk_impl_Act)).bind fun y14 =>
     cond (!(decide ((y13.2 : Int) = y14.2)))
      (some false)
      ((impl_BakeryOk k y13.1).bind fun y15 =>
       cond (!y15)
        (some false)
        (cond (!(decide ((y13.1.Book.Baked : Int) = (wr ((wr ((wr ((wr (y13.1.Book.Sold + y13.1.Book.Thrown)) + y13.1.Book.Rack.Fresh)) + y13.1.Book.Rack.Day)) + y13.1.Book.Rack.Old)))))
        (some false)
        (cond (!((decide ((y13.1.Book.Rack.Fresh : Int) = y14.1.Book.Rack.Fresh) && (decide ((y13.1.Book.Rack.Day : Int) = y14.1.Book.Rack.Day) && decide ((y13.1.Book.Rack.Old : Int) = y14.1.Book.Rack.Old)))))
        (some false)
        (cond (!(decide ((y13.1.Book.Sold : Int) = y14.1.Book.Sold)))
        (some false)
        (cond (!(decide ((((y13.1.Book.Events).length : Int) : Int) = ((y14.1.Book.Events).length : Int))))
        (some false)
        ((laws_sameInts k y13.1.Stock.Grams y14.1.Stock.Grams).bind fun y16 =>
        cond (!y16)
        (some false)
        (cond (decide ((y13.2 : Int) = 1))
        (cond (decide (((y2.2.getD (Int.toNat x0_1) dk_impl_Act).Kind : Int) = 1))
        (if 0 ≤ (0 : Int) ∧ (0 : Int) < ((x0_2).length : Int) then
        cond (decide (((x0_2.getD 0 0) : Int) < y12))
        (some false)
        (cond (!(decide ((y13.1.Book.Baked : Int) = (wr (x0_12 + ((y2.2.getD (Int.toNat x0_1) dk_impl_Act).A))))))
        (some false)
        (if 0 ≤ (0 : Int) ∧ (0 : Int) < ((y13.1.Stock.Grams).length : Int) then
        if 0 ≤ (0 : Int) ∧ (0 : Int) < ((x0_2).length : Int) then
        cond (!(decide (((y13.1.Stock.Grams.getD 0 0) : Int) = (wr ((x0_2.getD 0 0) - y12)))))
        (some false)
        (cond (!(decide ((y13.1.Money : Int) = x0_0)))
        (some false)
        (cond (decide (((y2.2.getD (Int.toNat x0_1) dk_impl_Act).Kind : Int) = 6))
        (cond (!(decide ((y13.2 : Int) = y12)))
        (some false)
        (J x0_0 (wr (x0_1 + 1)) y14.1.Stock.Grams y14.1.Book.Events y14.1.Dough.Water y14.1.Dough.Salt y14.1.Dough.Leaven y14.1.Loaf.Weight y14.1.Loaf.Loss y14.1.Book.Rack.Fresh y14.1.Book.Rack.Day y14.1.Book.Rack.Old y14.1.Book.Baked y14.1.Book.Sold y14.1.Book.Thrown y14.1.Money))
        (J x0_0 (wr (x0_1 + 1)) y14.1.Stock.Grams y14.1.Book.Events y14.1.Dough.Water y14.1.Dough.Salt y14.1.Dough.Leaven y14.1.Loaf.Weight y14.1.Loaf.Loss y14.1.Book.Rack.Fresh y14.1.Book.Rack.Day y14.1.Book.Rack.Old y14.1.Book.Baked y14.1.Book.Sold y14.1.Book.Thrown y14.1.Money))) else none else none)) else none)
        (cond (decide (((y2.2.getD (Int.toNat x0_1) dk_impl_Act).Kind : Int) = 2))
        (cond (!(decide ((y13.1.Money : Int) = (wr (x0_0 + (wr ((4 : Int) * ((y2.2.getD (Int.toNat x0_1) dk_impl_Act).A))))))))
        (some false)
        (cond (decide (((y2.2.getD (Int.toNat x0_1) dk_impl_Act).Kind : Int) = 6))
        (cond (!(decide ((y13.2 : Int) = y12)))
        (some false)
        (J (wr (x0_0 + (wr ((4 : Int) * ((y2.2.getD (Int.toNat x0_1) dk_impl_Act).A))))) (wr (x0_1 + 1)) y14.1.Stock.Grams y14.1.Book.Events y14.1.Dough.Water y14.1.Dough.Salt y14.1.Dough.Leaven y14.1.Loaf.Weight y14.1.Loaf.Loss y14.1.Book.Rack.Fresh y14.1.Book.Rack.Day y14.1.Book.Rack.Old y14.1.Book.Baked y14.1.Book.Sold y14.1.Book.Thrown y14.1.Money))
        (J (wr (x0_0 + (wr ((4 : Int) * ((y2.2.getD (Int.toNat x0_1) dk_impl_Act).A))))) (wr (x0_1 + 1)) y14.1.Stock.Grams y14.1.Book.Events y14.1.Dough.Water y14.1.Dough.Salt y14.1.Dough.Leaven y14.1.Loaf.Weight y14.1.Loaf.Loss y14.1.Book.Rack.Fresh y14.1.Book.Rack.Day y14.1.Book.Rack.Old y14.1.Book.Baked y14.1.Book.Sold y14.1.Book.Thrown y14.1.Money)))
        (cond (decide (((y2.2.getD (Int.toNat x0_1) dk_impl_Act).Kind : Int) = 3))
        (cond (!(decide ((y13.1.Money : Int) = (wr (x0_0 + (wr ((2 : Int) * ((y2.2.getD (Int.toNat x0_1) dk_impl_Act).A))))))))
        (some false)
        (cond (decide (((y2.2.getD (Int.toNat x0_1) dk_impl_Act).Kind : Int) = 6))
        (cond (!(decide ((y13.2 : Int) = y12)))
        (some false)
        (J (wr (x0_0 + (wr ((2 : Int) * ((y2.2.getD (Int.toNat x0_1) dk_impl_Act).A))))) (wr (x0_1 + 1)) y14.1.Stock.Grams y14.1.Book.Events y14.1.Dough.Water y14.1.Dough.Salt y14.1.Dough.Leaven y14.1.Loaf.Weight y14.1.Loaf.Loss y14.1.Book.Rack.Fresh y14.1.Book.Rack.Day y14.1.Book.Rack.Old y14.1.Book.Baked y14.1.Book.Sold y14.1.Book.Thrown y14.1.Money))
        (J (wr (x0_0 + (wr ((2 : Int) * ((y2.2.getD (Int.toNat x0_1) dk_impl_Act).A))))) (wr (x0_1 + 1)) y14.1.Stock.Grams y14.1.Book.Events y14.1.Dough.Water y14.1.Dough.Salt y14.1.Dough.Leaven y14.1.Loaf.Weight y14.1.Loaf.Loss y14.1.Book.Rack.Fresh y14.1.Book.Rack.Day y14.1.Book.Rack.Old y14.1.Book.Baked y14.1.Book.Sold y14.1.Book.Thrown y14.1.Money)))
        (cond (decide (((y2.2.getD (Int.toNat x0_1) dk_impl_Act).Kind : Int) = 5))
        (if (100 : Int) ≠ 0 then
        cond (!(decide ((y13.1.Money : Int) = (wr (x0_0 - (wr (Int.tdiv (wr (((y2.2.getD (Int.toNat x0_1) dk_impl_Act).B) + 99)) 100)))))))
        (some false)
        (cond (decide (((y2.2.getD (Int.toNat x0_1) dk_impl_Act).Kind : Int) = 6))
        (cond (!(decide ((y13.2 : Int) = y12)))
        (some false)
        (J (wr (x0_0 - (wr (Int.tdiv (wr (((y2.2.getD (Int.toNat x0_1) dk_impl_Act).B) + 99)) 100)))) (wr (x0_1 + 1)) y14.1.Stock.Grams y14.1.Book.Events y14.1.Dough.Water y14.1.Dough.Salt y14.1.Dough.Leaven y14.1.Loaf.Weight y14.1.Loaf.Loss y14.1.Book.Rack.Fresh y14.1.Book.Rack.Day y14.1.Book.Rack.Old y14.1.Book.Baked y14.1.Book.Sold y14.1.Book.Thrown y14.1.Money))
        (J (wr (x0_0 - (wr (Int.tdiv (wr (((y2.2.getD (Int.toNat x0_1) dk_impl_Act).B) + 99)) 100)))) (wr (x0_1 + 1)) y14.1.Stock.Grams y14.1.Book.Events y14.1.Dough.Water y14.1.Dough.Salt y14.1.Dough.Leaven y14.1.Loaf.Weight y14.1.Loaf.Loss y14.1.Book.Rack.Fresh y14.1.Book.Rack.Day y14.1.Book.Rack.Old y14.1.Book.Baked y14.1.Book.Sold y14.1.Book.Thrown y14.1.Money)) else none)
        (cond (!(decide ((y13.1.Money : Int) = x0_0)))
        (some false)
        (cond (decide (((y2.2.getD (Int.toNat x0_1) dk_impl_Act).Kind : Int) = 6))
        (cond (!(decide ((y13.2 : Int) = y12)))
        (some false)
        (J x0_0 (wr (x0_1 + 1)) y14.1.Stock.Grams y14.1.Book.Events y14.1.Dough.Water y14.1.Dough.Salt y14.1.Dough.Leaven y14.1.Loaf.Weight y14.1.Loaf.Loss y14.1.Book.Rack.Fresh y14.1.Book.Rack.Day y14.1.Book.Rack.Old y14.1.Book.Baked y14.1.Book.Sold y14.1.Book.Thrown y14.1.Money))
        (J x0_0 (wr (x0_1 + 1)) y14.1.Stock.Grams y14.1.Book.Events y14.1.Dough.Water y14.1.Dough.Salt y14.1.Dough.Leaven y14.1.Loaf.Weight y14.1.Loaf.Loss y14.1.Book.Rack.Fresh y14.1.Book.Rack.Day y14.1.Book.Rack.Old y14.1.Book.Baked y14.1.Book.Sold y14.1.Book.Thrown y14.1.Money)))))))
        (cond (!(decide ((y13.1.Money : Int) = x0_0)))
        (some false)
        (cond (decide (((y2.2.getD (Int.toNat x0_1) dk_impl_Act).Kind : Int) = 6))
        (cond (!(decide ((y13.2 : Int) = y12)))
        (some false)
        (J x0_0 (wr (x0_1 + 1)) y14.1.Stock.Grams y14.1.Book.Events y14.1.Dough.Water y14.1.Dough.Salt y14.1.Dough.Leaven y14.1.Loaf.Weight y14.1.Loaf.Loss y14.1.Book.Rack.Fresh y14.1.Book.Rack.Day y14.1.Book.Rack.Old y14.1.Book.Baked y14.1.Book.Sold y14.1.Book.Thrown y14.1.Money))
        (J x0_0 (wr (x0_1 + 1)) y14.1.Stock.Grams y14.1.Book.Events y14.1.Dough.Water y14.1.Dough.Salt y14.1.Dough.Leaven y14.1.Loaf.Weight y14.1.Loaf.Loss y14.1.Book.Rack.Fresh y14.1.Book.Rack.Day y14.1.Book.Rack.Old y14.1.Book.Baked y14.1.Book.Sold y14.1.Book.Thrown y14.1.Money)))))))))) else none)
 ((impl_BakeryOk k (⟨(⟨x0_2⟩ : Stock), (⟨x0_4, x0_5, x0_6⟩ : Dough), (⟨x0_7, x0_8⟩ : Loaf), (⟨x0_3, (⟨x0_9, x0_10, x0_11⟩ : Rack), x0_12, x0_13, x0_14⟩ : Book), x0_15⟩ : Bakery)).bind fun y10 =>
  cond y10
   ((impl_BookOk k (⟨x0_3, (⟨x0_9, x0_10, x0_11⟩ : Rack), x0_12, x0_13, x0_14⟩ : Book)).bind fun y11 =>
    some y11)
   (some false))
noncomputable def laws_FnTop_l0 (k : Nat) : Nat → (List Int) → Bakery × (List Deed) → Int → Int → (List Int) → (List Event) → Int → Int → Int → Int → Int → Int → Int → Int → Int → Int → Int → Int → Option (Bool)
 | 0, code, y2, x0_0, x0_1, x0_2, x0_3, x0_4, x0_5, x0_6, x0_7, x0_8, x0_9, x0_10, x0_11, x0_12, x0_13, x0_14, x0_15 => laws_FnTop_s0 k code y2 (fun _ _ _ _ _ _ _ _ _ _ _ _ _ _ _ _ => none) x0_0 x0_1 x0_2 x0_3 x0_4 x0_5 x0_6 x0_7 x0_8 x0_9 x0_10 x0_11 x0_12 x0_13 x0_14 x0_15
 | m + 1, code, y2, x0_0, x0_1, x0_2, x0_3, x0_4, x0_5, x0_6, x0_7, x0_8, x0_9, x0_10, x0_11, x0_12, x0_13, x0_14, x0_15 => laws_FnTop_s0 k code y2 (laws_FnTop_l0 k m code y2) x0_0 x0_1 x0_2 x0_3 x0_4 x0_5 x0_6 x0_7 x0_8 x0_9 x0_10 x0_11 x0_12 x0_13 x0_14 x0_15
noncomputable def laws_FnTop_m (k : Nat) (J0 : (List Int) → Bakery × (List Deed) → Int → Int → (List Int) → (List Event) → Int → Int → Int → Int → Int → Int → Int → Int → Int → Int → Int → Int → Option (Bool)) (code : (List Int)) : Option (Bool) :=
 (laws_big k code).bind fun y1 =>
 cond y1
  (some true)
  ((spec_DrawActs k code).bind fun y2 =>
   J0 code y2 y2.1.Money 0 y2.1.Stock.Grams y2.1.Book.Events y2.1.Dough.Water y2.1.Dough.Salt y2.1.Dough.Leaven y2.1.Loaf.Weight y2.1.Loaf.Loss y2.1.Book.Rack.Fresh y2.1.Book.Rack.Day y2.1.Book.Rack.Old y2.1.Book.Baked y2.1.Book.Sold y2.1.Book.Thrown y2.1.Money)
noncomputable def laws_FnTop (k : Nat) (code : (List Int)) : Option (Bool) := laws_FnTop_m k (laws_FnTop_l0 k k) code
noncomputable def laws_FnTop_v : Nat → List Nat := fun t => match t with | 6 => [2, 3, 4, 5, 6] | _ => []
noncomputable def laws_FnTop_O (k : Nat) : Oracle := ofL [(10, spec_FlourNeeded_x k), (11, impl_DoAct_x k), (12, spec_DoAct_x k), (13, impl_BakeryOk_x k), (14, laws_sameInts_x k), (15, impl_BookOk_x k), (8, laws_big_x k), (9, spec_DrawActs_x k)]
theorem laws_FnTop_Ok (k : Nat) : OkO (Ct Try.prog) (laws_FnTop_O k) := okO_cons (spec_FlourNeeded_ok k) (okO_cons (impl_DoAct_ok k) (okO_cons (spec_DoAct_ok k) (okO_cons (impl_BakeryOk_ok k) (okO_cons (laws_sameInts_ok k) (okO_cons (impl_BookOk_ok k) (okO_cons (laws_big_ok k) (okO_cons (spec_DrawActs_ok k) (okO_nil))))))))
noncomputable def laws_FnTop_A (code : (List Int)) : Pk := ⟨[(.sc (.sl 0))], [(.row false K.ku8 code)]⟩
noncomputable def laws_FnTop_d : Rs → Option (Bool)
 | ⟨(.a (.sc (.v (.bool r1)))), [.dead]⟩ => some r1
 | _ => none
theorem laws_FnTop_i {r : Rs} {y : Bool} (h : laws_FnTop_d r = some y) : r = ⟨(.a (.sc (.v (.bool y)))), [.dead]⟩ := by
 unfold laws_FnTop_d at h; split at h
 · cases h; rfl
 · cases h
noncomputable def laws_FnTop_h0 (k m : Nat) (code : (List Int)) (y2 : Bakery × (List Deed)) (x0_0 : Int) (x0_1 : Int) (x0_2 : (List Int)) (x0_3 : (List Event)) (x0_4 : Int) (x0_5 : Int) (x0_6 : Int) (x0_7 : Int) (x0_8 : Int) (x0_9 : Int) (x0_10 : Int) (x0_11 : Int) (x0_12 : Int) (x0_13 : Int) (x0_14 : Int) (x0_15 : Int) : Option (Bool) := hdAt env (laws_FnTop_O k) laws_FnTop_v Try.f3 1 (fun r => laws_FnTop_d (r.fin 1 [])) [1, 1, 1, 1, 0, 1, 0] k m ⟨tmF [2, 3, 4, 5, 6] [(.a (.sc (.v (.bool false)))), (.a (.sc (.bp 3 0))), (.a (.sc (.sl 4))), (.a (.sc (.v (.int .i64 x0_0)))), (.a (.sc (.v (.int .i64 x0_1))))], blF [(.row false K.ku8 code), (.row true K.ki64 x0_2), (.row true K.k_impl_Event x0_3), (.box true [(.sl 1), (.v (.int .i64 x0_4)), (.v (.int .i64 x0_5)), (.v (.int .i64 x0_6)), (.v (.int .i64 x0_7)), (.v (.int .i64 x0_8)), (.sl 2), (.v (.int .i64 x0_9)), (.v (.int .i64 x0_10)), (.v (.int .i64 x0_11)), (.v (.int .i64 x0_12)), (.v (.int .i64 x0_13)), (.v (.int .i64 x0_14)), (.v (.int .i64 x0_15))]), (.row true K.k_impl_Act y2.2)]⟩
theorem laws_FnTop_z0 (k : Nat) (code : (List Int)) (y2 : Bakery × (List Deed)) (x0_0 : Int) (x0_1 : Int) (x0_2 : (List Int)) (x0_3 : (List Event)) (x0_4 : Int) (x0_5 : Int) (x0_6 : Int) (x0_7 : Int) (x0_8 : Int) (x0_9 : Int) (x0_10 : Int) (x0_11 : Int) (x0_12 : Int) (x0_13 : Int) (x0_14 : Int) (x0_15 : Int) : laws_FnTop_h0 k 0 code y2 x0_0 x0_1 x0_2 x0_3 x0_4 x0_5 x0_6 x0_7 x0_8 x0_9 x0_10 x0_11 x0_12 x0_13 x0_14 x0_15 = laws_FnTop_s0 k code y2 (fun _ _ _ _ _ _ _ _ _ _ _ _ _ _ _ _ => none) x0_0 x0_1 x0_2 x0_3 x0_4 x0_5 x0_6 x0_7 x0_8 x0_9 x0_10 x0_11 x0_12 x0_13 x0_14 x0_15 := by kernel_rfl
theorem laws_FnTop_g0 (k : Nat) (H : St → Option (Bool)) (code : (List Int)) (y2 : Bakery × (List Deed)) (x0_0 : Int) (x0_1 : Int) (x0_2 : (List Int)) (x0_3 : (List Event)) (x0_4 : Int) (x0_5 : Int) (x0_6 : Int) (x0_7 : Int) (x0_8 : Int) (x0_9 : Int) (x0_10 : Int) (x0_11 : Int) (x0_12 : Int) (x0_13 : Int) (x0_14 : Int) (x0_15 : Int) : rnd env (laws_FnTop_O k) laws_FnTop_v Try.f3 1 (fun r => laws_FnTop_d (r.fin 1 [])) [1, 1, 1, 1, 0, 1, 0] k H ⟨tmF [2, 3, 4, 5, 6] [(.a (.sc (.v (.bool false)))), (.a (.sc (.bp 3 0))), (.a (.sc (.sl 4))), (.a (.sc (.v (.int .i64 x0_0)))), (.a (.sc (.v (.int .i64 x0_1))))], blF [(.row false K.ku8 code), (.row true K.ki64 x0_2), (.row true K.k_impl_Event x0_3), (.box true [(.sl 1), (.v (.int .i64 x0_4)), (.v (.int .i64 x0_5)), (.v (.int .i64 x0_6)), (.v (.int .i64 x0_7)), (.v (.int .i64 x0_8)), (.sl 2), (.v (.int .i64 x0_9)), (.v (.int .i64 x0_10)), (.v (.int .i64 x0_11)), (.v (.int .i64 x0_12)), (.v (.int .i64 x0_13)), (.v (.int .i64 x0_14)), (.v (.int .i64 x0_15))]), (.row true K.k_impl_Act y2.2)]⟩ = laws_FnTop_s0 k code y2 (fun x0_0 x0_1 x0_2 x0_3 x0_4 x0_5 x0_6 x0_7 x0_8 x0_9 x0_10 x0_11 x0_12 x0_13 x0_14 x0_15 => H ⟨tmF [2, 3, 4, 5, 6] [(.a (.sc (.v (.bool false)))), (.a (.sc (.bp 3 0))), (.a (.sc (.sl 4))), (.a (.sc (.v (.int .i64 x0_0)))), (.a (.sc (.v (.int .i64 x0_1))))], blF [(.row false K.ku8 code), (.row true K.ki64 x0_2), (.row true K.k_impl_Event x0_3), (.box true [(.sl 1), (.v (.int .i64 x0_4)), (.v (.int .i64 x0_5)), (.v (.int .i64 x0_6)), (.v (.int .i64 x0_7)), (.v (.int .i64 x0_8)), (.sl 2), (.v (.int .i64 x0_9)), (.v (.int .i64 x0_10)), (.v (.int .i64 x0_11)), (.v (.int .i64 x0_12)), (.v (.int .i64 x0_13)), (.v (.int .i64 x0_14)), (.v (.int .i64 x0_15))]), (.row true K.k_impl_Act y2.2)]⟩) x0_0 x0_1 x0_2 x0_3 x0_4 x0_5 x0_6 x0_7 x0_8 x0_9 x0_10 x0_11 x0_12 x0_13 x0_14 x0_15 := by kernel_rfl
theorem laws_FnTop_n0 (k m : Nat) (code : (List Int)) (y2 : Bakery × (List Deed)) (x0_0 : Int) (x0_1 : Int) (x0_2 : (List Int)) (x0_3 : (List Event)) (x0_4 : Int) (x0_5 : Int) (x0_6 : Int) (x0_7 : Int) (x0_8 : Int) (x0_9 : Int) (x0_10 : Int) (x0_11 : Int) (x0_12 : Int) (x0_13 : Int) (x0_14 : Int) (x0_15 : Int) : laws_FnTop_h0 k (m + 1) code y2 x0_0 x0_1 x0_2 x0_3 x0_4 x0_5 x0_6 x0_7 x0_8 x0_9 x0_10 x0_11 x0_12 x0_13 x0_14 x0_15 = laws_FnTop_s0 k code y2 (laws_FnTop_h0 k m code y2) x0_0 x0_1 x0_2 x0_3 x0_4 x0_5 x0_6 x0_7 x0_8 x0_9 x0_10 x0_11 x0_12 x0_13 x0_14 x0_15 := (hdAt_succ _ _ _ _ _ _ _ _ _ _).trans (laws_FnTop_g0 k _ code y2 x0_0 x0_1 x0_2 x0_3 x0_4 x0_5 x0_6 x0_7 x0_8 x0_9 x0_10 x0_11 x0_12 x0_13 x0_14 x0_15)
theorem laws_FnTop_q0 (k : Nat) : ∀ m, laws_FnTop_h0 k m = laws_FnTop_l0 k m := by
 intro m
 induction m with
 | zero => funext code y2 x0_0 x0_1 x0_2 x0_3 x0_4 x0_5 x0_6 x0_7 x0_8 x0_9 x0_10 x0_11 x0_12 x0_13 x0_14 x0_15; rw [laws_FnTop_z0]; rfl
 | succ m ih => funext code y2 x0_0 x0_1 x0_2 x0_3 x0_4 x0_5 x0_6 x0_7 x0_8 x0_9 x0_10 x0_11 x0_12 x0_13 x0_14 x0_15; rw [laws_FnTop_n0, ih]; rfl
theorem laws_FnTop_e (k : Nat) (code : (List Int)) : callF env (laws_FnTop_O k) laws_FnTop_v Try.f3 (k + 1) (laws_FnTop_A code) (fun r => laws_FnTop_d (r.fin 1 [])) = laws_FnTop k code := by
 have e : callF env (laws_FnTop_O k) laws_FnTop_v Try.f3 (k + 1) (laws_FnTop_A code) (fun r => laws_FnTop_d (r.fin 1 [])) = laws_FnTop_m k (laws_FnTop_h0 k k) code := by kernel_rfl
 rw [e, laws_FnTop_q0]; rfl
noncomputable def laws_FnTop_x (k : Nat) : Ent1 := fun A R Q => match A with
 | ⟨[(.sc (.sl 0))], [(.row false K.ku8 a1)]⟩ => (laws_FnTop k a1).bind fun y => Q ⟨(.a (.sc (.v (.bool y)))), [.dead]⟩
 | _ => none
theorem laws_FnTop_ok (k : Nat) : OkE Try.prog 3 (laws_FnTop_x k) := by
 intro A R Q x h
 unfold laws_FnTop_x at h
 split at h
 · obtain ⟨y, hy, hK⟩ := Option.bind_eq_some_iff.1 h
   obtain ⟨r, hr, hd⟩ := callF_ok envOk (laws_FnTop_Ok k) follows Try.func3 (by kernel_rfl) ((laws_FnTop_e k _).trans hy)
   exact ⟨_, laws_FnTop_i hd ▸ hr.fin [], hK⟩
 · cases h
/-! ### spec.DrawBakery: function 16 -/
noncomputable def spec_DrawBakery (k : Nat)  (code : (List Int)) : Option (Bakery) :=
 (spec_l01New k code).bind fun y1 =>
 (spec_l38Bakery k (⟨code, y1.1, y1.2⟩ : l01Cur)).bind fun y2 =>
  some y2.1
noncomputable def spec_DrawBakery_v : Nat → List Nat := fun t => match t with | _ => []
noncomputable def spec_DrawBakery_O (k : Nat) : Oracle := ofL [(34, spec_l01New_x k), (55, spec_l38Bakery_x k)]
theorem spec_DrawBakery_Ok (k : Nat) : OkO (Ct Try.prog) (spec_DrawBakery_O k) := okO_cons (spec_l01New_ok k) (okO_cons (spec_l38Bakery_ok k) (okO_nil))
noncomputable def spec_DrawBakery_A (code : (List Int)) : Pk := ⟨[(.sc (.sl 0))], [(.row false K.ku8 code)]⟩
noncomputable def spec_DrawBakery_d : Rs → Option (Bakery)
 | ⟨(.a (.ag [(.sl 1), (.v (.int .i64 r2)), (.v (.int .i64 r3)), (.v (.int .i64 r4)), (.v (.int .i64 r5)), (.v (.int .i64 r6)), (.sl 2), (.v (.int .i64 r8)), (.v (.int .i64 r9)), (.v (.int .i64 r10)), (.v (.int .i64 r11)), (.v (.int .i64 r12)), (.v (.int .i64 r13)), (.v (.int .i64 r14))])), [.dead, (.row true K.ki64 r1), (.row true K.k_impl_Event r7)]⟩ => some (⟨(⟨r1⟩ : Stock), (⟨r2, r3, r4⟩ : Dough), (⟨r5, r6⟩ : Loaf), (⟨r7, (⟨r8, r9, r10⟩ : Rack), r11, r12, r13⟩ : Book), r14⟩ : Bakery)
 | _ => none
theorem spec_DrawBakery_i {r : Rs} {y : Bakery} (h : spec_DrawBakery_d r = some y) : r = ⟨(.a (.ag [(.sl 1), (.v (.int .i64 y.Dough.Water)), (.v (.int .i64 y.Dough.Salt)), (.v (.int .i64 y.Dough.Leaven)), (.v (.int .i64 y.Loaf.Weight)), (.v (.int .i64 y.Loaf.Loss)), (.sl 2), (.v (.int .i64 y.Book.Rack.Fresh)), (.v (.int .i64 y.Book.Rack.Day)), (.v (.int .i64 y.Book.Rack.Old)), (.v (.int .i64 y.Book.Baked)), (.v (.int .i64 y.Book.Sold)), (.v (.int .i64 y.Book.Thrown)), (.v (.int .i64 y.Money))])), [.dead, (.row true K.ki64 y.Stock.Grams), (.row true K.k_impl_Event y.Book.Events)]⟩ := by
 unfold spec_DrawBakery_d at h; split at h
 · cases h; rfl
 · cases h
theorem spec_DrawBakery_e (k : Nat) (code : (List Int)) : callF env (spec_DrawBakery_O k) spec_DrawBakery_v Try.f16 (k + 1) (spec_DrawBakery_A code) (fun r => spec_DrawBakery_d (r.fin 1 [])) = spec_DrawBakery k code := by kernel_rfl
noncomputable def spec_DrawBakery_x (k : Nat) : Ent1 := fun A R Q => match A with
 | ⟨[(.sc (.sl 0))], [(.row false K.ku8 a1)]⟩ => (spec_DrawBakery k a1).bind fun y => Q ⟨(.a (.ag [(.sl 1), (.v (.int .i64 y.Dough.Water)), (.v (.int .i64 y.Dough.Salt)), (.v (.int .i64 y.Dough.Leaven)), (.v (.int .i64 y.Loaf.Weight)), (.v (.int .i64 y.Loaf.Loss)), (.sl 2), (.v (.int .i64 y.Book.Rack.Fresh)), (.v (.int .i64 y.Book.Rack.Day)), (.v (.int .i64 y.Book.Rack.Old)), (.v (.int .i64 y.Book.Baked)), (.v (.int .i64 y.Book.Sold)), (.v (.int .i64 y.Book.Thrown)), (.v (.int .i64 y.Money))])), [.dead, (.row true K.ki64 y.Stock.Grams), (.row true K.k_impl_Event y.Book.Events)]⟩
 | _ => none
theorem spec_DrawBakery_ok (k : Nat) : OkE Try.prog 16 (spec_DrawBakery_x k) := by
 intro A R Q x h
 unfold spec_DrawBakery_x at h
 split at h
 · obtain ⟨y, hy, hK⟩ := Option.bind_eq_some_iff.1 h
   obtain ⟨r, hr, hd⟩ := callF_ok envOk (spec_DrawBakery_Ok k) follows Try.func16 (by kernel_rfl) ((spec_DrawBakery_e k _).trans hy)
   exact ⟨_, spec_DrawBakery_i hd ▸ hr.fin [], hK⟩
 · cases h
end Go.Proofs.YtlhcphoojiemmaaX
