/- What functions of the program compute, as functions of numbers and lists, and that they do. (The file is written by wip/x/vxp.py of this repository.) -/
import Derived.Test.YtlhcphoojiemmaaGreatF1
namespace Go.Proofs.YtlhcphoojiemmaaGreatX
open Go Go.Proofs
set_option linter.unusedVariables false
set_option maxRecDepth 100000
/-! ### spec.BakeLoaves: function 31 -/
noncomputable def spec_BakeLoaves (k : Nat)  (b : Bakery) (loaves : Int) : Option (Bakery × Bool) :=
 (spec_FlourNeeded k b loaves).bind fun y1 =>
 cond (decide ((y1 : Int) < 0))
  ((spec_l38Copy k b).bind fun y2 =>
   some (y2, false))
  ((spec_TakeFor k b.Stock b.Dough y1).bind fun y3 =>
   (spec_l38Enter k b (⟨1, loaves⟩ : Event) 0).bind fun y4 =>
    cond (!y3.2)
     ((spec_l38Copy k b).bind fun y5 =>
      some (y5, false))
     (cond (!y4.2)
      ((spec_l38Copy k b).bind fun y6 =>
       some (y6, false))
      (some ((⟨y3.1, y4.1.Dough, y4.1.Loaf, y4.1.Book, y4.1.Money⟩ : Bakery), true))))
noncomputable def spec_BakeLoaves_v : Nat → List Nat := fun t => match t with | _ => []
noncomputable def spec_BakeLoaves_O (k : Nat) : Oracle := ofL [(28, spec_l38Copy_x k), (35, spec_FlourNeeded_x k), (69, spec_TakeFor_x k), (70, spec_l38Enter_x k)]
theorem spec_BakeLoaves_Ok (k : Nat) : OkO (Ct Tryz.prog) (spec_BakeLoaves_O k) := okO_cons (spec_l38Copy_ok k) (okO_cons (spec_FlourNeeded_ok k) (okO_cons (spec_TakeFor_ok k) (okO_cons (spec_l38Enter_ok k) (okO_nil))))
noncomputable def spec_BakeLoaves_A (b : Bakery) (loaves : Int) : Pk := ⟨[(.ag [(.sl 0), (.v (.int .i64 b.Dough.Water)), (.v (.int .i64 b.Dough.Salt)), (.v (.int .i64 b.Dough.Leaven)), (.v (.int .i64 b.Loaf.Weight)), (.v (.int .i64 b.Loaf.Loss)), (.sl 1), (.v (.int .i64 b.Book.Rack.Fresh)), (.v (.int .i64 b.Book.Rack.Day)), (.v (.int .i64 b.Book.Rack.Old)), (.v (.int .i64 b.Book.Baked)), (.v (.int .i64 b.Book.Sold)), (.v (.int .i64 b.Book.Thrown)), (.v (.int .i64 b.Money))]), (.sc (.v (.int .i64 loaves)))], [(.row false K.ki64 b.Stock.Grams), (.row false K.k_impl_Event b.Book.Events)]⟩
noncomputable def spec_BakeLoaves_d : Rs → Option (Bakery × Bool)
 | ⟨(.tp [(.ag [(.sl 2), (.v (.int .i64 r2)), (.v (.int .i64 r3)), (.v (.int .i64 r4)), (.v (.int .i64 r5)), (.v (.int .i64 r6)), (.sl 3), (.v (.int .i64 r8)), (.v (.int .i64 r9)), (.v (.int .i64 r10)), (.v (.int .i64 r11)), (.v (.int .i64 r12)), (.v (.int .i64 r13)), (.v (.int .i64 r14))]), (.sc (.v (.bool r15)))]), [.dead, .dead, (.row true K.ki64 r1), (.row true K.k_impl_Event r7)]⟩ => some ((⟨(⟨r1⟩ : Stock), (⟨r2, r3, r4⟩ : Dough), (⟨r5, r6⟩ : Loaf), (⟨r7, (⟨r8, r9, r10⟩ : Rack), r11, r12, r13⟩ : Book), r14⟩ : Bakery), r15)
 | _ => none
theorem spec_BakeLoaves_i {r : Rs} {y : Bakery × Bool} (h : spec_BakeLoaves_d r = some y) : r = ⟨(.tp [(.ag [(.sl 2), (.v (.int .i64 y.1.Dough.Water)), (.v (.int .i64 y.1.Dough.Salt)), (.v (.int .i64 y.1.Dough.Leaven)), (.v (.int .i64 y.1.Loaf.Weight)), (.v (.int .i64 y.1.Loaf.Loss)), (.sl 3), (.v (.int .i64 y.1.Book.Rack.Fresh)), (.v (.int .i64 y.1.Book.Rack.Day)), (.v (.int .i64 y.1.Book.Rack.Old)), (.v (.int .i64 y.1.Book.Baked)), (.v (.int .i64 y.1.Book.Sold)), (.v (.int .i64 y.1.Book.Thrown)), (.v (.int .i64 y.1.Money))]), (.sc (.v (.bool y.2)))]), [.dead, .dead, (.row true K.ki64 y.1.Stock.Grams), (.row true K.k_impl_Event y.1.Book.Events)]⟩ := by
 unfold spec_BakeLoaves_d at h; split at h
 · cases h; rfl
 · cases h
theorem spec_BakeLoaves_e (k : Nat) (b : Bakery) (loaves : Int) : callF env (spec_BakeLoaves_O k) spec_BakeLoaves_v Tryz.f31 (k + 1) (spec_BakeLoaves_A b loaves) (fun r => spec_BakeLoaves_d (r.fin 2 [])) = spec_BakeLoaves k b loaves := by kernel_rfl
noncomputable def spec_BakeLoaves_x (k : Nat) : Ent1 := fun A R Q => match A with
 | ⟨[(.ag [(.sl 0), (.v (.int .i64 a2)), (.v (.int .i64 a3)), (.v (.int .i64 a4)), (.v (.int .i64 a5)), (.v (.int .i64 a6)), (.sl 1), (.v (.int .i64 a8)), (.v (.int .i64 a9)), (.v (.int .i64 a10)), (.v (.int .i64 a11)), (.v (.int .i64 a12)), (.v (.int .i64 a13)), (.v (.int .i64 a14))]), (.sc (.v (.int .i64 a15)))], [(.row false K.ki64 a1), (.row false K.k_impl_Event a7)]⟩ => (spec_BakeLoaves k (⟨(⟨a1⟩ : Stock), (⟨a2, a3, a4⟩ : Dough), (⟨a5, a6⟩ : Loaf), (⟨a7, (⟨a8, a9, a10⟩ : Rack), a11, a12, a13⟩ : Book), a14⟩ : Bakery) a15).bind fun y => Q ⟨(.tp [(.ag [(.sl 2), (.v (.int .i64 y.1.Dough.Water)), (.v (.int .i64 y.1.Dough.Salt)), (.v (.int .i64 y.1.Dough.Leaven)), (.v (.int .i64 y.1.Loaf.Weight)), (.v (.int .i64 y.1.Loaf.Loss)), (.sl 3), (.v (.int .i64 y.1.Book.Rack.Fresh)), (.v (.int .i64 y.1.Book.Rack.Day)), (.v (.int .i64 y.1.Book.Rack.Old)), (.v (.int .i64 y.1.Book.Baked)), (.v (.int .i64 y.1.Book.Sold)), (.v (.int .i64 y.1.Book.Thrown)), (.v (.int .i64 y.1.Money))]), (.sc (.v (.bool y.2)))]), [.dead, .dead, (.row true K.ki64 y.1.Stock.Grams), (.row true K.k_impl_Event y.1.Book.Events)]⟩
 | _ => none
theorem spec_BakeLoaves_ok (k : Nat) : OkE Tryz.prog 31 (spec_BakeLoaves_x k) := by
 intro A R Q x h
 unfold spec_BakeLoaves_x at h
 split at h
 · obtain ⟨y, hy, hK⟩ := Option.bind_eq_some_iff.1 h
   obtain ⟨r, hr, hd⟩ := callF_ok envOk (spec_BakeLoaves_Ok k) follows Tryz.func31 (by kernel_rfl) ((spec_BakeLoaves_e k _ _).trans hy)
   exact ⟨_, spec_BakeLoaves_i hd ▸ hr.fin [], hK⟩
 · cases h
/-! ### spec.l39Bool: function 36 -/
noncomputable def spec_l39Bool (k : Nat)  (ok : Bool) : Option (Int) :=
 cond ok
 (some 1)
 (some 0)
noncomputable def spec_l39Bool_v : Nat → List Nat := fun t => match t with | _ => []
noncomputable def spec_l39Bool_O (k : Nat) : Oracle := ofL []
theorem spec_l39Bool_Ok (k : Nat) : OkO (Ct Tryz.prog) (spec_l39Bool_O k) := okO_nil
noncomputable def spec_l39Bool_A (ok : Bool) : Pk := ⟨[(.sc (.v (.bool ok)))], []⟩
noncomputable def spec_l39Bool_d : Rs → Option (Int)
 | ⟨(.a (.sc (.v (.int .i64 r1)))), []⟩ => some r1
 | _ => none
theorem spec_l39Bool_i {r : Rs} {y : Int} (h : spec_l39Bool_d r = some y) : r = ⟨(.a (.sc (.v (.int .i64 y)))), []⟩ := by
 unfold spec_l39Bool_d at h; split at h
 · cases h; rfl
 · cases h
theorem spec_l39Bool_e (k : Nat) (ok : Bool) : callF env (spec_l39Bool_O k) spec_l39Bool_v Tryz.f36 (k + 1) (spec_l39Bool_A ok) (fun r => spec_l39Bool_d (r.fin 0 [])) = spec_l39Bool k ok := by kernel_rfl
noncomputable def spec_l39Bool_x (k : Nat) : Ent1 := fun A R Q => match A with
 | ⟨[(.sc (.v (.bool a1)))], []⟩ => (spec_l39Bool k a1).bind fun y => Q ⟨(.a (.sc (.v (.int .i64 y)))), []⟩
 | _ => none
theorem spec_l39Bool_ok (k : Nat) : OkE Tryz.prog 36 (spec_l39Bool_x k) := by
 intro A R Q x h
 unfold spec_l39Bool_x at h
 split at h
 · obtain ⟨y, hy, hK⟩ := Option.bind_eq_some_iff.1 h
   obtain ⟨r, hr, hd⟩ := callF_ok envOk (spec_l39Bool_Ok k) follows Tryz.func36 (by kernel_rfl) ((spec_l39Bool_e k _).trans hy)
   exact ⟨_, spec_l39Bool_i hd ▸ hr.fin [], hK⟩
 · cases h
/-! ### spec.SellLoaves: function 32 -/
noncomputable def spec_SellLoaves (k : Nat)  (b : Bakery) (loaves : Int) (cheap : Bool) : Option (Bakery × Bool) :=
 (spec_l01In k loaves 0 1000).bind fun y1 =>
 cond (!y1)
  ((spec_l38Copy k b).bind fun y2 =>
   some (y2, false))
  (cond cheap
   ((spec_l38Enter k b (⟨3, loaves⟩ : Event) (wr ((2 : Int) * loaves))).bind fun y3 =>
    some (y3.1, y3.2))
   ((spec_l38Enter k b (⟨2, loaves⟩ : Event) (wr ((4 : Int) * loaves))).bind fun y4 =>
    some (y4.1, y4.2)))
noncomputable def spec_SellLoaves_v : Nat → List Nat := fun t => match t with | _ => []
noncomputable def spec_SellLoaves_O (k : Nat) : Oracle := ofL [(28, spec_l38Copy_x k), (68, spec_l01In_x k), (70, spec_l38Enter_x k)]
theorem spec_SellLoaves_Ok (k : Nat) : OkO (Ct Tryz.prog) (spec_SellLoaves_O k) := okO_cons (spec_l38Copy_ok k) (okO_cons (spec_l01In_ok k) (okO_cons (spec_l38Enter_ok k) (okO_nil)))
noncomputable def spec_SellLoaves_A (b : Bakery) (loaves : Int) (cheap : Bool) : Pk := ⟨[(.ag [(.sl 0), (.v (.int .i64 b.Dough.Water)), (.v (.int .i64 b.Dough.Salt)), (.v (.int .i64 b.Dough.Leaven)), (.v (.int .i64 b.Loaf.Weight)), (.v (.int .i64 b.Loaf.Loss)), (.sl 1), (.v (.int .i64 b.Book.Rack.Fresh)), (.v (.int .i64 b.Book.Rack.Day)), (.v (.int .i64 b.Book.Rack.Old)), (.v (.int .i64 b.Book.Baked)), (.v (.int .i64 b.Book.Sold)), (.v (.int .i64 b.Book.Thrown)), (.v (.int .i64 b.Money))]), (.sc (.v (.int .i64 loaves))), (.sc (.v (.bool cheap)))], [(.row false K.ki64 b.Stock.Grams), (.row false K.k_impl_Event b.Book.Events)]⟩
noncomputable def spec_SellLoaves_d : Rs → Option (Bakery × Bool)
 | ⟨(.tp [(.ag [(.sl 2), (.v (.int .i64 r2)), (.v (.int .i64 r3)), (.v (.int .i64 r4)), (.v (.int .i64 r5)), (.v (.int .i64 r6)), (.sl 3), (.v (.int .i64 r8)), (.v (.int .i64 r9)), (.v (.int .i64 r10)), (.v (.int .i64 r11)), (.v (.int .i64 r12)), (.v (.int .i64 r13)), (.v (.int .i64 r14))]), (.sc (.v (.bool r15)))]), [.dead, .dead, (.row true K.ki64 r1), (.row true K.k_impl_Event r7)]⟩ => some ((⟨(⟨r1⟩ : Stock), (⟨r2, r3, r4⟩ : Dough), (⟨r5, r6⟩ : Loaf), (⟨r7, (⟨r8, r9, r10⟩ : Rack), r11, r12, r13⟩ : Book), r14⟩ : Bakery), r15)
 | _ => none
theorem spec_SellLoaves_i {r : Rs} {y : Bakery × Bool} (h : spec_SellLoaves_d r = some y) : r = ⟨(.tp [(.ag [(.sl 2), (.v (.int .i64 y.1.Dough.Water)), (.v (.int .i64 y.1.Dough.Salt)), (.v (.int .i64 y.1.Dough.Leaven)), (.v (.int .i64 y.1.Loaf.Weight)), (.v (.int .i64 y.1.Loaf.Loss)), (.sl 3), (.v (.int .i64 y.1.Book.Rack.Fresh)), (.v (.int .i64 y.1.Book.Rack.Day)), (.v (.int .i64 y.1.Book.Rack.Old)), (.v (.int .i64 y.1.Book.Baked)), (.v (.int .i64 y.1.Book.Sold)), (.v (.int .i64 y.1.Book.Thrown)), (.v (.int .i64 y.1.Money))]), (.sc (.v (.bool y.2)))]), [.dead, .dead, (.row true K.ki64 y.1.Stock.Grams), (.row true K.k_impl_Event y.1.Book.Events)]⟩ := by
 unfold spec_SellLoaves_d at h; split at h
 · cases h; rfl
 · cases h
theorem spec_SellLoaves_e (k : Nat) (b : Bakery) (loaves : Int) (cheap : Bool) : callF env (spec_SellLoaves_O k) spec_SellLoaves_v Tryz.f32 (k + 1) (spec_SellLoaves_A b loaves cheap) (fun r => spec_SellLoaves_d (r.fin 2 [])) = spec_SellLoaves k b loaves cheap := by kernel_rfl
noncomputable def spec_SellLoaves_x (k : Nat) : Ent1 := fun A R Q => match A with
 | ⟨[(.ag [(.sl 0), (.v (.int .i64 a2)), (.v (.int .i64 a3)), (.v (.int .i64 a4)), (.v (.int .i64 a5)), (.v (.int .i64 a6)), (.sl 1), (.v (.int .i64 a8)), (.v (.int .i64 a9)), (.v (.int .i64 a10)), (.v (.int .i64 a11)), (.v (.int .i64 a12)), (.v (.int .i64 a13)), (.v (.int .i64 a14))]), (.sc (.v (.int .i64 a15))), (.sc (.v (.bool a16)))], [(.row false K.ki64 a1), (.row false K.k_impl_Event a7)]⟩ => (spec_SellLoaves k (⟨(⟨a1⟩ : Stock), (⟨a2, a3, a4⟩ : Dough), (⟨a5, a6⟩ : Loaf), (⟨a7, (⟨a8, a9, a10⟩ : Rack), a11, a12, a13⟩ : Book), a14⟩ : Bakery) a15 a16).bind fun y => Q ⟨(.tp [(.ag [(.sl 2), (.v (.int .i64 y.1.Dough.Water)), (.v (.int .i64 y.1.Dough.Salt)), (.v (.int .i64 y.1.Dough.Leaven)), (.v (.int .i64 y.1.Loaf.Weight)), (.v (.int .i64 y.1.Loaf.Loss)), (.sl 3), (.v (.int .i64 y.1.Book.Rack.Fresh)), (.v (.int .i64 y.1.Book.Rack.Day)), (.v (.int .i64 y.1.Book.Rack.Old)), (.v (.int .i64 y.1.Book.Baked)), (.v (.int .i64 y.1.Book.Sold)), (.v (.int .i64 y.1.Book.Thrown)), (.v (.int .i64 y.1.Money))]), (.sc (.v (.bool y.2)))]), [.dead, .dead, (.row true K.ki64 y.1.Stock.Grams), (.row true K.k_impl_Event y.1.Book.Events)]⟩
 | _ => none
theorem spec_SellLoaves_ok (k : Nat) : OkE Tryz.prog 32 (spec_SellLoaves_x k) := by
 intro A R Q x h
 unfold spec_SellLoaves_x at h
 split at h
 · obtain ⟨y, hy, hK⟩ := Option.bind_eq_some_iff.1 h
   obtain ⟨r, hr, hd⟩ := callF_ok envOk (spec_SellLoaves_Ok k) follows Tryz.func32 (by kernel_rfl) ((spec_SellLoaves_e k _ _ _).trans hy)
   exact ⟨_, spec_SellLoaves_i hd ▸ hr.fin [], hK⟩
 · cases h
/-! ### spec.NightOver: function 33 -/
noncomputable def spec_NightOver (k : Nat)  (b : Bakery) : Option (Bakery × Bool) :=
 (spec_l38Enter k b (⟨4, 0⟩ : Event) 0).bind fun y1 =>
 some (y1.1, y1.2)
noncomputable def spec_NightOver_v : Nat → List Nat := fun t => match t with | _ => []
noncomputable def spec_NightOver_O (k : Nat) : Oracle := ofL [(70, spec_l38Enter_x k)]
theorem spec_NightOver_Ok (k : Nat) : OkO (Ct Tryz.prog) (spec_NightOver_O k) := okO_cons (spec_l38Enter_ok k) (okO_nil)
noncomputable def spec_NightOver_A (b : Bakery) : Pk := ⟨[(.ag [(.sl 0), (.v (.int .i64 b.Dough.Water)), (.v (.int .i64 b.Dough.Salt)), (.v (.int .i64 b.Dough.Leaven)), (.v (.int .i64 b.Loaf.Weight)), (.v (.int .i64 b.Loaf.Loss)), (.sl 1), (.v (.int .i64 b.Book.Rack.Fresh)), (.v (.int .i64 b.Book.Rack.Day)), (.v (.int .i64 b.Book.Rack.Old)), (.v (.int .i64 b.Book.Baked)), (.v (.int .i64 b.Book.Sold)), (.v (.int .i64 b.Book.Thrown)), (.v (.int .i64 b.Money))])], [(.row false K.ki64 b.Stock.Grams), (.row false K.k_impl_Event b.Book.Events)]⟩
noncomputable def spec_NightOver_d : Rs → Option (Bakery × Bool)
 | ⟨(.tp [(.ag [(.sl 2), (.v (.int .i64 r2)), (.v (.int .i64 r3)), (.v (.int .i64 r4)), (.v (.int .i64 r5)), (.v (.int .i64 r6)), (.sl 3), (.v (.int .i64 r8)), (.v (.int .i64 r9)), (.v (.int .i64 r10)), (.v (.int .i64 r11)), (.v (.int .i64 r12)), (.v (.int .i64 r13)), (.v (.int .i64 r14))]), (.sc (.v (.bool r15)))]), [.dead, .dead, (.row true K.ki64 r1), (.row true K.k_impl_Event r7)]⟩ => some ((⟨(⟨r1⟩ : Stock), (⟨r2, r3, r4⟩ : Dough), (⟨r5, r6⟩ : Loaf), (⟨r7, (⟨r8, r9, r10⟩ : Rack), r11, r12, r13⟩ : Book), r14⟩ : Bakery), r15)
 | _ => none
theorem spec_NightOver_i {r : Rs} {y : Bakery × Bool} (h : spec_NightOver_d r = some y) : r = ⟨(.tp [(.ag [(.sl 2), (.v (.int .i64 y.1.Dough.Water)), (.v (.int .i64 y.1.Dough.Salt)), (.v (.int .i64 y.1.Dough.Leaven)), (.v (.int .i64 y.1.Loaf.Weight)), (.v (.int .i64 y.1.Loaf.Loss)), (.sl 3), (.v (.int .i64 y.1.Book.Rack.Fresh)), (.v (.int .i64 y.1.Book.Rack.Day)), (.v (.int .i64 y.1.Book.Rack.Old)), (.v (.int .i64 y.1.Book.Baked)), (.v (.int .i64 y.1.Book.Sold)), (.v (.int .i64 y.1.Book.Thrown)), (.v (.int .i64 y.1.Money))]), (.sc (.v (.bool y.2)))]), [.dead, .dead, (.row true K.ki64 y.1.Stock.Grams), (.row true K.k_impl_Event y.1.Book.Events)]⟩ := by
 unfold spec_NightOver_d at h; split at h
 · cases h; rfl
 · cases h
theorem spec_NightOver_e (k : Nat) (b : Bakery) : callF env (spec_NightOver_O k) spec_NightOver_v Tryz.f33 (k + 1) (spec_NightOver_A b) (fun r => spec_NightOver_d (r.fin 2 [])) = spec_NightOver k b := by kernel_rfl
noncomputable def spec_NightOver_x (k : Nat) : Ent1 := fun A R Q => match A with
 | ⟨[(.ag [(.sl 0), (.v (.int .i64 a2)), (.v (.int .i64 a3)), (.v (.int .i64 a4)), (.v (.int .i64 a5)), (.v (.int .i64 a6)), (.sl 1), (.v (.int .i64 a8)), (.v (.int .i64 a9)), (.v (.int .i64 a10)), (.v (.int .i64 a11)), (.v (.int .i64 a12)), (.v (.int .i64 a13)), (.v (.int .i64 a14))])], [(.row false K.ki64 a1), (.row false K.k_impl_Event a7)]⟩ => (spec_NightOver k (⟨(⟨a1⟩ : Stock), (⟨a2, a3, a4⟩ : Dough), (⟨a5, a6⟩ : Loaf), (⟨a7, (⟨a8, a9, a10⟩ : Rack), a11, a12, a13⟩ : Book), a14⟩ : Bakery)).bind fun y => Q ⟨(.tp [(.ag [(.sl 2), (.v (.int .i64 y.1.Dough.Water)), (.v (.int .i64 y.1.Dough.Salt)), (.v (.int .i64 y.1.Dough.Leaven)), (.v (.int .i64 y.1.Loaf.Weight)), (.v (.int .i64 y.1.Loaf.Loss)), (.sl 3), (.v (.int .i64 y.1.Book.Rack.Fresh)), (.v (.int .i64 y.1.Book.Rack.Day)), (.v (.int .i64 y.1.Book.Rack.Old)), (.v (.int .i64 y.1.Book.Baked)), (.v (.int .i64 y.1.Book.Sold)), (.v (.int .i64 y.1.Book.Thrown)), (.v (.int .i64 y.1.Money))]), (.sc (.v (.bool y.2)))]), [.dead, .dead, (.row true K.ki64 y.1.Stock.Grams), (.row true K.k_impl_Event y.1.Book.Events)]⟩
 | _ => none
theorem spec_NightOver_ok (k : Nat) : OkE Tryz.prog 33 (spec_NightOver_x k) := by
 intro A R Q x h
 unfold spec_NightOver_x at h
 split at h
 · obtain ⟨y, hy, hK⟩ := Option.bind_eq_some_iff.1 h
   obtain ⟨r, hr, hd⟩ := callF_ok envOk (spec_NightOver_Ok k) follows Tryz.func33 (by kernel_rfl) ((spec_NightOver_e k _).trans hy)
   exact ⟨_, spec_NightOver_i hd ▸ hr.fin [], hK⟩
 · cases h
/-! ### spec.FillStock: function 71 -/
noncomputable def spec_FillStock (k : Nat)  (s : Stock) (k_ : Int) (grams : Int) : Option (Stock × Bool) :=
 (spec_l36Copy k s).bind fun y1 =>
 (spec_StoreOk k s).bind fun y2 =>
  cond (!y2)
   (some (y1, false))
   ((spec_l01In k k_ 0 3).bind fun y3 =>
    cond (!y3)
     (some (y1, false))
     ((spec_l01In k grams 0 1000000).bind fun y4 =>
      cond (!y4)
       (some (y1, false))
       (if 0 ≤ (k_ : Int) ∧ (k_ : Int) < ((s.Grams).length : Int) then
        cond (decide ((1000000 : Int) < (wr ((s.Grams.getD (Int.toNat k_) 0) + grams))))
        (some (y1, false))
        (if 0 ≤ (k_ : Int) ∧ (k_ : Int) < ((s.Grams).length : Int) then
        if 0 ≤ (k_ : Int) ∧ (k_ : Int) < ((y1.Grams).length : Int) then
        some ((⟨(y1.Grams.set (Int.toNat k_) (wr ((s.Grams.getD (Int.toNat k_) 0) + grams)))⟩ : Stock), true) else none else none) else none)))
noncomputable def spec_FillStock_v : Nat → List Nat := fun t => match t with | _ => []
noncomputable def spec_FillStock_O (k : Nat) : Oracle := ofL [(62, spec_l36Copy_x k), (64, spec_StoreOk_x k), (68, spec_l01In_x k)]
theorem spec_FillStock_Ok (k : Nat) : OkO (Ct Tryz.prog) (spec_FillStock_O k) := okO_cons (spec_l36Copy_ok k) (okO_cons (spec_StoreOk_ok k) (okO_cons (spec_l01In_ok k) (okO_nil)))
noncomputable def spec_FillStock_A (s : Stock) (k_ : Int) (grams : Int) : Pk := ⟨[(.ag [(.sl 0)]), (.sc (.v (.int .i64 k_))), (.sc (.v (.int .i64 grams)))], [(.row false K.ki64 s.Grams)]⟩
noncomputable def spec_FillStock_d : Rs → Option (Stock × Bool)
 | ⟨(.tp [(.ag [(.sl 1)]), (.sc (.v (.bool r2)))]), [.dead, (.row true K.ki64 r1)]⟩ => some ((⟨r1⟩ : Stock), r2)
 | _ => none
theorem spec_FillStock_i {r : Rs} {y : Stock × Bool} (h : spec_FillStock_d r = some y) : r = ⟨(.tp [(.ag [(.sl 1)]), (.sc (.v (.bool y.2)))]), [.dead, (.row true K.ki64 y.1.Grams)]⟩ := by
 unfold spec_FillStock_d at h; split at h
 · cases h; rfl
 · cases h
theorem spec_FillStock_e (k : Nat) (s : Stock) (k_ : Int) (grams : Int) : callF env (spec_FillStock_O k) spec_FillStock_v Tryz.f71 (k + 1) (spec_FillStock_A s k_ grams) (fun r => spec_FillStock_d (r.fin 1 [])) = spec_FillStock k s k_ grams := by kernel_rfl
noncomputable def spec_FillStock_x (k : Nat) : Ent1 := fun A R Q => match A with
 | ⟨[(.ag [(.sl 0)]), (.sc (.v (.int .i64 a2))), (.sc (.v (.int .i64 a3)))], [(.row false K.ki64 a1)]⟩ => (spec_FillStock k (⟨a1⟩ : Stock) a2 a3).bind fun y => Q ⟨(.tp [(.ag [(.sl 1)]), (.sc (.v (.bool y.2)))]), [.dead, (.row true K.ki64 y.1.Grams)]⟩
 | _ => none
theorem spec_FillStock_ok (k : Nat) : OkE Tryz.prog 71 (spec_FillStock_x k) := by
 intro A R Q x h
 unfold spec_FillStock_x at h
 split at h
 · obtain ⟨y, hy, hK⟩ := Option.bind_eq_some_iff.1 h
   obtain ⟨r, hr, hd⟩ := callF_ok envOk (spec_FillStock_Ok k) follows Tryz.func71 (by kernel_rfl) ((spec_FillStock_e k _ _ _).trans hy)
   exact ⟨_, spec_FillStock_i hd ▸ hr.fin [], hK⟩
 · cases h
/-! ### spec.BuyStock: function 34 -/
noncomputable def spec_BuyStock (k : Nat)  (b : Bakery) (k_ : Int) (grams : Int) : Option (Bakery × Bool) :=
 (spec_l38Copy k b).bind fun y1 =>
 (spec_FillStock k b.Stock k_ grams).bind fun y2 =>
  (spec_BakeryOk k b).bind fun y3 =>
   cond (!y3)
    (some (y1, false))
    (cond (!y2.2)
     (some (y1, false))
     (if (100 : Int) ≠ 0 then
      (spec_BakeryOk k (⟨y2.1, y1.Dough, y1.Loaf, y1.Book, (wr (b.Money - (wr (Int.tdiv (wr (grams + 99)) 100))))⟩ : Bakery)).bind fun y4 =>
       cond (!y4)
        ((spec_l38Copy k b).bind fun y5 =>
        some (y5, false))
        (some ((⟨y2.1, y1.Dough, y1.Loaf, y1.Book, (wr (b.Money - (wr (Int.tdiv (wr (grams + 99)) 100))))⟩ : Bakery), true)) else none))
noncomputable def spec_BuyStock_v : Nat → List Nat := fun t => match t with | _ => []
noncomputable def spec_BuyStock_O (k : Nat) : Oracle := ofL [(28, spec_l38Copy_x k), (29, spec_BakeryOk_x k), (71, spec_FillStock_x k)]
theorem spec_BuyStock_Ok (k : Nat) : OkO (Ct Tryz.prog) (spec_BuyStock_O k) := okO_cons (spec_l38Copy_ok k) (okO_cons (spec_BakeryOk_ok k) (okO_cons (spec_FillStock_ok k) (okO_nil)))
noncomputable def spec_BuyStock_A (b : Bakery) (k_ : Int) (grams : Int) : Pk := ⟨[(.ag [(.sl 0), (.v (.int .i64 b.Dough.Water)), (.v (.int .i64 b.Dough.Salt)), (.v (.int .i64 b.Dough.Leaven)), (.v (.int .i64 b.Loaf.Weight)), (.v (.int .i64 b.Loaf.Loss)), (.sl 1), (.v (.int .i64 b.Book.Rack.Fresh)), (.v (.int .i64 b.Book.Rack.Day)), (.v (.int .i64 b.Book.Rack.Old)), (.v (.int .i64 b.Book.Baked)), (.v (.int .i64 b.Book.Sold)), (.v (.int .i64 b.Book.Thrown)), (.v (.int .i64 b.Money))]), (.sc (.v (.int .i64 k_))), (.sc (.v (.int .i64 grams)))], [(.row false K.ki64 b.Stock.Grams), (.row false K.k_impl_Event b.Book.Events)]⟩
noncomputable def spec_BuyStock_d : Rs → Option (Bakery × Bool)
 | ⟨(.tp [(.ag [(.sl 2), (.v (.int .i64 r2)), (.v (.int .i64 r3)), (.v (.int .i64 r4)), (.v (.int .i64 r5)), (.v (.int .i64 r6)), (.sl 3), (.v (.int .i64 r8)), (.v (.int .i64 r9)), (.v (.int .i64 r10)), (.v (.int .i64 r11)), (.v (.int .i64 r12)), (.v (.int .i64 r13)), (.v (.int .i64 r14))]), (.sc (.v (.bool r15)))]), [.dead, .dead, (.row true K.ki64 r1), (.row true K.k_impl_Event r7)]⟩ => some ((⟨(⟨r1⟩ : Stock), (⟨r2, r3, r4⟩ : Dough), (⟨r5, r6⟩ : Loaf), (⟨r7, (⟨r8, r9, r10⟩ : Rack), r11, r12, r13⟩ : Book), r14⟩ : Bakery), r15)
 | _ => none
theorem spec_BuyStock_i {r : Rs} {y : Bakery × Bool} (h : spec_BuyStock_d r = some y) : r = ⟨(.tp [(.ag [(.sl 2), (.v (.int .i64 y.1.Dough.Water)), (.v (.int .i64 y.1.Dough.Salt)), (.v (.int .i64 y.1.Dough.Leaven)), (.v (.int .i64 y.1.Loaf.Weight)), (.v (.int .i64 y.1.Loaf.Loss)), (.sl 3), (.v (.int .i64 y.1.Book.Rack.Fresh)), (.v (.int .i64 y.1.Book.Rack.Day)), (.v (.int .i64 y.1.Book.Rack.Old)), (.v (.int .i64 y.1.Book.Baked)), (.v (.int .i64 y.1.Book.Sold)), (.v (.int .i64 y.1.Book.Thrown)), (.v (.int .i64 y.1.Money))]), (.sc (.v (.bool y.2)))]), [.dead, .dead, (.row true K.ki64 y.1.Stock.Grams), (.row true K.k_impl_Event y.1.Book.Events)]⟩ := by
 unfold spec_BuyStock_d at h; split at h
 · cases h; rfl
 · cases h
theorem spec_BuyStock_e (k : Nat) (b : Bakery) (k_ : Int) (grams : Int) : callF env (spec_BuyStock_O k) spec_BuyStock_v Tryz.f34 (k + 1) (spec_BuyStock_A b k_ grams) (fun r => spec_BuyStock_d (r.fin 2 [])) = spec_BuyStock k b k_ grams := by kernel_rfl
noncomputable def spec_BuyStock_x (k : Nat) : Ent1 := fun A R Q => match A with
 | ⟨[(.ag [(.sl 0), (.v (.int .i64 a2)), (.v (.int .i64 a3)), (.v (.int .i64 a4)), (.v (.int .i64 a5)), (.v (.int .i64 a6)), (.sl 1), (.v (.int .i64 a8)), (.v (.int .i64 a9)), (.v (.int .i64 a10)), (.v (.int .i64 a11)), (.v (.int .i64 a12)), (.v (.int .i64 a13)), (.v (.int .i64 a14))]), (.sc (.v (.int .i64 a15))), (.sc (.v (.int .i64 a16)))], [(.row false K.ki64 a1), (.row false K.k_impl_Event a7)]⟩ => (spec_BuyStock k (⟨(⟨a1⟩ : Stock), (⟨a2, a3, a4⟩ : Dough), (⟨a5, a6⟩ : Loaf), (⟨a7, (⟨a8, a9, a10⟩ : Rack), a11, a12, a13⟩ : Book), a14⟩ : Bakery) a15 a16).bind fun y => Q ⟨(.tp [(.ag [(.sl 2), (.v (.int .i64 y.1.Dough.Water)), (.v (.int .i64 y.1.Dough.Salt)), (.v (.int .i64 y.1.Dough.Leaven)), (.v (.int .i64 y.1.Loaf.Weight)), (.v (.int .i64 y.1.Loaf.Loss)), (.sl 3), (.v (.int .i64 y.1.Book.Rack.Fresh)), (.v (.int .i64 y.1.Book.Rack.Day)), (.v (.int .i64 y.1.Book.Rack.Old)), (.v (.int .i64 y.1.Book.Baked)), (.v (.int .i64 y.1.Book.Sold)), (.v (.int .i64 y.1.Book.Thrown)), (.v (.int .i64 y.1.Money))]), (.sc (.v (.bool y.2)))]), [.dead, .dead, (.row true K.ki64 y.1.Stock.Grams), (.row true K.k_impl_Event y.1.Book.Events)]⟩
 | _ => none
theorem spec_BuyStock_ok (k : Nat) : OkE Tryz.prog 34 (spec_BuyStock_x k) := by
 intro A R Q x h
 unfold spec_BuyStock_x at h
 split at h
 · obtain ⟨y, hy, hK⟩ := Option.bind_eq_some_iff.1 h
   obtain ⟨r, hr, hd⟩ := callF_ok envOk (spec_BuyStock_Ok k) follows Tryz.func34 (by kernel_rfl) ((spec_BuyStock_e k _ _ _).trans hy)
   exact ⟨_, spec_BuyStock_i hd ▸ hr.fin [], hK⟩
 · cases h
/-! ### spec.DoAct: function 7 -/
noncomputable def spec_DoAct (k : Nat)  (b : Bakery) (a : Deed) : Option (Bakery × Int) :=
 (spec_l38Copy k b).bind fun y1 =>
 (spec_BakeryOk k b).bind fun y2 =>
  cond (!y2)
   (some (y1, (-1)))
   ((spec_ActOk k a).bind fun y3 =>
    cond (!y3)
     (some (y1, (-1)))
     (cond (decide ((a.Kind : Int) = 1))
      ((spec_BakeLoaves k b a.A).bind fun y4 =>
       (spec_l39Bool k y4.2).bind fun y5 =>
        some (y4.1, y5))
      (cond (decide ((a.Kind : Int) = 2))
       ((spec_SellLoaves k b a.A false).bind fun y6 =>
        (spec_l39Bool k y6.2).bind fun y7 =>
        some (y6.1, y7))
       (cond (decide ((a.Kind : Int) = 3))
        ((spec_SellLoaves k b a.A true).bind fun y8 =>
        (spec_l39Bool k y8.2).bind fun y9 =>
        some (y8.1, y9))
        (cond (decide ((a.Kind : Int) = 4))
        ((spec_NightOver k b).bind fun y10 =>
        (spec_l39Bool k y10.2).bind fun y11 =>
        some (y10.1, y11))
        (cond (decide ((a.Kind : Int) = 5))
        ((spec_BuyStock k b a.A a.B).bind fun y12 =>
        (spec_l39Bool k y12.2).bind fun y13 =>
        some (y12.1, y13))
        (cond (decide ((a.Kind : Int) = 6))
        ((spec_FlourNeeded k b a.A).bind fun y14 =>
        some (y1, y14))
        ((spec_l39Bool k false).bind fun y15 =>
        some (y1, y15)))))))))
noncomputable def spec_DoAct_v : Nat → List Nat := fun t => match t with | _ => []
noncomputable def spec_DoAct_O (k : Nat) : Oracle := ofL [(28, spec_l38Copy_x k), (29, spec_BakeryOk_x k), (30, spec_ActOk_x k), (31, spec_BakeLoaves_x k), (32, spec_SellLoaves_x k), (33, spec_NightOver_x k), (34, spec_BuyStock_x k), (35, spec_FlourNeeded_x k), (36, spec_l39Bool_x k)]
theorem spec_DoAct_Ok (k : Nat) : OkO (Ct Tryz.prog) (spec_DoAct_O k) := okO_cons (spec_l38Copy_ok k) (okO_cons (spec_BakeryOk_ok k) (okO_cons (spec_ActOk_ok k) (okO_cons (spec_BakeLoaves_ok k) (okO_cons (spec_SellLoaves_ok k) (okO_cons (spec_NightOver_ok k) (okO_cons (spec_BuyStock_ok k) (okO_cons (spec_FlourNeeded_ok k) (okO_cons (spec_l39Bool_ok k) (okO_nil)))))))))
noncomputable def spec_DoAct_A (b : Bakery) (a : Deed) : Pk := ⟨[(.ag [(.sl 0), (.v (.int .i64 b.Dough.Water)), (.v (.int .i64 b.Dough.Salt)), (.v (.int .i64 b.Dough.Leaven)), (.v (.int .i64 b.Loaf.Weight)), (.v (.int .i64 b.Loaf.Loss)), (.sl 1), (.v (.int .i64 b.Book.Rack.Fresh)), (.v (.int .i64 b.Book.Rack.Day)), (.v (.int .i64 b.Book.Rack.Old)), (.v (.int .i64 b.Book.Baked)), (.v (.int .i64 b.Book.Sold)), (.v (.int .i64 b.Book.Thrown)), (.v (.int .i64 b.Money))]), (.ag [(.v (.int .i64 a.Kind)), (.v (.int .i64 a.A)), (.v (.int .i64 a.B))])], [(.row false K.ki64 b.Stock.Grams), (.row false K.k_impl_Event b.Book.Events)]⟩
noncomputable def spec_DoAct_d : Rs → Option (Bakery × Int)
 | ⟨(.tp [(.ag [(.sl 2), (.v (.int .i64 r2)), (.v (.int .i64 r3)), (.v (.int .i64 r4)), (.v (.int .i64 r5)), (.v (.int .i64 r6)), (.sl 3), (.v (.int .i64 r8)), (.v (.int .i64 r9)), (.v (.int .i64 r10)), (.v (.int .i64 r11)), (.v (.int .i64 r12)), (.v (.int .i64 r13)), (.v (.int .i64 r14))]), (.sc (.v (.int .i64 r15)))]), [.dead, .dead, (.row true K.ki64 r1), (.row true K.k_impl_Event r7)]⟩ => some ((⟨(⟨r1⟩ : Stock), (⟨r2, r3, r4⟩ : Dough), (⟨r5, r6⟩ : Loaf), (⟨r7, (⟨r8, r9, r10⟩ : Rack), r11, r12, r13⟩ : Book), r14⟩ : Bakery), r15)
 | _ => none
theorem spec_DoAct_i {r : Rs} {y : Bakery × Int} (h : spec_DoAct_d r = some y) : r = ⟨(.tp [(.ag [(.sl 2), (.v (.int .i64 y.1.Dough.Water)), (.v (.int .i64 y.1.Dough.Salt)), (.v (.int .i64 y.1.Dough.Leaven)), (.v (.int .i64 y.1.Loaf.Weight)), (.v (.int .i64 y.1.Loaf.Loss)), (.sl 3), (.v (.int .i64 y.1.Book.Rack.Fresh)), (.v (.int .i64 y.1.Book.Rack.Day)), (.v (.int .i64 y.1.Book.Rack.Old)), (.v (.int .i64 y.1.Book.Baked)), (.v (.int .i64 y.1.Book.Sold)), (.v (.int .i64 y.1.Book.Thrown)), (.v (.int .i64 y.1.Money))]), (.sc (.v (.int .i64 y.2)))]), [.dead, .dead, (.row true K.ki64 y.1.Stock.Grams), (.row true K.k_impl_Event y.1.Book.Events)]⟩ := by
 unfold spec_DoAct_d at h; split at h
 · cases h; rfl
 · cases h
theorem spec_DoAct_e (k : Nat) (b : Bakery) (a : Deed) : callF env (spec_DoAct_O k) spec_DoAct_v Tryz.f7 (k + 1) (spec_DoAct_A b a) (fun r => spec_DoAct_d (r.fin 2 [])) = spec_DoAct k b a := by kernel_rfl
noncomputable def spec_DoAct_x (k : Nat) : Ent1 := fun A R Q => match A with
 | ⟨[(.ag [(.sl 0), (.v (.int .i64 a2)), (.v (.int .i64 a3)), (.v (.int .i64 a4)), (.v (.int .i64 a5)), (.v (.int .i64 a6)), (.sl 1), (.v (.int .i64 a8)), (.v (.int .i64 a9)), (.v (.int .i64 a10)), (.v (.int .i64 a11)), (.v (.int .i64 a12)), (.v (.int .i64 a13)), (.v (.int .i64 a14))]), (.ag [(.v (.int .i64 a15)), (.v (.int .i64 a16)), (.v (.int .i64 a17))])], [(.row false K.ki64 a1), (.row false K.k_impl_Event a7)]⟩ => (spec_DoAct k (⟨(⟨a1⟩ : Stock), (⟨a2, a3, a4⟩ : Dough), (⟨a5, a6⟩ : Loaf), (⟨a7, (⟨a8, a9, a10⟩ : Rack), a11, a12, a13⟩ : Book), a14⟩ : Bakery) (⟨a15, a16, a17⟩ : Deed)).bind fun y => Q ⟨(.tp [(.ag [(.sl 2), (.v (.int .i64 y.1.Dough.Water)), (.v (.int .i64 y.1.Dough.Salt)), (.v (.int .i64 y.1.Dough.Leaven)), (.v (.int .i64 y.1.Loaf.Weight)), (.v (.int .i64 y.1.Loaf.Loss)), (.sl 3), (.v (.int .i64 y.1.Book.Rack.Fresh)), (.v (.int .i64 y.1.Book.Rack.Day)), (.v (.int .i64 y.1.Book.Rack.Old)), (.v (.int .i64 y.1.Book.Baked)), (.v (.int .i64 y.1.Book.Sold)), (.v (.int .i64 y.1.Book.Thrown)), (.v (.int .i64 y.1.Money))]), (.sc (.v (.int .i64 y.2)))]), [.dead, .dead, (.row true K.ki64 y.1.Stock.Grams), (.row true K.k_impl_Event y.1.Book.Events)]⟩
 | _ => none
theorem spec_DoAct_ok (k : Nat) : OkE Tryz.prog 7 (spec_DoAct_x k) := by
 intro A R Q x h
 unfold spec_DoAct_x at h
 split at h
 · obtain ⟨y, hy, hK⟩ := Option.bind_eq_some_iff.1 h
   obtain ⟨r, hr, hd⟩ := callF_ok envOk (spec_DoAct_Ok k) follows Tryz.func7 (by kernel_rfl) ((spec_DoAct_e k _ _).trans hy)
   exact ⟨_, spec_DoAct_i hd ▸ hr.fin [], hK⟩
 · cases h
/-! ### impl.in: function 80 -/
noncomputable def impl_in (k : Nat)  (n : Int) (low : Int) (high : Int) : Option (Bool) :=
 cond (decide ((low : Int) ≤ n))
 (some (decide ((n : Int) ≤ high)))
 (some false)
noncomputable def impl_in_v : Nat → List Nat := fun t => match t with | _ => []
noncomputable def impl_in_O (k : Nat) : Oracle := ofL []
theorem impl_in_Ok (k : Nat) : OkO (Ct Tryz.prog) (impl_in_O k) := okO_nil
noncomputable def impl_in_A (n : Int) (low : Int) (high : Int) : Pk := ⟨[(.sc (.v (.int .i64 n))), (.sc (.v (.int .i64 low))), (.sc (.v (.int .i64 high)))], []⟩
noncomputable def impl_in_d : Rs → Option (Bool)
 | ⟨(.a (.sc (.v (.bool r1)))), []⟩ => some r1
 | _ => none
theorem impl_in_i {r : Rs} {y : Bool} (h : impl_in_d r = some y) : r = ⟨(.a (.sc (.v (.bool y)))), []⟩ := by
 unfold impl_in_d at h; split at h
 · cases h; rfl
 · cases h
theorem impl_in_e (k : Nat) (n : Int) (low : Int) (high : Int) : callF env (impl_in_O k) impl_in_v Tryz.f80 (k + 1) (impl_in_A n low high) (fun r => impl_in_d (r.fin 0 [])) = impl_in k n low high := by kernel_rfl
noncomputable def impl_in_x (k : Nat) : Ent1 := fun A R Q => match A with
 | ⟨[(.sc (.v (.int .i64 a1))), (.sc (.v (.int .i64 a2))), (.sc (.v (.int .i64 a3)))], []⟩ => (impl_in k a1 a2 a3).bind fun y => Q ⟨(.a (.sc (.v (.bool y)))), []⟩
 | _ => none
theorem impl_in_ok (k : Nat) : OkE Tryz.prog 80 (impl_in_x k) := by
 intro A R Q x h
 unfold impl_in_x at h
 split at h
 · obtain ⟨y, hy, hK⟩ := Option.bind_eq_some_iff.1 h
   obtain ⟨r, hr, hd⟩ := callF_ok envOk (impl_in_Ok k) follows Tryz.func80 (by kernel_rfl) ((impl_in_e k _ _ _).trans hy)
   exact ⟨_, impl_in_i hd ▸ hr.fin [], hK⟩
 · cases h
/-! ### impl.allIn$1: function 116 -/
noncomputable def impl_allIn_1 (k : Nat)  (n : Int) (p1 : Int) (p2 : Int) : Option (Bool) :=
 (impl_in k n p1 p2).bind fun y1 =>
 some (!y1)
noncomputable def impl_allIn_1_v : Nat → List Nat := fun t => match t with | _ => []
noncomputable def impl_allIn_1_O (k : Nat) : Oracle := ofL [(80, impl_in_x k)]
theorem impl_allIn_1_Ok (k : Nat) : OkO (Ct Tryz.prog) (impl_allIn_1_O k) := okO_cons (impl_in_ok k) (okO_nil)
noncomputable def impl_allIn_1_A (n : Int) (p1 : Int) (p2 : Int) : Pk := ⟨[(.sc (.v (.int .i64 n))), (.sc (.bp 0 0)), (.sc (.bp 1 0))], [(.box false [(.v (.int .i64 p1))]), (.box false [(.v (.int .i64 p2))])]⟩
noncomputable def impl_allIn_1_d : Rs → Option (Bool)
 | ⟨(.a (.sc (.v (.bool r1)))), [.dead, .dead]⟩ => some r1
 | _ => none
theorem impl_allIn_1_i {r : Rs} {y : Bool} (h : impl_allIn_1_d r = some y) : r = ⟨(.a (.sc (.v (.bool y)))), [.dead, .dead]⟩ := by
 unfold impl_allIn_1_d at h; split at h
 · cases h; rfl
 · cases h
theorem impl_allIn_1_e (k : Nat) (n : Int) (p1 : Int) (p2 : Int) : callF env (impl_allIn_1_O k) impl_allIn_1_v Tryz.f116 (k + 1) (impl_allIn_1_A n p1 p2) (fun r => impl_allIn_1_d (r.fin 2 [])) = impl_allIn_1 k n p1 p2 := by kernel_rfl
noncomputable def impl_allIn_1_x (k : Nat) : Ent1 := fun A R Q => match A with
 | ⟨[(.sc (.v (.int .i64 a1))), (.sc (.bp 0 0)), (.sc (.bp 1 0))], [(.box false [(.v (.int .i64 a2))]), (.box false [(.v (.int .i64 a3))])]⟩ => (impl_allIn_1 k a1 a2 a3).bind fun y => Q ⟨(.a (.sc (.v (.bool y)))), [.dead, .dead]⟩
 | _ => none
theorem impl_allIn_1_ok (k : Nat) : OkE Tryz.prog 116 (impl_allIn_1_x k) := by
 intro A R Q x h
 unfold impl_allIn_1_x at h
 split at h
 · obtain ⟨y, hy, hK⟩ := Option.bind_eq_some_iff.1 h
   obtain ⟨r, hr, hd⟩ := callF_ok envOk (impl_allIn_1_Ok k) follows Tryz.func116 (by kernel_rfl) ((impl_allIn_1_e k _ _ _).trans hy)
   exact ⟨_, impl_allIn_1_i hd ▸ hr.fin [], hK⟩
 · cases h
/-! ### slices.IndexFunc[[]int,int]: function 123 -/
noncomputable def slices_IndexFunc_int_int_116_s0 (k : Nat)  (s : (List Int)) (f_0 : Int) (f_1 : Int) (J : Int → Option (Int)) (x0_0 : Int) : Option (Int) :=
 cond (decide ((x0_0 : Int) < ((s).length : Int)))
 (if 0 ≤ (x0_0 : Int) ∧ (x0_0 : Int) < ((s).length : Int) then
  (impl_allIn_1 k (s.getD (Int.toNat x0_0) 0) f_0 f_1).bind fun y2 =>
   cond y2
    (some x0_0)
    (J (wr (x0_0 + 1))) else none)
 (some (-1))
noncomputable def slices_IndexFunc_int_int_116_l0 (k : Nat) : Nat → (List Int) → Int → Int → Int → Option (Int)
 | 0, s, f_0, f_1, x0_0 => slices_IndexFunc_int_int_116_s0 k s f_0 f_1 (fun _ => none) x0_0
 | m + 1, s, f_0, f_1, x0_0 => slices_IndexFunc_int_int_116_s0 k s f_0 f_1 (slices_IndexFunc_int_int_116_l0 k m s f_0 f_1) x0_0
noncomputable def slices_IndexFunc_int_int_116_m (k : Nat) (J0 : (List Int) → Int → Int → Int → Option (Int)) (s : (List Int)) (f_0 : Int) (f_1 : Int) : Option (Int) :=
 J0 s f_0 f_1 0
noncomputable def slices_IndexFunc_int_int_116 (k : Nat) (s : (List Int)) (f_0 : Int) (f_1 : Int) : Option (Int) := slices_IndexFunc_int_int_116_m k (slices_IndexFunc_int_int_116_l0 k k) s f_0 f_1
noncomputable def slices_IndexFunc_int_int_116_v : Nat → List Nat := fun t => match t with | 2 => [0, 1, 4, 7, 8] | _ => []
noncomputable def slices_IndexFunc_int_int_116_O (k : Nat) : Oracle := ofL [(116, impl_allIn_1_x k)]
theorem slices_IndexFunc_int_int_116_Ok (k : Nat) : OkO (Ct Tryz.prog) (slices_IndexFunc_int_int_116_O k) := okO_cons (impl_allIn_1_ok k) (okO_nil)
noncomputable def slices_IndexFunc_int_int_116_A (s : (List Int)) (f_0 : Int) (f_1 : Int) : Pk := ⟨[(.sc (.sl 0)), (.sc (.fn 116 [1, 2]))], [(.row false K.ki64 s), (.box false [(.v (.int .i64 f_0))]), (.box false [(.v (.int .i64 f_1))])]⟩
noncomputable def slices_IndexFunc_int_int_116_d : Rs → Option (Int)
 | ⟨(.a (.sc (.v (.int .i64 r1)))), [.dead, .dead, .dead]⟩ => some r1
 | _ => none
theorem slices_IndexFunc_int_int_116_i {r : Rs} {y : Int} (h : slices_IndexFunc_int_int_116_d r = some y) : r = ⟨(.a (.sc (.v (.int .i64 y)))), [.dead, .dead, .dead]⟩ := by
 unfold slices_IndexFunc_int_int_116_d at h; split at h
 · cases h; rfl
 · cases h
noncomputable def slices_IndexFunc_int_int_116_h0 (k m : Nat) (s : (List Int)) (f_0 : Int) (f_1 : Int) (x0_0 : Int) : Option (Int) := hdAt env (slices_IndexFunc_int_int_116_O k) slices_IndexFunc_int_int_116_v Tryz.f123 3 (fun r => slices_IndexFunc_int_int_116_d (r.fin 3 [])) [1, 0, 1, 0] k m ⟨tmF [0, 1, 4, 7, 8] [(.a (.sc (.sl 0))), (.a (.sc (.fn 116 [1, 2]))), (.a (.sc (.v (.int .i64 0)))), (.a (.sc (.v (.int .i64 ((s).length : Int))))), (.a (.sc (.v (.int .i64 x0_0))))], blF [(.row false K.ki64 s), (.box false [(.v (.int .i64 f_0))]), (.box false [(.v (.int .i64 f_1))])]⟩
theorem slices_IndexFunc_int_int_116_z0 (k : Nat) (s : (List Int)) (f_0 : Int) (f_1 : Int) (x0_0 : Int) : slices_IndexFunc_int_int_116_h0 k 0 s f_0 f_1 x0_0 = slices_IndexFunc_int_int_116_s0 k s f_0 f_1 (fun _ => none) x0_0 := by kernel_rfl
theorem slices_IndexFunc_int_int_116_g0 (k : Nat) (H : St → Option (Int)) (s : (List Int)) (f_0 : Int) (f_1 : Int) (x0_0 : Int) : rnd env (slices_IndexFunc_int_int_116_O k) slices_IndexFunc_int_int_116_v Tryz.f123 3 (fun r => slices_IndexFunc_int_int_116_d (r.fin 3 [])) [1, 0, 1, 0] k H ⟨tmF [0, 1, 4, 7, 8] [(.a (.sc (.sl 0))), (.a (.sc (.fn 116 [1, 2]))), (.a (.sc (.v (.int .i64 0)))), (.a (.sc (.v (.int .i64 ((s).length : Int))))), (.a (.sc (.v (.int .i64 x0_0))))], blF [(.row false K.ki64 s), (.box false [(.v (.int .i64 f_0))]), (.box false [(.v (.int .i64 f_1))])]⟩ = slices_IndexFunc_int_int_116_s0 k s f_0 f_1 (fun x0_0 => H ⟨tmF [0, 1, 4, 7, 8] [(.a (.sc (.sl 0))), (.a (.sc (.fn 116 [1, 2]))), (.a (.sc (.v (.int .i64 0)))), (.a (.sc (.v (.int .i64 ((s).length : Int))))), (.a (.sc (.v (.int .i64 x0_0))))], blF [(.row false K.ki64 s), (.box false [(.v (.int .i64 f_0))]), (.box false [(.v (.int .i64 f_1))])]⟩) x0_0 := by kernel_rfl
theorem slices_IndexFunc_int_int_116_n0 (k m : Nat) (s : (List Int)) (f_0 : Int) (f_1 : Int) (x0_0 : Int) : slices_IndexFunc_int_int_116_h0 k (m + 1) s f_0 f_1 x0_0 = slices_IndexFunc_int_int_116_s0 k s f_0 f_1 (slices_IndexFunc_int_int_116_h0 k m s f_0 f_1) x0_0 := (hdAt_succ _ _ _ _ _ _ _ _ _ _).trans (slices_IndexFunc_int_int_116_g0 k _ s f_0 f_1 x0_0)
theorem slices_IndexFunc_int_int_116_q0 (k : Nat) : ∀ m, slices_IndexFunc_int_int_116_h0 k m = slices_IndexFunc_int_int_116_l0 k m := by
 intro m
 induction m with
 | zero => funext s f_0 f_1 x0_0; rw [slices_IndexFunc_int_int_116_z0]; rfl
 | succ m ih => funext s f_0 f_1 x0_0; rw [slices_IndexFunc_int_int_116_n0, ih]; rfl
theorem slices_IndexFunc_int_int_116_e (k : Nat) (s : (List Int)) (f_0 : Int) (f_1 : Int) : callF env (slices_IndexFunc_int_int_116_O k) slices_IndexFunc_int_int_116_v Tryz.f123 (k + 1) (slices_IndexFunc_int_int_116_A s f_0 f_1) (fun r => slices_IndexFunc_int_int_116_d (r.fin 3 [])) = slices_IndexFunc_int_int_116 k s f_0 f_1 := by
 have e : callF env (slices_IndexFunc_int_int_116_O k) slices_IndexFunc_int_int_116_v Tryz.f123 (k + 1) (slices_IndexFunc_int_int_116_A s f_0 f_1) (fun r => slices_IndexFunc_int_int_116_d (r.fin 3 [])) = slices_IndexFunc_int_int_116_m k (slices_IndexFunc_int_int_116_h0 k k) s f_0 f_1 := by kernel_rfl
 rw [e, slices_IndexFunc_int_int_116_q0]; rfl
noncomputable def slices_IndexFunc_int_int_116_x (k : Nat) : Ent1 := fun A R Q => match A with
 | ⟨[(.sc (.sl 0)), (.sc (.fn 116 [1, 2]))], [(.row false K.ki64 a1), (.box false [(.v (.int .i64 a2))]), (.box false [(.v (.int .i64 a3))])]⟩ => (slices_IndexFunc_int_int_116 k a1 a2 a3).bind fun y => Q ⟨(.a (.sc (.v (.int .i64 y)))), [.dead, .dead, .dead]⟩
 | _ => none
theorem slices_IndexFunc_int_int_116_ok (k : Nat) : OkE Tryz.prog 123 (slices_IndexFunc_int_int_116_x k) := by
 intro A R Q x h
 unfold slices_IndexFunc_int_int_116_x at h
 split at h
 · obtain ⟨y, hy, hK⟩ := Option.bind_eq_some_iff.1 h
   obtain ⟨r, hr, hd⟩ := callF_ok envOk (slices_IndexFunc_int_int_116_Ok k) follows Tryz.func123 (by kernel_rfl) ((slices_IndexFunc_int_int_116_e k _ _ _).trans hy)
   exact ⟨_, slices_IndexFunc_int_int_116_i hd ▸ hr.fin [], hK⟩
 · cases h
/-! ### slices.ContainsFunc[[]int,int]: function 115 -/
noncomputable def slices_ContainsFunc_int_int_116 (k : Nat)  (s : (List Int)) (f_0 : Int) (f_1 : Int) : Option (Bool) :=
 (slices_IndexFunc_int_int_116 k s f_0 f_1).bind fun y1 =>
 some (decide ((0 : Int) ≤ y1))
noncomputable def slices_ContainsFunc_int_int_116_v : Nat → List Nat := fun t => match t with | _ => []
noncomputable def slices_ContainsFunc_int_int_116_O (k : Nat) : Oracle := ofL [(123, slices_IndexFunc_int_int_116_x k)]
theorem slices_ContainsFunc_int_int_116_Ok (k : Nat) : OkO (Ct Tryz.prog) (slices_ContainsFunc_int_int_116_O k) := okO_cons (slices_IndexFunc_int_int_116_ok k) (okO_nil)
noncomputable def slices_ContainsFunc_int_int_116_A (s : (List Int)) (f_0 : Int) (f_1 : Int) : Pk := ⟨[(.sc (.sl 0)), (.sc (.fn 116 [1, 2]))], [(.row false K.ki64 s), (.box false [(.v (.int .i64 f_0))]), (.box false [(.v (.int .i64 f_1))])]⟩
noncomputable def slices_ContainsFunc_int_int_116_d : Rs → Option (Bool)
 | ⟨(.a (.sc (.v (.bool r1)))), [.dead, .dead, .dead]⟩ => some r1
 | _ => none
theorem slices_ContainsFunc_int_int_116_i {r : Rs} {y : Bool} (h : slices_ContainsFunc_int_int_116_d r = some y) : r = ⟨(.a (.sc (.v (.bool y)))), [.dead, .dead, .dead]⟩ := by
 unfold slices_ContainsFunc_int_int_116_d at h; split at h
 · cases h; rfl
 · cases h
theorem slices_ContainsFunc_int_int_116_e (k : Nat) (s : (List Int)) (f_0 : Int) (f_1 : Int) : callF env (slices_ContainsFunc_int_int_116_O k) slices_ContainsFunc_int_int_116_v Tryz.f115 (k + 1) (slices_ContainsFunc_int_int_116_A s f_0 f_1) (fun r => slices_ContainsFunc_int_int_116_d (r.fin 3 [])) = slices_ContainsFunc_int_int_116 k s f_0 f_1 := by kernel_rfl
noncomputable def slices_ContainsFunc_int_int_116_x (k : Nat) : Ent1 := fun A R Q => match A with
 | ⟨[(.sc (.sl 0)), (.sc (.fn 116 [1, 2]))], [(.row false K.ki64 a1), (.box false [(.v (.int .i64 a2))]), (.box false [(.v (.int .i64 a3))])]⟩ => (slices_ContainsFunc_int_int_116 k a1 a2 a3).bind fun y => Q ⟨(.a (.sc (.v (.bool y)))), [.dead, .dead, .dead]⟩
 | _ => none
theorem slices_ContainsFunc_int_int_116_ok (k : Nat) : OkE Tryz.prog 115 (slices_ContainsFunc_int_int_116_x k) := by
 intro A R Q x h
 unfold slices_ContainsFunc_int_int_116_x at h
 split at h
 · obtain ⟨y, hy, hK⟩ := Option.bind_eq_some_iff.1 h
   obtain ⟨r, hr, hd⟩ := callF_ok envOk (slices_ContainsFunc_int_int_116_Ok k) follows Tryz.func115 (by kernel_rfl) ((slices_ContainsFunc_int_int_116_e k _ _ _).trans hy)
   exact ⟨_, slices_ContainsFunc_int_int_116_i hd ▸ hr.fin [], hK⟩
 · cases h
/-! ### impl.allIn: function 105 -/
noncomputable def impl_allIn (k : Nat)  (list : (List Int)) (low : Int) (high : Int) : Option (Bool) :=
 (slices_ContainsFunc_int_int_116 k list low high).bind fun y1 =>
 some (!y1)
noncomputable def impl_allIn_v : Nat → List Nat := fun t => match t with | _ => []
noncomputable def impl_allIn_O (k : Nat) : Oracle := ofL [(115, slices_ContainsFunc_int_int_116_x k)]
theorem impl_allIn_Ok (k : Nat) : OkO (Ct Tryz.prog) (impl_allIn_O k) := okO_cons (slices_ContainsFunc_int_int_116_ok k) (okO_nil)
noncomputable def impl_allIn_A (list : (List Int)) (low : Int) (high : Int) : Pk := ⟨[(.sc (.sl 0)), (.sc (.v (.int .i64 low))), (.sc (.v (.int .i64 high)))], [(.row false K.ki64 list)]⟩
noncomputable def impl_allIn_d : Rs → Option (Bool)
 | ⟨(.a (.sc (.v (.bool r1)))), [.dead]⟩ => some r1
 | _ => none
theorem impl_allIn_i {r : Rs} {y : Bool} (h : impl_allIn_d r = some y) : r = ⟨(.a (.sc (.v (.bool y)))), [.dead]⟩ := by
 unfold impl_allIn_d at h; split at h
 · cases h; rfl
 · cases h
theorem impl_allIn_e (k : Nat) (list : (List Int)) (low : Int) (high : Int) : callF env (impl_allIn_O k) impl_allIn_v Tryz.f105 (k + 1) (impl_allIn_A list low high) (fun r => impl_allIn_d (r.fin 1 [])) = impl_allIn k list low high := by kernel_rfl
noncomputable def impl_allIn_x (k : Nat) : Ent1 := fun A R Q => match A with
 | ⟨[(.sc (.sl 0)), (.sc (.v (.int .i64 a2))), (.sc (.v (.int .i64 a3)))], [(.row false K.ki64 a1)]⟩ => (impl_allIn k a1 a2 a3).bind fun y => Q ⟨(.a (.sc (.v (.bool y)))), [.dead]⟩
 | _ => none
theorem impl_allIn_ok (k : Nat) : OkE Tryz.prog 105 (impl_allIn_x k) := by
 intro A R Q x h
 unfold impl_allIn_x at h
 split at h
 · obtain ⟨y, hy, hK⟩ := Option.bind_eq_some_iff.1 h
   obtain ⟨r, hr, hd⟩ := callF_ok envOk (impl_allIn_Ok k) follows Tryz.func105 (by kernel_rfl) ((impl_allIn_e k _ _ _).trans hy)
   exact ⟨_, impl_allIn_i hd ▸ hr.fin [], hK⟩
 · cases h
/-! ### impl.StoreOk: function 76 -/
noncomputable def impl_StoreOk (k : Nat)  (s : Stock) : Option (Bool) :=
 cond (decide ((((s.Grams).length : Int) : Int) = 4))
 ((impl_allIn k s.Grams 0 1000000).bind fun y1 =>
  some y1)
 (some false)
noncomputable def impl_StoreOk_v : Nat → List Nat := fun t => match t with | _ => []
noncomputable def impl_StoreOk_O (k : Nat) : Oracle := ofL [(105, impl_allIn_x k)]
theorem impl_StoreOk_Ok (k : Nat) : OkO (Ct Tryz.prog) (impl_StoreOk_O k) := okO_cons (impl_allIn_ok k) (okO_nil)
noncomputable def impl_StoreOk_A (s : Stock) : Pk := ⟨[(.ag [(.sl 0)])], [(.row false K.ki64 s.Grams)]⟩
noncomputable def impl_StoreOk_d : Rs → Option (Bool)
 | ⟨(.a (.sc (.v (.bool r1)))), [.dead]⟩ => some r1
 | _ => none
theorem impl_StoreOk_i {r : Rs} {y : Bool} (h : impl_StoreOk_d r = some y) : r = ⟨(.a (.sc (.v (.bool y)))), [.dead]⟩ := by
 unfold impl_StoreOk_d at h; split at h
 · cases h; rfl
 · cases h
theorem impl_StoreOk_e (k : Nat) (s : Stock) : callF env (impl_StoreOk_O k) impl_StoreOk_v Tryz.f76 (k + 1) (impl_StoreOk_A s) (fun r => impl_StoreOk_d (r.fin 1 [])) = impl_StoreOk k s := by kernel_rfl
noncomputable def impl_StoreOk_x (k : Nat) : Ent1 := fun A R Q => match A with
 | ⟨[(.ag [(.sl 0)])], [(.row false K.ki64 a1)]⟩ => (impl_StoreOk k (⟨a1⟩ : Stock)).bind fun y => Q ⟨(.a (.sc (.v (.bool y)))), [.dead]⟩
 | _ => none
theorem impl_StoreOk_ok (k : Nat) : OkE Tryz.prog 76 (impl_StoreOk_x k) := by
 intro A R Q x h
 unfold impl_StoreOk_x at h
 split at h
 · obtain ⟨y, hy, hK⟩ := Option.bind_eq_some_iff.1 h
   obtain ⟨r, hr, hd⟩ := callF_ok envOk (impl_StoreOk_Ok k) follows Tryz.func76 (by kernel_rfl) ((impl_StoreOk_e k _).trans hy)
   exact ⟨_, impl_StoreOk_i hd ▸ hr.fin [], hK⟩
 · cases h
/-! ### impl.DoughOk: function 77 -/
noncomputable def impl_DoughOk (k : Nat)  (d : Dough) : Option (Bool) :=
 (impl_in k d.Water 300 1200).bind fun y1 =>
 cond y1
  ((impl_in k d.Salt 0 50).bind fun y2 =>
   cond y2
    ((impl_in k d.Leaven 0 500).bind fun y3 =>
     some y3)
    (some false))
  (some false)
noncomputable def impl_DoughOk_v : Nat → List Nat := fun t => match t with | _ => []
noncomputable def impl_DoughOk_O (k : Nat) : Oracle := ofL [(80, impl_in_x k)]
theorem impl_DoughOk_Ok (k : Nat) : OkO (Ct Tryz.prog) (impl_DoughOk_O k) := okO_cons (impl_in_ok k) (okO_nil)
noncomputable def impl_DoughOk_A (d : Dough) : Pk := ⟨[(.ag [(.v (.int .i64 d.Water)), (.v (.int .i64 d.Salt)), (.v (.int .i64 d.Leaven))])], []⟩
noncomputable def impl_DoughOk_d : Rs → Option (Bool)
 | ⟨(.a (.sc (.v (.bool r1)))), []⟩ => some r1
 | _ => none
theorem impl_DoughOk_i {r : Rs} {y : Bool} (h : impl_DoughOk_d r = some y) : r = ⟨(.a (.sc (.v (.bool y)))), []⟩ := by
 unfold impl_DoughOk_d at h; split at h
 · cases h; rfl
 · cases h
theorem impl_DoughOk_e (k : Nat) (d : Dough) : callF env (impl_DoughOk_O k) impl_DoughOk_v Tryz.f77 (k + 1) (impl_DoughOk_A d) (fun r => impl_DoughOk_d (r.fin 0 [])) = impl_DoughOk k d := by kernel_rfl
noncomputable def impl_DoughOk_x (k : Nat) : Ent1 := fun A R Q => match A with
 | ⟨[(.ag [(.v (.int .i64 a1)), (.v (.int .i64 a2)), (.v (.int .i64 a3))])], []⟩ => (impl_DoughOk k (⟨a1, a2, a3⟩ : Dough)).bind fun y => Q ⟨(.a (.sc (.v (.bool y)))), []⟩
 | _ => none
theorem impl_DoughOk_ok (k : Nat) : OkE Tryz.prog 77 (impl_DoughOk_x k) := by
 intro A R Q x h
 unfold impl_DoughOk_x at h
 split at h
 · obtain ⟨y, hy, hK⟩ := Option.bind_eq_some_iff.1 h
   obtain ⟨r, hr, hd⟩ := callF_ok envOk (impl_DoughOk_Ok k) follows Tryz.func77 (by kernel_rfl) ((impl_DoughOk_e k _).trans hy)
   exact ⟨_, impl_DoughOk_i hd ▸ hr.fin [], hK⟩
 · cases h
/-! ### impl.LoafOk: function 78 -/
noncomputable def impl_LoafOk (k : Nat)  (l : Loaf) : Option (Bool) :=
 (impl_in k l.Weight 10 5000).bind fun y1 =>
 cond y1
  ((impl_in k l.Loss 0 40).bind fun y2 =>
   some y2)
  (some false)
noncomputable def impl_LoafOk_v : Nat → List Nat := fun t => match t with | _ => []
noncomputable def impl_LoafOk_O (k : Nat) : Oracle := ofL [(80, impl_in_x k)]
theorem impl_LoafOk_Ok (k : Nat) : OkO (Ct Tryz.prog) (impl_LoafOk_O k) := okO_cons (impl_in_ok k) (okO_nil)
noncomputable def impl_LoafOk_A (l : Loaf) : Pk := ⟨[(.ag [(.v (.int .i64 l.Weight)), (.v (.int .i64 l.Loss))])], []⟩
noncomputable def impl_LoafOk_d : Rs → Option (Bool)
 | ⟨(.a (.sc (.v (.bool r1)))), []⟩ => some r1
 | _ => none
theorem impl_LoafOk_i {r : Rs} {y : Bool} (h : impl_LoafOk_d r = some y) : r = ⟨(.a (.sc (.v (.bool y)))), []⟩ := by
 unfold impl_LoafOk_d at h; split at h
 · cases h; rfl
 · cases h
theorem impl_LoafOk_e (k : Nat) (l : Loaf) : callF env (impl_LoafOk_O k) impl_LoafOk_v Tryz.f78 (k + 1) (impl_LoafOk_A l) (fun r => impl_LoafOk_d (r.fin 0 [])) = impl_LoafOk k l := by kernel_rfl
noncomputable def impl_LoafOk_x (k : Nat) : Ent1 := fun A R Q => match A with
 | ⟨[(.ag [(.v (.int .i64 a1)), (.v (.int .i64 a2))])], []⟩ => (impl_LoafOk k (⟨a1, a2⟩ : Loaf)).bind fun y => Q ⟨(.a (.sc (.v (.bool y)))), []⟩
 | _ => none
theorem impl_LoafOk_ok (k : Nat) : OkE Tryz.prog 78 (impl_LoafOk_x k) := by
 intro A R Q x h
 unfold impl_LoafOk_x at h
 split at h
 · obtain ⟨y, hy, hK⟩ := Option.bind_eq_some_iff.1 h
   obtain ⟨r, hr, hd⟩ := callF_ok envOk (impl_LoafOk_Ok k) follows Tryz.func78 (by kernel_rfl) ((impl_LoafOk_e k _).trans hy)
   exact ⟨_, impl_LoafOk_i hd ▸ hr.fin [], hK⟩
 · cases h
/-! ### impl.RackOk: function 124 -/
noncomputable def impl_RackOk (k : Nat)  (r : Rack) : Option (Bool) :=
 (impl_allIn k ([r.Fresh, r.Day, r.Old]) 0 10000).bind fun y1 =>
 some y1
noncomputable def impl_RackOk_v : Nat → List Nat := fun t => match t with | _ => []
noncomputable def impl_RackOk_O (k : Nat) : Oracle := ofL [(105, impl_allIn_x k)]
theorem impl_RackOk_Ok (k : Nat) : OkO (Ct Tryz.prog) (impl_RackOk_O k) := okO_cons (impl_allIn_ok k) (okO_nil)
noncomputable def impl_RackOk_A (r : Rack) : Pk := ⟨[(.ag [(.v (.int .i64 r.Fresh)), (.v (.int .i64 r.Day)), (.v (.int .i64 r.Old))])], []⟩
noncomputable def impl_RackOk_d : Rs → Option (Bool)
 | ⟨(.a (.sc (.v (.bool r1)))), []⟩ => some r1
 | _ => none
theorem impl_RackOk_i {r : Rs} {y : Bool} (h : impl_RackOk_d r = some y) : r = ⟨(.a (.sc (.v (.bool y)))), []⟩ := by
 unfold impl_RackOk_d at h; split at h
 · cases h; rfl
 · cases h
theorem impl_RackOk_e (k : Nat) (r : Rack) : callF env (impl_RackOk_O k) impl_RackOk_v Tryz.f124 (k + 1) (impl_RackOk_A r) (fun r => impl_RackOk_d (r.fin 0 [])) = impl_RackOk k r := by kernel_rfl
noncomputable def impl_RackOk_x (k : Nat) : Ent1 := fun A R Q => match A with
 | ⟨[(.ag [(.v (.int .i64 a1)), (.v (.int .i64 a2)), (.v (.int .i64 a3))])], []⟩ => (impl_RackOk k (⟨a1, a2, a3⟩ : Rack)).bind fun y => Q ⟨(.a (.sc (.v (.bool y)))), []⟩
 | _ => none
theorem impl_RackOk_ok (k : Nat) : OkE Tryz.prog 124 (impl_RackOk_x k) := by
 intro A R Q x h
 unfold impl_RackOk_x at h
 split at h
 · obtain ⟨y, hy, hK⟩ := Option.bind_eq_some_iff.1 h
   obtain ⟨r, hr, hd⟩ := callF_ok envOk (impl_RackOk_Ok k) follows Tryz.func124 (by kernel_rfl) ((impl_RackOk_e k _).trans hy)
   exact ⟨_, impl_RackOk_i hd ▸ hr.fin [], hK⟩
 · cases h
/-! ### impl.taken: function 128 -/
noncomputable def impl_taken (k : Nat)  (first : Int) (second : Int) (n : Int) : Option (Int × Int × Int) :=
 some ((wr (first - (mn first n))), (wr (second - (mn second (wr (n - (mn first n)))))), (wr ((mn first n) + (mn second (wr (n - (mn first n)))))))
noncomputable def impl_taken_v : Nat → List Nat := fun t => match t with | _ => []
noncomputable def impl_taken_O (k : Nat) : Oracle := ofL []
theorem impl_taken_Ok (k : Nat) : OkO (Ct Tryz.prog) (impl_taken_O k) := okO_nil
noncomputable def impl_taken_A (first : Int) (second : Int) (n : Int) : Pk := ⟨[(.sc (.v (.int .i64 first))), (.sc (.v (.int .i64 second))), (.sc (.v (.int .i64 n)))], []⟩
noncomputable def impl_taken_d : Rs → Option (Int × Int × Int)
 | ⟨(.tp [(.sc (.v (.int .i64 r1))), (.sc (.v (.int .i64 r2))), (.sc (.v (.int .i64 r3)))]), []⟩ => some (r1, r2, r3)
 | _ => none
theorem impl_taken_i {r : Rs} {y : Int × Int × Int} (h : impl_taken_d r = some y) : r = ⟨(.tp [(.sc (.v (.int .i64 y.1))), (.sc (.v (.int .i64 y.2.1))), (.sc (.v (.int .i64 y.2.2)))]), []⟩ := by
 unfold impl_taken_d at h; split at h
 · cases h; rfl
 · cases h
theorem impl_taken_e (k : Nat) (first : Int) (second : Int) (n : Int) : callF env (impl_taken_O k) impl_taken_v Tryz.f128 (k + 1) (impl_taken_A first second n) (fun r => impl_taken_d (r.fin 0 [])) = impl_taken k first second n := by kernel_rfl
noncomputable def impl_taken_x (k : Nat) : Ent1 := fun A R Q => match A with
 | ⟨[(.sc (.v (.int .i64 a1))), (.sc (.v (.int .i64 a2))), (.sc (.v (.int .i64 a3)))], []⟩ => (impl_taken k a1 a2 a3).bind fun y => Q ⟨(.tp [(.sc (.v (.int .i64 y.1))), (.sc (.v (.int .i64 y.2.1))), (.sc (.v (.int .i64 y.2.2)))]), []⟩
 | _ => none
theorem impl_taken_ok (k : Nat) : OkE Tryz.prog 128 (impl_taken_x k) := by
 intro A R Q x h
 unfold impl_taken_x at h
 split at h
 · obtain ⟨y, hy, hK⟩ := Option.bind_eq_some_iff.1 h
   obtain ⟨r, hr, hd⟩ := callF_ok envOk (impl_taken_Ok k) follows Tryz.func128 (by kernel_rfl) ((impl_taken_e k _ _ _).trans hy)
   exact ⟨_, impl_taken_i hd ▸ hr.fin [], hK⟩
 · cases h
/-! ### impl.SellFresh: function 125 -/
noncomputable def impl_SellFresh (k : Nat)  (r : Rack) (n : Int) : Option (Rack × Int) :=
 (impl_RackOk k r).bind fun y1 =>
 cond (!y1)
  (some (r, (-1)))
  ((impl_in k n 0 10000).bind fun y2 =>
   cond (!y2)
    (some (r, (-1)))
    ((impl_taken k r.Fresh r.Day n).bind fun y3 =>
     some ((⟨y3.1, y3.2.1, r.Old⟩ : Rack), y3.2.2)))
noncomputable def impl_SellFresh_v : Nat → List Nat := fun t => match t with | _ => []
noncomputable def impl_SellFresh_O (k : Nat) : Oracle := ofL [(124, impl_RackOk_x k), (128, impl_taken_x k), (80, impl_in_x k)]
theorem impl_SellFresh_Ok (k : Nat) : OkO (Ct Tryz.prog) (impl_SellFresh_O k) := okO_cons (impl_RackOk_ok k) (okO_cons (impl_taken_ok k) (okO_cons (impl_in_ok k) (okO_nil)))
noncomputable def impl_SellFresh_A (r : Rack) (n : Int) : Pk := ⟨[(.ag [(.v (.int .i64 r.Fresh)), (.v (.int .i64 r.Day)), (.v (.int .i64 r.Old))]), (.sc (.v (.int .i64 n)))], []⟩
noncomputable def impl_SellFresh_d : Rs → Option (Rack × Int)
 | ⟨(.tp [(.ag [(.v (.int .i64 r1)), (.v (.int .i64 r2)), (.v (.int .i64 r3))]), (.sc (.v (.int .i64 r4)))]), []⟩ => some ((⟨r1, r2, r3⟩ : Rack), r4)
 | _ => none
theorem impl_SellFresh_i {r : Rs} {y : Rack × Int} (h : impl_SellFresh_d r = some y) : r = ⟨(.tp [(.ag [(.v (.int .i64 y.1.Fresh)), (.v (.int .i64 y.1.Day)), (.v (.int .i64 y.1.Old))]), (.sc (.v (.int .i64 y.2)))]), []⟩ := by
 unfold impl_SellFresh_d at h; split at h
 · cases h; rfl
 · cases h
theorem impl_SellFresh_e (k : Nat) (r : Rack) (n : Int) : callF env (impl_SellFresh_O k) impl_SellFresh_v Tryz.f125 (k + 1) (impl_SellFresh_A r n) (fun r => impl_SellFresh_d (r.fin 0 [])) = impl_SellFresh k r n := by kernel_rfl
noncomputable def impl_SellFresh_x (k : Nat) : Ent1 := fun A R Q => match A with
 | ⟨[(.ag [(.v (.int .i64 a1)), (.v (.int .i64 a2)), (.v (.int .i64 a3))]), (.sc (.v (.int .i64 a4)))], []⟩ => (impl_SellFresh k (⟨a1, a2, a3⟩ : Rack) a4).bind fun y => Q ⟨(.tp [(.ag [(.v (.int .i64 y.1.Fresh)), (.v (.int .i64 y.1.Day)), (.v (.int .i64 y.1.Old))]), (.sc (.v (.int .i64 y.2)))]), []⟩
 | _ => none
theorem impl_SellFresh_ok (k : Nat) : OkE Tryz.prog 125 (impl_SellFresh_x k) := by
 intro A R Q x h
 unfold impl_SellFresh_x at h
 split at h
 · obtain ⟨y, hy, hK⟩ := Option.bind_eq_some_iff.1 h
   obtain ⟨r, hr, hd⟩ := callF_ok envOk (impl_SellFresh_Ok k) follows Tryz.func125 (by kernel_rfl) ((impl_SellFresh_e k _ _).trans hy)
   exact ⟨_, impl_SellFresh_i hd ▸ hr.fin [], hK⟩
 · cases h
/-! ### impl.SellCheap: function 126 -/
noncomputable def impl_SellCheap (k : Nat)  (r : Rack) (n : Int) : Option (Rack × Int) :=
 (impl_RackOk k r).bind fun y1 =>
 cond (!y1)
  (some (r, (-1)))
  ((impl_in k n 0 10000).bind fun y2 =>
   cond (!y2)
    (some (r, (-1)))
    ((impl_taken k r.Old r.Day n).bind fun y3 =>
     some ((⟨r.Fresh, y3.2.1, y3.1⟩ : Rack), y3.2.2)))
noncomputable def impl_SellCheap_v : Nat → List Nat := fun t => match t with | _ => []
noncomputable def impl_SellCheap_O (k : Nat) : Oracle := ofL [(124, impl_RackOk_x k), (128, impl_taken_x k), (80, impl_in_x k)]
theorem impl_SellCheap_Ok (k : Nat) : OkO (Ct Tryz.prog) (impl_SellCheap_O k) := okO_cons (impl_RackOk_ok k) (okO_cons (impl_taken_ok k) (okO_cons (impl_in_ok k) (okO_nil)))
noncomputable def impl_SellCheap_A (r : Rack) (n : Int) : Pk := ⟨[(.ag [(.v (.int .i64 r.Fresh)), (.v (.int .i64 r.Day)), (.v (.int .i64 r.Old))]), (.sc (.v (.int .i64 n)))], []⟩
noncomputable def impl_SellCheap_d : Rs → Option (Rack × Int)
 | ⟨(.tp [(.ag [(.v (.int .i64 r1)), (.v (.int .i64 r2)), (.v (.int .i64 r3))]), (.sc (.v (.int .i64 r4)))]), []⟩ => some ((⟨r1, r2, r3⟩ : Rack), r4)
 | _ => none
theorem impl_SellCheap_i {r : Rs} {y : Rack × Int} (h : impl_SellCheap_d r = some y) : r = ⟨(.tp [(.ag [(.v (.int .i64 y.1.Fresh)), (.v (.int .i64 y.1.Day)), (.v (.int .i64 y.1.Old))]), (.sc (.v (.int .i64 y.2)))]), []⟩ := by
 unfold impl_SellCheap_d at h; split at h
 · cases h; rfl
 · cases h
theorem impl_SellCheap_e (k : Nat) (r : Rack) (n : Int) : callF env (impl_SellCheap_O k) impl_SellCheap_v Tryz.f126 (k + 1) (impl_SellCheap_A r n) (fun r => impl_SellCheap_d (r.fin 0 [])) = impl_SellCheap k r n := by kernel_rfl
noncomputable def impl_SellCheap_x (k : Nat) : Ent1 := fun A R Q => match A with
 | ⟨[(.ag [(.v (.int .i64 a1)), (.v (.int .i64 a2)), (.v (.int .i64 a3))]), (.sc (.v (.int .i64 a4)))], []⟩ => (impl_SellCheap k (⟨a1, a2, a3⟩ : Rack) a4).bind fun y => Q ⟨(.tp [(.ag [(.v (.int .i64 y.1.Fresh)), (.v (.int .i64 y.1.Day)), (.v (.int .i64 y.1.Old))]), (.sc (.v (.int .i64 y.2)))]), []⟩
 | _ => none
theorem impl_SellCheap_ok (k : Nat) : OkE Tryz.prog 126 (impl_SellCheap_x k) := by
 intro A R Q x h
 unfold impl_SellCheap_x at h
 split at h
 · obtain ⟨y, hy, hK⟩ := Option.bind_eq_some_iff.1 h
   obtain ⟨r, hr, hd⟩ := callF_ok envOk (impl_SellCheap_Ok k) follows Tryz.func126 (by kernel_rfl) ((impl_SellCheap_e k _ _).trans hy)
   exact ⟨_, impl_SellCheap_i hd ▸ hr.fin [], hK⟩
 · cases h
/-! ### impl.NextMorning: function 127 -/
noncomputable def impl_NextMorning (k : Nat)  (r : Rack) (baked : Int) : Option (Rack × Int) :=
 (impl_RackOk k r).bind fun y1 =>
 cond (!y1)
  (some (r, (-1)))
  ((impl_in k baked 0 10000).bind fun y2 =>
   cond (!y2)
    (some (r, (-1)))
    (some ((⟨baked, r.Fresh, r.Day⟩ : Rack), r.Old)))
noncomputable def impl_NextMorning_v : Nat → List Nat := fun t => match t with | _ => []
noncomputable def impl_NextMorning_O (k : Nat) : Oracle := ofL [(124, impl_RackOk_x k), (80, impl_in_x k)]
theorem impl_NextMorning_Ok (k : Nat) : OkO (Ct Tryz.prog) (impl_NextMorning_O k) := okO_cons (impl_RackOk_ok k) (okO_cons (impl_in_ok k) (okO_nil))
noncomputable def impl_NextMorning_A (r : Rack) (baked : Int) : Pk := ⟨[(.ag [(.v (.int .i64 r.Fresh)), (.v (.int .i64 r.Day)), (.v (.int .i64 r.Old))]), (.sc (.v (.int .i64 baked)))], []⟩
noncomputable def impl_NextMorning_d : Rs → Option (Rack × Int)
 | ⟨(.tp [(.ag [(.v (.int .i64 r1)), (.v (.int .i64 r2)), (.v (.int .i64 r3))]), (.sc (.v (.int .i64 r4)))]), []⟩ => some ((⟨r1, r2, r3⟩ : Rack), r4)
 | _ => none
theorem impl_NextMorning_i {r : Rs} {y : Rack × Int} (h : impl_NextMorning_d r = some y) : r = ⟨(.tp [(.ag [(.v (.int .i64 y.1.Fresh)), (.v (.int .i64 y.1.Day)), (.v (.int .i64 y.1.Old))]), (.sc (.v (.int .i64 y.2)))]), []⟩ := by
 unfold impl_NextMorning_d at h; split at h
 · cases h; rfl
 · cases h
theorem impl_NextMorning_e (k : Nat) (r : Rack) (baked : Int) : callF env (impl_NextMorning_O k) impl_NextMorning_v Tryz.f127 (k + 1) (impl_NextMorning_A r baked) (fun r => impl_NextMorning_d (r.fin 0 [])) = impl_NextMorning k r baked := by kernel_rfl
noncomputable def impl_NextMorning_x (k : Nat) : Ent1 := fun A R Q => match A with
 | ⟨[(.ag [(.v (.int .i64 a1)), (.v (.int .i64 a2)), (.v (.int .i64 a3))]), (.sc (.v (.int .i64 a4)))], []⟩ => (impl_NextMorning k (⟨a1, a2, a3⟩ : Rack) a4).bind fun y => Q ⟨(.tp [(.ag [(.v (.int .i64 y.1.Fresh)), (.v (.int .i64 y.1.Day)), (.v (.int .i64 y.1.Old))]), (.sc (.v (.int .i64 y.2)))]), []⟩
 | _ => none
theorem impl_NextMorning_ok (k : Nat) : OkE Tryz.prog 127 (impl_NextMorning_x k) := by
 intro A R Q x h
 unfold impl_NextMorning_x at h
 split at h
 · obtain ⟨y, hy, hK⟩ := Option.bind_eq_some_iff.1 h
   obtain ⟨r, hr, hd⟩ := callF_ok envOk (impl_NextMorning_Ok k) follows Tryz.func127 (by kernel_rfl) ((impl_NextMorning_e k _ _).trans hy)
   exact ⟨_, impl_NextMorning_i hd ▸ hr.fin [], hK⟩
 · cases h
/-! ### impl.EventOn: function 117 -/
noncomputable def impl_EventOn (k : Nat)  (r : Rack) (e : Event) : Option (Rack × Int × Int × Int × Bool) :=
 (impl_RackOk k r).bind fun y1 =>
 cond (!y1)
  (some (r, 0, 0, 0, false))
  ((impl_in k e.Loaves 0 1000).bind fun y2 =>
   cond (!y2)
    (some (r, 0, 0, 0, false))
    (cond (decide ((e.Kind : Int) = 1))
     ((impl_RackOk k (⟨(wr (r.Fresh + e.Loaves)), r.Day, r.Old⟩ : Rack)).bind fun y3 =>
      cond (!y3)
       (some (r, 0, 0, 0, false))
       (some ((⟨(wr (r.Fresh + e.Loaves)), r.Day, r.Old⟩ : Rack), e.Loaves, 0, 0, true)))
     (cond (decide ((e.Kind : Int) = 2))
      ((impl_SellFresh k r e.Loaves).bind fun y4 =>
       cond (!(decide ((y4.2 : Int) = e.Loaves)))
        (some (r, 0, 0, 0, false))
        ((impl_RackOk k y4.1).bind fun y5 =>
        cond (!y5)
        (some (r, 0, 0, 0, false))
        (some (y4.1, 0, y4.2, 0, true))))
      (cond (decide ((e.Kind : Int) = 3))
       ((impl_SellCheap k r e.Loaves).bind fun y6 =>
        cond (!(decide ((y6.2 : Int) = e.Loaves)))
        (some (r, 0, 0, 0, false))
        ((impl_RackOk k y6.1).bind fun y7 =>
        cond (!y7)
        (some (r, 0, 0, 0, false))
        (some (y6.1, 0, y6.2, 0, true))))
       (cond (decide ((e.Kind : Int) = 4))
        ((impl_NextMorning k r 0).bind fun y8 =>
        cond (!(decide ((e.Loaves : Int) = 0)))
        (some (r, 0, 0, 0, false))
        ((impl_RackOk k y8.1).bind fun y9 =>
        cond (!y9)
        (some (r, 0, 0, 0, false))
        (some (y8.1, 0, 0, y8.2, true))))
        (some (r, 0, 0, 0, false)))))))
noncomputable def impl_EventOn_v : Nat → List Nat := fun t => match t with | _ => []
noncomputable def impl_EventOn_O (k : Nat) : Oracle := ofL [(124, impl_RackOk_x k), (125, impl_SellFresh_x k), (126, impl_SellCheap_x k), (127, impl_NextMorning_x k), (80, impl_in_x k)]
theorem impl_EventOn_Ok (k : Nat) : OkO (Ct Tryz.prog) (impl_EventOn_O k) := okO_cons (impl_RackOk_ok k) (okO_cons (impl_SellFresh_ok k) (okO_cons (impl_SellCheap_ok k) (okO_cons (impl_NextMorning_ok k) (okO_cons (impl_in_ok k) (okO_nil)))))
noncomputable def impl_EventOn_A (r : Rack) (e : Event) : Pk := ⟨[(.ag [(.v (.int .i64 r.Fresh)), (.v (.int .i64 r.Day)), (.v (.int .i64 r.Old))]), (.ag [(.v (.int .i64 e.Kind)), (.v (.int .i64 e.Loaves))])], []⟩
noncomputable def impl_EventOn_d : Rs → Option (Rack × Int × Int × Int × Bool)
 | ⟨(.tp [(.ag [(.v (.int .i64 r1)), (.v (.int .i64 r2)), (.v (.int .i64 r3))]), (.sc (.v (.int .i64 r4))), (.sc (.v (.int .i64 r5))), (.sc (.v (.int .i64 r6))), (.sc (.v (.bool r7)))]), []⟩ => some ((⟨r1, r2, r3⟩ : Rack), r4, r5, r6, r7)
 | _ => none
theorem impl_EventOn_i {r : Rs} {y : Rack × Int × Int × Int × Bool} (h : impl_EventOn_d r = some y) : r = ⟨(.tp [(.ag [(.v (.int .i64 y.1.Fresh)), (.v (.int .i64 y.1.Day)), (.v (.int .i64 y.1.Old))]), (.sc (.v (.int .i64 y.2.1))), (.sc (.v (.int .i64 y.2.2.1))), (.sc (.v (.int .i64 y.2.2.2.1))), (.sc (.v (.bool y.2.2.2.2)))]), []⟩ := by
 unfold impl_EventOn_d at h; split at h
 · cases h; rfl
 · cases h
theorem impl_EventOn_e (k : Nat) (r : Rack) (e : Event) : callF env (impl_EventOn_O k) impl_EventOn_v Tryz.f117 (k + 1) (impl_EventOn_A r e) (fun r => impl_EventOn_d (r.fin 0 [])) = impl_EventOn k r e := by kernel_rfl
noncomputable def impl_EventOn_x (k : Nat) : Ent1 := fun A R Q => match A with
 | ⟨[(.ag [(.v (.int .i64 a1)), (.v (.int .i64 a2)), (.v (.int .i64 a3))]), (.ag [(.v (.int .i64 a4)), (.v (.int .i64 a5))])], []⟩ => (impl_EventOn k (⟨a1, a2, a3⟩ : Rack) (⟨a4, a5⟩ : Event)).bind fun y => Q ⟨(.tp [(.ag [(.v (.int .i64 y.1.Fresh)), (.v (.int .i64 y.1.Day)), (.v (.int .i64 y.1.Old))]), (.sc (.v (.int .i64 y.2.1))), (.sc (.v (.int .i64 y.2.2.1))), (.sc (.v (.int .i64 y.2.2.2.1))), (.sc (.v (.bool y.2.2.2.2)))]), []⟩
 | _ => none
theorem impl_EventOn_ok (k : Nat) : OkE Tryz.prog 117 (impl_EventOn_x k) := by
 intro A R Q x h
 unfold impl_EventOn_x at h
 split at h
 · obtain ⟨y, hy, hK⟩ := Option.bind_eq_some_iff.1 h
   obtain ⟨r, hr, hd⟩ := callF_ok envOk (impl_EventOn_Ok k) follows Tryz.func117 (by kernel_rfl) ((impl_EventOn_e k _ _).trans hy)
   exact ⟨_, impl_EventOn_i hd ▸ hr.fin [], hK⟩
 · cases h
end Go.Proofs.YtlhcphoojiemmaaGreatX
