/- What functions of the program compute, as functions of numbers and lists, and that they do. (The file is written by wip/x/vxp.py of this repository.) -/
import Derived.Test.YtlenacakmmikiaaGreatDoorF0
import Derived.Test.YtlenacakmmikiaaGreatDoorX20
import Derived.WalkKit
import Derived.BigCall
import Derived.Lib.UnsafeStr
import Derived.Test.YtlenacakmmikiaaGreatDoorX18
namespace Go.Proofs.YtlenacakmmikiaaGreatDoorX
open Go Go.Proofs Go.RowKit
set_option linter.unusedVariables false
set_option maxRecDepth 100000
/-! ### spec.l02Dough: function 95 -/
noncomputable def spec_l02Dough (k : Nat)  (c : l01Cur) : Option (Dough × (Int × Int)) :=
 (spec_l01Below k c 250).bind fun y1 =>
 (spec_l01Below k (⟨c.b, y1.2.1, y1.2.2⟩ : l01Cur) 10).bind fun y2 =>
  (spec_l01Below k (⟨c.b, y2.2.1, y2.2.2⟩ : l01Cur) 250).bind fun y3 =>
   some ((⟨(wr ((550 : Int) + y1.1)), (wr ((15 : Int) + y2.1)), y3.1⟩ : Dough), (y3.2.1, y3.2.2))
noncomputable def spec_l02Dough_v : Nat → List Nat := fun t => match t with | _ => []
noncomputable def spec_l02Dough_O (k : Nat) : Oracle := ofL [(59, spec_l01Below_x k)]
theorem spec_l02Dough_Ok (k : Nat) : OkO (Ct Tryz.prog) (spec_l02Dough_O k) := okO_cons (spec_l01Below_ok k) (okO_nil)
noncomputable def spec_l02Dough_A (c : l01Cur) : Pk := ⟨[(.sc (.bp 1 0))], [(.row false K.ku8 c.b), (.box true [(.sl 0), (.v (.int .i64 c.i)), (.v (.int .i64 c.h))])]⟩
noncomputable def spec_l02Dough_d : Rs → Option (Dough × (Int × Int))
 | ⟨(.a (.ag [(.v (.int .i64 r1)), (.v (.int .i64 r2)), (.v (.int .i64 r3))])), [.dead, (.box true [(.sl 0), (.v (.int .i64 r4)), (.v (.int .i64 r5))])]⟩ => some ((⟨r1, r2, r3⟩ : Dough), (r4, r5))
 | _ => none
theorem spec_l02Dough_i {r : Rs} {y : Dough × (Int × Int)} (h : spec_l02Dough_d r = some y) : r = ⟨(.a (.ag [(.v (.int .i64 y.1.Water)), (.v (.int .i64 y.1.Salt)), (.v (.int .i64 y.1.Leaven))])), [.dead, (.box true [(.sl 0), (.v (.int .i64 y.2.1)), (.v (.int .i64 y.2.2))])]⟩ := by
 unfold spec_l02Dough_d at h; split at h
 · cases h; rfl
 · cases h
theorem spec_l02Dough_e (k : Nat) (c : l01Cur) : callF env (spec_l02Dough_O k) spec_l02Dough_v Tryz.f95 (k + 1) (spec_l02Dough_A c) (fun r => spec_l02Dough_d (r.fin 2 [])) = spec_l02Dough k c := by kernel_rfl
noncomputable def spec_l02Dough_x (k : Nat) : Ent1 := fun A R Q => match A with
 | ⟨[(.sc (.bp 1 0))], [(.row false K.ku8 a1), (.box true [(.sl 0), (.v (.int .i64 a2)), (.v (.int .i64 a3))])]⟩ => (spec_l02Dough k (⟨a1, a2, a3⟩ : l01Cur)).bind fun y => Q ⟨(.a (.ag [(.v (.int .i64 y.1.Water)), (.v (.int .i64 y.1.Salt)), (.v (.int .i64 y.1.Leaven))])), [.dead, (.box true [(.sl 0), (.v (.int .i64 y.2.1)), (.v (.int .i64 y.2.2))])]⟩
 | _ => none
theorem spec_l02Dough_ok (k : Nat) : OkE Tryz.prog 95 (spec_l02Dough_x k) := by
 intro A R Q x h
 unfold spec_l02Dough_x at h
 split at h
 · obtain ⟨y, hy, hK⟩ := Option.bind_eq_some_iff.1 h
   obtain ⟨r, hr, hd⟩ := callF_ok envOk (spec_l02Dough_Ok k) follows Tryz.func95 (by kernel_rfl) ((spec_l02Dough_e k _).trans hy)
   exact ⟨_, spec_l02Dough_i hd ▸ hr.fin [], hK⟩
 · cases h
/-! ### spec.l37Event: function 128 -/
noncomputable def spec_l37Event (k : Nat)  (c : l01Cur) : Option (Event × (Int × Int)) :=
 (spec_l01Below k c 4).bind fun y1 =>
 cond (decide (((wr ((1 : Int) + y1.1)) : Int) = 1))
  ((spec_l01Below k (⟨c.b, y1.2.1, y1.2.2⟩ : l01Cur) 60).bind fun y2 =>
   some ((⟨(wr ((1 : Int) + y1.1)), y2.1⟩ : Event), (y2.2.1, y2.2.2)))
  (cond (decide (((wr ((1 : Int) + y1.1)) : Int) = 2))
   (cond (decide (((wr ((1 : Int) + y1.1)) : Int) = 2))
    ((spec_l01Below k (⟨c.b, y1.2.1, y1.2.2⟩ : l01Cur) 25).bind fun y3 =>
     some ((⟨(wr ((1 : Int) + y1.1)), y3.1⟩ : Event), (y3.2.1, y3.2.2)))
    (some ((⟨(wr ((1 : Int) + y1.1)), 0⟩ : Event), (y1.2.1, y1.2.2))))
   (cond (decide (((wr ((1 : Int) + y1.1)) : Int) = 3))
    ((spec_l01Below k (⟨c.b, y1.2.1, y1.2.2⟩ : l01Cur) 25).bind fun y4 =>
     some ((⟨(wr ((1 : Int) + y1.1)), y4.1⟩ : Event), (y4.2.1, y4.2.2)))
    (some ((⟨(wr ((1 : Int) + y1.1)), 0⟩ : Event), (y1.2.1, y1.2.2)))))
noncomputable def spec_l37Event_v : Nat → List Nat := fun t => match t with | _ => []
noncomputable def spec_l37Event_O (k : Nat) : Oracle := ofL [(59, spec_l01Below_x k)]
theorem spec_l37Event_Ok (k : Nat) : OkO (Ct Tryz.prog) (spec_l37Event_O k) := okO_cons (spec_l01Below_ok k) (okO_nil)
noncomputable def spec_l37Event_A (c : l01Cur) : Pk := ⟨[(.sc (.bp 1 0))], [(.row false K.ku8 c.b), (.box true [(.sl 0), (.v (.int .i64 c.i)), (.v (.int .i64 c.h))])]⟩
noncomputable def spec_l37Event_d : Rs → Option (Event × (Int × Int))
 | ⟨(.a (.ag [(.v (.int .i64 r1)), (.v (.int .i64 r2))])), [.dead, (.box true [(.sl 0), (.v (.int .i64 r3)), (.v (.int .i64 r4))])]⟩ => some ((⟨r1, r2⟩ : Event), (r3, r4))
 | _ => none
theorem spec_l37Event_i {r : Rs} {y : Event × (Int × Int)} (h : spec_l37Event_d r = some y) : r = ⟨(.a (.ag [(.v (.int .i64 y.1.Kind)), (.v (.int .i64 y.1.Loaves))])), [.dead, (.box true [(.sl 0), (.v (.int .i64 y.2.1)), (.v (.int .i64 y.2.2))])]⟩ := by
 unfold spec_l37Event_d at h; split at h
 · cases h; rfl
 · cases h
theorem spec_l37Event_e (k : Nat) (c : l01Cur) : callF env (spec_l37Event_O k) spec_l37Event_v Tryz.f128 (k + 1) (spec_l37Event_A c) (fun r => spec_l37Event_d (r.fin 2 [])) = spec_l37Event k c := by kernel_rfl
noncomputable def spec_l37Event_x (k : Nat) : Ent1 := fun A R Q => match A with
 | ⟨[(.sc (.bp 1 0))], [(.row false K.ku8 a1), (.box true [(.sl 0), (.v (.int .i64 a2)), (.v (.int .i64 a3))])]⟩ => (spec_l37Event k (⟨a1, a2, a3⟩ : l01Cur)).bind fun y => Q ⟨(.a (.ag [(.v (.int .i64 y.1.Kind)), (.v (.int .i64 y.1.Loaves))])), [.dead, (.box true [(.sl 0), (.v (.int .i64 y.2.1)), (.v (.int .i64 y.2.2))])]⟩
 | _ => none
theorem spec_l37Event_ok (k : Nat) : OkE Tryz.prog 128 (spec_l37Event_x k) := by
 intro A R Q x h
 unfold spec_l37Event_x at h
 split at h
 · obtain ⟨y, hy, hK⟩ := Option.bind_eq_some_iff.1 h
   obtain ⟨r, hr, hd⟩ := callF_ok envOk (spec_l37Event_Ok k) follows Tryz.func128 (by kernel_rfl) ((spec_l37Event_e k _).trans hy)
   exact ⟨_, spec_l37Event_i hd ▸ hr.fin [], hK⟩
 · cases h
/-! ### spec.l37Copy: function 79 -/
noncomputable def spec_l37Copy (k : Nat)  (b : Book) : Option (Book) :=
 if ([] : List Event).length + (b.Events : List Event).length ≤ maxRow then
 some (⟨([] ++ b.Events), b.Rack, b.Baked, b.Sold, b.Thrown⟩ : Book) else none
noncomputable def spec_l37Copy_v : Nat → List Nat := fun t => match t with | _ => []
noncomputable def spec_l37Copy_O (k : Nat) : Oracle := ofL []
theorem spec_l37Copy_Ok (k : Nat) : OkO (Ct Tryz.prog) (spec_l37Copy_O k) := okO_nil
noncomputable def spec_l37Copy_A (b : Book) : Pk := ⟨[(.ag [(.sl 0), (.v (.int .i64 b.Rack.Fresh)), (.v (.int .i64 b.Rack.Day)), (.v (.int .i64 b.Rack.Old)), (.v (.int .i64 b.Baked)), (.v (.int .i64 b.Sold)), (.v (.int .i64 b.Thrown))])], [(.row false K.k_impl_Event b.Events)]⟩
noncomputable def spec_l37Copy_d : Rs → Option (Book)
 | ⟨(.a (.ag [(.sl 1), (.v (.int .i64 r2)), (.v (.int .i64 r3)), (.v (.int .i64 r4)), (.v (.int .i64 r5)), (.v (.int .i64 r6)), (.v (.int .i64 r7))])), [.dead, (.row true K.k_impl_Event r1)]⟩ => some (⟨r1, (⟨r2, r3, r4⟩ : Rack), r5, r6, r7⟩ : Book)
 | _ => none
theorem spec_l37Copy_i {r : Rs} {y : Book} (h : spec_l37Copy_d r = some y) : r = ⟨(.a (.ag [(.sl 1), (.v (.int .i64 y.Rack.Fresh)), (.v (.int .i64 y.Rack.Day)), (.v (.int .i64 y.Rack.Old)), (.v (.int .i64 y.Baked)), (.v (.int .i64 y.Sold)), (.v (.int .i64 y.Thrown))])), [.dead, (.row true K.k_impl_Event y.Events)]⟩ := by
 unfold spec_l37Copy_d at h; split at h
 · cases h; rfl
 · cases h
theorem spec_l37Copy_e (k : Nat) (b : Book) : callF env (spec_l37Copy_O k) spec_l37Copy_v Tryz.f79 (k + 1) (spec_l37Copy_A b) (fun r => spec_l37Copy_d (r.fin 1 [])) = spec_l37Copy k b := by kernel_rfl
noncomputable def spec_l37Copy_x (k : Nat) : Ent1 := fun A R Q => match A with
 | ⟨[(.ag [(.sl 0), (.v (.int .i64 a2)), (.v (.int .i64 a3)), (.v (.int .i64 a4)), (.v (.int .i64 a5)), (.v (.int .i64 a6)), (.v (.int .i64 a7))])], [(.row false K.k_impl_Event a1)]⟩ => (spec_l37Copy k (⟨a1, (⟨a2, a3, a4⟩ : Rack), a5, a6, a7⟩ : Book)).bind fun y => Q ⟨(.a (.ag [(.sl 1), (.v (.int .i64 y.Rack.Fresh)), (.v (.int .i64 y.Rack.Day)), (.v (.int .i64 y.Rack.Old)), (.v (.int .i64 y.Baked)), (.v (.int .i64 y.Sold)), (.v (.int .i64 y.Thrown))])), [.dead, (.row true K.k_impl_Event y.Events)]⟩
 | _ => none
theorem spec_l37Copy_ok (k : Nat) : OkE Tryz.prog 79 (spec_l37Copy_x k) := by
 intro A R Q x h
 unfold spec_l37Copy_x at h
 split at h
 · obtain ⟨y, hy, hK⟩ := Option.bind_eq_some_iff.1 h
   obtain ⟨r, hr, hd⟩ := callF_ok envOk (spec_l37Copy_Ok k) follows Tryz.func79 (by kernel_rfl) ((spec_l37Copy_e k _).trans hy)
   exact ⟨_, spec_l37Copy_i hd ▸ hr.fin [], hK⟩
 · cases h
/-! ### spec.Enter: function 127 -/
noncomputable def spec_Enter (k : Nat)  (b : Book) (e : Event) : Option (Book × Bool) :=
 if ([] : List Event).length + (b.Events : List Event).length ≤ maxRow then
 if (([] ++ b.Events) : List Event).length + ([e] : List Event).length ≤ maxRow then
  (spec_l37Count k (([] ++ b.Events) ++ [e])).bind fun y1 =>
   (spec_BookOk k b).bind fun y2 =>
    cond (!y2)
     ((spec_l37Copy k b).bind fun y3 =>
      some (y3, false))
     (cond (!y1.2)
      ((spec_l37Copy k b).bind fun y4 =>
       some (y4, false))
      (some (y1.1, true))) else none else none
noncomputable def spec_Enter_v : Nat → List Nat := fun t => match t with | _ => []
noncomputable def spec_Enter_O (k : Nat) : Oracle := ofL [(115, spec_l37Count_x k), (79, spec_l37Copy_x k), (83, spec_BookOk_x k)]
theorem spec_Enter_Ok (k : Nat) : OkO (Ct Tryz.prog) (spec_Enter_O k) := okO_cons (spec_l37Count_ok k) (okO_cons (spec_l37Copy_ok k) (okO_cons (spec_BookOk_ok k) (okO_nil)))
noncomputable def spec_Enter_A (b : Book) (e : Event) : Pk := ⟨[(.ag [(.sl 0), (.v (.int .i64 b.Rack.Fresh)), (.v (.int .i64 b.Rack.Day)), (.v (.int .i64 b.Rack.Old)), (.v (.int .i64 b.Baked)), (.v (.int .i64 b.Sold)), (.v (.int .i64 b.Thrown))]), (.ag [(.v (.int .i64 e.Kind)), (.v (.int .i64 e.Loaves))])], [(.row false K.k_impl_Event b.Events)]⟩
noncomputable def spec_Enter_d : Rs → Option (Book × Bool)
 | ⟨(.tp [(.ag [(.sl 1), (.v (.int .i64 r2)), (.v (.int .i64 r3)), (.v (.int .i64 r4)), (.v (.int .i64 r5)), (.v (.int .i64 r6)), (.v (.int .i64 r7))]), (.sc (.v (.bool r8)))]), [.dead, (.row true K.k_impl_Event r1)]⟩ => some ((⟨r1, (⟨r2, r3, r4⟩ : Rack), r5, r6, r7⟩ : Book), r8)
 | _ => none
theorem spec_Enter_i {r : Rs} {y : Book × Bool} (h : spec_Enter_d r = some y) : r = ⟨(.tp [(.ag [(.sl 1), (.v (.int .i64 y.1.Rack.Fresh)), (.v (.int .i64 y.1.Rack.Day)), (.v (.int .i64 y.1.Rack.Old)), (.v (.int .i64 y.1.Baked)), (.v (.int .i64 y.1.Sold)), (.v (.int .i64 y.1.Thrown))]), (.sc (.v (.bool y.2)))]), [.dead, (.row true K.k_impl_Event y.1.Events)]⟩ := by
 unfold spec_Enter_d at h; split at h
 · cases h; rfl
 · cases h
theorem spec_Enter_e (k : Nat) (b : Book) (e : Event) : callF env (spec_Enter_O k) spec_Enter_v Tryz.f127 (k + 1) (spec_Enter_A b e) (fun r => spec_Enter_d (r.fin 1 [])) = spec_Enter k b e := by kernel_rfl
noncomputable def spec_Enter_x (k : Nat) : Ent1 := fun A R Q => match A with
 | ⟨[(.ag [(.sl 0), (.v (.int .i64 a2)), (.v (.int .i64 a3)), (.v (.int .i64 a4)), (.v (.int .i64 a5)), (.v (.int .i64 a6)), (.v (.int .i64 a7))]), (.ag [(.v (.int .i64 a8)), (.v (.int .i64 a9))])], [(.row false K.k_impl_Event a1)]⟩ => (spec_Enter k (⟨a1, (⟨a2, a3, a4⟩ : Rack), a5, a6, a7⟩ : Book) (⟨a8, a9⟩ : Event)).bind fun y => Q ⟨(.tp [(.ag [(.sl 1), (.v (.int .i64 y.1.Rack.Fresh)), (.v (.int .i64 y.1.Rack.Day)), (.v (.int .i64 y.1.Rack.Old)), (.v (.int .i64 y.1.Baked)), (.v (.int .i64 y.1.Sold)), (.v (.int .i64 y.1.Thrown))]), (.sc (.v (.bool y.2)))]), [.dead, (.row true K.k_impl_Event y.1.Events)]⟩
 | _ => none
theorem spec_Enter_ok (k : Nat) : OkE Tryz.prog 127 (spec_Enter_x k) := by
 intro A R Q x h
 unfold spec_Enter_x at h
 split at h
 · obtain ⟨y, hy, hK⟩ := Option.bind_eq_some_iff.1 h
   obtain ⟨r, hr, hd⟩ := callF_ok envOk (spec_Enter_Ok k) follows Tryz.func127 (by kernel_rfl) ((spec_Enter_e k _ _).trans hy)
   exact ⟨_, spec_Enter_i hd ▸ hr.fin [], hK⟩
 · cases h
/-! ### spec.l37Book: function 96 -/
noncomputable def spec_l37Book_s0 (k : Nat)  (c : l01Cur) (J : Int → Int → Int → (List Event) → Int → Int → Int → Int → Int → Int → Option (Book × (Int × Int))) (x0_0 : Int) (x0_1 : Int) (x0_2 : Int) (x0_3 : (List Event)) (x0_4 : Int) (x0_5 : Int) (x0_6 : Int) (x0_7 : Int) (x0_8 : Int) (x0_9 : Int) : Option (Book × (Int × Int)) :=
 cond (decide ((0 : Int) < x0_0))
 ((spec_l37Event k (⟨c.b, x0_1, x0_2⟩ : l01Cur)).bind fun y4 =>
  (spec_Enter k (⟨x0_3, (⟨x0_4, x0_5, x0_6⟩ : Rack), x0_7, x0_8, x0_9⟩ : Book) y4.1).bind fun y5 =>
   J (wr (x0_0 - 1)) y4.2.1 y4.2.2 y5.1.Events y5.1.Rack.Fresh y5.1.Rack.Day y5.1.Rack.Old y5.1.Baked y5.1.Sold y5.1.Thrown)
 (some ((⟨x0_3, (⟨x0_4, x0_5, x0_6⟩ : Rack), x0_7, x0_8, x0_9⟩ : Book), (x0_1, x0_2)))
noncomputable def spec_l37Book_l0 (k : Nat) : Nat → l01Cur → Int → Int → Int → (List Event) → Int → Int → Int → Int → Int → Int → Option (Book × (Int × Int))
 | 0, c, x0_0, x0_1, x0_2, x0_3, x0_4, x0_5, x0_6, x0_7, x0_8, x0_9 => spec_l37Book_s0 k c (fun _ _ _ _ _ _ _ _ _ _ => none) x0_0 x0_1 x0_2 x0_3 x0_4 x0_5 x0_6 x0_7 x0_8 x0_9
 | m + 1, c, x0_0, x0_1, x0_2, x0_3, x0_4, x0_5, x0_6, x0_7, x0_8, x0_9 => spec_l37Book_s0 k c (spec_l37Book_l0 k m c) x0_0 x0_1 x0_2 x0_3 x0_4 x0_5 x0_6 x0_7 x0_8 x0_9
noncomputable def spec_l37Book_m (k : Nat) (J0 : l01Cur → Int → Int → Int → (List Event) → Int → Int → Int → Int → Int → Int → Option (Book × (Int × Int))) (c : l01Cur) : Option (Book × (Int × Int)) :=
 (spec_l01Below k c 12).bind fun y1 =>
 J0 c y1.1 y1.2.1 y1.2.2 ([]) 0 0 0 0 0 0
noncomputable def spec_l37Book (k : Nat) (c : l01Cur) : Option (Book × (Int × Int)) := spec_l37Book_m k (spec_l37Book_l0 k k) c
noncomputable def spec_l37Book_v : Nat → List Nat := fun t => match t with | 3 => [0, 2, 3, 4] | _ => []
noncomputable def spec_l37Book_O (k : Nat) : Oracle := ofL [(127, spec_Enter_x k), (128, spec_l37Event_x k), (59, spec_l01Below_x k)]
theorem spec_l37Book_Ok (k : Nat) : OkO (Ct Tryz.prog) (spec_l37Book_O k) := okO_cons (spec_Enter_ok k) (okO_cons (spec_l37Event_ok k) (okO_cons (spec_l01Below_ok k) (okO_nil)))
noncomputable def spec_l37Book_A (c : l01Cur) : Pk := ⟨[(.sc (.bp 1 0))], [(.row false K.ku8 c.b), (.box true [(.sl 0), (.v (.int .i64 c.i)), (.v (.int .i64 c.h))])]⟩
noncomputable def spec_l37Book_d : Rs → Option (Book × (Int × Int))
 | ⟨(.a (.ag [(.sl 2), (.v (.int .i64 r2)), (.v (.int .i64 r3)), (.v (.int .i64 r4)), (.v (.int .i64 r5)), (.v (.int .i64 r6)), (.v (.int .i64 r7))])), [.dead, (.box true [(.sl 0), (.v (.int .i64 r8)), (.v (.int .i64 r9))]), (.row true K.k_impl_Event r1)]⟩ => some ((⟨r1, (⟨r2, r3, r4⟩ : Rack), r5, r6, r7⟩ : Book), (r8, r9))
 | _ => none
theorem spec_l37Book_i {r : Rs} {y : Book × (Int × Int)} (h : spec_l37Book_d r = some y) : r = ⟨(.a (.ag [(.sl 2), (.v (.int .i64 y.1.Rack.Fresh)), (.v (.int .i64 y.1.Rack.Day)), (.v (.int .i64 y.1.Rack.Old)), (.v (.int .i64 y.1.Baked)), (.v (.int .i64 y.1.Sold)), (.v (.int .i64 y.1.Thrown))])), [.dead, (.box true [(.sl 0), (.v (.int .i64 y.2.1)), (.v (.int .i64 y.2.2))]), (.row true K.k_impl_Event y.1.Events)]⟩ := by
 unfold spec_l37Book_d at h; split at h
 · cases h; rfl
 · cases h
noncomputable def spec_l37Book_h0 (k m : Nat) (c : l01Cur) (x0_0 : Int) (x0_1 : Int) (x0_2 : Int) (x0_3 : (List Event)) (x0_4 : Int) (x0_5 : Int) (x0_6 : Int) (x0_7 : Int) (x0_8 : Int) (x0_9 : Int) : Option (Book × (Int × Int)) := hdAt env (spec_l37Book_O k) spec_l37Book_v Tryz.f96 2 (fun r => spec_l37Book_d (r.fin 2 [])) [1, 1, 0, 1, 0] k m ⟨tmF [0, 2, 3, 4] [(.a (.sc (.bp 1 0))), (.a (.sc (.bp 3 0))), (.a (.sc (.bp 5 0))), (.a (.sc (.v (.int .i64 x0_0))))], blF [(.row false K.ku8 c.b), (.box true [(.sl 0), (.v (.int .i64 x0_1)), (.v (.int .i64 x0_2))]), (.row true K.k_impl_Event []), (.box true [(.sl 2), (.v (.int .i64 0)), (.v (.int .i64 0)), (.v (.int .i64 0)), (.v (.int .i64 0)), (.v (.int .i64 0)), (.v (.int .i64 0))]), (.row true K.k_impl_Event x0_3), (.box true [(.sl 4), (.v (.int .i64 x0_4)), (.v (.int .i64 x0_5)), (.v (.int .i64 x0_6)), (.v (.int .i64 x0_7)), (.v (.int .i64 x0_8)), (.v (.int .i64 x0_9))])]⟩
theorem spec_l37Book_z0 (k : Nat) (c : l01Cur) (x0_0 : Int) (x0_1 : Int) (x0_2 : Int) (x0_3 : (List Event)) (x0_4 : Int) (x0_5 : Int) (x0_6 : Int) (x0_7 : Int) (x0_8 : Int) (x0_9 : Int) : spec_l37Book_h0 k 0 c x0_0 x0_1 x0_2 x0_3 x0_4 x0_5 x0_6 x0_7 x0_8 x0_9 = spec_l37Book_s0 k c (fun _ _ _ _ _ _ _ _ _ _ => none) x0_0 x0_1 x0_2 x0_3 x0_4 x0_5 x0_6 x0_7 x0_8 x0_9 := by kernel_rfl
theorem spec_l37Book_g0 (k : Nat) (H : St → Option (Book × (Int × Int))) (c : l01Cur) (x0_0 : Int) (x0_1 : Int) (x0_2 : Int) (x0_3 : (List Event)) (x0_4 : Int) (x0_5 : Int) (x0_6 : Int) (x0_7 : Int) (x0_8 : Int) (x0_9 : Int) : rnd env (spec_l37Book_O k) spec_l37Book_v Tryz.f96 2 (fun r => spec_l37Book_d (r.fin 2 [])) [1, 1, 0, 1, 0] k H ⟨tmF [0, 2, 3, 4] [(.a (.sc (.bp 1 0))), (.a (.sc (.bp 3 0))), (.a (.sc (.bp 5 0))), (.a (.sc (.v (.int .i64 x0_0))))], blF [(.row false K.ku8 c.b), (.box true [(.sl 0), (.v (.int .i64 x0_1)), (.v (.int .i64 x0_2))]), (.row true K.k_impl_Event []), (.box true [(.sl 2), (.v (.int .i64 0)), (.v (.int .i64 0)), (.v (.int .i64 0)), (.v (.int .i64 0)), (.v (.int .i64 0)), (.v (.int .i64 0))]), (.row true K.k_impl_Event x0_3), (.box true [(.sl 4), (.v (.int .i64 x0_4)), (.v (.int .i64 x0_5)), (.v (.int .i64 x0_6)), (.v (.int .i64 x0_7)), (.v (.int .i64 x0_8)), (.v (.int .i64 x0_9))])]⟩ = spec_l37Book_s0 k c (fun x0_0 x0_1 x0_2 x0_3 x0_4 x0_5 x0_6 x0_7 x0_8 x0_9 => H ⟨tmF [0, 2, 3, 4] [(.a (.sc (.bp 1 0))), (.a (.sc (.bp 3 0))), (.a (.sc (.bp 5 0))), (.a (.sc (.v (.int .i64 x0_0))))], blF [(.row false K.ku8 c.b), (.box true [(.sl 0), (.v (.int .i64 x0_1)), (.v (.int .i64 x0_2))]), (.row true K.k_impl_Event []), (.box true [(.sl 2), (.v (.int .i64 0)), (.v (.int .i64 0)), (.v (.int .i64 0)), (.v (.int .i64 0)), (.v (.int .i64 0)), (.v (.int .i64 0))]), (.row true K.k_impl_Event x0_3), (.box true [(.sl 4), (.v (.int .i64 x0_4)), (.v (.int .i64 x0_5)), (.v (.int .i64 x0_6)), (.v (.int .i64 x0_7)), (.v (.int .i64 x0_8)), (.v (.int .i64 x0_9))])]⟩) x0_0 x0_1 x0_2 x0_3 x0_4 x0_5 x0_6 x0_7 x0_8 x0_9 := by kernel_rfl
theorem spec_l37Book_n0 (k m : Nat) (c : l01Cur) (x0_0 : Int) (x0_1 : Int) (x0_2 : Int) (x0_3 : (List Event)) (x0_4 : Int) (x0_5 : Int) (x0_6 : Int) (x0_7 : Int) (x0_8 : Int) (x0_9 : Int) : spec_l37Book_h0 k (m + 1) c x0_0 x0_1 x0_2 x0_3 x0_4 x0_5 x0_6 x0_7 x0_8 x0_9 = spec_l37Book_s0 k c (spec_l37Book_h0 k m c) x0_0 x0_1 x0_2 x0_3 x0_4 x0_5 x0_6 x0_7 x0_8 x0_9 := (hdAt_succ _ _ _ _ _ _ _ _ _ _).trans (spec_l37Book_g0 k _ c x0_0 x0_1 x0_2 x0_3 x0_4 x0_5 x0_6 x0_7 x0_8 x0_9)
theorem spec_l37Book_q0 (k : Nat) : ∀ m, spec_l37Book_h0 k m = spec_l37Book_l0 k m := by
 intro m
 induction m with
 | zero => funext c x0_0 x0_1 x0_2 x0_3 x0_4 x0_5 x0_6 x0_7 x0_8 x0_9; rw [spec_l37Book_z0]; rfl
 | succ m ih => funext c x0_0 x0_1 x0_2 x0_3 x0_4 x0_5 x0_6 x0_7 x0_8 x0_9; rw [spec_l37Book_n0, ih]; rfl
theorem spec_l37Book_e (k : Nat) (c : l01Cur) : callF env (spec_l37Book_O k) spec_l37Book_v Tryz.f96 (k + 1) (spec_l37Book_A c) (fun r => spec_l37Book_d (r.fin 2 [])) = spec_l37Book k c := by
 have e : ∀ H : St → Option (Book × (Int × Int)), callE env (spec_l37Book_O k) spec_l37Book_v Tryz.f96 (k + 1) (spec_l37Book_A c) [1, 1, 0, 1, 0] (fun r => spec_l37Book_d (r.fin 2 [])) H = spec_l37Book_m k (fun c x0_0 x0_1 x0_2 x0_3 x0_4 x0_5 x0_6 x0_7 x0_8 x0_9 => H ⟨tmF [0, 2, 3, 4] [(.a (.sc (.bp 1 0))), (.a (.sc (.bp 3 0))), (.a (.sc (.bp 5 0))), (.a (.sc (.v (.int .i64 x0_0))))], blF [(.row false K.ku8 c.b), (.box true [(.sl 0), (.v (.int .i64 x0_1)), (.v (.int .i64 x0_2))]), (.row true K.k_impl_Event []), (.box true [(.sl 2), (.v (.int .i64 0)), (.v (.int .i64 0)), (.v (.int .i64 0)), (.v (.int .i64 0)), (.v (.int .i64 0)), (.v (.int .i64 0))]), (.row true K.k_impl_Event x0_3), (.box true [(.sl 4), (.v (.int .i64 x0_4)), (.v (.int .i64 x0_5)), (.v (.int .i64 x0_6)), (.v (.int .i64 x0_7)), (.v (.int .i64 x0_8)), (.v (.int .i64 x0_9))])]⟩) c := fun H => by kernel_rfl
 exact (callE_eq env (spec_l37Book_O k) spec_l37Book_v Tryz.f96 k (spec_l37Book_A c) [1, 1, 0, 1, 0] 2 (fun r => spec_l37Book_d (r.fin 2 [])) rfl (by kernel_rfl)).trans ((e (hdAt env (spec_l37Book_O k) spec_l37Book_v Tryz.f96 2 (fun r => spec_l37Book_d (r.fin 2 [])) [1, 1, 0, 1, 0] k k)).trans (by
  show spec_l37Book_m k (spec_l37Book_h0 k k) c = _
  rw [spec_l37Book_q0]; rfl))
noncomputable def spec_l37Book_x (k : Nat) : Ent1 := fun A R Q => match A with
 | ⟨[(.sc (.bp 1 0))], [(.row false K.ku8 a1), (.box true [(.sl 0), (.v (.int .i64 a2)), (.v (.int .i64 a3))])]⟩ => (spec_l37Book k (⟨a1, a2, a3⟩ : l01Cur)).bind fun y => Q ⟨(.a (.ag [(.sl 2), (.v (.int .i64 y.1.Rack.Fresh)), (.v (.int .i64 y.1.Rack.Day)), (.v (.int .i64 y.1.Rack.Old)), (.v (.int .i64 y.1.Baked)), (.v (.int .i64 y.1.Sold)), (.v (.int .i64 y.1.Thrown))])), [.dead, (.box true [(.sl 0), (.v (.int .i64 y.2.1)), (.v (.int .i64 y.2.2))]), (.row true K.k_impl_Event y.1.Events)]⟩
 | _ => none
theorem spec_l37Book_ok (k : Nat) : OkE Tryz.prog 96 (spec_l37Book_x k) := by
 intro A R Q x h
 unfold spec_l37Book_x at h
 split at h
 · obtain ⟨y, hy, hK⟩ := Option.bind_eq_some_iff.1 h
   obtain ⟨r, hr, hd⟩ := callF_ok envOk (spec_l37Book_Ok k) follows Tryz.func96 (by kernel_rfl) ((spec_l37Book_e k _).trans hy)
   exact ⟨_, spec_l37Book_i hd ▸ hr.fin [], hK⟩
 · cases h
/-! ### spec.l01PickInt: function 97 -/
noncomputable def spec_l01PickInt (k : Nat)  (c : l01Cur) (list : (List Int)) : Option (Int × (Int × Int)) :=
 (spec_l01Below k c ((list).length : Int)).bind fun y1 =>
 if 0 ≤ (y1.1 : Int) ∧ (y1.1 : Int) < ((list).length : Int) then
  some ((list.getD (Int.toNat y1.1) 0), (y1.2.1, y1.2.2)) else none
noncomputable def spec_l01PickInt_v : Nat → List Nat := fun t => match t with | _ => []
noncomputable def spec_l01PickInt_O (k : Nat) : Oracle := ofL [(59, spec_l01Below_x k)]
theorem spec_l01PickInt_Ok (k : Nat) : OkO (Ct Tryz.prog) (spec_l01PickInt_O k) := okO_cons (spec_l01Below_ok k) (okO_nil)
noncomputable def spec_l01PickInt_A (c : l01Cur) (list : (List Int)) : Pk := ⟨[(.sc (.bp 1 0)), (.sc (.sl 2))], [(.row false K.ku8 c.b), (.box true [(.sl 0), (.v (.int .i64 c.i)), (.v (.int .i64 c.h))]), (.row false K.ki64 list)]⟩
noncomputable def spec_l01PickInt_d : Rs → Option (Int × (Int × Int))
 | ⟨(.a (.sc (.v (.int .i64 r1)))), [.dead, (.box true [(.sl 0), (.v (.int .i64 r2)), (.v (.int .i64 r3))]), .dead]⟩ => some (r1, (r2, r3))
 | _ => none
theorem spec_l01PickInt_i {r : Rs} {y : Int × (Int × Int)} (h : spec_l01PickInt_d r = some y) : r = ⟨(.a (.sc (.v (.int .i64 y.1)))), [.dead, (.box true [(.sl 0), (.v (.int .i64 y.2.1)), (.v (.int .i64 y.2.2))]), .dead]⟩ := by
 unfold spec_l01PickInt_d at h; split at h
 · cases h; rfl
 · cases h
theorem spec_l01PickInt_e (k : Nat) (c : l01Cur) (list : (List Int)) : callF env (spec_l01PickInt_O k) spec_l01PickInt_v Tryz.f97 (k + 1) (spec_l01PickInt_A c list) (fun r => spec_l01PickInt_d (r.fin 3 [])) = spec_l01PickInt k c list := by kernel_rfl
noncomputable def spec_l01PickInt_x (k : Nat) : Ent1 := fun A R Q => match A with
 | ⟨[(.sc (.bp 1 0)), (.sc (.sl 2))], [(.row false K.ku8 a1), (.box true [(.sl 0), (.v (.int .i64 a2)), (.v (.int .i64 a3))]), (.row false K.ki64 a4)]⟩ => (spec_l01PickInt k (⟨a1, a2, a3⟩ : l01Cur) a4).bind fun y => Q ⟨(.a (.sc (.v (.int .i64 y.1)))), [.dead, (.box true [(.sl 0), (.v (.int .i64 y.2.1)), (.v (.int .i64 y.2.2))]), .dead]⟩
 | _ => none
theorem spec_l01PickInt_ok (k : Nat) : OkE Tryz.prog 97 (spec_l01PickInt_x k) := by
 intro A R Q x h
 unfold spec_l01PickInt_x at h
 split at h
 · obtain ⟨y, hy, hK⟩ := Option.bind_eq_some_iff.1 h
   obtain ⟨r, hr, hd⟩ := callF_ok envOk (spec_l01PickInt_Ok k) follows Tryz.func97 (by kernel_rfl) ((spec_l01PickInt_e k _ _).trans hy)
   exact ⟨_, spec_l01PickInt_i hd ▸ hr.fin [], hK⟩
 · cases h
/-! ### spec.l38Bakery: function 58 -/
noncomputable def spec_l38Bakery (k : Nat)  (c : l01Cur) : Option (Bakery × (Int × Int)) :=
 (spec_l36Stock k c).bind fun y1 =>
 (spec_l02Dough k (⟨c.b, y1.2.1, y1.2.2⟩ : l01Cur)).bind fun y2 =>
  (spec_l01Below k (⟨c.b, y2.2.1, y2.2.2⟩ : l01Cur) 200).bind fun y3 =>
   (spec_l01Below k (⟨c.b, y3.2.1, y3.2.2⟩ : l01Cur) 20).bind fun y4 =>
    (spec_l37Book k (⟨c.b, y4.2.1, y4.2.2⟩ : l01Cur)).bind fun y5 =>
     (spec_l01PickInt k (⟨c.b, y5.2.1, y5.2.2⟩ : l01Cur) ([0, 4, 60, 300, 999990])).bind fun y6 =>
      some ((⟨y1.1, y2.1, (⟨(wr ((50 : Int) + y3.1)), y4.1⟩ : Loaf), y5.1, y6.1⟩ : Bakery), (y6.2.1, y6.2.2))
noncomputable def spec_l38Bakery_v : Nat → List Nat := fun t => match t with | _ => []
noncomputable def spec_l38Bakery_O (k : Nat) : Oracle := ofL [(59, spec_l01Below_x k), (94, spec_l36Stock_x k), (95, spec_l02Dough_x k), (96, spec_l37Book_x k), (97, spec_l01PickInt_x k)]
theorem spec_l38Bakery_Ok (k : Nat) : OkO (Ct Tryz.prog) (spec_l38Bakery_O k) := okO_cons (spec_l01Below_ok k) (okO_cons (spec_l36Stock_ok k) (okO_cons (spec_l02Dough_ok k) (okO_cons (spec_l37Book_ok k) (okO_cons (spec_l01PickInt_ok k) (okO_nil)))))
noncomputable def spec_l38Bakery_A (c : l01Cur) : Pk := ⟨[(.sc (.bp 1 0))], [(.row false K.ku8 c.b), (.box true [(.sl 0), (.v (.int .i64 c.i)), (.v (.int .i64 c.h))])]⟩
noncomputable def spec_l38Bakery_d : Rs → Option (Bakery × (Int × Int))
 | ⟨(.a (.ag [(.sl 2), (.v (.int .i64 r2)), (.v (.int .i64 r3)), (.v (.int .i64 r4)), (.v (.int .i64 r5)), (.v (.int .i64 r6)), (.sl 3), (.v (.int .i64 r8)), (.v (.int .i64 r9)), (.v (.int .i64 r10)), (.v (.int .i64 r11)), (.v (.int .i64 r12)), (.v (.int .i64 r13)), (.v (.int .i64 r14))])), [.dead, (.box true [(.sl 0), (.v (.int .i64 r15)), (.v (.int .i64 r16))]), (.row true K.ki64 r1), (.row true K.k_impl_Event r7)]⟩ => some ((⟨(⟨r1⟩ : Stock), (⟨r2, r3, r4⟩ : Dough), (⟨r5, r6⟩ : Loaf), (⟨r7, (⟨r8, r9, r10⟩ : Rack), r11, r12, r13⟩ : Book), r14⟩ : Bakery), (r15, r16))
 | _ => none
theorem spec_l38Bakery_i {r : Rs} {y : Bakery × (Int × Int)} (h : spec_l38Bakery_d r = some y) : r = ⟨(.a (.ag [(.sl 2), (.v (.int .i64 y.1.Dough.Water)), (.v (.int .i64 y.1.Dough.Salt)), (.v (.int .i64 y.1.Dough.Leaven)), (.v (.int .i64 y.1.Loaf.Weight)), (.v (.int .i64 y.1.Loaf.Loss)), (.sl 3), (.v (.int .i64 y.1.Book.Rack.Fresh)), (.v (.int .i64 y.1.Book.Rack.Day)), (.v (.int .i64 y.1.Book.Rack.Old)), (.v (.int .i64 y.1.Book.Baked)), (.v (.int .i64 y.1.Book.Sold)), (.v (.int .i64 y.1.Book.Thrown)), (.v (.int .i64 y.1.Money))])), [.dead, (.box true [(.sl 0), (.v (.int .i64 y.2.1)), (.v (.int .i64 y.2.2))]), (.row true K.ki64 y.1.Stock.Grams), (.row true K.k_impl_Event y.1.Book.Events)]⟩ := by
 unfold spec_l38Bakery_d at h; split at h
 · cases h; rfl
 · cases h
theorem spec_l38Bakery_e (k : Nat) (c : l01Cur) : callD env (spec_l38Bakery_O k) spec_l38Bakery_v Tryz.f58 (k + 1) (spec_l38Bakery_A c) (fun r => spec_l38Bakery_d (r.fin 2 [])) = spec_l38Bakery k c := by kernel_rfl
noncomputable def spec_l38Bakery_x (k : Nat) : Ent1 := fun A R Q => match A with
 | ⟨[(.sc (.bp 1 0))], [(.row false K.ku8 a1), (.box true [(.sl 0), (.v (.int .i64 a2)), (.v (.int .i64 a3))])]⟩ => (spec_l38Bakery k (⟨a1, a2, a3⟩ : l01Cur)).bind fun y => Q ⟨(.a (.ag [(.sl 2), (.v (.int .i64 y.1.Dough.Water)), (.v (.int .i64 y.1.Dough.Salt)), (.v (.int .i64 y.1.Dough.Leaven)), (.v (.int .i64 y.1.Loaf.Weight)), (.v (.int .i64 y.1.Loaf.Loss)), (.sl 3), (.v (.int .i64 y.1.Book.Rack.Fresh)), (.v (.int .i64 y.1.Book.Rack.Day)), (.v (.int .i64 y.1.Book.Rack.Old)), (.v (.int .i64 y.1.Book.Baked)), (.v (.int .i64 y.1.Book.Sold)), (.v (.int .i64 y.1.Book.Thrown)), (.v (.int .i64 y.1.Money))])), [.dead, (.box true [(.sl 0), (.v (.int .i64 y.2.1)), (.v (.int .i64 y.2.2))]), (.row true K.ki64 y.1.Stock.Grams), (.row true K.k_impl_Event y.1.Book.Events)]⟩
 | _ => none
theorem spec_l38Bakery_ok (k : Nat) : OkE Tryz.prog 58 (spec_l38Bakery_x k) := by
 intro A R Q x h
 unfold spec_l38Bakery_x at h
 split at h
 · obtain ⟨y, hy, hK⟩ := Option.bind_eq_some_iff.1 h
   obtain ⟨r, hr, hd⟩ := callD_ok envOk (spec_l38Bakery_Ok k) follows Tryz.func58 (by kernel_rfl) ((spec_l38Bakery_e k _).trans hy)
   exact ⟨_, spec_l38Bakery_i hd ▸ hr.fin [], hK⟩
 · cases h
/-! ### spec.l39Bakery: function 29 -/
noncomputable def spec_l39Bakery (k : Nat)  (c : l01Cur) : Option (Bakery × (Int × Int)) :=
 (spec_l01Once k c 2).bind fun y1 =>
 cond y1.1
  ((spec_SampleBakery k).bind fun y2 =>
   some (y2, (y1.2.1, y1.2.2)))
  ((spec_l38Bakery k (⟨c.b, y1.2.1, y1.2.2⟩ : l01Cur)).bind fun y3 =>
   some (y3.1, (y3.2.1, y3.2.2)))
noncomputable def spec_l39Bakery_v : Nat → List Nat := fun t => match t with | _ => []
noncomputable def spec_l39Bakery_O (k : Nat) : Oracle := ofL [(21, spec_SampleBakery_x k), (57, spec_l01Once_x k), (58, spec_l38Bakery_x k)]
theorem spec_l39Bakery_Ok (k : Nat) : OkO (Ct Tryz.prog) (spec_l39Bakery_O k) := okO_cons (spec_SampleBakery_ok k) (okO_cons (spec_l01Once_ok k) (okO_cons (spec_l38Bakery_ok k) (okO_nil)))
noncomputable def spec_l39Bakery_A (c : l01Cur) : Pk := ⟨[(.sc (.bp 1 0))], [(.row false K.ku8 c.b), (.box true [(.sl 0), (.v (.int .i64 c.i)), (.v (.int .i64 c.h))])]⟩
noncomputable def spec_l39Bakery_d : Rs → Option (Bakery × (Int × Int))
 | ⟨(.a (.ag [(.sl 2), (.v (.int .i64 r2)), (.v (.int .i64 r3)), (.v (.int .i64 r4)), (.v (.int .i64 r5)), (.v (.int .i64 r6)), (.sl 3), (.v (.int .i64 r8)), (.v (.int .i64 r9)), (.v (.int .i64 r10)), (.v (.int .i64 r11)), (.v (.int .i64 r12)), (.v (.int .i64 r13)), (.v (.int .i64 r14))])), [.dead, (.box true [(.sl 0), (.v (.int .i64 r15)), (.v (.int .i64 r16))]), (.row true K.ki64 r1), (.row true K.k_impl_Event r7)]⟩ => some ((⟨(⟨r1⟩ : Stock), (⟨r2, r3, r4⟩ : Dough), (⟨r5, r6⟩ : Loaf), (⟨r7, (⟨r8, r9, r10⟩ : Rack), r11, r12, r13⟩ : Book), r14⟩ : Bakery), (r15, r16))
 | _ => none
theorem spec_l39Bakery_i {r : Rs} {y : Bakery × (Int × Int)} (h : spec_l39Bakery_d r = some y) : r = ⟨(.a (.ag [(.sl 2), (.v (.int .i64 y.1.Dough.Water)), (.v (.int .i64 y.1.Dough.Salt)), (.v (.int .i64 y.1.Dough.Leaven)), (.v (.int .i64 y.1.Loaf.Weight)), (.v (.int .i64 y.1.Loaf.Loss)), (.sl 3), (.v (.int .i64 y.1.Book.Rack.Fresh)), (.v (.int .i64 y.1.Book.Rack.Day)), (.v (.int .i64 y.1.Book.Rack.Old)), (.v (.int .i64 y.1.Book.Baked)), (.v (.int .i64 y.1.Book.Sold)), (.v (.int .i64 y.1.Book.Thrown)), (.v (.int .i64 y.1.Money))])), [.dead, (.box true [(.sl 0), (.v (.int .i64 y.2.1)), (.v (.int .i64 y.2.2))]), (.row true K.ki64 y.1.Stock.Grams), (.row true K.k_impl_Event y.1.Book.Events)]⟩ := by
 unfold spec_l39Bakery_d at h; split at h
 · cases h; rfl
 · cases h
theorem spec_l39Bakery_e (k : Nat) (c : l01Cur) : callF env (spec_l39Bakery_O k) spec_l39Bakery_v Tryz.f29 (k + 1) (spec_l39Bakery_A c) (fun r => spec_l39Bakery_d (r.fin 2 [])) = spec_l39Bakery k c := by kernel_rfl
noncomputable def spec_l39Bakery_x (k : Nat) : Ent1 := fun A R Q => match A with
 | ⟨[(.sc (.bp 1 0))], [(.row false K.ku8 a1), (.box true [(.sl 0), (.v (.int .i64 a2)), (.v (.int .i64 a3))])]⟩ => (spec_l39Bakery k (⟨a1, a2, a3⟩ : l01Cur)).bind fun y => Q ⟨(.a (.ag [(.sl 2), (.v (.int .i64 y.1.Dough.Water)), (.v (.int .i64 y.1.Dough.Salt)), (.v (.int .i64 y.1.Dough.Leaven)), (.v (.int .i64 y.1.Loaf.Weight)), (.v (.int .i64 y.1.Loaf.Loss)), (.sl 3), (.v (.int .i64 y.1.Book.Rack.Fresh)), (.v (.int .i64 y.1.Book.Rack.Day)), (.v (.int .i64 y.1.Book.Rack.Old)), (.v (.int .i64 y.1.Book.Baked)), (.v (.int .i64 y.1.Book.Sold)), (.v (.int .i64 y.1.Book.Thrown)), (.v (.int .i64 y.1.Money))])), [.dead, (.box true [(.sl 0), (.v (.int .i64 y.2.1)), (.v (.int .i64 y.2.2))]), (.row true K.ki64 y.1.Stock.Grams), (.row true K.k_impl_Event y.1.Book.Events)]⟩
 | _ => none
theorem spec_l39Bakery_ok (k : Nat) : OkE Tryz.prog 29 (spec_l39Bakery_x k) := by
 intro A R Q x h
 unfold spec_l39Bakery_x at h
 split at h
 · obtain ⟨y, hy, hK⟩ := Option.bind_eq_some_iff.1 h
   obtain ⟨r, hr, hd⟩ := callF_ok envOk (spec_l39Bakery_Ok k) follows Tryz.func29 (by kernel_rfl) ((spec_l39Bakery_e k _).trans hy)
   exact ⟨_, spec_l39Bakery_i hd ▸ hr.fin [], hK⟩
 · cases h
/-! ### spec.l39Act: function 60 -/
noncomputable def spec_l39Act (k : Nat)  (c : l01Cur) : Option (Deed × (Int × Int)) :=
 (spec_l01Below k c 8).bind fun y1 =>
 cond (decide ((y1.1 : Int) = 0))
  (cond (decide ((y1.1 : Int) = 0))
   ((spec_l01Below k (⟨c.b, y1.2.1, y1.2.2⟩ : l01Cur) 8).bind fun y2 =>
    some ((⟨1, y2.1, 0⟩ : Deed), (y2.2.1, y2.2.2)))
   (cond (decide ((y1.1 : Int) = 2))
    (cond (decide ((y1.1 : Int) = 2))
     ((spec_l01Below k (⟨c.b, y1.2.1, y1.2.2⟩ : l01Cur) 7).bind fun y3 =>
      some ((⟨2, y3.1, 0⟩ : Deed), (y3.2.1, y3.2.2)))
     (cond (decide ((y1.1 : Int) = 4))
      ((spec_l01Below k (⟨c.b, y1.2.1, y1.2.2⟩ : l01Cur) 5).bind fun y4 =>
       some ((⟨3, y4.1, 0⟩ : Deed), (y4.2.1, y4.2.2)))
      (cond (decide ((y1.1 : Int) = 5))
       (some ((⟨4, 0, 0⟩ : Deed), (y1.2.1, y1.2.2)))
       (cond (decide ((y1.1 : Int) = 6))
        ((spec_l01Below k (⟨c.b, y1.2.1, y1.2.2⟩ : l01Cur) 4).bind fun y5 =>
        (spec_l01Below k (⟨c.b, y5.2.1, y5.2.2⟩ : l01Cur) 250).bind fun y6 =>
        some ((⟨5, y5.1, (wr ((10 : Int) * y6.1))⟩ : Deed), (y6.2.1, y6.2.2)))
        ((spec_l01Below k (⟨c.b, y1.2.1, y1.2.2⟩ : l01Cur) 20).bind fun y7 =>
        some ((⟨6, y7.1, 0⟩ : Deed), (y7.2.1, y7.2.2)))))))
    (cond (decide ((y1.1 : Int) = 3))
     ((spec_l01Below k (⟨c.b, y1.2.1, y1.2.2⟩ : l01Cur) 7).bind fun y8 =>
      some ((⟨2, y8.1, 0⟩ : Deed), (y8.2.1, y8.2.2)))
     (cond (decide ((y1.1 : Int) = 4))
      ((spec_l01Below k (⟨c.b, y1.2.1, y1.2.2⟩ : l01Cur) 5).bind fun y9 =>
       some ((⟨3, y9.1, 0⟩ : Deed), (y9.2.1, y9.2.2)))
      (cond (decide ((y1.1 : Int) = 5))
       (some ((⟨4, 0, 0⟩ : Deed), (y1.2.1, y1.2.2)))
       (cond (decide ((y1.1 : Int) = 6))
        ((spec_l01Below k (⟨c.b, y1.2.1, y1.2.2⟩ : l01Cur) 4).bind fun y10 =>
        (spec_l01Below k (⟨c.b, y10.2.1, y10.2.2⟩ : l01Cur) 250).bind fun y11 =>
        some ((⟨5, y10.1, (wr ((10 : Int) * y11.1))⟩ : Deed), (y11.2.1, y11.2.2)))
        ((spec_l01Below k (⟨c.b, y1.2.1, y1.2.2⟩ : l01Cur) 20).bind fun y12 =>
        some ((⟨6, y12.1, 0⟩ : Deed), (y12.2.1, y12.2.2)))))))))
  (cond (decide ((y1.1 : Int) = 1))
   ((spec_l01Below k (⟨c.b, y1.2.1, y1.2.2⟩ : l01Cur) 8).bind fun y13 =>
    some ((⟨1, y13.1, 0⟩ : Deed), (y13.2.1, y13.2.2)))
   (cond (decide ((y1.1 : Int) = 2))
    (cond (decide ((y1.1 : Int) = 2))
     ((spec_l01Below k (⟨c.b, y1.2.1, y1.2.2⟩ : l01Cur) 7).bind fun y14 =>
      some ((⟨2, y14.1, 0⟩ : Deed), (y14.2.1, y14.2.2)))
     (cond (decide ((y1.1 : Int) = 4))
      ((spec_l01Below k (⟨c.b, y1.2.1, y1.2.2⟩ : l01Cur) 5).bind fun y15 =>
       some ((⟨3, y15.1, 0⟩ : Deed), (y15.2.1, y15.2.2)))
      (cond (decide ((y1.1 : Int) = 5))
       (some ((⟨4, 0, 0⟩ : Deed), (y1.2.1, y1.2.2)))
       (cond (decide ((y1.1 : Int) = 6))
        ((spec_l01Below k (⟨c.b, y1.2.1, y1.2.2⟩ : l01Cur) 4).bind fun y16 =>
        (spec_l01Below k (⟨c.b, y16.2.1, y16.2.2⟩ : l01Cur) 250).bind fun y17 =>
        some ((⟨5, y16.1, (wr ((10 : Int) * y17.1))⟩ : Deed), (y17.2.1, y17.2.2)))
        ((spec_l01Below k (⟨c.b, y1.2.1, y1.2.2⟩ : l01Cur) 20).bind fun y18 =>
        some ((⟨6, y18.1, 0⟩ : Deed), (y18.2.1, y18.2.2)))))))
    (cond (decide ((y1.1 : Int) = 3))
     ((spec_l01Below k (⟨c.b, y1.2.1, y1.2.2⟩ : l01Cur) 7).bind fun y19 =>
      some ((⟨2, y19.1, 0⟩ : Deed), (y19.2.1, y19.2.2)))
     (cond (decide ((y1.1 : Int) = 4))
      ((spec_l01Below k (⟨c.b, y1.2.1, y1.2.2⟩ : l01Cur) 5).bind fun y20 =>
       some ((⟨3, y20.1, 0⟩ : Deed), (y20.2.1, y20.2.2)))
      (cond (decide ((y1.1 : Int) = 5))
       (some ((⟨4, 0, 0⟩ : Deed), (y1.2.1, y1.2.2)))
       (cond (decide ((y1.1 : Int) = 6))
        ((spec_l01Below k (⟨c.b, y1.2.1, y1.2.2⟩ : l01Cur) 4).bind fun y21 =>
        (spec_l01Below k (⟨c.b, y21.2.1, y21.2.2⟩ : l01Cur) 250).bind fun y22 =>
        some ((⟨5, y21.1, (wr ((10 : Int) * y22.1))⟩ : Deed), (y22.2.1, y22.2.2)))
        ((spec_l01Below k (⟨c.b, y1.2.1, y1.2.2⟩ : l01Cur) 20).bind fun y23 =>
        some ((⟨6, y23.1, 0⟩ : Deed), (y23.2.1, y23.2.2)))))))))
noncomputable def spec_l39Act_v : Nat → List Nat := fun t => match t with | _ => []
noncomputable def spec_l39Act_O (k : Nat) : Oracle := ofL [(59, spec_l01Below_x k)]
theorem spec_l39Act_Ok (k : Nat) : OkO (Ct Tryz.prog) (spec_l39Act_O k) := okO_cons (spec_l01Below_ok k) (okO_nil)
noncomputable def spec_l39Act_A (c : l01Cur) : Pk := ⟨[(.sc (.bp 1 0))], [(.row false K.ku8 c.b), (.box true [(.sl 0), (.v (.int .i64 c.i)), (.v (.int .i64 c.h))])]⟩
noncomputable def spec_l39Act_d : Rs → Option (Deed × (Int × Int))
 | ⟨(.a (.ag [(.v (.int .i64 r1)), (.v (.int .i64 r2)), (.v (.int .i64 r3))])), [.dead, (.box true [(.sl 0), (.v (.int .i64 r4)), (.v (.int .i64 r5))])]⟩ => some ((⟨r1, r2, r3⟩ : Deed), (r4, r5))
 | _ => none
theorem spec_l39Act_i {r : Rs} {y : Deed × (Int × Int)} (h : spec_l39Act_d r = some y) : r = ⟨(.a (.ag [(.v (.int .i64 y.1.Kind)), (.v (.int .i64 y.1.A)), (.v (.int .i64 y.1.B))])), [.dead, (.box true [(.sl 0), (.v (.int .i64 y.2.1)), (.v (.int .i64 y.2.2))])]⟩ := by
 unfold spec_l39Act_d at h; split at h
 · cases h; rfl
 · cases h
theorem spec_l39Act_e (k : Nat) (c : l01Cur) : callF env (spec_l39Act_O k) spec_l39Act_v Tryz.f60 (k + 1) (spec_l39Act_A c) (fun r => spec_l39Act_d (r.fin 2 [])) = spec_l39Act k c := by kernel_rfl
noncomputable def spec_l39Act_x (k : Nat) : Ent1 := fun A R Q => match A with
 | ⟨[(.sc (.bp 1 0))], [(.row false K.ku8 a1), (.box true [(.sl 0), (.v (.int .i64 a2)), (.v (.int .i64 a3))])]⟩ => (spec_l39Act k (⟨a1, a2, a3⟩ : l01Cur)).bind fun y => Q ⟨(.a (.ag [(.v (.int .i64 y.1.Kind)), (.v (.int .i64 y.1.A)), (.v (.int .i64 y.1.B))])), [.dead, (.box true [(.sl 0), (.v (.int .i64 y.2.1)), (.v (.int .i64 y.2.2))])]⟩
 | _ => none
theorem spec_l39Act_ok (k : Nat) : OkE Tryz.prog 60 (spec_l39Act_x k) := by
 intro A R Q x h
 unfold spec_l39Act_x at h
 split at h
 · obtain ⟨y, hy, hK⟩ := Option.bind_eq_some_iff.1 h
   obtain ⟨r, hr, hd⟩ := callF_ok envOk (spec_l39Act_Ok k) follows Tryz.func60 (by kernel_rfl) ((spec_l39Act_e k _).trans hy)
   exact ⟨_, spec_l39Act_i hd ▸ hr.fin [], hK⟩
 · cases h
/-! ### spec.l39List: function 30 -/
noncomputable def spec_l39List_s0 (k : Nat)  (c : l01Cur) (y1 : Int × (Int × Int)) (J : Int → Int → Int → (List Deed) → Option ((List Deed) × (Int × Int))) (x0_0 : Int) (x0_1 : Int) (x0_2 : Int) (x0_3 : (List Deed)) : Option ((List Deed) × (Int × Int)) :=
 cond (decide ((x0_0 : Int) < y1.1))
 ((spec_l39Act k (⟨c.b, x0_1, x0_2⟩ : l01Cur)).bind fun y3 =>
  if (x0_3 : List Deed).length + ([y3.1] : List Deed).length ≤ maxRow then
   J (wr (x0_0 + 1)) y3.2.1 y3.2.2 (x0_3 ++ [y3.1]) else none)
 (some (x0_3, (x0_1, x0_2)))
noncomputable def spec_l39List_l0 (k : Nat) : Nat → l01Cur → Int × (Int × Int) → Int → Int → Int → (List Deed) → Option ((List Deed) × (Int × Int))
 | 0, c, y1, x0_0, x0_1, x0_2, x0_3 => spec_l39List_s0 k c y1 (fun _ _ _ _ => none) x0_0 x0_1 x0_2 x0_3
 | m + 1, c, y1, x0_0, x0_1, x0_2, x0_3 => spec_l39List_s0 k c y1 (spec_l39List_l0 k m c y1) x0_0 x0_1 x0_2 x0_3
noncomputable def spec_l39List_m (k : Nat) (J0 : l01Cur → Int × (Int × Int) → Int → Int → Int → (List Deed) → Option ((List Deed) × (Int × Int))) (c : l01Cur) : Option ((List Deed) × (Int × Int)) :=
 (spec_l01Below k c 14).bind fun y1 =>
 J0 c y1 0 y1.2.1 y1.2.2 ([])
noncomputable def spec_l39List (k : Nat) (c : l01Cur) : Option ((List Deed) × (Int × Int)) := spec_l39List_m k (spec_l39List_l0 k k) c
noncomputable def spec_l39List_v : Nat → List Nat := fun t => match t with | 4 => [0, 2, 3, 4, 5] | _ => []
noncomputable def spec_l39List_O (k : Nat) : Oracle := ofL [(59, spec_l01Below_x k), (60, spec_l39Act_x k)]
theorem spec_l39List_Ok (k : Nat) : OkO (Ct Tryz.prog) (spec_l39List_O k) := okO_cons (spec_l01Below_ok k) (okO_cons (spec_l39Act_ok k) (okO_nil))
noncomputable def spec_l39List_A (c : l01Cur) : Pk := ⟨[(.sc (.bp 1 0))], [(.row false K.ku8 c.b), (.box true [(.sl 0), (.v (.int .i64 c.i)), (.v (.int .i64 c.h))])]⟩
noncomputable def spec_l39List_d : Rs → Option ((List Deed) × (Int × Int))
 | ⟨(.a (.sc (.sl 2))), [.dead, (.box true [(.sl 0), (.v (.int .i64 r2)), (.v (.int .i64 r3))]), (.row true K.k_impl_Act r1)]⟩ => some (r1, (r2, r3))
 | _ => none
theorem spec_l39List_i {r : Rs} {y : (List Deed) × (Int × Int)} (h : spec_l39List_d r = some y) : r = ⟨(.a (.sc (.sl 2))), [.dead, (.box true [(.sl 0), (.v (.int .i64 y.2.1)), (.v (.int .i64 y.2.2))]), (.row true K.k_impl_Act y.1)]⟩ := by
 unfold spec_l39List_d at h; split at h
 · cases h; rfl
 · cases h
noncomputable def spec_l39List_h0 (k m : Nat) (c : l01Cur) (y1 : Int × (Int × Int)) (x0_0 : Int) (x0_1 : Int) (x0_2 : Int) (x0_3 : (List Deed)) : Option ((List Deed) × (Int × Int)) := hdAt env (spec_l39List_O k) spec_l39List_v Tryz.f30 2 (fun r => spec_l39List_d (r.fin 2 [])) [1, 1, 1, 0, 1, 0] k m ⟨tmF [0, 2, 3, 4, 5] [(.a (.sc (.bp 1 0))), (.a (.sc .nl)), (.a (.sc (.sl 2))), (.a (.sc (.v (.int .i64 y1.1)))), (.a (.sc (.v (.int .i64 x0_0))))], blF [(.row false K.ku8 c.b), (.box true [(.sl 0), (.v (.int .i64 x0_1)), (.v (.int .i64 x0_2))]), (.row true K.k_impl_Act x0_3)]⟩
theorem spec_l39List_z0 (k : Nat) (c : l01Cur) (y1 : Int × (Int × Int)) (x0_0 : Int) (x0_1 : Int) (x0_2 : Int) (x0_3 : (List Deed)) : spec_l39List_h0 k 0 c y1 x0_0 x0_1 x0_2 x0_3 = spec_l39List_s0 k c y1 (fun _ _ _ _ => none) x0_0 x0_1 x0_2 x0_3 := by kernel_rfl
theorem spec_l39List_g0 (k : Nat) (H : St → Option ((List Deed) × (Int × Int))) (c : l01Cur) (y1 : Int × (Int × Int)) (x0_0 : Int) (x0_1 : Int) (x0_2 : Int) (x0_3 : (List Deed)) : rnd env (spec_l39List_O k) spec_l39List_v Tryz.f30 2 (fun r => spec_l39List_d (r.fin 2 [])) [1, 1, 1, 0, 1, 0] k H ⟨tmF [0, 2, 3, 4, 5] [(.a (.sc (.bp 1 0))), (.a (.sc .nl)), (.a (.sc (.sl 2))), (.a (.sc (.v (.int .i64 y1.1)))), (.a (.sc (.v (.int .i64 x0_0))))], blF [(.row false K.ku8 c.b), (.box true [(.sl 0), (.v (.int .i64 x0_1)), (.v (.int .i64 x0_2))]), (.row true K.k_impl_Act x0_3)]⟩ = spec_l39List_s0 k c y1 (fun x0_0 x0_1 x0_2 x0_3 => H ⟨tmF [0, 2, 3, 4, 5] [(.a (.sc (.bp 1 0))), (.a (.sc .nl)), (.a (.sc (.sl 2))), (.a (.sc (.v (.int .i64 y1.1)))), (.a (.sc (.v (.int .i64 x0_0))))], blF [(.row false K.ku8 c.b), (.box true [(.sl 0), (.v (.int .i64 x0_1)), (.v (.int .i64 x0_2))]), (.row true K.k_impl_Act x0_3)]⟩) x0_0 x0_1 x0_2 x0_3 := by kernel_rfl
theorem spec_l39List_n0 (k m : Nat) (c : l01Cur) (y1 : Int × (Int × Int)) (x0_0 : Int) (x0_1 : Int) (x0_2 : Int) (x0_3 : (List Deed)) : spec_l39List_h0 k (m + 1) c y1 x0_0 x0_1 x0_2 x0_3 = spec_l39List_s0 k c y1 (spec_l39List_h0 k m c y1) x0_0 x0_1 x0_2 x0_3 := (hdAt_succ _ _ _ _ _ _ _ _ _ _).trans (spec_l39List_g0 k _ c y1 x0_0 x0_1 x0_2 x0_3)
theorem spec_l39List_q0 (k : Nat) : ∀ m, spec_l39List_h0 k m = spec_l39List_l0 k m := by
 intro m
 induction m with
 | zero => funext c y1 x0_0 x0_1 x0_2 x0_3; rw [spec_l39List_z0]; rfl
 | succ m ih => funext c y1 x0_0 x0_1 x0_2 x0_3; rw [spec_l39List_n0, ih]; rfl
theorem spec_l39List_e (k : Nat) (c : l01Cur) : callF env (spec_l39List_O k) spec_l39List_v Tryz.f30 (k + 1) (spec_l39List_A c) (fun r => spec_l39List_d (r.fin 2 [])) = spec_l39List k c := by
 have e : ∀ H : St → Option ((List Deed) × (Int × Int)), callE env (spec_l39List_O k) spec_l39List_v Tryz.f30 (k + 1) (spec_l39List_A c) [1, 1, 1, 0, 1, 0] (fun r => spec_l39List_d (r.fin 2 [])) H = spec_l39List_m k (fun c y1 x0_0 x0_1 x0_2 x0_3 => H ⟨tmF [0, 2, 3, 4, 5] [(.a (.sc (.bp 1 0))), (.a (.sc .nl)), (.a (.sc (.sl 2))), (.a (.sc (.v (.int .i64 y1.1)))), (.a (.sc (.v (.int .i64 x0_0))))], blF [(.row false K.ku8 c.b), (.box true [(.sl 0), (.v (.int .i64 x0_1)), (.v (.int .i64 x0_2))]), (.row true K.k_impl_Act x0_3)]⟩) c := fun H => by kernel_rfl
 exact (callE_eq env (spec_l39List_O k) spec_l39List_v Tryz.f30 k (spec_l39List_A c) [1, 1, 1, 0, 1, 0] 2 (fun r => spec_l39List_d (r.fin 2 [])) rfl (by kernel_rfl)).trans ((e (hdAt env (spec_l39List_O k) spec_l39List_v Tryz.f30 2 (fun r => spec_l39List_d (r.fin 2 [])) [1, 1, 1, 0, 1, 0] k k)).trans (by
  show spec_l39List_m k (spec_l39List_h0 k k) c = _
  rw [spec_l39List_q0]; rfl))
noncomputable def spec_l39List_x (k : Nat) : Ent1 := fun A R Q => match A with
 | ⟨[(.sc (.bp 1 0))], [(.row false K.ku8 a1), (.box true [(.sl 0), (.v (.int .i64 a2)), (.v (.int .i64 a3))])]⟩ => (spec_l39List k (⟨a1, a2, a3⟩ : l01Cur)).bind fun y => Q ⟨(.a (.sc (.sl 2))), [.dead, (.box true [(.sl 0), (.v (.int .i64 y.2.1)), (.v (.int .i64 y.2.2))]), (.row true K.k_impl_Act y.1)]⟩
 | _ => none
theorem spec_l39List_ok (k : Nat) : OkE Tryz.prog 30 (spec_l39List_x k) := by
 intro A R Q x h
 unfold spec_l39List_x at h
 split at h
 · obtain ⟨y, hy, hK⟩ := Option.bind_eq_some_iff.1 h
   obtain ⟨r, hr, hd⟩ := callF_ok envOk (spec_l39List_Ok k) follows Tryz.func30 (by kernel_rfl) ((spec_l39List_e k _).trans hy)
   exact ⟨_, spec_l39List_i hd ▸ hr.fin [], hK⟩
 · cases h
/-! ### spec.DrawActs: function 11 -/
noncomputable def spec_DrawActs (k : Nat)  (code : (List Int)) : Option (Bakery × (List Deed)) :=
 (spec_l01New k code).bind fun y1 =>
 (spec_l39Bakery k (⟨code, y1.1, y1.2⟩ : l01Cur)).bind fun y2 =>
  (spec_l39List k (⟨code, y2.2.1, y2.2.2⟩ : l01Cur)).bind fun y3 =>
   some (y2.1, y3.1)
noncomputable def spec_DrawActs_v : Nat → List Nat := fun t => match t with | _ => []
noncomputable def spec_DrawActs_O (k : Nat) : Oracle := ofL [(28, spec_l01New_x k), (29, spec_l39Bakery_x k), (30, spec_l39List_x k)]
theorem spec_DrawActs_Ok (k : Nat) : OkO (Ct Tryz.prog) (spec_DrawActs_O k) := okO_cons (spec_l01New_ok k) (okO_cons (spec_l39Bakery_ok k) (okO_cons (spec_l39List_ok k) (okO_nil)))
noncomputable def spec_DrawActs_A (code : (List Int)) : Pk := ⟨[(.sc (.sl 0))], [(.row false K.ku8 code)]⟩
noncomputable def spec_DrawActs_d : Rs → Option (Bakery × (List Deed))
 | ⟨(.tp [(.ag [(.sl 1), (.v (.int .i64 r2)), (.v (.int .i64 r3)), (.v (.int .i64 r4)), (.v (.int .i64 r5)), (.v (.int .i64 r6)), (.sl 2), (.v (.int .i64 r8)), (.v (.int .i64 r9)), (.v (.int .i64 r10)), (.v (.int .i64 r11)), (.v (.int .i64 r12)), (.v (.int .i64 r13)), (.v (.int .i64 r14))]), (.sc (.sl 3))]), [.dead, (.row true K.ki64 r1), (.row true K.k_impl_Event r7), (.row true K.k_impl_Act r15)]⟩ => some ((⟨(⟨r1⟩ : Stock), (⟨r2, r3, r4⟩ : Dough), (⟨r5, r6⟩ : Loaf), (⟨r7, (⟨r8, r9, r10⟩ : Rack), r11, r12, r13⟩ : Book), r14⟩ : Bakery), r15)
 | _ => none
theorem spec_DrawActs_i {r : Rs} {y : Bakery × (List Deed)} (h : spec_DrawActs_d r = some y) : r = ⟨(.tp [(.ag [(.sl 1), (.v (.int .i64 y.1.Dough.Water)), (.v (.int .i64 y.1.Dough.Salt)), (.v (.int .i64 y.1.Dough.Leaven)), (.v (.int .i64 y.1.Loaf.Weight)), (.v (.int .i64 y.1.Loaf.Loss)), (.sl 2), (.v (.int .i64 y.1.Book.Rack.Fresh)), (.v (.int .i64 y.1.Book.Rack.Day)), (.v (.int .i64 y.1.Book.Rack.Old)), (.v (.int .i64 y.1.Book.Baked)), (.v (.int .i64 y.1.Book.Sold)), (.v (.int .i64 y.1.Book.Thrown)), (.v (.int .i64 y.1.Money))]), (.sc (.sl 3))]), [.dead, (.row true K.ki64 y.1.Stock.Grams), (.row true K.k_impl_Event y.1.Book.Events), (.row true K.k_impl_Act y.2)]⟩ := by
 unfold spec_DrawActs_d at h; split at h
 · cases h; rfl
 · cases h
theorem spec_DrawActs_e (k : Nat) (code : (List Int)) : callF env (spec_DrawActs_O k) spec_DrawActs_v Tryz.f11 (k + 1) (spec_DrawActs_A code) (fun r => spec_DrawActs_d (r.fin 1 [])) = spec_DrawActs k code := by kernel_rfl
noncomputable def spec_DrawActs_x (k : Nat) : Ent1 := fun A R Q => match A with
 | ⟨[(.sc (.sl 0))], [(.row false K.ku8 a1)]⟩ => (spec_DrawActs k a1).bind fun y => Q ⟨(.tp [(.ag [(.sl 1), (.v (.int .i64 y.1.Dough.Water)), (.v (.int .i64 y.1.Dough.Salt)), (.v (.int .i64 y.1.Dough.Leaven)), (.v (.int .i64 y.1.Loaf.Weight)), (.v (.int .i64 y.1.Loaf.Loss)), (.sl 2), (.v (.int .i64 y.1.Book.Rack.Fresh)), (.v (.int .i64 y.1.Book.Rack.Day)), (.v (.int .i64 y.1.Book.Rack.Old)), (.v (.int .i64 y.1.Book.Baked)), (.v (.int .i64 y.1.Book.Sold)), (.v (.int .i64 y.1.Book.Thrown)), (.v (.int .i64 y.1.Money))]), (.sc (.sl 3))]), [.dead, (.row true K.ki64 y.1.Stock.Grams), (.row true K.k_impl_Event y.1.Book.Events), (.row true K.k_impl_Act y.2)]⟩
 | _ => none
theorem spec_DrawActs_ok (k : Nat) : OkE Tryz.prog 11 (spec_DrawActs_x k) := by
 intro A R Q x h
 unfold spec_DrawActs_x at h
 split at h
 · obtain ⟨y, hy, hK⟩ := Option.bind_eq_some_iff.1 h
   obtain ⟨r, hr, hd⟩ := callF_ok envOk (spec_DrawActs_Ok k) follows Tryz.func11 (by kernel_rfl) ((spec_DrawActs_e k _).trans hy)
   exact ⟨_, spec_DrawActs_i hd ▸ hr.fin [], hK⟩
 · cases h
/-! ### impl.in: function 68 -/
noncomputable def impl_in (k : Nat)  (n : Int) (low : Int) (high : Int) : Option (Bool) :=
 cond (decide ((low : Int) ≤ n))
 (some (decide ((n : Int) ≤ high)))
 (some false)
noncomputable def impl_in_v : Nat → List Nat := fun t => match t with | _ => []
noncomputable def impl_in_O (k : Nat) : Oracle := ofL []
theorem impl_in_Ok (k : Nat) : OkO (Ct Tryz.prog) (impl_in_O k) := okO_nil
noncomputable def impl_in_A (n : Int) (low : Int) (high : Int) : Pk := ⟨[(.sc (.v (.int .i64 n))), (.sc (.v (.int .i64 low))), (.sc (.v (.int .i64 high)))], []⟩
noncomputable def impl_in_d : Rs → Option (Bool)
 | ⟨(.a (.sc (.v (.bool r1)))), []⟩ => some r1
 | _ => none
theorem impl_in_i {r : Rs} {y : Bool} (h : impl_in_d r = some y) : r = ⟨(.a (.sc (.v (.bool y)))), []⟩ := by
 unfold impl_in_d at h; split at h
 · cases h; rfl
 · cases h
theorem impl_in_e (k : Nat) (n : Int) (low : Int) (high : Int) : callF env (impl_in_O k) impl_in_v Tryz.f68 (k + 1) (impl_in_A n low high) (fun r => impl_in_d (r.fin 0 [])) = impl_in k n low high := by kernel_rfl
noncomputable def impl_in_x (k : Nat) : Ent1 := fun A R Q => match A with
 | ⟨[(.sc (.v (.int .i64 a1))), (.sc (.v (.int .i64 a2))), (.sc (.v (.int .i64 a3)))], []⟩ => (impl_in k a1 a2 a3).bind fun y => Q ⟨(.a (.sc (.v (.bool y)))), []⟩
 | _ => none
theorem impl_in_ok (k : Nat) : OkE Tryz.prog 68 (impl_in_x k) := by
 intro A R Q x h
 unfold impl_in_x at h
 split at h
 · obtain ⟨y, hy, hK⟩ := Option.bind_eq_some_iff.1 h
   obtain ⟨r, hr, hd⟩ := callF_ok envOk (impl_in_Ok k) follows Tryz.func68 (by kernel_rfl) ((impl_in_e k _ _ _).trans hy)
   exact ⟨_, impl_in_i hd ▸ hr.fin [], hK⟩
 · cases h
/-! ### impl.ActOk: function 56 -/
noncomputable def impl_ActOk (k : Nat)  (a : Deed) : Option (Bool) :=
 cond (decide ((a.Kind : Int) = 1))
 (cond (decide ((a.Kind : Int) = 1))
  ((impl_in k a.A 0 1000).bind fun y1 =>
   cond y1
    (some (decide ((a.B : Int) = 0)))
    (some false))
  (cond (decide ((a.Kind : Int) = 4))
   (cond (decide ((a.A : Int) = 0))
    (some (decide ((a.B : Int) = 0)))
    (some false))
   (cond (decide ((a.Kind : Int) = 5))
    ((impl_in k a.A 0 3).bind fun y2 =>
     cond y2
      ((impl_in k a.B 0 100000).bind fun y3 =>
       some y3)
      (some false))
    (some false))))
 (cond (decide ((a.Kind : Int) = 2))
  (cond (decide ((a.Kind : Int) = 2))
   ((impl_in k a.A 0 1000).bind fun y4 =>
    cond y4
     (some (decide ((a.B : Int) = 0)))
     (some false))
   (cond (decide ((a.Kind : Int) = 4))
    (cond (decide ((a.A : Int) = 0))
     (some (decide ((a.B : Int) = 0)))
     (some false))
    (cond (decide ((a.Kind : Int) = 5))
     ((impl_in k a.A 0 3).bind fun y5 =>
      cond y5
       ((impl_in k a.B 0 100000).bind fun y6 =>
        some y6)
       (some false))
     (some false))))
  (cond (decide ((a.Kind : Int) = 3))
   (cond (decide ((a.Kind : Int) = 3))
    ((impl_in k a.A 0 1000).bind fun y7 =>
     cond y7
      (some (decide ((a.B : Int) = 0)))
      (some false))
    (cond (decide ((a.Kind : Int) = 4))
     (cond (decide ((a.A : Int) = 0))
      (some (decide ((a.B : Int) = 0)))
      (some false))
     (cond (decide ((a.Kind : Int) = 5))
      ((impl_in k a.A 0 3).bind fun y8 =>
       cond y8
        ((impl_in k a.B 0 100000).bind fun y9 =>
        some y9)
        (some false))
      (some false))))
   (cond (decide ((a.Kind : Int) = 6))
    ((impl_in k a.A 0 1000).bind fun y10 =>
     cond y10
      (some (decide ((a.B : Int) = 0)))
      (some false))
    (cond (decide ((a.Kind : Int) = 4))
     (cond (decide ((a.A : Int) = 0))
      (some (decide ((a.B : Int) = 0)))
      (some false))
     (cond (decide ((a.Kind : Int) = 5))
      ((impl_in k a.A 0 3).bind fun y11 =>
       cond y11
        ((impl_in k a.B 0 100000).bind fun y12 =>
        some y12)
        (some false))
      (some false))))))
noncomputable def impl_ActOk_v : Nat → List Nat := fun t => match t with | _ => []
noncomputable def impl_ActOk_O (k : Nat) : Oracle := ofL [(68, impl_in_x k)]
theorem impl_ActOk_Ok (k : Nat) : OkO (Ct Tryz.prog) (impl_ActOk_O k) := okO_cons (impl_in_ok k) (okO_nil)
noncomputable def impl_ActOk_A (a : Deed) : Pk := ⟨[(.ag [(.v (.int .i64 a.Kind)), (.v (.int .i64 a.A)), (.v (.int .i64 a.B))])], []⟩
noncomputable def impl_ActOk_d : Rs → Option (Bool)
 | ⟨(.a (.sc (.v (.bool r1)))), []⟩ => some r1
 | _ => none
theorem impl_ActOk_i {r : Rs} {y : Bool} (h : impl_ActOk_d r = some y) : r = ⟨(.a (.sc (.v (.bool y)))), []⟩ := by
 unfold impl_ActOk_d at h; split at h
 · cases h; rfl
 · cases h
theorem impl_ActOk_e (k : Nat) (a : Deed) : callF env (impl_ActOk_O k) impl_ActOk_v Tryz.f56 (k + 1) (impl_ActOk_A a) (fun r => impl_ActOk_d (r.fin 0 [])) = impl_ActOk k a := by kernel_rfl
noncomputable def impl_ActOk_x (k : Nat) : Ent1 := fun A R Q => match A with
 | ⟨[(.ag [(.v (.int .i64 a1)), (.v (.int .i64 a2)), (.v (.int .i64 a3))])], []⟩ => (impl_ActOk k (⟨a1, a2, a3⟩ : Deed)).bind fun y => Q ⟨(.a (.sc (.v (.bool y)))), []⟩
 | _ => none
theorem impl_ActOk_ok (k : Nat) : OkE Tryz.prog 56 (impl_ActOk_x k) := by
 intro A R Q x h
 unfold impl_ActOk_x at h
 split at h
 · obtain ⟨y, hy, hK⟩ := Option.bind_eq_some_iff.1 h
   obtain ⟨r, hr, hd⟩ := callF_ok envOk (impl_ActOk_Ok k) follows Tryz.func56 (by kernel_rfl) ((impl_ActOk_e k _).trans hy)
   exact ⟨_, impl_ActOk_i hd ▸ hr.fin [], hK⟩
 · cases h
/-! ### impl.actWords: function 53 -/
noncomputable def impl_actWords (k : Nat)  : Option ((List ByteArray)) :=
 some ([(ByteArray.mk #[98, 97, 107, 101]), (ByteArray.mk #[115, 101, 108, 108]), (ByteArray.mk #[99, 104, 101, 97, 112]), (ByteArray.mk #[109, 111, 114, 110, 105, 110, 103]), (ByteArray.mk #[98, 117, 121]), (ByteArray.mk #[102, 108, 111, 117, 114])])
noncomputable def impl_actWords_v : Nat → List Nat := fun t => match t with | _ => []
noncomputable def impl_actWords_O (k : Nat) : Oracle := ofL []
theorem impl_actWords_Ok (k : Nat) : OkO (Ct Tryz.prog) (impl_actWords_O k) := okO_nil
noncomputable def impl_actWords_A : Pk := ⟨[], []⟩
noncomputable def impl_actWords_d : Rs → Option ((List ByteArray))
 | ⟨(.a (.sc (.sl 0))), [(.row true K.kstr r1)]⟩ => some r1
 | _ => none
theorem impl_actWords_i {r : Rs} {y : (List ByteArray)} (h : impl_actWords_d r = some y) : r = ⟨(.a (.sc (.sl 0))), [(.row true K.kstr y)]⟩ := by
 unfold impl_actWords_d at h; split at h
 · cases h; rfl
 · cases h
theorem impl_actWords_e (k : Nat) : callF env (impl_actWords_O k) impl_actWords_v Tryz.f53 (k + 1) (impl_actWords_A) (fun r => impl_actWords_d (r.fin 0 [])) = impl_actWords k := by kernel_rfl
noncomputable def impl_actWords_x (k : Nat) : Ent1 := fun A R Q => match A with
 | ⟨[], []⟩ => (impl_actWords k).bind fun y => Q ⟨(.a (.sc (.sl 0))), [(.row true K.kstr y)]⟩
 | _ => none
theorem impl_actWords_ok (k : Nat) : OkE Tryz.prog 53 (impl_actWords_x k) := by
 intro A R Q x h
 unfold impl_actWords_x at h
 split at h
 · obtain ⟨y, hy, hK⟩ := Option.bind_eq_some_iff.1 h
   obtain ⟨r, hr, hd⟩ := callF_ok envOk (impl_actWords_Ok k) follows Tryz.func53 (by kernel_rfl) ((impl_actWords_e k).trans hy)
   exact ⟨_, impl_actWords_i hd ▸ hr.fin [], hK⟩
 · cases h
/-! ### impl.actNumbers: function 54 -/
noncomputable def impl_actNumbers (k : Nat)  : Option ((List Int)) :=
 some ([1, 1, 1, 0, 2, 1])
noncomputable def impl_actNumbers_v : Nat → List Nat := fun t => match t with | _ => []
noncomputable def impl_actNumbers_O (k : Nat) : Oracle := ofL []
theorem impl_actNumbers_Ok (k : Nat) : OkO (Ct Tryz.prog) (impl_actNumbers_O k) := okO_nil
noncomputable def impl_actNumbers_A : Pk := ⟨[], []⟩
noncomputable def impl_actNumbers_d : Rs → Option ((List Int))
 | ⟨(.a (.sc (.sl 0))), [(.row true K.ki64 r1)]⟩ => some r1
 | _ => none
theorem impl_actNumbers_i {r : Rs} {y : (List Int)} (h : impl_actNumbers_d r = some y) : r = ⟨(.a (.sc (.sl 0))), [(.row true K.ki64 y)]⟩ := by
 unfold impl_actNumbers_d at h; split at h
 · cases h; rfl
 · cases h
theorem impl_actNumbers_e (k : Nat) : callF env (impl_actNumbers_O k) impl_actNumbers_v Tryz.f54 (k + 1) (impl_actNumbers_A) (fun r => impl_actNumbers_d (r.fin 0 [])) = impl_actNumbers k := by kernel_rfl
noncomputable def impl_actNumbers_x (k : Nat) : Ent1 := fun A R Q => match A with
 | ⟨[], []⟩ => (impl_actNumbers k).bind fun y => Q ⟨(.a (.sc (.sl 0))), [(.row true K.ki64 y)]⟩
 | _ => none
theorem impl_actNumbers_ok (k : Nat) : OkE Tryz.prog 54 (impl_actNumbers_x k) := by
 intro A R Q x h
 unfold impl_actNumbers_x at h
 split at h
 · obtain ⟨y, hy, hK⟩ := Option.bind_eq_some_iff.1 h
   obtain ⟨r, hr, hd⟩ := callF_ok envOk (impl_actNumbers_Ok k) follows Tryz.func54 (by kernel_rfl) ((impl_actNumbers_e k).trans hy)
   exact ⟨_, impl_actNumbers_i hd ▸ hr.fin [], hK⟩
 · cases h
/-! ### impl.FormatInt: function 15 -/
noncomputable def impl_FormatInt (k : Nat)  (n : Int) : Option (ByteArray) :=
 (strconv_Itoa k n).bind fun y1 =>
 some y1
noncomputable def impl_FormatInt_v : Nat → List Nat := fun t => match t with | _ => []
noncomputable def impl_FormatInt_O (k : Nat) : Oracle := ofL [(38, strconv_Itoa_x k)]
theorem impl_FormatInt_Ok (k : Nat) : OkO (Ct Tryz.prog) (impl_FormatInt_O k) := okO_cons (strconv_Itoa_ok k) (okO_nil)
noncomputable def impl_FormatInt_A (n : Int) : Pk := ⟨[(.sc (.v (.int .i64 n)))], []⟩
noncomputable def impl_FormatInt_d : Rs → Option (ByteArray)
 | ⟨(.a (.sc (.v (.string r1)))), []⟩ => some r1
 | _ => none
theorem impl_FormatInt_i {r : Rs} {y : ByteArray} (h : impl_FormatInt_d r = some y) : r = ⟨(.a (.sc (.v (.string y)))), []⟩ := by
 unfold impl_FormatInt_d at h; split at h
 · cases h; rfl
 · cases h
theorem impl_FormatInt_e (k : Nat) (n : Int) : callF env (impl_FormatInt_O k) impl_FormatInt_v Tryz.f15 (k + 1) (impl_FormatInt_A n) (fun r => impl_FormatInt_d (r.fin 0 [])) = impl_FormatInt k n := by kernel_rfl
noncomputable def impl_FormatInt_x (k : Nat) : Ent1 := fun A R Q => match A with
 | ⟨[(.sc (.v (.int .i64 a1)))], []⟩ => (impl_FormatInt k a1).bind fun y => Q ⟨(.a (.sc (.v (.string y)))), []⟩
 | _ => none
theorem impl_FormatInt_ok (k : Nat) : OkE Tryz.prog 15 (impl_FormatInt_x k) := by
 intro A R Q x h
 unfold impl_FormatInt_x at h
 split at h
 · obtain ⟨y, hy, hK⟩ := Option.bind_eq_some_iff.1 h
   obtain ⟨r, hr, hd⟩ := callF_ok envOk (impl_FormatInt_Ok k) follows Tryz.func15 (by kernel_rfl) ((impl_FormatInt_e k _).trans hy)
   exact ⟨_, impl_FormatInt_i hd ▸ hr.fin [], hK⟩
 · cases h
/-! ### impl.told: function 39 -/
noncomputable def impl_told_s0 (k : Nat)  (numbers : (List Int)) (J : Int → (List ByteArray) → Option (ByteArray)) (x0_0 : Int) (x0_1 : (List ByteArray)) : Option (ByteArray) :=
 cond (decide ((x0_0 : Int) < ((numbers).length : Int)))
 (if 0 ≤ (x0_0 : Int) ∧ (x0_0 : Int) < ((numbers).length : Int) then
  (impl_FormatInt k (numbers.getD (Int.toNat x0_0) 0)).bind fun y3 =>
   if (x0_1 : List ByteArray).length + ([y3] : List ByteArray).length ≤ maxRow then
    J (wr (x0_0 + 1)) (x0_1 ++ [y3]) else none else none)
 ((strings_Join k x0_1 (ByteArray.mk #[32])).bind fun y4 =>
  some y4.1)
noncomputable def impl_told_l0 (k : Nat) : Nat → (List Int) → Int → (List ByteArray) → Option (ByteArray)
 | 0, numbers, x0_0, x0_1 => impl_told_s0 k numbers (fun _ _ => none) x0_0 x0_1
 | m + 1, numbers, x0_0, x0_1 => impl_told_s0 k numbers (impl_told_l0 k m numbers) x0_0 x0_1
noncomputable def impl_told_m (k : Nat) (J0 : (List Int) → Int → (List ByteArray) → Option (ByteArray)) (word : ByteArray) (numbers : (List Int)) : Option (ByteArray) :=
 J0 numbers 0 ([word])
noncomputable def impl_told (k : Nat) (word : ByteArray) (numbers : (List Int)) : Option (ByteArray) := impl_told_m k (impl_told_l0 k k) word numbers
noncomputable def impl_told_v : Nat → List Nat := fun t => match t with | 3 => [4, 5, 10, 11, 12] | _ => []
noncomputable def impl_told_O (k : Nat) : Oracle := ofL [(15, impl_FormatInt_x k), (75, strings_Join_x k)]
theorem impl_told_Ok (k : Nat) : OkO (Ct Tryz.prog) (impl_told_O k) := okO_cons (impl_FormatInt_ok k) (okO_cons (strings_Join_ok k) (okO_nil))
noncomputable def impl_told_A (word : ByteArray) (numbers : (List Int)) : Pk := ⟨[(.sc (.v (.string word))), (.sc (.sl 0))], [(.row false K.ki64 numbers)]⟩
noncomputable def impl_told_d : Rs → Option (ByteArray)
 | ⟨(.a (.sc (.v (.string r1)))), [.dead]⟩ => some r1
 | _ => none
theorem impl_told_i {r : Rs} {y : ByteArray} (h : impl_told_d r = some y) : r = ⟨(.a (.sc (.v (.string y)))), [.dead]⟩ := by
 unfold impl_told_d at h; split at h
 · cases h; rfl
 · cases h
noncomputable def impl_told_h0 (k m : Nat) (numbers : (List Int)) (x0_0 : Int) (x0_1 : (List ByteArray)) : Option (ByteArray) := hdAt env (impl_told_O k) impl_told_v Tryz.f39 1 (fun r => impl_told_d (r.fin 1 [])) [1, 1, 0, 1, 0] k m ⟨tmF [4, 5, 10, 11, 12] [(.a (.sc (.v (.string (ByteArray.mk #[]))))), (.a (.sc (.sl 1))), (.a (.sc (.sl 0))), (.a (.sc (.v (.int .i64 ((numbers).length : Int))))), (.a (.sc (.v (.int .i64 x0_0))))], blF [(.row false K.ki64 numbers), (.row true K.kstr x0_1)]⟩
theorem impl_told_z0 (k : Nat) (numbers : (List Int)) (x0_0 : Int) (x0_1 : (List ByteArray)) : impl_told_h0 k 0 numbers x0_0 x0_1 = impl_told_s0 k numbers (fun _ _ => none) x0_0 x0_1 := by kernel_rfl
theorem impl_told_g0 (k : Nat) (H : St → Option (ByteArray)) (numbers : (List Int)) (x0_0 : Int) (x0_1 : (List ByteArray)) : rnd env (impl_told_O k) impl_told_v Tryz.f39 1 (fun r => impl_told_d (r.fin 1 [])) [1, 1, 0, 1, 0] k H ⟨tmF [4, 5, 10, 11, 12] [(.a (.sc (.v (.string (ByteArray.mk #[]))))), (.a (.sc (.sl 1))), (.a (.sc (.sl 0))), (.a (.sc (.v (.int .i64 ((numbers).length : Int))))), (.a (.sc (.v (.int .i64 x0_0))))], blF [(.row false K.ki64 numbers), (.row true K.kstr x0_1)]⟩ = impl_told_s0 k numbers (fun x0_0 x0_1 => H ⟨tmF [4, 5, 10, 11, 12] [(.a (.sc (.v (.string (ByteArray.mk #[]))))), (.a (.sc (.sl 1))), (.a (.sc (.sl 0))), (.a (.sc (.v (.int .i64 ((numbers).length : Int))))), (.a (.sc (.v (.int .i64 x0_0))))], blF [(.row false K.ki64 numbers), (.row true K.kstr x0_1)]⟩) x0_0 x0_1 := by kernel_rfl
theorem impl_told_n0 (k m : Nat) (numbers : (List Int)) (x0_0 : Int) (x0_1 : (List ByteArray)) : impl_told_h0 k (m + 1) numbers x0_0 x0_1 = impl_told_s0 k numbers (impl_told_h0 k m numbers) x0_0 x0_1 := (hdAt_succ _ _ _ _ _ _ _ _ _ _).trans (impl_told_g0 k _ numbers x0_0 x0_1)
theorem impl_told_q0 (k : Nat) : ∀ m, impl_told_h0 k m = impl_told_l0 k m := by
 intro m
 induction m with
 | zero => funext numbers x0_0 x0_1; rw [impl_told_z0]; rfl
 | succ m ih => funext numbers x0_0 x0_1; rw [impl_told_n0, ih]; rfl
theorem impl_told_e (k : Nat) (word : ByteArray) (numbers : (List Int)) : callF env (impl_told_O k) impl_told_v Tryz.f39 (k + 1) (impl_told_A word numbers) (fun r => impl_told_d (r.fin 1 [])) = impl_told k word numbers := by
 have e : ∀ H : St → Option (ByteArray), callE env (impl_told_O k) impl_told_v Tryz.f39 (k + 1) (impl_told_A word numbers) [1, 1, 0, 1, 0] (fun r => impl_told_d (r.fin 1 [])) H = impl_told_m k (fun numbers x0_0 x0_1 => H ⟨tmF [4, 5, 10, 11, 12] [(.a (.sc (.v (.string (ByteArray.mk #[]))))), (.a (.sc (.sl 1))), (.a (.sc (.sl 0))), (.a (.sc (.v (.int .i64 ((numbers).length : Int))))), (.a (.sc (.v (.int .i64 x0_0))))], blF [(.row false K.ki64 numbers), (.row true K.kstr x0_1)]⟩) word numbers := fun H => by kernel_rfl
 exact (callE_eq env (impl_told_O k) impl_told_v Tryz.f39 k (impl_told_A word numbers) [1, 1, 0, 1, 0] 1 (fun r => impl_told_d (r.fin 1 [])) rfl (by kernel_rfl)).trans ((e (hdAt env (impl_told_O k) impl_told_v Tryz.f39 1 (fun r => impl_told_d (r.fin 1 [])) [1, 1, 0, 1, 0] k k)).trans (by
  show impl_told_m k (impl_told_h0 k k) word numbers = _
  rw [impl_told_q0]; rfl))
noncomputable def impl_told_x (k : Nat) : Ent1 := fun A R Q => match A with
 | ⟨[(.sc (.v (.string a1))), (.sc (.sl 0))], [(.row false K.ki64 a2)]⟩ => (impl_told k a1 a2).bind fun y => Q ⟨(.a (.sc (.v (.string y)))), [.dead]⟩
 | _ => none
theorem impl_told_ok (k : Nat) : OkE Tryz.prog 39 (impl_told_x k) := by
 intro A R Q x h
 unfold impl_told_x at h
 split at h
 · obtain ⟨y, hy, hK⟩ := Option.bind_eq_some_iff.1 h
   obtain ⟨r, hr, hd⟩ := callF_ok envOk (impl_told_Ok k) follows Tryz.func39 (by kernel_rfl) ((impl_told_e k _ _).trans hy)
   exact ⟨_, impl_told_i hd ▸ hr.fin [], hK⟩
 · cases h
end Go.Proofs.YtlenacakmmikiaaGreatDoorX
