/- What functions of the program compute, as functions of numbers and lists, and that they do. (The file is written by wip/x/vxp.py of this repository.) -/
import Derived.Test.YtlenacakmmikiaaGreatDoorLib
import Derived.Test.YtlenacakmmikiaaGreatDoorX20
import Derived.WalkKit
import Derived.BigCall
import Derived.Lib.UnsafeStr
import Derived.Test.YtlenacakmmikiaaGreatDoorX18
namespace Go.Proofs.YtlenacakmmikiaaGreatDoorX
open Go Go.Proofs Go.RowKit
set_option linter.unusedVariables false
set_option maxRecDepth 100000
/-! ### laws.big: function 10 -/
noncomputable def laws_big (k : Nat)  (code : (List Int)) : Option (Bool) :=
 some (decide ((1048576 : Int) < ((code).length : Int)))
noncomputable def laws_big_v : Nat → List Nat := fun t => match t with | _ => []
noncomputable def laws_big_O (k : Nat) : Oracle := ofL []
theorem laws_big_Ok (k : Nat) : OkO (Ct Tryz.prog) (laws_big_O k) := okO_nil
noncomputable def laws_big_A (code : (List Int)) : Pk := ⟨[(.sc (.sl 0))], [(.row false K.ku8 code)]⟩
noncomputable def laws_big_d : Rs → Option (Bool)
 | ⟨(.a (.sc (.v (.bool r1)))), [.dead]⟩ => some r1
 | _ => none
theorem laws_big_i {r : Rs} {y : Bool} (h : laws_big_d r = some y) : r = ⟨(.a (.sc (.v (.bool y)))), [.dead]⟩ := by
 unfold laws_big_d at h; split at h
 · cases h; rfl
 · cases h
theorem laws_big_e (k : Nat) (code : (List Int)) : callF env (laws_big_O k) laws_big_v Tryz.f10 (k + 1) (laws_big_A code) (fun r => laws_big_d (r.fin 1 [])) = laws_big k code := by kernel_rfl
noncomputable def laws_big_x (k : Nat) : Ent1 := fun A R Q => match A with
 | ⟨[(.sc (.sl 0))], [(.row false K.ku8 a1)]⟩ => (laws_big k a1).bind fun y => Q ⟨(.a (.sc (.v (.bool y)))), [.dead]⟩
 | _ => none
theorem laws_big_ok (k : Nat) : OkE Tryz.prog 10 (laws_big_x k) := by
 intro A R Q x h
 unfold laws_big_x at h
 split at h
 · obtain ⟨y, hy, hK⟩ := Option.bind_eq_some_iff.1 h
   obtain ⟨r, hr, hd⟩ := callF_ok envOk (laws_big_Ok k) follows Tryz.func10 (by kernel_rfl) ((laws_big_e k _).trans hy)
   exact ⟨_, laws_big_i hd ▸ hr.fin [], hK⟩
 · cases h
/-! ### spec.l01New: function 28 -/
noncomputable def spec_l01New_s0 (k : Nat)  (code : (List Int)) (J : Int → Int → Option ((Int × Int))) (x0_0 : Int) (x0_1 : Int) : Option ((Int × Int)) :=
 cond (decide ((x0_1 : Int) < ((code).length : Int)))
 (cond (decide ((x0_1 : Int) < 4000))
  (if 0 ≤ (x0_1 : Int) ∧ (x0_1 : Int) < ((code).length : Int) then
   J (bAnd .i64 (wr ((wr ((wr (x0_0 * 131)) + (wr (code.getD (Int.toNat x0_1) 0)))) + 7)) 1073741823) (wr (x0_1 + 1)) else none)
  (some (0, x0_0)))
 (some (0, x0_0))
noncomputable def spec_l01New_l0 (k : Nat) : Nat → (List Int) → Int → Int → Option ((Int × Int))
 | 0, code, x0_0, x0_1 => spec_l01New_s0 k code (fun _ _ => none) x0_0 x0_1
 | m + 1, code, x0_0, x0_1 => spec_l01New_s0 k code (spec_l01New_l0 k m code) x0_0 x0_1
noncomputable def spec_l01New_m (k : Nat) (J0 : (List Int) → Int → Int → Option ((Int × Int))) (code : (List Int)) : Option ((Int × Int)) :=
 J0 code (wr ((33101 : Int) + ((code).length : Int))) 0
noncomputable def spec_l01New (k : Nat) (code : (List Int)) : Option ((Int × Int)) := spec_l01New_m k (spec_l01New_l0 k k) code
noncomputable def spec_l01New_v : Nat → List Nat := fun t => match t with | 3 => [0, 2, 3, 4] | _ => []
noncomputable def spec_l01New_O (k : Nat) : Oracle := ofL []
theorem spec_l01New_Ok (k : Nat) : OkO (Ct Tryz.prog) (spec_l01New_O k) := okO_nil
noncomputable def spec_l01New_A (code : (List Int)) : Pk := ⟨[(.sc (.sl 0))], [(.row false K.ku8 code)]⟩
noncomputable def spec_l01New_d : Rs → Option ((Int × Int))
 | ⟨(.a (.sc (.bp 1 0))), [.dead, (.box true [(.sl 0), (.v (.int .i64 r1)), (.v (.int .i64 r2))])]⟩ => some (r1, r2)
 | _ => none
theorem spec_l01New_i {r : Rs} {y : (Int × Int)} (h : spec_l01New_d r = some y) : r = ⟨(.a (.sc (.bp 1 0))), [.dead, (.box true [(.sl 0), (.v (.int .i64 y.1)), (.v (.int .i64 y.2))])]⟩ := by
 unfold spec_l01New_d at h; split at h
 · cases h; rfl
 · cases h
noncomputable def spec_l01New_h0 (k m : Nat) (code : (List Int)) (x0_0 : Int) (x0_1 : Int) : Option ((Int × Int)) := hdAt env (spec_l01New_O k) spec_l01New_v Tryz.f28 1 (fun r => spec_l01New_d (r.fin 1 [])) [1, 1, 0, 1, 0] k m ⟨tmF [0, 2, 3, 4] [(.a (.sc (.sl 0))), (.a (.sc (.v (.pointer none)))), (.a (.sc (.v (.int .i64 x0_0)))), (.a (.sc (.v (.int .i64 x0_1))))], blF [(.row false K.ku8 code)]⟩
theorem spec_l01New_z0 (k : Nat) (code : (List Int)) (x0_0 : Int) (x0_1 : Int) : spec_l01New_h0 k 0 code x0_0 x0_1 = spec_l01New_s0 k code (fun _ _ => none) x0_0 x0_1 := by kernel_rfl
theorem spec_l01New_g0 (k : Nat) (H : St → Option ((Int × Int))) (code : (List Int)) (x0_0 : Int) (x0_1 : Int) : rnd env (spec_l01New_O k) spec_l01New_v Tryz.f28 1 (fun r => spec_l01New_d (r.fin 1 [])) [1, 1, 0, 1, 0] k H ⟨tmF [0, 2, 3, 4] [(.a (.sc (.sl 0))), (.a (.sc (.v (.pointer none)))), (.a (.sc (.v (.int .i64 x0_0)))), (.a (.sc (.v (.int .i64 x0_1))))], blF [(.row false K.ku8 code)]⟩ = spec_l01New_s0 k code (fun x0_0 x0_1 => H ⟨tmF [0, 2, 3, 4] [(.a (.sc (.sl 0))), (.a (.sc (.v (.pointer none)))), (.a (.sc (.v (.int .i64 x0_0)))), (.a (.sc (.v (.int .i64 x0_1))))], blF [(.row false K.ku8 code)]⟩) x0_0 x0_1 := by kernel_rfl
theorem spec_l01New_n0 (k m : Nat) (code : (List Int)) (x0_0 : Int) (x0_1 : Int) : spec_l01New_h0 k (m + 1) code x0_0 x0_1 = spec_l01New_s0 k code (spec_l01New_h0 k m code) x0_0 x0_1 := (hdAt_succ _ _ _ _ _ _ _ _ _ _).trans (spec_l01New_g0 k _ code x0_0 x0_1)
theorem spec_l01New_q0 (k : Nat) : ∀ m, spec_l01New_h0 k m = spec_l01New_l0 k m := by
 intro m
 induction m with
 | zero => funext code x0_0 x0_1; rw [spec_l01New_z0]; rfl
 | succ m ih => funext code x0_0 x0_1; rw [spec_l01New_n0, ih]; rfl
theorem spec_l01New_e (k : Nat) (code : (List Int)) : callF env (spec_l01New_O k) spec_l01New_v Tryz.f28 (k + 1) (spec_l01New_A code) (fun r => spec_l01New_d (r.fin 1 [])) = spec_l01New k code := by
 have e : ∀ H : St → Option ((Int × Int)), callE env (spec_l01New_O k) spec_l01New_v Tryz.f28 (k + 1) (spec_l01New_A code) [1, 1, 0, 1, 0] (fun r => spec_l01New_d (r.fin 1 [])) H = spec_l01New_m k (fun code x0_0 x0_1 => H ⟨tmF [0, 2, 3, 4] [(.a (.sc (.sl 0))), (.a (.sc (.v (.pointer none)))), (.a (.sc (.v (.int .i64 x0_0)))), (.a (.sc (.v (.int .i64 x0_1))))], blF [(.row false K.ku8 code)]⟩) code := fun H => by kernel_rfl
 exact (callE_eq env (spec_l01New_O k) spec_l01New_v Tryz.f28 k (spec_l01New_A code) [1, 1, 0, 1, 0] 1 (fun r => spec_l01New_d (r.fin 1 [])) rfl (by kernel_rfl)).trans ((e (hdAt env (spec_l01New_O k) spec_l01New_v Tryz.f28 1 (fun r => spec_l01New_d (r.fin 1 [])) [1, 1, 0, 1, 0] k k)).trans (by
  show spec_l01New_m k (spec_l01New_h0 k k) code = _
  rw [spec_l01New_q0]; rfl))
noncomputable def spec_l01New_x (k : Nat) : Ent1 := fun A R Q => match A with
 | ⟨[(.sc (.sl 0))], [(.row false K.ku8 a1)]⟩ => (spec_l01New k a1).bind fun y => Q ⟨(.a (.sc (.bp 1 0))), [.dead, (.box true [(.sl 0), (.v (.int .i64 y.1)), (.v (.int .i64 y.2))])]⟩
 | _ => none
theorem spec_l01New_ok (k : Nat) : OkE Tryz.prog 28 (spec_l01New_x k) := by
 intro A R Q x h
 unfold spec_l01New_x at h
 split at h
 · obtain ⟨y, hy, hK⟩ := Option.bind_eq_some_iff.1 h
   obtain ⟨r, hr, hd⟩ := callF_ok envOk (spec_l01New_Ok k) follows Tryz.func28 (by kernel_rfl) ((spec_l01New_e k _).trans hy)
   exact ⟨_, spec_l01New_i hd ▸ hr.fin [], hK⟩
 · cases h
/-! ### spec.l01Byte: function 98 -/
noncomputable def spec_l01Byte (k : Nat)  (c : l01Cur) : Option (Int × (Int × Int)) :=
 if 0 ≤ (33 : Int) then
 if 0 ≤ (45 : Int) then
  cond (decide ((c.i : Int) < ((c.b).length : Int)))
   (if 0 ≤ (c.i : Int) ∧ (c.i : Int) < ((c.b).length : Int) then
    some ((bAnd .i64 (wr ((bAnd .i64 (bXor .i64 (bShr .i64 (wr ((wr (c.h * 6364136223846793005)) + 1442695040888963407)) 33) (bShr .i64 (wr ((wr (c.h * 6364136223846793005)) + 1442695040888963407)) 45)) 255) + (wr (c.b.getD (Int.toNat c.i) 0)))) 255), ((wr (c.i + 1)), (wr ((wr (c.h * 6364136223846793005)) + 1442695040888963407)))) else none)
   (some ((bAnd .i64 (bXor .i64 (bShr .i64 (wr ((wr (c.h * 6364136223846793005)) + 1442695040888963407)) 33) (bShr .i64 (wr ((wr (c.h * 6364136223846793005)) + 1442695040888963407)) 45)) 255), (c.i, (wr ((wr (c.h * 6364136223846793005)) + 1442695040888963407))))) else none else none
noncomputable def spec_l01Byte_v : Nat → List Nat := fun t => match t with | _ => []
noncomputable def spec_l01Byte_O (k : Nat) : Oracle := ofL []
theorem spec_l01Byte_Ok (k : Nat) : OkO (Ct Tryz.prog) (spec_l01Byte_O k) := okO_nil
noncomputable def spec_l01Byte_A (c : l01Cur) : Pk := ⟨[(.sc (.bp 1 0))], [(.row false K.ku8 c.b), (.box true [(.sl 0), (.v (.int .i64 c.i)), (.v (.int .i64 c.h))])]⟩
noncomputable def spec_l01Byte_d : Rs → Option (Int × (Int × Int))
 | ⟨(.a (.sc (.v (.int .i64 r1)))), [.dead, (.box true [(.sl 0), (.v (.int .i64 r2)), (.v (.int .i64 r3))])]⟩ => some (r1, (r2, r3))
 | _ => none
theorem spec_l01Byte_i {r : Rs} {y : Int × (Int × Int)} (h : spec_l01Byte_d r = some y) : r = ⟨(.a (.sc (.v (.int .i64 y.1)))), [.dead, (.box true [(.sl 0), (.v (.int .i64 y.2.1)), (.v (.int .i64 y.2.2))])]⟩ := by
 unfold spec_l01Byte_d at h; split at h
 · cases h; rfl
 · cases h
theorem spec_l01Byte_e (k : Nat) (c : l01Cur) : callF env (spec_l01Byte_O k) spec_l01Byte_v Tryz.f98 (k + 1) (spec_l01Byte_A c) (fun r => spec_l01Byte_d (r.fin 2 [])) = spec_l01Byte k c := by kernel_rfl
noncomputable def spec_l01Byte_x (k : Nat) : Ent1 := fun A R Q => match A with
 | ⟨[(.sc (.bp 1 0))], [(.row false K.ku8 a1), (.box true [(.sl 0), (.v (.int .i64 a2)), (.v (.int .i64 a3))])]⟩ => (spec_l01Byte k (⟨a1, a2, a3⟩ : l01Cur)).bind fun y => Q ⟨(.a (.sc (.v (.int .i64 y.1)))), [.dead, (.box true [(.sl 0), (.v (.int .i64 y.2.1)), (.v (.int .i64 y.2.2))])]⟩
 | _ => none
theorem spec_l01Byte_ok (k : Nat) : OkE Tryz.prog 98 (spec_l01Byte_x k) := by
 intro A R Q x h
 unfold spec_l01Byte_x at h
 split at h
 · obtain ⟨y, hy, hK⟩ := Option.bind_eq_some_iff.1 h
   obtain ⟨r, hr, hd⟩ := callF_ok envOk (spec_l01Byte_Ok k) follows Tryz.func98 (by kernel_rfl) ((spec_l01Byte_e k _).trans hy)
   exact ⟨_, spec_l01Byte_i hd ▸ hr.fin [], hK⟩
 · cases h
/-! ### spec.l01Below: function 59 -/
noncomputable def spec_l01Below (k : Nat)  (c : l01Cur) (n : Int) : Option (Int × (Int × Int)) :=
 cond (decide ((n : Int) ≤ 0))
 (some (0, (c.i, c.h)))
 (cond (decide ((n : Int) ≤ 256))
  ((spec_l01Byte k c).bind fun y1 =>
   if (n : Int) ≠ 0 then
    some ((Int.tmod y1.1 n), (y1.2.1, y1.2.2)) else none)
  ((spec_l01Byte k c).bind fun y2 =>
   (spec_l01Byte k (⟨c.b, y2.2.1, y2.2.2⟩ : l01Cur)).bind fun y3 =>
    (spec_l01Byte k (⟨c.b, y3.2.1, y3.2.2⟩ : l01Cur)).bind fun y4 =>
     (spec_l01Byte k (⟨c.b, y4.2.1, y4.2.2⟩ : l01Cur)).bind fun y5 =>
      if (n : Int) ≠ 0 then
       some ((Int.tmod (wr ((wr ((wr ((wr (y2.1 * 16777216)) + (wr (y3.1 * 65536)))) + (wr (y4.1 * 256)))) + y5.1)) n), (y5.2.1, y5.2.2)) else none))
noncomputable def spec_l01Below_v : Nat → List Nat := fun t => match t with | _ => []
noncomputable def spec_l01Below_O (k : Nat) : Oracle := ofL [(98, spec_l01Byte_x k)]
theorem spec_l01Below_Ok (k : Nat) : OkO (Ct Tryz.prog) (spec_l01Below_O k) := okO_cons (spec_l01Byte_ok k) (okO_nil)
noncomputable def spec_l01Below_A (c : l01Cur) (n : Int) : Pk := ⟨[(.sc (.bp 1 0)), (.sc (.v (.int .i64 n)))], [(.row false K.ku8 c.b), (.box true [(.sl 0), (.v (.int .i64 c.i)), (.v (.int .i64 c.h))])]⟩
noncomputable def spec_l01Below_d : Rs → Option (Int × (Int × Int))
 | ⟨(.a (.sc (.v (.int .i64 r1)))), [.dead, (.box true [(.sl 0), (.v (.int .i64 r2)), (.v (.int .i64 r3))])]⟩ => some (r1, (r2, r3))
 | _ => none
theorem spec_l01Below_i {r : Rs} {y : Int × (Int × Int)} (h : spec_l01Below_d r = some y) : r = ⟨(.a (.sc (.v (.int .i64 y.1)))), [.dead, (.box true [(.sl 0), (.v (.int .i64 y.2.1)), (.v (.int .i64 y.2.2))])]⟩ := by
 unfold spec_l01Below_d at h; split at h
 · cases h; rfl
 · cases h
theorem spec_l01Below_e (k : Nat) (c : l01Cur) (n : Int) : callF env (spec_l01Below_O k) spec_l01Below_v Tryz.f59 (k + 1) (spec_l01Below_A c n) (fun r => spec_l01Below_d (r.fin 2 [])) = spec_l01Below k c n := by kernel_rfl
noncomputable def spec_l01Below_x (k : Nat) : Ent1 := fun A R Q => match A with
 | ⟨[(.sc (.bp 1 0)), (.sc (.v (.int .i64 a4)))], [(.row false K.ku8 a1), (.box true [(.sl 0), (.v (.int .i64 a2)), (.v (.int .i64 a3))])]⟩ => (spec_l01Below k (⟨a1, a2, a3⟩ : l01Cur) a4).bind fun y => Q ⟨(.a (.sc (.v (.int .i64 y.1)))), [.dead, (.box true [(.sl 0), (.v (.int .i64 y.2.1)), (.v (.int .i64 y.2.2))])]⟩
 | _ => none
theorem spec_l01Below_ok (k : Nat) : OkE Tryz.prog 59 (spec_l01Below_x k) := by
 intro A R Q x h
 unfold spec_l01Below_x at h
 split at h
 · obtain ⟨y, hy, hK⟩ := Option.bind_eq_some_iff.1 h
   obtain ⟨r, hr, hd⟩ := callF_ok envOk (spec_l01Below_Ok k) follows Tryz.func59 (by kernel_rfl) ((spec_l01Below_e k _ _).trans hy)
   exact ⟨_, spec_l01Below_i hd ▸ hr.fin [], hK⟩
 · cases h
/-! ### spec.l01Once: function 57 -/
noncomputable def spec_l01Once (k : Nat)  (c : l01Cur) (n : Int) : Option (Bool × (Int × Int)) :=
 (spec_l01Below k c n).bind fun y1 =>
 some ((decide ((y1.1 : Int) = 0)), (y1.2.1, y1.2.2))
noncomputable def spec_l01Once_v : Nat → List Nat := fun t => match t with | _ => []
noncomputable def spec_l01Once_O (k : Nat) : Oracle := ofL [(59, spec_l01Below_x k)]
theorem spec_l01Once_Ok (k : Nat) : OkO (Ct Tryz.prog) (spec_l01Once_O k) := okO_cons (spec_l01Below_ok k) (okO_nil)
noncomputable def spec_l01Once_A (c : l01Cur) (n : Int) : Pk := ⟨[(.sc (.bp 1 0)), (.sc (.v (.int .i64 n)))], [(.row false K.ku8 c.b), (.box true [(.sl 0), (.v (.int .i64 c.i)), (.v (.int .i64 c.h))])]⟩
noncomputable def spec_l01Once_d : Rs → Option (Bool × (Int × Int))
 | ⟨(.a (.sc (.v (.bool r1)))), [.dead, (.box true [(.sl 0), (.v (.int .i64 r2)), (.v (.int .i64 r3))])]⟩ => some (r1, (r2, r3))
 | _ => none
theorem spec_l01Once_i {r : Rs} {y : Bool × (Int × Int)} (h : spec_l01Once_d r = some y) : r = ⟨(.a (.sc (.v (.bool y.1)))), [.dead, (.box true [(.sl 0), (.v (.int .i64 y.2.1)), (.v (.int .i64 y.2.2))])]⟩ := by
 unfold spec_l01Once_d at h; split at h
 · cases h; rfl
 · cases h
theorem spec_l01Once_e (k : Nat) (c : l01Cur) (n : Int) : callF env (spec_l01Once_O k) spec_l01Once_v Tryz.f57 (k + 1) (spec_l01Once_A c n) (fun r => spec_l01Once_d (r.fin 2 [])) = spec_l01Once k c n := by kernel_rfl
noncomputable def spec_l01Once_x (k : Nat) : Ent1 := fun A R Q => match A with
 | ⟨[(.sc (.bp 1 0)), (.sc (.v (.int .i64 a4)))], [(.row false K.ku8 a1), (.box true [(.sl 0), (.v (.int .i64 a2)), (.v (.int .i64 a3))])]⟩ => (spec_l01Once k (⟨a1, a2, a3⟩ : l01Cur) a4).bind fun y => Q ⟨(.a (.sc (.v (.bool y.1)))), [.dead, (.box true [(.sl 0), (.v (.int .i64 y.2.1)), (.v (.int .i64 y.2.2))])]⟩
 | _ => none
theorem spec_l01Once_ok (k : Nat) : OkE Tryz.prog 57 (spec_l01Once_x k) := by
 intro A R Q x h
 unfold spec_l01Once_x at h
 split at h
 · obtain ⟨y, hy, hK⟩ := Option.bind_eq_some_iff.1 h
   obtain ⟨r, hr, hd⟩ := callF_ok envOk (spec_l01Once_Ok k) follows Tryz.func57 (by kernel_rfl) ((spec_l01Once_e k _ _).trans hy)
   exact ⟨_, spec_l01Once_i hd ▸ hr.fin [], hK⟩
 · cases h
/-! ### spec.l01In: function 40 -/
noncomputable def spec_l01In (k : Nat)  (x : Int) (least : Int) (most : Int) : Option (Bool) :=
 cond (decide ((least : Int) ≤ x))
 (some (decide ((x : Int) ≤ most)))
 (some false)
noncomputable def spec_l01In_v : Nat → List Nat := fun t => match t with | _ => []
noncomputable def spec_l01In_O (k : Nat) : Oracle := ofL []
theorem spec_l01In_Ok (k : Nat) : OkO (Ct Tryz.prog) (spec_l01In_O k) := okO_nil
noncomputable def spec_l01In_A (x : Int) (least : Int) (most : Int) : Pk := ⟨[(.sc (.v (.int .i64 x))), (.sc (.v (.int .i64 least))), (.sc (.v (.int .i64 most)))], []⟩
noncomputable def spec_l01In_d : Rs → Option (Bool)
 | ⟨(.a (.sc (.v (.bool r1)))), []⟩ => some r1
 | _ => none
theorem spec_l01In_i {r : Rs} {y : Bool} (h : spec_l01In_d r = some y) : r = ⟨(.a (.sc (.v (.bool y)))), []⟩ := by
 unfold spec_l01In_d at h; split at h
 · cases h; rfl
 · cases h
theorem spec_l01In_e (k : Nat) (x : Int) (least : Int) (most : Int) : callF env (spec_l01In_O k) spec_l01In_v Tryz.f40 (k + 1) (spec_l01In_A x least most) (fun r => spec_l01In_d (r.fin 0 [])) = spec_l01In k x least most := by kernel_rfl
noncomputable def spec_l01In_x (k : Nat) : Ent1 := fun A R Q => match A with
 | ⟨[(.sc (.v (.int .i64 a1))), (.sc (.v (.int .i64 a2))), (.sc (.v (.int .i64 a3)))], []⟩ => (spec_l01In k a1 a2 a3).bind fun y => Q ⟨(.a (.sc (.v (.bool y)))), []⟩
 | _ => none
theorem spec_l01In_ok (k : Nat) : OkE Tryz.prog 40 (spec_l01In_x k) := by
 intro A R Q x h
 unfold spec_l01In_x at h
 split at h
 · obtain ⟨y, hy, hK⟩ := Option.bind_eq_some_iff.1 h
   obtain ⟨r, hr, hd⟩ := callF_ok envOk (spec_l01In_Ok k) follows Tryz.func40 (by kernel_rfl) ((spec_l01In_e k _ _ _).trans hy)
   exact ⟨_, spec_l01In_i hd ▸ hr.fin [], hK⟩
 · cases h
/-! ### spec.StoreOk: function 80 -/
noncomputable def spec_StoreOk_s0 (k : Nat)  (s : Stock) (J : Int → Option (Bool)) (x0_0 : Int) : Option (Bool) :=
 cond (decide ((x0_0 : Int) < ((s.Grams).length : Int)))
 (if 0 ≤ (x0_0 : Int) ∧ (x0_0 : Int) < ((s.Grams).length : Int) then
  (spec_l01In k (s.Grams.getD (Int.toNat x0_0) 0) 0 1000000).bind fun y2 =>
   cond (!y2)
    (some false)
    (J (wr (x0_0 + 1))) else none)
 (some (decide ((((s.Grams).length : Int) : Int) = 4)))
noncomputable def spec_StoreOk_l0 (k : Nat) : Nat → Stock → Int → Option (Bool)
 | 0, s, x0_0 => spec_StoreOk_s0 k s (fun _ => none) x0_0
 | m + 1, s, x0_0 => spec_StoreOk_s0 k s (spec_StoreOk_l0 k m s) x0_0
noncomputable def spec_StoreOk_m (k : Nat) (J0 : Stock → Int → Option (Bool)) (s : Stock) : Option (Bool) :=
 J0 s 0
noncomputable def spec_StoreOk (k : Nat) (s : Stock) : Option (Bool) := spec_StoreOk_m k (spec_StoreOk_l0 k k) s
noncomputable def spec_StoreOk_v : Nat → List Nat := fun t => match t with | 2 => [1, 2, 3] | _ => []
noncomputable def spec_StoreOk_O (k : Nat) : Oracle := ofL [(40, spec_l01In_x k)]
theorem spec_StoreOk_Ok (k : Nat) : OkO (Ct Tryz.prog) (spec_StoreOk_O k) := okO_cons (spec_l01In_ok k) (okO_nil)
noncomputable def spec_StoreOk_A (s : Stock) : Pk := ⟨[(.ag [(.sl 0)])], [(.row false K.ki64 s.Grams)]⟩
noncomputable def spec_StoreOk_d : Rs → Option (Bool)
 | ⟨(.a (.sc (.v (.bool r1)))), [.dead]⟩ => some r1
 | _ => none
theorem spec_StoreOk_i {r : Rs} {y : Bool} (h : spec_StoreOk_d r = some y) : r = ⟨(.a (.sc (.v (.bool y)))), [.dead]⟩ := by
 unfold spec_StoreOk_d at h; split at h
 · cases h; rfl
 · cases h
noncomputable def spec_StoreOk_h0 (k m : Nat) (s : Stock) (x0_0 : Int) : Option (Bool) := hdAt env (spec_StoreOk_O k) spec_StoreOk_v Tryz.f80 1 (fun r => spec_StoreOk_d (r.fin 1 [])) [1, 0, 1, 0] k m ⟨tmF [1, 2, 3] [(.a (.sc (.bp 1 0))), (.a (.sc (.v (.bool false)))), (.a (.sc (.v (.int .i64 x0_0))))], blF [(.row false K.ki64 s.Grams), (.box true [(.sl 0)])]⟩
theorem spec_StoreOk_z0 (k : Nat) (s : Stock) (x0_0 : Int) : spec_StoreOk_h0 k 0 s x0_0 = spec_StoreOk_s0 k s (fun _ => none) x0_0 := by kernel_rfl
theorem spec_StoreOk_g0 (k : Nat) (H : St → Option (Bool)) (s : Stock) (x0_0 : Int) : rnd env (spec_StoreOk_O k) spec_StoreOk_v Tryz.f80 1 (fun r => spec_StoreOk_d (r.fin 1 [])) [1, 0, 1, 0] k H ⟨tmF [1, 2, 3] [(.a (.sc (.bp 1 0))), (.a (.sc (.v (.bool false)))), (.a (.sc (.v (.int .i64 x0_0))))], blF [(.row false K.ki64 s.Grams), (.box true [(.sl 0)])]⟩ = spec_StoreOk_s0 k s (fun x0_0 => H ⟨tmF [1, 2, 3] [(.a (.sc (.bp 1 0))), (.a (.sc (.v (.bool false)))), (.a (.sc (.v (.int .i64 x0_0))))], blF [(.row false K.ki64 s.Grams), (.box true [(.sl 0)])]⟩) x0_0 := by kernel_rfl
theorem spec_StoreOk_n0 (k m : Nat) (s : Stock) (x0_0 : Int) : spec_StoreOk_h0 k (m + 1) s x0_0 = spec_StoreOk_s0 k s (spec_StoreOk_h0 k m s) x0_0 := (hdAt_succ _ _ _ _ _ _ _ _ _ _).trans (spec_StoreOk_g0 k _ s x0_0)
theorem spec_StoreOk_q0 (k : Nat) : ∀ m, spec_StoreOk_h0 k m = spec_StoreOk_l0 k m := by
 intro m
 induction m with
 | zero => funext s x0_0; rw [spec_StoreOk_z0]; rfl
 | succ m ih => funext s x0_0; rw [spec_StoreOk_n0, ih]; rfl
theorem spec_StoreOk_e (k : Nat) (s : Stock) : callF env (spec_StoreOk_O k) spec_StoreOk_v Tryz.f80 (k + 1) (spec_StoreOk_A s) (fun r => spec_StoreOk_d (r.fin 1 [])) = spec_StoreOk k s := by
 have e : ∀ H : St → Option (Bool), callE env (spec_StoreOk_O k) spec_StoreOk_v Tryz.f80 (k + 1) (spec_StoreOk_A s) [1, 0, 1, 0] (fun r => spec_StoreOk_d (r.fin 1 [])) H = spec_StoreOk_m k (fun s x0_0 => H ⟨tmF [1, 2, 3] [(.a (.sc (.bp 1 0))), (.a (.sc (.v (.bool false)))), (.a (.sc (.v (.int .i64 x0_0))))], blF [(.row false K.ki64 s.Grams), (.box true [(.sl 0)])]⟩) s := fun H => by kernel_rfl
 exact (callE_eq env (spec_StoreOk_O k) spec_StoreOk_v Tryz.f80 k (spec_StoreOk_A s) [1, 0, 1, 0] 1 (fun r => spec_StoreOk_d (r.fin 1 [])) rfl (by kernel_rfl)).trans ((e (hdAt env (spec_StoreOk_O k) spec_StoreOk_v Tryz.f80 1 (fun r => spec_StoreOk_d (r.fin 1 [])) [1, 0, 1, 0] k k)).trans (by
  show spec_StoreOk_m k (spec_StoreOk_h0 k k) s = _
  rw [spec_StoreOk_q0]; rfl))
noncomputable def spec_StoreOk_x (k : Nat) : Ent1 := fun A R Q => match A with
 | ⟨[(.ag [(.sl 0)])], [(.row false K.ki64 a1)]⟩ => (spec_StoreOk k (⟨a1⟩ : Stock)).bind fun y => Q ⟨(.a (.sc (.v (.bool y)))), [.dead]⟩
 | _ => none
theorem spec_StoreOk_ok (k : Nat) : OkE Tryz.prog 80 (spec_StoreOk_x k) := by
 intro A R Q x h
 unfold spec_StoreOk_x at h
 split at h
 · obtain ⟨y, hy, hK⟩ := Option.bind_eq_some_iff.1 h
   obtain ⟨r, hr, hd⟩ := callF_ok envOk (spec_StoreOk_Ok k) follows Tryz.func80 (by kernel_rfl) ((spec_StoreOk_e k _).trans hy)
   exact ⟨_, spec_StoreOk_i hd ▸ hr.fin [], hK⟩
 · cases h
/-! ### spec.DoughOk: function 81 -/
noncomputable def spec_DoughOk (k : Nat)  (d : Dough) : Option (Bool) :=
 (spec_l01In k d.Water 300 1200).bind fun y1 =>
 cond y1
  ((spec_l01In k d.Salt 0 50).bind fun y2 =>
   cond y2
    ((spec_l01In k d.Leaven 0 500).bind fun y3 =>
     some y3)
    (some false))
  (some false)
noncomputable def spec_DoughOk_v : Nat → List Nat := fun t => match t with | _ => []
noncomputable def spec_DoughOk_O (k : Nat) : Oracle := ofL [(40, spec_l01In_x k)]
theorem spec_DoughOk_Ok (k : Nat) : OkO (Ct Tryz.prog) (spec_DoughOk_O k) := okO_cons (spec_l01In_ok k) (okO_nil)
noncomputable def spec_DoughOk_A (d : Dough) : Pk := ⟨[(.ag [(.v (.int .i64 d.Water)), (.v (.int .i64 d.Salt)), (.v (.int .i64 d.Leaven))])], []⟩
noncomputable def spec_DoughOk_d : Rs → Option (Bool)
 | ⟨(.a (.sc (.v (.bool r1)))), []⟩ => some r1
 | _ => none
theorem spec_DoughOk_i {r : Rs} {y : Bool} (h : spec_DoughOk_d r = some y) : r = ⟨(.a (.sc (.v (.bool y)))), []⟩ := by
 unfold spec_DoughOk_d at h; split at h
 · cases h; rfl
 · cases h
theorem spec_DoughOk_e (k : Nat) (d : Dough) : callF env (spec_DoughOk_O k) spec_DoughOk_v Tryz.f81 (k + 1) (spec_DoughOk_A d) (fun r => spec_DoughOk_d (r.fin 0 [])) = spec_DoughOk k d := by kernel_rfl
noncomputable def spec_DoughOk_x (k : Nat) : Ent1 := fun A R Q => match A with
 | ⟨[(.ag [(.v (.int .i64 a1)), (.v (.int .i64 a2)), (.v (.int .i64 a3))])], []⟩ => (spec_DoughOk k (⟨a1, a2, a3⟩ : Dough)).bind fun y => Q ⟨(.a (.sc (.v (.bool y)))), []⟩
 | _ => none
theorem spec_DoughOk_ok (k : Nat) : OkE Tryz.prog 81 (spec_DoughOk_x k) := by
 intro A R Q x h
 unfold spec_DoughOk_x at h
 split at h
 · obtain ⟨y, hy, hK⟩ := Option.bind_eq_some_iff.1 h
   obtain ⟨r, hr, hd⟩ := callF_ok envOk (spec_DoughOk_Ok k) follows Tryz.func81 (by kernel_rfl) ((spec_DoughOk_e k _).trans hy)
   exact ⟨_, spec_DoughOk_i hd ▸ hr.fin [], hK⟩
 · cases h
/-! ### spec.LoafOk: function 82 -/
noncomputable def spec_LoafOk (k : Nat)  (l : Loaf) : Option (Bool) :=
 (spec_l01In k l.Weight 10 5000).bind fun y1 =>
 cond y1
  ((spec_l01In k l.Loss 0 40).bind fun y2 =>
   some y2)
  (some false)
noncomputable def spec_LoafOk_v : Nat → List Nat := fun t => match t with | _ => []
noncomputable def spec_LoafOk_O (k : Nat) : Oracle := ofL [(40, spec_l01In_x k)]
theorem spec_LoafOk_Ok (k : Nat) : OkO (Ct Tryz.prog) (spec_LoafOk_O k) := okO_cons (spec_l01In_ok k) (okO_nil)
noncomputable def spec_LoafOk_A (l : Loaf) : Pk := ⟨[(.ag [(.v (.int .i64 l.Weight)), (.v (.int .i64 l.Loss))])], []⟩
noncomputable def spec_LoafOk_d : Rs → Option (Bool)
 | ⟨(.a (.sc (.v (.bool r1)))), []⟩ => some r1
 | _ => none
theorem spec_LoafOk_i {r : Rs} {y : Bool} (h : spec_LoafOk_d r = some y) : r = ⟨(.a (.sc (.v (.bool y)))), []⟩ := by
 unfold spec_LoafOk_d at h; split at h
 · cases h; rfl
 · cases h
theorem spec_LoafOk_e (k : Nat) (l : Loaf) : callF env (spec_LoafOk_O k) spec_LoafOk_v Tryz.f82 (k + 1) (spec_LoafOk_A l) (fun r => spec_LoafOk_d (r.fin 0 [])) = spec_LoafOk k l := by kernel_rfl
noncomputable def spec_LoafOk_x (k : Nat) : Ent1 := fun A R Q => match A with
 | ⟨[(.ag [(.v (.int .i64 a1)), (.v (.int .i64 a2))])], []⟩ => (spec_LoafOk k (⟨a1, a2⟩ : Loaf)).bind fun y => Q ⟨(.a (.sc (.v (.bool y)))), []⟩
 | _ => none
theorem spec_LoafOk_ok (k : Nat) : OkE Tryz.prog 82 (spec_LoafOk_x k) := by
 intro A R Q x h
 unfold spec_LoafOk_x at h
 split at h
 · obtain ⟨y, hy, hK⟩ := Option.bind_eq_some_iff.1 h
   obtain ⟨r, hr, hd⟩ := callF_ok envOk (spec_LoafOk_Ok k) follows Tryz.func82 (by kernel_rfl) ((spec_LoafOk_e k _).trans hy)
   exact ⟨_, spec_LoafOk_i hd ▸ hr.fin [], hK⟩
 · cases h
/-! ### spec.RackOk: function 169 -/
noncomputable def spec_RackOk (k : Nat)  (r : Rack) : Option (Bool) :=
 (spec_l01In k r.Fresh 0 10000).bind fun y1 =>
 cond y1
  ((spec_l01In k r.Day 0 10000).bind fun y2 =>
   cond y2
    ((spec_l01In k r.Old 0 10000).bind fun y3 =>
     some y3)
    (some false))
  (some false)
noncomputable def spec_RackOk_v : Nat → List Nat := fun t => match t with | _ => []
noncomputable def spec_RackOk_O (k : Nat) : Oracle := ofL [(40, spec_l01In_x k)]
theorem spec_RackOk_Ok (k : Nat) : OkO (Ct Tryz.prog) (spec_RackOk_O k) := okO_cons (spec_l01In_ok k) (okO_nil)
noncomputable def spec_RackOk_A (r : Rack) : Pk := ⟨[(.ag [(.v (.int .i64 r.Fresh)), (.v (.int .i64 r.Day)), (.v (.int .i64 r.Old))])], []⟩
noncomputable def spec_RackOk_d : Rs → Option (Bool)
 | ⟨(.a (.sc (.v (.bool r1)))), []⟩ => some r1
 | _ => none
theorem spec_RackOk_i {r : Rs} {y : Bool} (h : spec_RackOk_d r = some y) : r = ⟨(.a (.sc (.v (.bool y)))), []⟩ := by
 unfold spec_RackOk_d at h; split at h
 · cases h; rfl
 · cases h
theorem spec_RackOk_e (k : Nat) (r : Rack) : callF env (spec_RackOk_O k) spec_RackOk_v Tryz.f169 (k + 1) (spec_RackOk_A r) (fun r => spec_RackOk_d (r.fin 0 [])) = spec_RackOk k r := by kernel_rfl
noncomputable def spec_RackOk_x (k : Nat) : Ent1 := fun A R Q => match A with
 | ⟨[(.ag [(.v (.int .i64 a1)), (.v (.int .i64 a2)), (.v (.int .i64 a3))])], []⟩ => (spec_RackOk k (⟨a1, a2, a3⟩ : Rack)).bind fun y => Q ⟨(.a (.sc (.v (.bool y)))), []⟩
 | _ => none
theorem spec_RackOk_ok (k : Nat) : OkE Tryz.prog 169 (spec_RackOk_x k) := by
 intro A R Q x h
 unfold spec_RackOk_x at h
 split at h
 · obtain ⟨y, hy, hK⟩ := Option.bind_eq_some_iff.1 h
   obtain ⟨r, hr, hd⟩ := callF_ok envOk (spec_RackOk_Ok k) follows Tryz.func169 (by kernel_rfl) ((spec_RackOk_e k _).trans hy)
   exact ⟨_, spec_RackOk_i hd ▸ hr.fin [], hK⟩
 · cases h
/-! ### spec.SellFresh: function 170 -/
noncomputable def spec_SellFresh (k : Nat)  (r : Rack) (n : Int) : Option (Rack × Int) :=
 (spec_RackOk k r).bind fun y1 =>
 cond (!y1)
  (some (r, (-1)))
  ((spec_l01In k n 0 10000).bind fun y2 =>
   cond (!y2)
    (some (r, (-1)))
    (some ((⟨(wr (r.Fresh - (mn n r.Fresh))), (wr (r.Day - (mn (wr (n - (mn n r.Fresh))) r.Day))), r.Old⟩ : Rack), (wr ((mn n r.Fresh) + (mn (wr (n - (mn n r.Fresh))) r.Day))))))
noncomputable def spec_SellFresh_v : Nat → List Nat := fun t => match t with | _ => []
noncomputable def spec_SellFresh_O (k : Nat) : Oracle := ofL [(169, spec_RackOk_x k), (40, spec_l01In_x k)]
theorem spec_SellFresh_Ok (k : Nat) : OkO (Ct Tryz.prog) (spec_SellFresh_O k) := okO_cons (spec_RackOk_ok k) (okO_cons (spec_l01In_ok k) (okO_nil))
noncomputable def spec_SellFresh_A (r : Rack) (n : Int) : Pk := ⟨[(.ag [(.v (.int .i64 r.Fresh)), (.v (.int .i64 r.Day)), (.v (.int .i64 r.Old))]), (.sc (.v (.int .i64 n)))], []⟩
noncomputable def spec_SellFresh_d : Rs → Option (Rack × Int)
 | ⟨(.tp [(.ag [(.v (.int .i64 r1)), (.v (.int .i64 r2)), (.v (.int .i64 r3))]), (.sc (.v (.int .i64 r4)))]), []⟩ => some ((⟨r1, r2, r3⟩ : Rack), r4)
 | _ => none
theorem spec_SellFresh_i {r : Rs} {y : Rack × Int} (h : spec_SellFresh_d r = some y) : r = ⟨(.tp [(.ag [(.v (.int .i64 y.1.Fresh)), (.v (.int .i64 y.1.Day)), (.v (.int .i64 y.1.Old))]), (.sc (.v (.int .i64 y.2)))]), []⟩ := by
 unfold spec_SellFresh_d at h; split at h
 · cases h; rfl
 · cases h
theorem spec_SellFresh_e (k : Nat) (r : Rack) (n : Int) : callF env (spec_SellFresh_O k) spec_SellFresh_v Tryz.f170 (k + 1) (spec_SellFresh_A r n) (fun r => spec_SellFresh_d (r.fin 0 [])) = spec_SellFresh k r n := by kernel_rfl
noncomputable def spec_SellFresh_x (k : Nat) : Ent1 := fun A R Q => match A with
 | ⟨[(.ag [(.v (.int .i64 a1)), (.v (.int .i64 a2)), (.v (.int .i64 a3))]), (.sc (.v (.int .i64 a4)))], []⟩ => (spec_SellFresh k (⟨a1, a2, a3⟩ : Rack) a4).bind fun y => Q ⟨(.tp [(.ag [(.v (.int .i64 y.1.Fresh)), (.v (.int .i64 y.1.Day)), (.v (.int .i64 y.1.Old))]), (.sc (.v (.int .i64 y.2)))]), []⟩
 | _ => none
theorem spec_SellFresh_ok (k : Nat) : OkE Tryz.prog 170 (spec_SellFresh_x k) := by
 intro A R Q x h
 unfold spec_SellFresh_x at h
 split at h
 · obtain ⟨y, hy, hK⟩ := Option.bind_eq_some_iff.1 h
   obtain ⟨r, hr, hd⟩ := callF_ok envOk (spec_SellFresh_Ok k) follows Tryz.func170 (by kernel_rfl) ((spec_SellFresh_e k _ _).trans hy)
   exact ⟨_, spec_SellFresh_i hd ▸ hr.fin [], hK⟩
 · cases h
/-! ### spec.SellCheap: function 171 -/
noncomputable def spec_SellCheap (k : Nat)  (r : Rack) (n : Int) : Option (Rack × Int) :=
 (spec_RackOk k r).bind fun y1 =>
 cond (!y1)
  (some (r, (-1)))
  ((spec_l01In k n 0 10000).bind fun y2 =>
   cond (!y2)
    (some (r, (-1)))
    (some ((⟨r.Fresh, (wr (r.Day - (mn (wr (n - (mn n r.Old))) r.Day))), (wr (r.Old - (mn n r.Old)))⟩ : Rack), (wr ((mn n r.Old) + (mn (wr (n - (mn n r.Old))) r.Day))))))
noncomputable def spec_SellCheap_v : Nat → List Nat := fun t => match t with | _ => []
noncomputable def spec_SellCheap_O (k : Nat) : Oracle := ofL [(169, spec_RackOk_x k), (40, spec_l01In_x k)]
theorem spec_SellCheap_Ok (k : Nat) : OkO (Ct Tryz.prog) (spec_SellCheap_O k) := okO_cons (spec_RackOk_ok k) (okO_cons (spec_l01In_ok k) (okO_nil))
noncomputable def spec_SellCheap_A (r : Rack) (n : Int) : Pk := ⟨[(.ag [(.v (.int .i64 r.Fresh)), (.v (.int .i64 r.Day)), (.v (.int .i64 r.Old))]), (.sc (.v (.int .i64 n)))], []⟩
noncomputable def spec_SellCheap_d : Rs → Option (Rack × Int)
 | ⟨(.tp [(.ag [(.v (.int .i64 r1)), (.v (.int .i64 r2)), (.v (.int .i64 r3))]), (.sc (.v (.int .i64 r4)))]), []⟩ => some ((⟨r1, r2, r3⟩ : Rack), r4)
 | _ => none
theorem spec_SellCheap_i {r : Rs} {y : Rack × Int} (h : spec_SellCheap_d r = some y) : r = ⟨(.tp [(.ag [(.v (.int .i64 y.1.Fresh)), (.v (.int .i64 y.1.Day)), (.v (.int .i64 y.1.Old))]), (.sc (.v (.int .i64 y.2)))]), []⟩ := by
 unfold spec_SellCheap_d at h; split at h
 · cases h; rfl
 · cases h
theorem spec_SellCheap_e (k : Nat) (r : Rack) (n : Int) : callF env (spec_SellCheap_O k) spec_SellCheap_v Tryz.f171 (k + 1) (spec_SellCheap_A r n) (fun r => spec_SellCheap_d (r.fin 0 [])) = spec_SellCheap k r n := by kernel_rfl
noncomputable def spec_SellCheap_x (k : Nat) : Ent1 := fun A R Q => match A with
 | ⟨[(.ag [(.v (.int .i64 a1)), (.v (.int .i64 a2)), (.v (.int .i64 a3))]), (.sc (.v (.int .i64 a4)))], []⟩ => (spec_SellCheap k (⟨a1, a2, a3⟩ : Rack) a4).bind fun y => Q ⟨(.tp [(.ag [(.v (.int .i64 y.1.Fresh)), (.v (.int .i64 y.1.Day)), (.v (.int .i64 y.1.Old))]), (.sc (.v (.int .i64 y.2)))]), []⟩
 | _ => none
theorem spec_SellCheap_ok (k : Nat) : OkE Tryz.prog 171 (spec_SellCheap_x k) := by
 intro A R Q x h
 unfold spec_SellCheap_x at h
 split at h
 · obtain ⟨y, hy, hK⟩ := Option.bind_eq_some_iff.1 h
   obtain ⟨r, hr, hd⟩ := callF_ok envOk (spec_SellCheap_Ok k) follows Tryz.func171 (by kernel_rfl) ((spec_SellCheap_e k _ _).trans hy)
   exact ⟨_, spec_SellCheap_i hd ▸ hr.fin [], hK⟩
 · cases h
/-! ### spec.NextMorning: function 172 -/
noncomputable def spec_NextMorning (k : Nat)  (r : Rack) (baked : Int) : Option (Rack × Int) :=
 (spec_RackOk k r).bind fun y1 =>
 cond (!y1)
  (some (r, (-1)))
  ((spec_l01In k baked 0 10000).bind fun y2 =>
   cond (!y2)
    (some (r, (-1)))
    (some ((⟨baked, r.Fresh, r.Day⟩ : Rack), r.Old)))
noncomputable def spec_NextMorning_v : Nat → List Nat := fun t => match t with | _ => []
noncomputable def spec_NextMorning_O (k : Nat) : Oracle := ofL [(169, spec_RackOk_x k), (40, spec_l01In_x k)]
theorem spec_NextMorning_Ok (k : Nat) : OkO (Ct Tryz.prog) (spec_NextMorning_O k) := okO_cons (spec_RackOk_ok k) (okO_cons (spec_l01In_ok k) (okO_nil))
noncomputable def spec_NextMorning_A (r : Rack) (baked : Int) : Pk := ⟨[(.ag [(.v (.int .i64 r.Fresh)), (.v (.int .i64 r.Day)), (.v (.int .i64 r.Old))]), (.sc (.v (.int .i64 baked)))], []⟩
noncomputable def spec_NextMorning_d : Rs → Option (Rack × Int)
 | ⟨(.tp [(.ag [(.v (.int .i64 r1)), (.v (.int .i64 r2)), (.v (.int .i64 r3))]), (.sc (.v (.int .i64 r4)))]), []⟩ => some ((⟨r1, r2, r3⟩ : Rack), r4)
 | _ => none
theorem spec_NextMorning_i {r : Rs} {y : Rack × Int} (h : spec_NextMorning_d r = some y) : r = ⟨(.tp [(.ag [(.v (.int .i64 y.1.Fresh)), (.v (.int .i64 y.1.Day)), (.v (.int .i64 y.1.Old))]), (.sc (.v (.int .i64 y.2)))]), []⟩ := by
 unfold spec_NextMorning_d at h; split at h
 · cases h; rfl
 · cases h
theorem spec_NextMorning_e (k : Nat) (r : Rack) (baked : Int) : callF env (spec_NextMorning_O k) spec_NextMorning_v Tryz.f172 (k + 1) (spec_NextMorning_A r baked) (fun r => spec_NextMorning_d (r.fin 0 [])) = spec_NextMorning k r baked := by kernel_rfl
noncomputable def spec_NextMorning_x (k : Nat) : Ent1 := fun A R Q => match A with
 | ⟨[(.ag [(.v (.int .i64 a1)), (.v (.int .i64 a2)), (.v (.int .i64 a3))]), (.sc (.v (.int .i64 a4)))], []⟩ => (spec_NextMorning k (⟨a1, a2, a3⟩ : Rack) a4).bind fun y => Q ⟨(.tp [(.ag [(.v (.int .i64 y.1.Fresh)), (.v (.int .i64 y.1.Day)), (.v (.int .i64 y.1.Old))]), (.sc (.v (.int .i64 y.2)))]), []⟩
 | _ => none
theorem spec_NextMorning_ok (k : Nat) : OkE Tryz.prog 172 (spec_NextMorning_x k) := by
 intro A R Q x h
 unfold spec_NextMorning_x at h
 split at h
 · obtain ⟨y, hy, hK⟩ := Option.bind_eq_some_iff.1 h
   obtain ⟨r, hr, hd⟩ := callF_ok envOk (spec_NextMorning_Ok k) follows Tryz.func172 (by kernel_rfl) ((spec_NextMorning_e k _ _).trans hy)
   exact ⟨_, spec_NextMorning_i hd ▸ hr.fin [], hK⟩
 · cases h
/-! ### spec.EventOn: function 142 -/
noncomputable def spec_EventOn (k : Nat)  (r : Rack) (e : Event) : Option (Rack × Int × Int × Int × Bool) :=
 (spec_RackOk k r).bind fun y1 =>
 cond (!y1)
  (some (r, 0, 0, 0, false))
  ((spec_l01In k e.Loaves 0 1000).bind fun y2 =>
   cond (!y2)
    (some (r, 0, 0, 0, false))
    (cond (decide ((e.Kind : Int) = 1))
     ((spec_RackOk k (⟨(wr (r.Fresh + e.Loaves)), r.Day, r.Old⟩ : Rack)).bind fun y3 =>
      cond y3
       (some ((⟨(wr (r.Fresh + e.Loaves)), r.Day, r.Old⟩ : Rack), e.Loaves, 0, 0, true))
       (some (r, 0, 0, 0, false)))
     (cond (decide ((e.Kind : Int) = 2))
      ((spec_SellFresh k r e.Loaves).bind fun y4 =>
       cond (decide ((y4.2 : Int) = e.Loaves))
        (some (y4.1, 0, y4.2, 0, true))
        (some (r, 0, 0, 0, false)))
      (cond (decide ((e.Kind : Int) = 3))
       ((spec_SellCheap k r e.Loaves).bind fun y5 =>
        cond (decide ((y5.2 : Int) = e.Loaves))
        (some (y5.1, 0, y5.2, 0, true))
        (some (r, 0, 0, 0, false)))
       (cond (decide ((e.Kind : Int) = 4))
        ((spec_NextMorning k r 0).bind fun y6 =>
        cond (decide ((e.Loaves : Int) = 0))
        (some (y6.1, 0, 0, y6.2, true))
        (some (r, 0, 0, 0, false)))
        (some (r, 0, 0, 0, false)))))))
noncomputable def spec_EventOn_v : Nat → List Nat := fun t => match t with | _ => []
noncomputable def spec_EventOn_O (k : Nat) : Oracle := ofL [(169, spec_RackOk_x k), (170, spec_SellFresh_x k), (171, spec_SellCheap_x k), (172, spec_NextMorning_x k), (40, spec_l01In_x k)]
theorem spec_EventOn_Ok (k : Nat) : OkO (Ct Tryz.prog) (spec_EventOn_O k) := okO_cons (spec_RackOk_ok k) (okO_cons (spec_SellFresh_ok k) (okO_cons (spec_SellCheap_ok k) (okO_cons (spec_NextMorning_ok k) (okO_cons (spec_l01In_ok k) (okO_nil)))))
noncomputable def spec_EventOn_A (r : Rack) (e : Event) : Pk := ⟨[(.ag [(.v (.int .i64 r.Fresh)), (.v (.int .i64 r.Day)), (.v (.int .i64 r.Old))]), (.ag [(.v (.int .i64 e.Kind)), (.v (.int .i64 e.Loaves))])], []⟩
noncomputable def spec_EventOn_d : Rs → Option (Rack × Int × Int × Int × Bool)
 | ⟨(.tp [(.ag [(.v (.int .i64 r1)), (.v (.int .i64 r2)), (.v (.int .i64 r3))]), (.sc (.v (.int .i64 r4))), (.sc (.v (.int .i64 r5))), (.sc (.v (.int .i64 r6))), (.sc (.v (.bool r7)))]), []⟩ => some ((⟨r1, r2, r3⟩ : Rack), r4, r5, r6, r7)
 | _ => none
theorem spec_EventOn_i {r : Rs} {y : Rack × Int × Int × Int × Bool} (h : spec_EventOn_d r = some y) : r = ⟨(.tp [(.ag [(.v (.int .i64 y.1.Fresh)), (.v (.int .i64 y.1.Day)), (.v (.int .i64 y.1.Old))]), (.sc (.v (.int .i64 y.2.1))), (.sc (.v (.int .i64 y.2.2.1))), (.sc (.v (.int .i64 y.2.2.2.1))), (.sc (.v (.bool y.2.2.2.2)))]), []⟩ := by
 unfold spec_EventOn_d at h; split at h
 · cases h; rfl
 · cases h
theorem spec_EventOn_e (k : Nat) (r : Rack) (e : Event) : callF env (spec_EventOn_O k) spec_EventOn_v Tryz.f142 (k + 1) (spec_EventOn_A r e) (fun r => spec_EventOn_d (r.fin 0 [])) = spec_EventOn k r e := by kernel_rfl
noncomputable def spec_EventOn_x (k : Nat) : Ent1 := fun A R Q => match A with
 | ⟨[(.ag [(.v (.int .i64 a1)), (.v (.int .i64 a2)), (.v (.int .i64 a3))]), (.ag [(.v (.int .i64 a4)), (.v (.int .i64 a5))])], []⟩ => (spec_EventOn k (⟨a1, a2, a3⟩ : Rack) (⟨a4, a5⟩ : Event)).bind fun y => Q ⟨(.tp [(.ag [(.v (.int .i64 y.1.Fresh)), (.v (.int .i64 y.1.Day)), (.v (.int .i64 y.1.Old))]), (.sc (.v (.int .i64 y.2.1))), (.sc (.v (.int .i64 y.2.2.1))), (.sc (.v (.int .i64 y.2.2.2.1))), (.sc (.v (.bool y.2.2.2.2)))]), []⟩
 | _ => none
theorem spec_EventOn_ok (k : Nat) : OkE Tryz.prog 142 (spec_EventOn_x k) := by
 intro A R Q x h
 unfold spec_EventOn_x at h
 split at h
 · obtain ⟨y, hy, hK⟩ := Option.bind_eq_some_iff.1 h
   obtain ⟨r, hr, hd⟩ := callF_ok envOk (spec_EventOn_Ok k) follows Tryz.func142 (by kernel_rfl) ((spec_EventOn_e k _ _).trans hy)
   exact ⟨_, spec_EventOn_i hd ▸ hr.fin [], hK⟩
 · cases h
/-! ### spec.l37Count: function 115 -/
noncomputable def spec_l37Count_s0 (k : Nat)  (events : (List Event)) (J : Int → Int → Int → Int → Int → Int → Int → Option (Book × Bool)) (x0_0 : Int) (x0_1 : Int) (x0_2 : Int) (x0_3 : Int) (x0_4 : Int) (x0_5 : Int) (x0_6 : Int) : Option (Book × Bool) :=
 cond (decide ((x0_0 : Int) < ((events).length : Int)))
 (if 0 ≤ (x0_0 : Int) ∧ (x0_0 : Int) < ((events).length : Int) then
  (spec_EventOn k (⟨x0_1, x0_2, x0_3⟩ : Rack) (events.getD (Int.toNat x0_0) dk_impl_Event)).bind fun y2 =>
   cond (!y2.2.2.2.2)
    (some ((⟨([] ++ events), (⟨x0_1, x0_2, x0_3⟩ : Rack), x0_4, x0_5, x0_6⟩ : Book), false))
    (J (wr (x0_0 + 1)) y2.1.Fresh y2.1.Day y2.1.Old (wr (x0_4 + y2.2.1)) (wr (x0_5 + y2.2.2.1)) (wr (x0_6 + y2.2.2.2.1))) else none)
 (some ((⟨([] ++ events), (⟨x0_1, x0_2, x0_3⟩ : Rack), x0_4, x0_5, x0_6⟩ : Book), true))
noncomputable def spec_l37Count_l0 (k : Nat) : Nat → (List Event) → Int → Int → Int → Int → Int → Int → Int → Option (Book × Bool)
 | 0, events, x0_0, x0_1, x0_2, x0_3, x0_4, x0_5, x0_6 => spec_l37Count_s0 k events (fun _ _ _ _ _ _ _ => none) x0_0 x0_1 x0_2 x0_3 x0_4 x0_5 x0_6
 | m + 1, events, x0_0, x0_1, x0_2, x0_3, x0_4, x0_5, x0_6 => spec_l37Count_s0 k events (spec_l37Count_l0 k m events) x0_0 x0_1 x0_2 x0_3 x0_4 x0_5 x0_6
noncomputable def spec_l37Count_m (k : Nat) (J0 : (List Event) → Int → Int → Int → Int → Int → Int → Int → Option (Book × Bool)) (events : (List Event)) : Option (Book × Bool) :=
 if ([] : List Event).length + (events : List Event).length ≤ maxRow then
 cond (decide ((40 : Int) < ((events).length : Int)))
  (some ((⟨([] ++ events), (⟨0, 0, 0⟩ : Rack), 0, 0, 0⟩ : Book), false))
  (J0 events 0 0 0 0 0 0 0) else none
noncomputable def spec_l37Count (k : Nat) (events : (List Event)) : Option (Book × Bool) := spec_l37Count_m k (spec_l37Count_l0 k k) events
noncomputable def spec_l37Count_v : Nat → List Nat := fun t => match t with | 5 => [0, 2, 3, 4, 5] | _ => []
noncomputable def spec_l37Count_O (k : Nat) : Oracle := ofL [(142, spec_EventOn_x k)]
theorem spec_l37Count_Ok (k : Nat) : OkO (Ct Tryz.prog) (spec_l37Count_O k) := okO_cons (spec_EventOn_ok k) (okO_nil)
noncomputable def spec_l37Count_A (events : (List Event)) : Pk := ⟨[(.sc (.sl 0))], [(.row false K.k_impl_Event events)]⟩
noncomputable def spec_l37Count_d : Rs → Option (Book × Bool)
 | ⟨(.tp [(.ag [(.sl 1), (.v (.int .i64 r2)), (.v (.int .i64 r3)), (.v (.int .i64 r4)), (.v (.int .i64 r5)), (.v (.int .i64 r6)), (.v (.int .i64 r7))]), (.sc (.v (.bool r8)))]), [.dead, (.row true K.k_impl_Event r1)]⟩ => some ((⟨r1, (⟨r2, r3, r4⟩ : Rack), r5, r6, r7⟩ : Book), r8)
 | _ => none
theorem spec_l37Count_i {r : Rs} {y : Book × Bool} (h : spec_l37Count_d r = some y) : r = ⟨(.tp [(.ag [(.sl 1), (.v (.int .i64 y.1.Rack.Fresh)), (.v (.int .i64 y.1.Rack.Day)), (.v (.int .i64 y.1.Rack.Old)), (.v (.int .i64 y.1.Baked)), (.v (.int .i64 y.1.Sold)), (.v (.int .i64 y.1.Thrown))]), (.sc (.v (.bool y.2)))]), [.dead, (.row true K.k_impl_Event y.1.Events)]⟩ := by
 unfold spec_l37Count_d at h; split at h
 · cases h; rfl
 · cases h
noncomputable def spec_l37Count_h0 (k m : Nat) (events : (List Event)) (x0_0 : Int) (x0_1 : Int) (x0_2 : Int) (x0_3 : Int) (x0_4 : Int) (x0_5 : Int) (x0_6 : Int) : Option (Book × Bool) := hdAt env (spec_l37Count_O k) spec_l37Count_v Tryz.f115 1 (fun r => spec_l37Count_d (r.fin 1 [])) [1, 1, 1, 0, 1, 0] k m ⟨tmF [0, 2, 3, 4, 5] [(.a (.sc (.sl 0))), (.a (.sc (.bp 2 0))), (.a (.sc (.v (.bool false)))), (.a (.sc (.bp 4 0))), (.a (.sc (.v (.int .i64 x0_0))))], blF [(.row false K.k_impl_Event events), (.row true K.k_impl_Event []), (.box true [(.sl 1), (.v (.int .i64 0)), (.v (.int .i64 0)), (.v (.int .i64 0)), (.v (.int .i64 0)), (.v (.int .i64 0)), (.v (.int .i64 0))]), (.row true K.k_impl_Event ([] ++ events)), (.box true [(.sl 3), (.v (.int .i64 x0_1)), (.v (.int .i64 x0_2)), (.v (.int .i64 x0_3)), (.v (.int .i64 x0_4)), (.v (.int .i64 x0_5)), (.v (.int .i64 x0_6))])]⟩
theorem spec_l37Count_z0 (k : Nat) (events : (List Event)) (x0_0 : Int) (x0_1 : Int) (x0_2 : Int) (x0_3 : Int) (x0_4 : Int) (x0_5 : Int) (x0_6 : Int) : spec_l37Count_h0 k 0 events x0_0 x0_1 x0_2 x0_3 x0_4 x0_5 x0_6 = spec_l37Count_s0 k events (fun _ _ _ _ _ _ _ => none) x0_0 x0_1 x0_2 x0_3 x0_4 x0_5 x0_6 := by kernel_rfl
theorem spec_l37Count_g0 (k : Nat) (H : St → Option (Book × Bool)) (events : (List Event)) (x0_0 : Int) (x0_1 : Int) (x0_2 : Int) (x0_3 : Int) (x0_4 : Int) (x0_5 : Int) (x0_6 : Int) : rnd env (spec_l37Count_O k) spec_l37Count_v Tryz.f115 1 (fun r => spec_l37Count_d (r.fin 1 [])) [1, 1, 1, 0, 1, 0] k H ⟨tmF [0, 2, 3, 4, 5] [(.a (.sc (.sl 0))), (.a (.sc (.bp 2 0))), (.a (.sc (.v (.bool false)))), (.a (.sc (.bp 4 0))), (.a (.sc (.v (.int .i64 x0_0))))], blF [(.row false K.k_impl_Event events), (.row true K.k_impl_Event []), (.box true [(.sl 1), (.v (.int .i64 0)), (.v (.int .i64 0)), (.v (.int .i64 0)), (.v (.int .i64 0)), (.v (.int .i64 0)), (.v (.int .i64 0))]), (.row true K.k_impl_Event ([] ++ events)), (.box true [(.sl 3), (.v (.int .i64 x0_1)), (.v (.int .i64 x0_2)), (.v (.int .i64 x0_3)), (.v (.int .i64 x0_4)), (.v (.int .i64 x0_5)), (.v (.int .i64 x0_6))])]⟩ = spec_l37Count_s0 k events (fun x0_0 x0_1 x0_2 x0_3 x0_4 x0_5 x0_6 => H ⟨tmF [0, 2, 3, 4, 5] [(.a (.sc (.sl 0))), (.a (.sc (.bp 2 0))), (.a (.sc (.v (.bool false)))), (.a (.sc (.bp 4 0))), (.a (.sc (.v (.int .i64 x0_0))))], blF [(.row false K.k_impl_Event events), (.row true K.k_impl_Event []), (.box true [(.sl 1), (.v (.int .i64 0)), (.v (.int .i64 0)), (.v (.int .i64 0)), (.v (.int .i64 0)), (.v (.int .i64 0)), (.v (.int .i64 0))]), (.row true K.k_impl_Event ([] ++ events)), (.box true [(.sl 3), (.v (.int .i64 x0_1)), (.v (.int .i64 x0_2)), (.v (.int .i64 x0_3)), (.v (.int .i64 x0_4)), (.v (.int .i64 x0_5)), (.v (.int .i64 x0_6))])]⟩) x0_0 x0_1 x0_2 x0_3 x0_4 x0_5 x0_6 := by kernel_rfl
theorem spec_l37Count_n0 (k m : Nat) (events : (List Event)) (x0_0 : Int) (x0_1 : Int) (x0_2 : Int) (x0_3 : Int) (x0_4 : Int) (x0_5 : Int) (x0_6 : Int) : spec_l37Count_h0 k (m + 1) events x0_0 x0_1 x0_2 x0_3 x0_4 x0_5 x0_6 = spec_l37Count_s0 k events (spec_l37Count_h0 k m events) x0_0 x0_1 x0_2 x0_3 x0_4 x0_5 x0_6 := (hdAt_succ _ _ _ _ _ _ _ _ _ _).trans (spec_l37Count_g0 k _ events x0_0 x0_1 x0_2 x0_3 x0_4 x0_5 x0_6)
theorem spec_l37Count_q0 (k : Nat) : ∀ m, spec_l37Count_h0 k m = spec_l37Count_l0 k m := by
 intro m
 induction m with
 | zero => funext events x0_0 x0_1 x0_2 x0_3 x0_4 x0_5 x0_6; rw [spec_l37Count_z0]; rfl
 | succ m ih => funext events x0_0 x0_1 x0_2 x0_3 x0_4 x0_5 x0_6; rw [spec_l37Count_n0, ih]; rfl
theorem spec_l37Count_e (k : Nat) (events : (List Event)) : callF env (spec_l37Count_O k) spec_l37Count_v Tryz.f115 (k + 1) (spec_l37Count_A events) (fun r => spec_l37Count_d (r.fin 1 [])) = spec_l37Count k events := by
 have e : ∀ H : St → Option (Book × Bool), callE env (spec_l37Count_O k) spec_l37Count_v Tryz.f115 (k + 1) (spec_l37Count_A events) [1, 1, 1, 0, 1, 0] (fun r => spec_l37Count_d (r.fin 1 [])) H = spec_l37Count_m k (fun events x0_0 x0_1 x0_2 x0_3 x0_4 x0_5 x0_6 => H ⟨tmF [0, 2, 3, 4, 5] [(.a (.sc (.sl 0))), (.a (.sc (.bp 2 0))), (.a (.sc (.v (.bool false)))), (.a (.sc (.bp 4 0))), (.a (.sc (.v (.int .i64 x0_0))))], blF [(.row false K.k_impl_Event events), (.row true K.k_impl_Event []), (.box true [(.sl 1), (.v (.int .i64 0)), (.v (.int .i64 0)), (.v (.int .i64 0)), (.v (.int .i64 0)), (.v (.int .i64 0)), (.v (.int .i64 0))]), (.row true K.k_impl_Event ([] ++ events)), (.box true [(.sl 3), (.v (.int .i64 x0_1)), (.v (.int .i64 x0_2)), (.v (.int .i64 x0_3)), (.v (.int .i64 x0_4)), (.v (.int .i64 x0_5)), (.v (.int .i64 x0_6))])]⟩) events := fun H => by kernel_rfl
 exact (callE_eq env (spec_l37Count_O k) spec_l37Count_v Tryz.f115 k (spec_l37Count_A events) [1, 1, 1, 0, 1, 0] 1 (fun r => spec_l37Count_d (r.fin 1 [])) rfl (by kernel_rfl)).trans ((e (hdAt env (spec_l37Count_O k) spec_l37Count_v Tryz.f115 1 (fun r => spec_l37Count_d (r.fin 1 [])) [1, 1, 1, 0, 1, 0] k k)).trans (by
  show spec_l37Count_m k (spec_l37Count_h0 k k) events = _
  rw [spec_l37Count_q0]; rfl))
noncomputable def spec_l37Count_x (k : Nat) : Ent1 := fun A R Q => match A with
 | ⟨[(.sc (.sl 0))], [(.row false K.k_impl_Event a1)]⟩ => (spec_l37Count k a1).bind fun y => Q ⟨(.tp [(.ag [(.sl 1), (.v (.int .i64 y.1.Rack.Fresh)), (.v (.int .i64 y.1.Rack.Day)), (.v (.int .i64 y.1.Rack.Old)), (.v (.int .i64 y.1.Baked)), (.v (.int .i64 y.1.Sold)), (.v (.int .i64 y.1.Thrown))]), (.sc (.v (.bool y.2)))]), [.dead, (.row true K.k_impl_Event y.1.Events)]⟩
 | _ => none
theorem spec_l37Count_ok (k : Nat) : OkE Tryz.prog 115 (spec_l37Count_x k) := by
 intro A R Q x h
 unfold spec_l37Count_x at h
 split at h
 · obtain ⟨y, hy, hK⟩ := Option.bind_eq_some_iff.1 h
   obtain ⟨r, hr, hd⟩ := callF_ok envOk (spec_l37Count_Ok k) follows Tryz.func115 (by kernel_rfl) ((spec_l37Count_e k _).trans hy)
   exact ⟨_, spec_l37Count_i hd ▸ hr.fin [], hK⟩
 · cases h
/-! ### spec.BookOk: function 83 -/
noncomputable def spec_BookOk (k : Nat)  (b : Book) : Option (Bool) :=
 (spec_l37Count k b.Events).bind fun y1 =>
 cond y1.2
  (cond (decide ((y1.1.Rack.Fresh : Int) = b.Rack.Fresh) && (decide ((y1.1.Rack.Day : Int) = b.Rack.Day) && decide ((y1.1.Rack.Old : Int) = b.Rack.Old)))
   (cond (decide ((y1.1.Baked : Int) = b.Baked))
    (cond (decide ((y1.1.Sold : Int) = b.Sold))
     (some (decide ((y1.1.Thrown : Int) = b.Thrown)))
     (some false))
    (some false))
   (some false))
  (some false)
noncomputable def spec_BookOk_v : Nat → List Nat := fun t => match t with | _ => []
noncomputable def spec_BookOk_O (k : Nat) : Oracle := ofL [(115, spec_l37Count_x k)]
theorem spec_BookOk_Ok (k : Nat) : OkO (Ct Tryz.prog) (spec_BookOk_O k) := okO_cons (spec_l37Count_ok k) (okO_nil)
noncomputable def spec_BookOk_A (b : Book) : Pk := ⟨[(.ag [(.sl 0), (.v (.int .i64 b.Rack.Fresh)), (.v (.int .i64 b.Rack.Day)), (.v (.int .i64 b.Rack.Old)), (.v (.int .i64 b.Baked)), (.v (.int .i64 b.Sold)), (.v (.int .i64 b.Thrown))])], [(.row false K.k_impl_Event b.Events)]⟩
noncomputable def spec_BookOk_d : Rs → Option (Bool)
 | ⟨(.a (.sc (.v (.bool r1)))), [.dead]⟩ => some r1
 | _ => none
theorem spec_BookOk_i {r : Rs} {y : Bool} (h : spec_BookOk_d r = some y) : r = ⟨(.a (.sc (.v (.bool y)))), [.dead]⟩ := by
 unfold spec_BookOk_d at h; split at h
 · cases h; rfl
 · cases h
theorem spec_BookOk_e (k : Nat) (b : Book) : callF env (spec_BookOk_O k) spec_BookOk_v Tryz.f83 (k + 1) (spec_BookOk_A b) (fun r => spec_BookOk_d (r.fin 1 [])) = spec_BookOk k b := by kernel_rfl
noncomputable def spec_BookOk_x (k : Nat) : Ent1 := fun A R Q => match A with
 | ⟨[(.ag [(.sl 0), (.v (.int .i64 a2)), (.v (.int .i64 a3)), (.v (.int .i64 a4)), (.v (.int .i64 a5)), (.v (.int .i64 a6)), (.v (.int .i64 a7))])], [(.row false K.k_impl_Event a1)]⟩ => (spec_BookOk k (⟨a1, (⟨a2, a3, a4⟩ : Rack), a5, a6, a7⟩ : Book)).bind fun y => Q ⟨(.a (.sc (.v (.bool y)))), [.dead]⟩
 | _ => none
theorem spec_BookOk_ok (k : Nat) : OkE Tryz.prog 83 (spec_BookOk_x k) := by
 intro A R Q x h
 unfold spec_BookOk_x at h
 split at h
 · obtain ⟨y, hy, hK⟩ := Option.bind_eq_some_iff.1 h
   obtain ⟨r, hr, hd⟩ := callF_ok envOk (spec_BookOk_Ok k) follows Tryz.func83 (by kernel_rfl) ((spec_BookOk_e k _).trans hy)
   exact ⟨_, spec_BookOk_i hd ▸ hr.fin [], hK⟩
 · cases h
/-! ### spec.BakeryOk: function 44 -/
noncomputable def spec_BakeryOk (k : Nat)  (b : Bakery) : Option (Bool) :=
 (spec_StoreOk k b.Stock).bind fun y1 =>
 cond y1
  ((spec_DoughOk k b.Dough).bind fun y2 =>
   cond y2
    ((spec_LoafOk k b.Loaf).bind fun y3 =>
     cond y3
      ((spec_BookOk k b.Book).bind fun y4 =>
       cond y4
        ((spec_l01In k b.Money 0 1000000).bind fun y5 =>
        some y5)
        (some false))
      (some false))
    (some false))
  (some false)
noncomputable def spec_BakeryOk_v : Nat → List Nat := fun t => match t with | _ => []
noncomputable def spec_BakeryOk_O (k : Nat) : Oracle := ofL [(40, spec_l01In_x k), (80, spec_StoreOk_x k), (81, spec_DoughOk_x k), (82, spec_LoafOk_x k), (83, spec_BookOk_x k)]
theorem spec_BakeryOk_Ok (k : Nat) : OkO (Ct Tryz.prog) (spec_BakeryOk_O k) := okO_cons (spec_l01In_ok k) (okO_cons (spec_StoreOk_ok k) (okO_cons (spec_DoughOk_ok k) (okO_cons (spec_LoafOk_ok k) (okO_cons (spec_BookOk_ok k) (okO_nil)))))
noncomputable def spec_BakeryOk_A (b : Bakery) : Pk := ⟨[(.ag [(.sl 0), (.v (.int .i64 b.Dough.Water)), (.v (.int .i64 b.Dough.Salt)), (.v (.int .i64 b.Dough.Leaven)), (.v (.int .i64 b.Loaf.Weight)), (.v (.int .i64 b.Loaf.Loss)), (.sl 1), (.v (.int .i64 b.Book.Rack.Fresh)), (.v (.int .i64 b.Book.Rack.Day)), (.v (.int .i64 b.Book.Rack.Old)), (.v (.int .i64 b.Book.Baked)), (.v (.int .i64 b.Book.Sold)), (.v (.int .i64 b.Book.Thrown)), (.v (.int .i64 b.Money))])], [(.row false K.ki64 b.Stock.Grams), (.row false K.k_impl_Event b.Book.Events)]⟩
noncomputable def spec_BakeryOk_d : Rs → Option (Bool)
 | ⟨(.a (.sc (.v (.bool r1)))), [.dead, .dead]⟩ => some r1
 | _ => none
theorem spec_BakeryOk_i {r : Rs} {y : Bool} (h : spec_BakeryOk_d r = some y) : r = ⟨(.a (.sc (.v (.bool y)))), [.dead, .dead]⟩ := by
 unfold spec_BakeryOk_d at h; split at h
 · cases h; rfl
 · cases h
theorem spec_BakeryOk_e (k : Nat) (b : Bakery) : callF env (spec_BakeryOk_O k) spec_BakeryOk_v Tryz.f44 (k + 1) (spec_BakeryOk_A b) (fun r => spec_BakeryOk_d (r.fin 2 [])) = spec_BakeryOk k b := by kernel_rfl
noncomputable def spec_BakeryOk_x (k : Nat) : Ent1 := fun A R Q => match A with
 | ⟨[(.ag [(.sl 0), (.v (.int .i64 a2)), (.v (.int .i64 a3)), (.v (.int .i64 a4)), (.v (.int .i64 a5)), (.v (.int .i64 a6)), (.sl 1), (.v (.int .i64 a8)), (.v (.int .i64 a9)), (.v (.int .i64 a10)), (.v (.int .i64 a11)), (.v (.int .i64 a12)), (.v (.int .i64 a13)), (.v (.int .i64 a14))])], [(.row false K.ki64 a1), (.row false K.k_impl_Event a7)]⟩ => (spec_BakeryOk k (⟨(⟨a1⟩ : Stock), (⟨a2, a3, a4⟩ : Dough), (⟨a5, a6⟩ : Loaf), (⟨a7, (⟨a8, a9, a10⟩ : Rack), a11, a12, a13⟩ : Book), a14⟩ : Bakery)).bind fun y => Q ⟨(.a (.sc (.v (.bool y)))), [.dead, .dead]⟩
 | _ => none
theorem spec_BakeryOk_ok (k : Nat) : OkE Tryz.prog 44 (spec_BakeryOk_x k) := by
 intro A R Q x h
 unfold spec_BakeryOk_x at h
 split at h
 · obtain ⟨y, hy, hK⟩ := Option.bind_eq_some_iff.1 h
   obtain ⟨r, hr, hd⟩ := callF_ok envOk (spec_BakeryOk_Ok k) follows Tryz.func44 (by kernel_rfl) ((spec_BakeryOk_e k _).trans hy)
   exact ⟨_, spec_BakeryOk_i hd ▸ hr.fin [], hK⟩
 · cases h
/-! ### spec.OpenBakery: function 46 -/
noncomputable def spec_OpenBakery (k : Nat)  (grams : (List Int)) (d : Dough) (l : Loaf) (money : Int) : Option (Bakery × Bool) :=
 if ([] : List Int).length + (grams : List Int).length ≤ maxRow then
 (spec_BakeryOk k (⟨(⟨([] ++ grams)⟩ : Stock), d, l, (⟨[], (⟨0, 0, 0⟩ : Rack), 0, 0, 0⟩ : Book), money⟩ : Bakery)).bind fun y1 =>
  cond (!y1)
   (some ((⟨(⟨[]⟩ : Stock), (⟨0, 0, 0⟩ : Dough), (⟨0, 0⟩ : Loaf), (⟨[], (⟨0, 0, 0⟩ : Rack), 0, 0, 0⟩ : Book), 0⟩ : Bakery), false))
   (some ((⟨(⟨([] ++ grams)⟩ : Stock), d, l, (⟨[], (⟨0, 0, 0⟩ : Rack), 0, 0, 0⟩ : Book), money⟩ : Bakery), true)) else none
noncomputable def spec_OpenBakery_v : Nat → List Nat := fun t => match t with | _ => []
noncomputable def spec_OpenBakery_O (k : Nat) : Oracle := ofL [(44, spec_BakeryOk_x k)]
theorem spec_OpenBakery_Ok (k : Nat) : OkO (Ct Tryz.prog) (spec_OpenBakery_O k) := okO_cons (spec_BakeryOk_ok k) (okO_nil)
noncomputable def spec_OpenBakery_A (grams : (List Int)) (d : Dough) (l : Loaf) (money : Int) : Pk := ⟨[(.sc (.sl 0)), (.ag [(.v (.int .i64 d.Water)), (.v (.int .i64 d.Salt)), (.v (.int .i64 d.Leaven))]), (.ag [(.v (.int .i64 l.Weight)), (.v (.int .i64 l.Loss))]), (.sc (.v (.int .i64 money)))], [(.row false K.ki64 grams)]⟩
noncomputable def spec_OpenBakery_d : Rs → Option (Bakery × Bool)
 | ⟨(.tp [(.ag [(.sl 1), (.v (.int .i64 r2)), (.v (.int .i64 r3)), (.v (.int .i64 r4)), (.v (.int .i64 r5)), (.v (.int .i64 r6)), (.sl 2), (.v (.int .i64 r8)), (.v (.int .i64 r9)), (.v (.int .i64 r10)), (.v (.int .i64 r11)), (.v (.int .i64 r12)), (.v (.int .i64 r13)), (.v (.int .i64 r14))]), (.sc (.v (.bool r15)))]), [.dead, (.row true K.ki64 r1), (.row true K.k_impl_Event r7)]⟩ => some ((⟨(⟨r1⟩ : Stock), (⟨r2, r3, r4⟩ : Dough), (⟨r5, r6⟩ : Loaf), (⟨r7, (⟨r8, r9, r10⟩ : Rack), r11, r12, r13⟩ : Book), r14⟩ : Bakery), r15)
 | _ => none
theorem spec_OpenBakery_i {r : Rs} {y : Bakery × Bool} (h : spec_OpenBakery_d r = some y) : r = ⟨(.tp [(.ag [(.sl 1), (.v (.int .i64 y.1.Dough.Water)), (.v (.int .i64 y.1.Dough.Salt)), (.v (.int .i64 y.1.Dough.Leaven)), (.v (.int .i64 y.1.Loaf.Weight)), (.v (.int .i64 y.1.Loaf.Loss)), (.sl 2), (.v (.int .i64 y.1.Book.Rack.Fresh)), (.v (.int .i64 y.1.Book.Rack.Day)), (.v (.int .i64 y.1.Book.Rack.Old)), (.v (.int .i64 y.1.Book.Baked)), (.v (.int .i64 y.1.Book.Sold)), (.v (.int .i64 y.1.Book.Thrown)), (.v (.int .i64 y.1.Money))]), (.sc (.v (.bool y.2)))]), [.dead, (.row true K.ki64 y.1.Stock.Grams), (.row true K.k_impl_Event y.1.Book.Events)]⟩ := by
 unfold spec_OpenBakery_d at h; split at h
 · cases h; rfl
 · cases h
theorem spec_OpenBakery_e (k : Nat) (grams : (List Int)) (d : Dough) (l : Loaf) (money : Int) : callF env (spec_OpenBakery_O k) spec_OpenBakery_v Tryz.f46 (k + 1) (spec_OpenBakery_A grams d l money) (fun r => spec_OpenBakery_d (r.fin 1 [])) = spec_OpenBakery k grams d l money := by kernel_rfl
noncomputable def spec_OpenBakery_x (k : Nat) : Ent1 := fun A R Q => match A with
 | ⟨[(.sc (.sl 0)), (.ag [(.v (.int .i64 a2)), (.v (.int .i64 a3)), (.v (.int .i64 a4))]), (.ag [(.v (.int .i64 a5)), (.v (.int .i64 a6))]), (.sc (.v (.int .i64 a7)))], [(.row false K.ki64 a1)]⟩ => (spec_OpenBakery k a1 (⟨a2, a3, a4⟩ : Dough) (⟨a5, a6⟩ : Loaf) a7).bind fun y => Q ⟨(.tp [(.ag [(.sl 1), (.v (.int .i64 y.1.Dough.Water)), (.v (.int .i64 y.1.Dough.Salt)), (.v (.int .i64 y.1.Dough.Leaven)), (.v (.int .i64 y.1.Loaf.Weight)), (.v (.int .i64 y.1.Loaf.Loss)), (.sl 2), (.v (.int .i64 y.1.Book.Rack.Fresh)), (.v (.int .i64 y.1.Book.Rack.Day)), (.v (.int .i64 y.1.Book.Rack.Old)), (.v (.int .i64 y.1.Book.Baked)), (.v (.int .i64 y.1.Book.Sold)), (.v (.int .i64 y.1.Book.Thrown)), (.v (.int .i64 y.1.Money))]), (.sc (.v (.bool y.2)))]), [.dead, (.row true K.ki64 y.1.Stock.Grams), (.row true K.k_impl_Event y.1.Book.Events)]⟩
 | _ => none
theorem spec_OpenBakery_ok (k : Nat) : OkE Tryz.prog 46 (spec_OpenBakery_x k) := by
 intro A R Q x h
 unfold spec_OpenBakery_x at h
 split at h
 · obtain ⟨y, hy, hK⟩ := Option.bind_eq_some_iff.1 h
   obtain ⟨r, hr, hd⟩ := callF_ok envOk (spec_OpenBakery_Ok k) follows Tryz.func46 (by kernel_rfl) ((spec_OpenBakery_e k _ _ _ _).trans hy)
   exact ⟨_, spec_OpenBakery_i hd ▸ hr.fin [], hK⟩
 · cases h
/-! ### spec.SampleBakery: function 21 -/
noncomputable def spec_SampleBakery (k : Nat)  : Option (Bakery) :=
 (spec_OpenBakery k ([4000, 3000, 100, 800]) (⟨650, 20, 200⟩ : Dough) (⟨500, 15⟩ : Loaf) 50).bind fun y1 =>
 some y1.1
noncomputable def spec_SampleBakery_v : Nat → List Nat := fun t => match t with | _ => []
noncomputable def spec_SampleBakery_O (k : Nat) : Oracle := ofL [(46, spec_OpenBakery_x k)]
theorem spec_SampleBakery_Ok (k : Nat) : OkO (Ct Tryz.prog) (spec_SampleBakery_O k) := okO_cons (spec_OpenBakery_ok k) (okO_nil)
noncomputable def spec_SampleBakery_A : Pk := ⟨[], []⟩
noncomputable def spec_SampleBakery_d : Rs → Option (Bakery)
 | ⟨(.a (.ag [(.sl 0), (.v (.int .i64 r2)), (.v (.int .i64 r3)), (.v (.int .i64 r4)), (.v (.int .i64 r5)), (.v (.int .i64 r6)), (.sl 1), (.v (.int .i64 r8)), (.v (.int .i64 r9)), (.v (.int .i64 r10)), (.v (.int .i64 r11)), (.v (.int .i64 r12)), (.v (.int .i64 r13)), (.v (.int .i64 r14))])), [(.row true K.ki64 r1), (.row true K.k_impl_Event r7)]⟩ => some (⟨(⟨r1⟩ : Stock), (⟨r2, r3, r4⟩ : Dough), (⟨r5, r6⟩ : Loaf), (⟨r7, (⟨r8, r9, r10⟩ : Rack), r11, r12, r13⟩ : Book), r14⟩ : Bakery)
 | _ => none
theorem spec_SampleBakery_i {r : Rs} {y : Bakery} (h : spec_SampleBakery_d r = some y) : r = ⟨(.a (.ag [(.sl 0), (.v (.int .i64 y.Dough.Water)), (.v (.int .i64 y.Dough.Salt)), (.v (.int .i64 y.Dough.Leaven)), (.v (.int .i64 y.Loaf.Weight)), (.v (.int .i64 y.Loaf.Loss)), (.sl 1), (.v (.int .i64 y.Book.Rack.Fresh)), (.v (.int .i64 y.Book.Rack.Day)), (.v (.int .i64 y.Book.Rack.Old)), (.v (.int .i64 y.Book.Baked)), (.v (.int .i64 y.Book.Sold)), (.v (.int .i64 y.Book.Thrown)), (.v (.int .i64 y.Money))])), [(.row true K.ki64 y.Stock.Grams), (.row true K.k_impl_Event y.Book.Events)]⟩ := by
 unfold spec_SampleBakery_d at h; split at h
 · cases h; rfl
 · cases h
theorem spec_SampleBakery_e (k : Nat) : callF env (spec_SampleBakery_O k) spec_SampleBakery_v Tryz.f21 (k + 1) (spec_SampleBakery_A) (fun r => spec_SampleBakery_d (r.fin 0 [])) = spec_SampleBakery k := by kernel_rfl
noncomputable def spec_SampleBakery_x (k : Nat) : Ent1 := fun A R Q => match A with
 | ⟨[], []⟩ => (spec_SampleBakery k).bind fun y => Q ⟨(.a (.ag [(.sl 0), (.v (.int .i64 y.Dough.Water)), (.v (.int .i64 y.Dough.Salt)), (.v (.int .i64 y.Dough.Leaven)), (.v (.int .i64 y.Loaf.Weight)), (.v (.int .i64 y.Loaf.Loss)), (.sl 1), (.v (.int .i64 y.Book.Rack.Fresh)), (.v (.int .i64 y.Book.Rack.Day)), (.v (.int .i64 y.Book.Rack.Old)), (.v (.int .i64 y.Book.Baked)), (.v (.int .i64 y.Book.Sold)), (.v (.int .i64 y.Book.Thrown)), (.v (.int .i64 y.Money))])), [(.row true K.ki64 y.Stock.Grams), (.row true K.k_impl_Event y.Book.Events)]⟩
 | _ => none
theorem spec_SampleBakery_ok (k : Nat) : OkE Tryz.prog 21 (spec_SampleBakery_x k) := by
 intro A R Q x h
 unfold spec_SampleBakery_x at h
 split at h
 · obtain ⟨y, hy, hK⟩ := Option.bind_eq_some_iff.1 h
   obtain ⟨r, hr, hd⟩ := callF_ok envOk (spec_SampleBakery_Ok k) follows Tryz.func21 (by kernel_rfl) ((spec_SampleBakery_e k).trans hy)
   exact ⟨_, spec_SampleBakery_i hd ▸ hr.fin [], hK⟩
 · cases h
/-! ### spec.l36Stock: function 94 -/
noncomputable def spec_l36Stock (k : Nat)  (c : l01Cur) : Option (Stock × (Int × Int)) :=
 (spec_l01Below k c 250).bind fun y1 =>
 (spec_l01Below k (⟨c.b, y1.2.1, y1.2.2⟩ : l01Cur) 250).bind fun y2 =>
  (spec_l01Below k (⟨c.b, y2.2.1, y2.2.2⟩ : l01Cur) 50).bind fun y3 =>
   (spec_l01Below k (⟨c.b, y3.2.1, y3.2.2⟩ : l01Cur) 200).bind fun y4 =>
    some ((⟨[(wr ((8 : Int) * y1.1)), (wr ((6 : Int) * y2.1)), y3.1, (wr ((2 : Int) * y4.1))]⟩ : Stock), (y4.2.1, y4.2.2))
noncomputable def spec_l36Stock_v : Nat → List Nat := fun t => match t with | _ => []
noncomputable def spec_l36Stock_O (k : Nat) : Oracle := ofL [(59, spec_l01Below_x k)]
theorem spec_l36Stock_Ok (k : Nat) : OkO (Ct Tryz.prog) (spec_l36Stock_O k) := okO_cons (spec_l01Below_ok k) (okO_nil)
noncomputable def spec_l36Stock_A (c : l01Cur) : Pk := ⟨[(.sc (.bp 1 0))], [(.row false K.ku8 c.b), (.box true [(.sl 0), (.v (.int .i64 c.i)), (.v (.int .i64 c.h))])]⟩
noncomputable def spec_l36Stock_d : Rs → Option (Stock × (Int × Int))
 | ⟨(.a (.ag [(.sl 2)])), [.dead, (.box true [(.sl 0), (.v (.int .i64 r2)), (.v (.int .i64 r3))]), (.row true K.ki64 r1)]⟩ => some ((⟨r1⟩ : Stock), (r2, r3))
 | _ => none
theorem spec_l36Stock_i {r : Rs} {y : Stock × (Int × Int)} (h : spec_l36Stock_d r = some y) : r = ⟨(.a (.ag [(.sl 2)])), [.dead, (.box true [(.sl 0), (.v (.int .i64 y.2.1)), (.v (.int .i64 y.2.2))]), (.row true K.ki64 y.1.Grams)]⟩ := by
 unfold spec_l36Stock_d at h; split at h
 · cases h; rfl
 · cases h
theorem spec_l36Stock_e (k : Nat) (c : l01Cur) : callF env (spec_l36Stock_O k) spec_l36Stock_v Tryz.f94 (k + 1) (spec_l36Stock_A c) (fun r => spec_l36Stock_d (r.fin 2 [])) = spec_l36Stock k c := by kernel_rfl
noncomputable def spec_l36Stock_x (k : Nat) : Ent1 := fun A R Q => match A with
 | ⟨[(.sc (.bp 1 0))], [(.row false K.ku8 a1), (.box true [(.sl 0), (.v (.int .i64 a2)), (.v (.int .i64 a3))])]⟩ => (spec_l36Stock k (⟨a1, a2, a3⟩ : l01Cur)).bind fun y => Q ⟨(.a (.ag [(.sl 2)])), [.dead, (.box true [(.sl 0), (.v (.int .i64 y.2.1)), (.v (.int .i64 y.2.2))]), (.row true K.ki64 y.1.Grams)]⟩
 | _ => none
theorem spec_l36Stock_ok (k : Nat) : OkE Tryz.prog 94 (spec_l36Stock_x k) := by
 intro A R Q x h
 unfold spec_l36Stock_x at h
 split at h
 · obtain ⟨y, hy, hK⟩ := Option.bind_eq_some_iff.1 h
   obtain ⟨r, hr, hd⟩ := callF_ok envOk (spec_l36Stock_Ok k) follows Tryz.func94 (by kernel_rfl) ((spec_l36Stock_e k _).trans hy)
   exact ⟨_, spec_l36Stock_i hd ▸ hr.fin [], hK⟩
 · cases h
end Go.Proofs.YtlenacakmmikiaaGreatDoorX
