/- What functions of the program compute, as functions of numbers and lists, and that they do. (The file is written by wip/x/vxp.py of this repository.) -/
import Derived.Test.YtlhcphoojiemmaaZ
namespace Go.Proofs.YtlhcphoojiemmaaX
open Go Go.Proofs
set_option linter.unusedVariables false
set_option maxRecDepth 100000
/-! ### laws.big: function 8 -/
noncomputable def laws_big (k : Nat)  (code : (List Int)) : Option (Bool) :=
 some (decide ((1048576 : Int) < ((code).length : Int)))
noncomputable def laws_big_v : Nat → List Nat := fun t => match t with | _ => []
noncomputable def laws_big_O (k : Nat) : Oracle := ofL []
theorem laws_big_Ok (k : Nat) : OkO (Ct Try.prog) (laws_big_O k) := okO_nil
noncomputable def laws_big_A (code : (List Int)) : Pk := ⟨[(.sc (.sl 0))], [(.row false K.ku8 code)]⟩
noncomputable def laws_big_d : Rs → Option (Bool)
 | ⟨(.a (.sc (.v (.bool r1)))), [.dead]⟩ => some r1
 | _ => none
theorem laws_big_i {r : Rs} {y : Bool} (h : laws_big_d r = some y) : r = ⟨(.a (.sc (.v (.bool y)))), [.dead]⟩ := by
 unfold laws_big_d at h; split at h
 · cases h; rfl
 · cases h
theorem laws_big_e (k : Nat) (code : (List Int)) : callF env (laws_big_O k) laws_big_v Try.f8 (k + 1) (laws_big_A code) (fun r => laws_big_d (r.fin 1 [])) = laws_big k code := by kernel_rfl
noncomputable def laws_big_x (k : Nat) : Ent1 := fun A R Q => match A with
 | ⟨[(.sc (.sl 0))], [(.row false K.ku8 a1)]⟩ => (laws_big k a1).bind fun y => Q ⟨(.a (.sc (.v (.bool y)))), [.dead]⟩
 | _ => none
theorem laws_big_ok (k : Nat) : OkE Try.prog 8 (laws_big_x k) := by
 intro A R Q x h
 unfold laws_big_x at h
 split at h
 · obtain ⟨y, hy, hK⟩ := Option.bind_eq_some_iff.1 h
   obtain ⟨r, hr, hd⟩ := callF_ok envOk (laws_big_Ok k) follows Try.func8 (by kernel_rfl) ((laws_big_e k _).trans hy)
   exact ⟨_, laws_big_i hd ▸ hr.fin [], hK⟩
 · cases h
/-! ### spec.l01New: function 34 -/
noncomputable def spec_l01New_s0 (k : Nat)  (code : (List Int)) (J : Int → Int → Option ((Int × Int))) (x0_0 : Int) (x0_1 : Int) : Option ((Int × Int)) :=
 cond (decide ((x0_1 : Int) < ((code).length : Int)))
 (cond (decide ((x0_1 : Int) < 4000))
  (if 0 ≤ (x0_1 : Int) ∧ (x0_1 : Int) < ((code).length : Int) then
   J (bAnd .i64 (wr ((wr ((wr (x0_0 * 131)) + (wr (code.getD (Int.toNat x0_1) 0)))) + 7)) 1073741823) (wr (x0_1 + 1)) else none)
  (some (0, x0_0)))
 (some (0, x0_0))
noncomputable def spec_l01New_l0 (k : Nat) : Nat → (List Int) → Int → Int → Option ((Int × Int))
 | 0, code, x0_0, x0_1 => spec_l01New_s0 k code (fun _ _ => none) x0_0 x0_1
 | m + 1, code, x0_0, x0_1 => spec_l01New_s0 k code (spec_l01New_l0 k m code) x0_0 x0_1
noncomputable def spec_l01New_m (k : Nat) (J0 : (List Int) → Int → Int → Option ((Int × Int))) (code : (List Int)) : Option ((Int × Int)) :=
 J0 code (wr ((33101 : Int) + ((code).length : Int))) 0
noncomputable def spec_l01New (k : Nat) (code : (List Int)) : Option ((Int × Int)) := spec_l01New_m k (spec_l01New_l0 k k) code
noncomputable def spec_l01New_v : Nat → List Nat := fun t => match t with | 3 => [0, 2, 3, 4] | _ => []
noncomputable def spec_l01New_O (k : Nat) : Oracle := ofL []
theorem spec_l01New_Ok (k : Nat) : OkO (Ct Try.prog) (spec_l01New_O k) := okO_nil
noncomputable def spec_l01New_A (code : (List Int)) : Pk := ⟨[(.sc (.sl 0))], [(.row false K.ku8 code)]⟩
noncomputable def spec_l01New_d : Rs → Option ((Int × Int))
 | ⟨(.a (.sc (.bp 1 0))), [.dead, (.box true [(.sl 0), (.v (.int .i64 r1)), (.v (.int .i64 r2))])]⟩ => some (r1, r2)
 | _ => none
theorem spec_l01New_i {r : Rs} {y : (Int × Int)} (h : spec_l01New_d r = some y) : r = ⟨(.a (.sc (.bp 1 0))), [.dead, (.box true [(.sl 0), (.v (.int .i64 y.1)), (.v (.int .i64 y.2))])]⟩ := by
 unfold spec_l01New_d at h; split at h
 · cases h; rfl
 · cases h
noncomputable def spec_l01New_h0 (k m : Nat) (code : (List Int)) (x0_0 : Int) (x0_1 : Int) : Option ((Int × Int)) := hdAt env (spec_l01New_O k) spec_l01New_v Try.f34 1 (fun r => spec_l01New_d (r.fin 1 [])) [1, 1, 0, 1, 0] k m ⟨tmF [0, 2, 3, 4] [(.a (.sc (.sl 0))), (.a (.sc (.v (.pointer none)))), (.a (.sc (.v (.int .i64 x0_0)))), (.a (.sc (.v (.int .i64 x0_1))))], blF [(.row false K.ku8 code)]⟩
theorem spec_l01New_z0 (k : Nat) (code : (List Int)) (x0_0 : Int) (x0_1 : Int) : spec_l01New_h0 k 0 code x0_0 x0_1 = spec_l01New_s0 k code (fun _ _ => none) x0_0 x0_1 := by kernel_rfl
theorem spec_l01New_g0 (k : Nat) (H : St → Option ((Int × Int))) (code : (List Int)) (x0_0 : Int) (x0_1 : Int) : rnd env (spec_l01New_O k) spec_l01New_v Try.f34 1 (fun r => spec_l01New_d (r.fin 1 [])) [1, 1, 0, 1, 0] k H ⟨tmF [0, 2, 3, 4] [(.a (.sc (.sl 0))), (.a (.sc (.v (.pointer none)))), (.a (.sc (.v (.int .i64 x0_0)))), (.a (.sc (.v (.int .i64 x0_1))))], blF [(.row false K.ku8 code)]⟩ = spec_l01New_s0 k code (fun x0_0 x0_1 => H ⟨tmF [0, 2, 3, 4] [(.a (.sc (.sl 0))), (.a (.sc (.v (.pointer none)))), (.a (.sc (.v (.int .i64 x0_0)))), (.a (.sc (.v (.int .i64 x0_1))))], blF [(.row false K.ku8 code)]⟩) x0_0 x0_1 := by kernel_rfl
theorem spec_l01New_n0 (k m : Nat) (code : (List Int)) (x0_0 : Int) (x0_1 : Int) : spec_l01New_h0 k (m + 1) code x0_0 x0_1 = spec_l01New_s0 k code (spec_l01New_h0 k m code) x0_0 x0_1 := (hdAt_succ _ _ _ _ _ _ _ _ _ _).trans (spec_l01New_g0 k _ code x0_0 x0_1)
theorem spec_l01New_q0 (k : Nat) : ∀ m, spec_l01New_h0 k m = spec_l01New_l0 k m := by
 intro m
 induction m with
 | zero => funext code x0_0 x0_1; rw [spec_l01New_z0]; rfl
 | succ m ih => funext code x0_0 x0_1; rw [spec_l01New_n0, ih]; rfl
theorem spec_l01New_e (k : Nat) (code : (List Int)) : callF env (spec_l01New_O k) spec_l01New_v Try.f34 (k + 1) (spec_l01New_A code) (fun r => spec_l01New_d (r.fin 1 [])) = spec_l01New k code := by
 have e : callF env (spec_l01New_O k) spec_l01New_v Try.f34 (k + 1) (spec_l01New_A code) (fun r => spec_l01New_d (r.fin 1 [])) = spec_l01New_m k (spec_l01New_h0 k k) code := by kernel_rfl
 rw [e, spec_l01New_q0]; rfl
noncomputable def spec_l01New_x (k : Nat) : Ent1 := fun A R Q => match A with
 | ⟨[(.sc (.sl 0))], [(.row false K.ku8 a1)]⟩ => (spec_l01New k a1).bind fun y => Q ⟨(.a (.sc (.bp 1 0))), [.dead, (.box true [(.sl 0), (.v (.int .i64 y.1)), (.v (.int .i64 y.2))])]⟩
 | _ => none
theorem spec_l01New_ok (k : Nat) : OkE Try.prog 34 (spec_l01New_x k) := by
 intro A R Q x h
 unfold spec_l01New_x at h
 split at h
 · obtain ⟨y, hy, hK⟩ := Option.bind_eq_some_iff.1 h
   obtain ⟨r, hr, hd⟩ := callF_ok envOk (spec_l01New_Ok k) follows Try.func34 (by kernel_rfl) ((spec_l01New_e k _).trans hy)
   exact ⟨_, spec_l01New_i hd ▸ hr.fin [], hK⟩
 · cases h
/-! ### spec.l01Byte: function 101 -/
noncomputable def spec_l01Byte (k : Nat)  (c : l01Cur) : Option (Int × (Int × Int)) :=
 if 0 ≤ (33 : Int) then
 if 0 ≤ (45 : Int) then
  cond (decide ((c.i : Int) < ((c.b).length : Int)))
   (if 0 ≤ (c.i : Int) ∧ (c.i : Int) < ((c.b).length : Int) then
    some ((bAnd .i64 (wr ((bAnd .i64 (bXor .i64 (bShr .i64 (wr ((wr (c.h * 6364136223846793005)) + 1442695040888963407)) 33) (bShr .i64 (wr ((wr (c.h * 6364136223846793005)) + 1442695040888963407)) 45)) 255) + (wr (c.b.getD (Int.toNat c.i) 0)))) 255), ((wr (c.i + 1)), (wr ((wr (c.h * 6364136223846793005)) + 1442695040888963407)))) else none)
   (some ((bAnd .i64 (bXor .i64 (bShr .i64 (wr ((wr (c.h * 6364136223846793005)) + 1442695040888963407)) 33) (bShr .i64 (wr ((wr (c.h * 6364136223846793005)) + 1442695040888963407)) 45)) 255), (c.i, (wr ((wr (c.h * 6364136223846793005)) + 1442695040888963407))))) else none else none
noncomputable def spec_l01Byte_v : Nat → List Nat := fun t => match t with | _ => []
noncomputable def spec_l01Byte_O (k : Nat) : Oracle := ofL []
theorem spec_l01Byte_Ok (k : Nat) : OkO (Ct Try.prog) (spec_l01Byte_O k) := okO_nil
noncomputable def spec_l01Byte_A (c : l01Cur) : Pk := ⟨[(.sc (.bp 1 0))], [(.row false K.ku8 c.b), (.box true [(.sl 0), (.v (.int .i64 c.i)), (.v (.int .i64 c.h))])]⟩
noncomputable def spec_l01Byte_d : Rs → Option (Int × (Int × Int))
 | ⟨(.a (.sc (.v (.int .i64 r1)))), [.dead, (.box true [(.sl 0), (.v (.int .i64 r2)), (.v (.int .i64 r3))])]⟩ => some (r1, (r2, r3))
 | _ => none
theorem spec_l01Byte_i {r : Rs} {y : Int × (Int × Int)} (h : spec_l01Byte_d r = some y) : r = ⟨(.a (.sc (.v (.int .i64 y.1)))), [.dead, (.box true [(.sl 0), (.v (.int .i64 y.2.1)), (.v (.int .i64 y.2.2))])]⟩ := by
 unfold spec_l01Byte_d at h; split at h
 · cases h; rfl
 · cases h
theorem spec_l01Byte_e (k : Nat) (c : l01Cur) : callF env (spec_l01Byte_O k) spec_l01Byte_v Try.f101 (k + 1) (spec_l01Byte_A c) (fun r => spec_l01Byte_d (r.fin 2 [])) = spec_l01Byte k c := by kernel_rfl
noncomputable def spec_l01Byte_x (k : Nat) : Ent1 := fun A R Q => match A with
 | ⟨[(.sc (.bp 1 0))], [(.row false K.ku8 a1), (.box true [(.sl 0), (.v (.int .i64 a2)), (.v (.int .i64 a3))])]⟩ => (spec_l01Byte k (⟨a1, a2, a3⟩ : l01Cur)).bind fun y => Q ⟨(.a (.sc (.v (.int .i64 y.1)))), [.dead, (.box true [(.sl 0), (.v (.int .i64 y.2.1)), (.v (.int .i64 y.2.2))])]⟩
 | _ => none
theorem spec_l01Byte_ok (k : Nat) : OkE Try.prog 101 (spec_l01Byte_x k) := by
 intro A R Q x h
 unfold spec_l01Byte_x at h
 split at h
 · obtain ⟨y, hy, hK⟩ := Option.bind_eq_some_iff.1 h
   obtain ⟨r, hr, hd⟩ := callF_ok envOk (spec_l01Byte_Ok k) follows Try.func101 (by kernel_rfl) ((spec_l01Byte_e k _).trans hy)
   exact ⟨_, spec_l01Byte_i hd ▸ hr.fin [], hK⟩
 · cases h
/-! ### spec.l01Below: function 73 -/
noncomputable def spec_l01Below (k : Nat)  (c : l01Cur) (n : Int) : Option (Int × (Int × Int)) :=
 cond (decide ((n : Int) ≤ 0))
 (some (0, (c.i, c.h)))
 (cond (decide ((n : Int) ≤ 256))
  ((spec_l01Byte k c).bind fun y1 =>
   if (n : Int) ≠ 0 then
    some ((Int.tmod y1.1 n), (y1.2.1, y1.2.2)) else none)
  ((spec_l01Byte k c).bind fun y2 =>
   (spec_l01Byte k (⟨c.b, y2.2.1, y2.2.2⟩ : l01Cur)).bind fun y3 =>
    (spec_l01Byte k (⟨c.b, y3.2.1, y3.2.2⟩ : l01Cur)).bind fun y4 =>
     (spec_l01Byte k (⟨c.b, y4.2.1, y4.2.2⟩ : l01Cur)).bind fun y5 =>
      if (n : Int) ≠ 0 then
       some ((Int.tmod (wr ((wr ((wr ((wr (y2.1 * 16777216)) + (wr (y3.1 * 65536)))) + (wr (y4.1 * 256)))) + y5.1)) n), (y5.2.1, y5.2.2)) else none))
noncomputable def spec_l01Below_v : Nat → List Nat := fun t => match t with | _ => []
noncomputable def spec_l01Below_O (k : Nat) : Oracle := ofL [(101, spec_l01Byte_x k)]
theorem spec_l01Below_Ok (k : Nat) : OkO (Ct Try.prog) (spec_l01Below_O k) := okO_cons (spec_l01Byte_ok k) (okO_nil)
noncomputable def spec_l01Below_A (c : l01Cur) (n : Int) : Pk := ⟨[(.sc (.bp 1 0)), (.sc (.v (.int .i64 n)))], [(.row false K.ku8 c.b), (.box true [(.sl 0), (.v (.int .i64 c.i)), (.v (.int .i64 c.h))])]⟩
noncomputable def spec_l01Below_d : Rs → Option (Int × (Int × Int))
 | ⟨(.a (.sc (.v (.int .i64 r1)))), [.dead, (.box true [(.sl 0), (.v (.int .i64 r2)), (.v (.int .i64 r3))])]⟩ => some (r1, (r2, r3))
 | _ => none
theorem spec_l01Below_i {r : Rs} {y : Int × (Int × Int)} (h : spec_l01Below_d r = some y) : r = ⟨(.a (.sc (.v (.int .i64 y.1)))), [.dead, (.box true [(.sl 0), (.v (.int .i64 y.2.1)), (.v (.int .i64 y.2.2))])]⟩ := by
 unfold spec_l01Below_d at h; split at h
 · cases h; rfl
 · cases h
theorem spec_l01Below_e (k : Nat) (c : l01Cur) (n : Int) : callF env (spec_l01Below_O k) spec_l01Below_v Try.f73 (k + 1) (spec_l01Below_A c n) (fun r => spec_l01Below_d (r.fin 2 [])) = spec_l01Below k c n := by kernel_rfl
noncomputable def spec_l01Below_x (k : Nat) : Ent1 := fun A R Q => match A with
 | ⟨[(.sc (.bp 1 0)), (.sc (.v (.int .i64 a4)))], [(.row false K.ku8 a1), (.box true [(.sl 0), (.v (.int .i64 a2)), (.v (.int .i64 a3))])]⟩ => (spec_l01Below k (⟨a1, a2, a3⟩ : l01Cur) a4).bind fun y => Q ⟨(.a (.sc (.v (.int .i64 y.1)))), [.dead, (.box true [(.sl 0), (.v (.int .i64 y.2.1)), (.v (.int .i64 y.2.2))])]⟩
 | _ => none
theorem spec_l01Below_ok (k : Nat) : OkE Try.prog 73 (spec_l01Below_x k) := by
 intro A R Q x h
 unfold spec_l01Below_x at h
 split at h
 · obtain ⟨y, hy, hK⟩ := Option.bind_eq_some_iff.1 h
   obtain ⟨r, hr, hd⟩ := callF_ok envOk (spec_l01Below_Ok k) follows Try.func73 (by kernel_rfl) ((spec_l01Below_e k _ _).trans hy)
   exact ⟨_, spec_l01Below_i hd ▸ hr.fin [], hK⟩
 · cases h
/-! ### spec.l37Event: function 103 -/
noncomputable def spec_l37Event (k : Nat)  (c : l01Cur) : Option (Event × (Int × Int)) :=
 (spec_l01Below k c 4).bind fun y1 =>
 cond (decide (((wr ((1 : Int) + y1.1)) : Int) = 1))
  ((spec_l01Below k (⟨c.b, y1.2.1, y1.2.2⟩ : l01Cur) 60).bind fun y2 =>
   some ((⟨(wr ((1 : Int) + y1.1)), y2.1⟩ : Event), (y2.2.1, y2.2.2)))
  (cond (decide (((wr ((1 : Int) + y1.1)) : Int) = 2))
   (cond (decide (((wr ((1 : Int) + y1.1)) : Int) = 2))
    ((spec_l01Below k (⟨c.b, y1.2.1, y1.2.2⟩ : l01Cur) 25).bind fun y3 =>
     some ((⟨(wr ((1 : Int) + y1.1)), y3.1⟩ : Event), (y3.2.1, y3.2.2)))
    (some ((⟨(wr ((1 : Int) + y1.1)), 0⟩ : Event), (y1.2.1, y1.2.2))))
   (cond (decide (((wr ((1 : Int) + y1.1)) : Int) = 3))
    ((spec_l01Below k (⟨c.b, y1.2.1, y1.2.2⟩ : l01Cur) 25).bind fun y4 =>
     some ((⟨(wr ((1 : Int) + y1.1)), y4.1⟩ : Event), (y4.2.1, y4.2.2)))
    (some ((⟨(wr ((1 : Int) + y1.1)), 0⟩ : Event), (y1.2.1, y1.2.2)))))
noncomputable def spec_l37Event_v : Nat → List Nat := fun t => match t with | _ => []
noncomputable def spec_l37Event_O (k : Nat) : Oracle := ofL [(73, spec_l01Below_x k)]
theorem spec_l37Event_Ok (k : Nat) : OkO (Ct Try.prog) (spec_l37Event_O k) := okO_cons (spec_l01Below_ok k) (okO_nil)
noncomputable def spec_l37Event_A (c : l01Cur) : Pk := ⟨[(.sc (.bp 1 0))], [(.row false K.ku8 c.b), (.box true [(.sl 0), (.v (.int .i64 c.i)), (.v (.int .i64 c.h))])]⟩
noncomputable def spec_l37Event_d : Rs → Option (Event × (Int × Int))
 | ⟨(.a (.ag [(.v (.int .i64 r1)), (.v (.int .i64 r2))])), [.dead, (.box true [(.sl 0), (.v (.int .i64 r3)), (.v (.int .i64 r4))])]⟩ => some ((⟨r1, r2⟩ : Event), (r3, r4))
 | _ => none
theorem spec_l37Event_i {r : Rs} {y : Event × (Int × Int)} (h : spec_l37Event_d r = some y) : r = ⟨(.a (.ag [(.v (.int .i64 y.1.Kind)), (.v (.int .i64 y.1.Loaves))])), [.dead, (.box true [(.sl 0), (.v (.int .i64 y.2.1)), (.v (.int .i64 y.2.2))])]⟩ := by
 unfold spec_l37Event_d at h; split at h
 · cases h; rfl
 · cases h
theorem spec_l37Event_e (k : Nat) (c : l01Cur) : callF env (spec_l37Event_O k) spec_l37Event_v Try.f103 (k + 1) (spec_l37Event_A c) (fun r => spec_l37Event_d (r.fin 2 [])) = spec_l37Event k c := by kernel_rfl
noncomputable def spec_l37Event_x (k : Nat) : Ent1 := fun A R Q => match A with
 | ⟨[(.sc (.bp 1 0))], [(.row false K.ku8 a1), (.box true [(.sl 0), (.v (.int .i64 a2)), (.v (.int .i64 a3))])]⟩ => (spec_l37Event k (⟨a1, a2, a3⟩ : l01Cur)).bind fun y => Q ⟨(.a (.ag [(.v (.int .i64 y.1.Kind)), (.v (.int .i64 y.1.Loaves))])), [.dead, (.box true [(.sl 0), (.v (.int .i64 y.2.1)), (.v (.int .i64 y.2.2))])]⟩
 | _ => none
theorem spec_l37Event_ok (k : Nat) : OkE Try.prog 103 (spec_l37Event_x k) := by
 intro A R Q x h
 unfold spec_l37Event_x at h
 split at h
 · obtain ⟨y, hy, hK⟩ := Option.bind_eq_some_iff.1 h
   obtain ⟨r, hr, hd⟩ := callF_ok envOk (spec_l37Event_Ok k) follows Try.func103 (by kernel_rfl) ((spec_l37Event_e k _).trans hy)
   exact ⟨_, spec_l37Event_i hd ▸ hr.fin [], hK⟩
 · cases h
/-! ### spec.l01In: function 38 -/
noncomputable def spec_l01In (k : Nat)  (x : Int) (least : Int) (most : Int) : Option (Bool) :=
 cond (decide ((least : Int) ≤ x))
 (some (decide ((x : Int) ≤ most)))
 (some false)
noncomputable def spec_l01In_v : Nat → List Nat := fun t => match t with | _ => []
noncomputable def spec_l01In_O (k : Nat) : Oracle := ofL []
theorem spec_l01In_Ok (k : Nat) : OkO (Ct Try.prog) (spec_l01In_O k) := okO_nil
noncomputable def spec_l01In_A (x : Int) (least : Int) (most : Int) : Pk := ⟨[(.sc (.v (.int .i64 x))), (.sc (.v (.int .i64 least))), (.sc (.v (.int .i64 most)))], []⟩
noncomputable def spec_l01In_d : Rs → Option (Bool)
 | ⟨(.a (.sc (.v (.bool r1)))), []⟩ => some r1
 | _ => none
theorem spec_l01In_i {r : Rs} {y : Bool} (h : spec_l01In_d r = some y) : r = ⟨(.a (.sc (.v (.bool y)))), []⟩ := by
 unfold spec_l01In_d at h; split at h
 · cases h; rfl
 · cases h
theorem spec_l01In_e (k : Nat) (x : Int) (least : Int) (most : Int) : callF env (spec_l01In_O k) spec_l01In_v Try.f38 (k + 1) (spec_l01In_A x least most) (fun r => spec_l01In_d (r.fin 0 [])) = spec_l01In k x least most := by kernel_rfl
noncomputable def spec_l01In_x (k : Nat) : Ent1 := fun A R Q => match A with
 | ⟨[(.sc (.v (.int .i64 a1))), (.sc (.v (.int .i64 a2))), (.sc (.v (.int .i64 a3)))], []⟩ => (spec_l01In k a1 a2 a3).bind fun y => Q ⟨(.a (.sc (.v (.bool y)))), []⟩
 | _ => none
theorem spec_l01In_ok (k : Nat) : OkE Try.prog 38 (spec_l01In_x k) := by
 intro A R Q x h
 unfold spec_l01In_x at h
 split at h
 · obtain ⟨y, hy, hK⟩ := Option.bind_eq_some_iff.1 h
   obtain ⟨r, hr, hd⟩ := callF_ok envOk (spec_l01In_Ok k) follows Try.func38 (by kernel_rfl) ((spec_l01In_e k _ _ _).trans hy)
   exact ⟨_, spec_l01In_i hd ▸ hr.fin [], hK⟩
 · cases h
/-! ### spec.RackOk: function 112 -/
noncomputable def spec_RackOk (k : Nat)  (r : Rack) : Option (Bool) :=
 (spec_l01In k r.Fresh 0 10000).bind fun y1 =>
 cond y1
  ((spec_l01In k r.Day 0 10000).bind fun y2 =>
   cond y2
    ((spec_l01In k r.Old 0 10000).bind fun y3 =>
     some y3)
    (some false))
  (some false)
noncomputable def spec_RackOk_v : Nat → List Nat := fun t => match t with | _ => []
noncomputable def spec_RackOk_O (k : Nat) : Oracle := ofL [(38, spec_l01In_x k)]
theorem spec_RackOk_Ok (k : Nat) : OkO (Ct Try.prog) (spec_RackOk_O k) := okO_cons (spec_l01In_ok k) (okO_nil)
noncomputable def spec_RackOk_A (r : Rack) : Pk := ⟨[(.ag [(.v (.int .i64 r.Fresh)), (.v (.int .i64 r.Day)), (.v (.int .i64 r.Old))])], []⟩
noncomputable def spec_RackOk_d : Rs → Option (Bool)
 | ⟨(.a (.sc (.v (.bool r1)))), []⟩ => some r1
 | _ => none
theorem spec_RackOk_i {r : Rs} {y : Bool} (h : spec_RackOk_d r = some y) : r = ⟨(.a (.sc (.v (.bool y)))), []⟩ := by
 unfold spec_RackOk_d at h; split at h
 · cases h; rfl
 · cases h
theorem spec_RackOk_e (k : Nat) (r : Rack) : callF env (spec_RackOk_O k) spec_RackOk_v Try.f112 (k + 1) (spec_RackOk_A r) (fun r => spec_RackOk_d (r.fin 0 [])) = spec_RackOk k r := by kernel_rfl
noncomputable def spec_RackOk_x (k : Nat) : Ent1 := fun A R Q => match A with
 | ⟨[(.ag [(.v (.int .i64 a1)), (.v (.int .i64 a2)), (.v (.int .i64 a3))])], []⟩ => (spec_RackOk k (⟨a1, a2, a3⟩ : Rack)).bind fun y => Q ⟨(.a (.sc (.v (.bool y)))), []⟩
 | _ => none
theorem spec_RackOk_ok (k : Nat) : OkE Try.prog 112 (spec_RackOk_x k) := by
 intro A R Q x h
 unfold spec_RackOk_x at h
 split at h
 · obtain ⟨y, hy, hK⟩ := Option.bind_eq_some_iff.1 h
   obtain ⟨r, hr, hd⟩ := callF_ok envOk (spec_RackOk_Ok k) follows Try.func112 (by kernel_rfl) ((spec_RackOk_e k _).trans hy)
   exact ⟨_, spec_RackOk_i hd ▸ hr.fin [], hK⟩
 · cases h
/-! ### spec.SellFresh: function 113 -/
noncomputable def spec_SellFresh (k : Nat)  (r : Rack) (n : Int) : Option (Rack × Int) :=
 (spec_RackOk k r).bind fun y1 =>
 cond (!y1)
  (some (r, (-1)))
  ((spec_l01In k n 0 10000).bind fun y2 =>
   cond (!y2)
    (some (r, (-1)))
    (some ((⟨(wr (r.Fresh - (mn n r.Fresh))), (wr (r.Day - (mn (wr (n - (mn n r.Fresh))) r.Day))), r.Old⟩ : Rack), (wr ((mn n r.Fresh) + (mn (wr (n - (mn n r.Fresh))) r.Day))))))
noncomputable def spec_SellFresh_v : Nat → List Nat := fun t => match t with | _ => []
noncomputable def spec_SellFresh_O (k : Nat) : Oracle := ofL [(112, spec_RackOk_x k), (38, spec_l01In_x k)]
theorem spec_SellFresh_Ok (k : Nat) : OkO (Ct Try.prog) (spec_SellFresh_O k) := okO_cons (spec_RackOk_ok k) (okO_cons (spec_l01In_ok k) (okO_nil))
noncomputable def spec_SellFresh_A (r : Rack) (n : Int) : Pk := ⟨[(.ag [(.v (.int .i64 r.Fresh)), (.v (.int .i64 r.Day)), (.v (.int .i64 r.Old))]), (.sc (.v (.int .i64 n)))], []⟩
noncomputable def spec_SellFresh_d : Rs → Option (Rack × Int)
 | ⟨(.tp [(.ag [(.v (.int .i64 r1)), (.v (.int .i64 r2)), (.v (.int .i64 r3))]), (.sc (.v (.int .i64 r4)))]), []⟩ => some ((⟨r1, r2, r3⟩ : Rack), r4)
 | _ => none
theorem spec_SellFresh_i {r : Rs} {y : Rack × Int} (h : spec_SellFresh_d r = some y) : r = ⟨(.tp [(.ag [(.v (.int .i64 y.1.Fresh)), (.v (.int .i64 y.1.Day)), (.v (.int .i64 y.1.Old))]), (.sc (.v (.int .i64 y.2)))]), []⟩ := by
 unfold spec_SellFresh_d at h; split at h
 · cases h; rfl
 · cases h
theorem spec_SellFresh_e (k : Nat) (r : Rack) (n : Int) : callF env (spec_SellFresh_O k) spec_SellFresh_v Try.f113 (k + 1) (spec_SellFresh_A r n) (fun r => spec_SellFresh_d (r.fin 0 [])) = spec_SellFresh k r n := by kernel_rfl
noncomputable def spec_SellFresh_x (k : Nat) : Ent1 := fun A R Q => match A with
 | ⟨[(.ag [(.v (.int .i64 a1)), (.v (.int .i64 a2)), (.v (.int .i64 a3))]), (.sc (.v (.int .i64 a4)))], []⟩ => (spec_SellFresh k (⟨a1, a2, a3⟩ : Rack) a4).bind fun y => Q ⟨(.tp [(.ag [(.v (.int .i64 y.1.Fresh)), (.v (.int .i64 y.1.Day)), (.v (.int .i64 y.1.Old))]), (.sc (.v (.int .i64 y.2)))]), []⟩
 | _ => none
theorem spec_SellFresh_ok (k : Nat) : OkE Try.prog 113 (spec_SellFresh_x k) := by
 intro A R Q x h
 unfold spec_SellFresh_x at h
 split at h
 · obtain ⟨y, hy, hK⟩ := Option.bind_eq_some_iff.1 h
   obtain ⟨r, hr, hd⟩ := callF_ok envOk (spec_SellFresh_Ok k) follows Try.func113 (by kernel_rfl) ((spec_SellFresh_e k _ _).trans hy)
   exact ⟨_, spec_SellFresh_i hd ▸ hr.fin [], hK⟩
 · cases h
/-! ### spec.SellCheap: function 114 -/
noncomputable def spec_SellCheap (k : Nat)  (r : Rack) (n : Int) : Option (Rack × Int) :=
 (spec_RackOk k r).bind fun y1 =>
 cond (!y1)
  (some (r, (-1)))
  ((spec_l01In k n 0 10000).bind fun y2 =>
   cond (!y2)
    (some (r, (-1)))
    (some ((⟨r.Fresh, (wr (r.Day - (mn (wr (n - (mn n r.Old))) r.Day))), (wr (r.Old - (mn n r.Old)))⟩ : Rack), (wr ((mn n r.Old) + (mn (wr (n - (mn n r.Old))) r.Day))))))
noncomputable def spec_SellCheap_v : Nat → List Nat := fun t => match t with | _ => []
noncomputable def spec_SellCheap_O (k : Nat) : Oracle := ofL [(112, spec_RackOk_x k), (38, spec_l01In_x k)]
theorem spec_SellCheap_Ok (k : Nat) : OkO (Ct Try.prog) (spec_SellCheap_O k) := okO_cons (spec_RackOk_ok k) (okO_cons (spec_l01In_ok k) (okO_nil))
noncomputable def spec_SellCheap_A (r : Rack) (n : Int) : Pk := ⟨[(.ag [(.v (.int .i64 r.Fresh)), (.v (.int .i64 r.Day)), (.v (.int .i64 r.Old))]), (.sc (.v (.int .i64 n)))], []⟩
noncomputable def spec_SellCheap_d : Rs → Option (Rack × Int)
 | ⟨(.tp [(.ag [(.v (.int .i64 r1)), (.v (.int .i64 r2)), (.v (.int .i64 r3))]), (.sc (.v (.int .i64 r4)))]), []⟩ => some ((⟨r1, r2, r3⟩ : Rack), r4)
 | _ => none
theorem spec_SellCheap_i {r : Rs} {y : Rack × Int} (h : spec_SellCheap_d r = some y) : r = ⟨(.tp [(.ag [(.v (.int .i64 y.1.Fresh)), (.v (.int .i64 y.1.Day)), (.v (.int .i64 y.1.Old))]), (.sc (.v (.int .i64 y.2)))]), []⟩ := by
 unfold spec_SellCheap_d at h; split at h
 · cases h; rfl
 · cases h
theorem spec_SellCheap_e (k : Nat) (r : Rack) (n : Int) : callF env (spec_SellCheap_O k) spec_SellCheap_v Try.f114 (k + 1) (spec_SellCheap_A r n) (fun r => spec_SellCheap_d (r.fin 0 [])) = spec_SellCheap k r n := by kernel_rfl
noncomputable def spec_SellCheap_x (k : Nat) : Ent1 := fun A R Q => match A with
 | ⟨[(.ag [(.v (.int .i64 a1)), (.v (.int .i64 a2)), (.v (.int .i64 a3))]), (.sc (.v (.int .i64 a4)))], []⟩ => (spec_SellCheap k (⟨a1, a2, a3⟩ : Rack) a4).bind fun y => Q ⟨(.tp [(.ag [(.v (.int .i64 y.1.Fresh)), (.v (.int .i64 y.1.Day)), (.v (.int .i64 y.1.Old))]), (.sc (.v (.int .i64 y.2)))]), []⟩
 | _ => none
theorem spec_SellCheap_ok (k : Nat) : OkE Try.prog 114 (spec_SellCheap_x k) := by
 intro A R Q x h
 unfold spec_SellCheap_x at h
 split at h
 · obtain ⟨y, hy, hK⟩ := Option.bind_eq_some_iff.1 h
   obtain ⟨r, hr, hd⟩ := callF_ok envOk (spec_SellCheap_Ok k) follows Try.func114 (by kernel_rfl) ((spec_SellCheap_e k _ _).trans hy)
   exact ⟨_, spec_SellCheap_i hd ▸ hr.fin [], hK⟩
 · cases h
/-! ### spec.NextMorning: function 115 -/
noncomputable def spec_NextMorning (k : Nat)  (r : Rack) (baked : Int) : Option (Rack × Int) :=
 (spec_RackOk k r).bind fun y1 =>
 cond (!y1)
  (some (r, (-1)))
  ((spec_l01In k baked 0 10000).bind fun y2 =>
   cond (!y2)
    (some (r, (-1)))
    (some ((⟨baked, r.Fresh, r.Day⟩ : Rack), r.Old)))
noncomputable def spec_NextMorning_v : Nat → List Nat := fun t => match t with | _ => []
noncomputable def spec_NextMorning_O (k : Nat) : Oracle := ofL [(112, spec_RackOk_x k), (38, spec_l01In_x k)]
theorem spec_NextMorning_Ok (k : Nat) : OkO (Ct Try.prog) (spec_NextMorning_O k) := okO_cons (spec_RackOk_ok k) (okO_cons (spec_l01In_ok k) (okO_nil))
noncomputable def spec_NextMorning_A (r : Rack) (baked : Int) : Pk := ⟨[(.ag [(.v (.int .i64 r.Fresh)), (.v (.int .i64 r.Day)), (.v (.int .i64 r.Old))]), (.sc (.v (.int .i64 baked)))], []⟩
noncomputable def spec_NextMorning_d : Rs → Option (Rack × Int)
 | ⟨(.tp [(.ag [(.v (.int .i64 r1)), (.v (.int .i64 r2)), (.v (.int .i64 r3))]), (.sc (.v (.int .i64 r4)))]), []⟩ => some ((⟨r1, r2, r3⟩ : Rack), r4)
 | _ => none
theorem spec_NextMorning_i {r : Rs} {y : Rack × Int} (h : spec_NextMorning_d r = some y) : r = ⟨(.tp [(.ag [(.v (.int .i64 y.1.Fresh)), (.v (.int .i64 y.1.Day)), (.v (.int .i64 y.1.Old))]), (.sc (.v (.int .i64 y.2)))]), []⟩ := by
 unfold spec_NextMorning_d at h; split at h
 · cases h; rfl
 · cases h
theorem spec_NextMorning_e (k : Nat) (r : Rack) (baked : Int) : callF env (spec_NextMorning_O k) spec_NextMorning_v Try.f115 (k + 1) (spec_NextMorning_A r baked) (fun r => spec_NextMorning_d (r.fin 0 [])) = spec_NextMorning k r baked := by kernel_rfl
noncomputable def spec_NextMorning_x (k : Nat) : Ent1 := fun A R Q => match A with
 | ⟨[(.ag [(.v (.int .i64 a1)), (.v (.int .i64 a2)), (.v (.int .i64 a3))]), (.sc (.v (.int .i64 a4)))], []⟩ => (spec_NextMorning k (⟨a1, a2, a3⟩ : Rack) a4).bind fun y => Q ⟨(.tp [(.ag [(.v (.int .i64 y.1.Fresh)), (.v (.int .i64 y.1.Day)), (.v (.int .i64 y.1.Old))]), (.sc (.v (.int .i64 y.2)))]), []⟩
 | _ => none
theorem spec_NextMorning_ok (k : Nat) : OkE Try.prog 115 (spec_NextMorning_x k) := by
 intro A R Q x h
 unfold spec_NextMorning_x at h
 split at h
 · obtain ⟨y, hy, hK⟩ := Option.bind_eq_some_iff.1 h
   obtain ⟨r, hr, hd⟩ := callF_ok envOk (spec_NextMorning_Ok k) follows Try.func115 (by kernel_rfl) ((spec_NextMorning_e k _ _).trans hy)
   exact ⟨_, spec_NextMorning_i hd ▸ hr.fin [], hK⟩
 · cases h
/-! ### spec.EventOn: function 110 -/
noncomputable def spec_EventOn (k : Nat)  (r : Rack) (e : Event) : Option (Rack × Int × Int × Int × Bool) :=
 (spec_RackOk k r).bind fun y1 =>
 cond (!y1)
  (some (r, 0, 0, 0, false))
  ((spec_l01In k e.Loaves 0 1000).bind fun y2 =>
   cond (!y2)
    (some (r, 0, 0, 0, false))
    (cond (decide ((e.Kind : Int) = 1))
     ((spec_RackOk k (⟨(wr (r.Fresh + e.Loaves)), r.Day, r.Old⟩ : Rack)).bind fun y3 =>
      cond y3
       (some ((⟨(wr (r.Fresh + e.Loaves)), r.Day, r.Old⟩ : Rack), e.Loaves, 0, 0, true))
       (some (r, 0, 0, 0, false)))
     (cond (decide ((e.Kind : Int) = 2))
      ((spec_SellFresh k r e.Loaves).bind fun y4 =>
       cond (decide ((y4.2 : Int) = e.Loaves))
        (some (y4.1, 0, y4.2, 0, true))
        (some (r, 0, 0, 0, false)))
      (cond (decide ((e.Kind : Int) = 3))
       ((spec_SellCheap k r e.Loaves).bind fun y5 =>
        cond (decide ((y5.2 : Int) = e.Loaves))
        (some (y5.1, 0, y5.2, 0, true))
        (some (r, 0, 0, 0, false)))
       (cond (decide ((e.Kind : Int) = 4))
        ((spec_NextMorning k r 0).bind fun y6 =>
        cond (decide ((e.Loaves : Int) = 0))
        (some (y6.1, 0, 0, y6.2, true))
        (some (r, 0, 0, 0, false)))
        (some (r, 0, 0, 0, false)))))))
noncomputable def spec_EventOn_v : Nat → List Nat := fun t => match t with | _ => []
noncomputable def spec_EventOn_O (k : Nat) : Oracle := ofL [(112, spec_RackOk_x k), (113, spec_SellFresh_x k), (114, spec_SellCheap_x k), (115, spec_NextMorning_x k), (38, spec_l01In_x k)]
theorem spec_EventOn_Ok (k : Nat) : OkO (Ct Try.prog) (spec_EventOn_O k) := okO_cons (spec_RackOk_ok k) (okO_cons (spec_SellFresh_ok k) (okO_cons (spec_SellCheap_ok k) (okO_cons (spec_NextMorning_ok k) (okO_cons (spec_l01In_ok k) (okO_nil)))))
noncomputable def spec_EventOn_A (r : Rack) (e : Event) : Pk := ⟨[(.ag [(.v (.int .i64 r.Fresh)), (.v (.int .i64 r.Day)), (.v (.int .i64 r.Old))]), (.ag [(.v (.int .i64 e.Kind)), (.v (.int .i64 e.Loaves))])], []⟩
noncomputable def spec_EventOn_d : Rs → Option (Rack × Int × Int × Int × Bool)
 | ⟨(.tp [(.ag [(.v (.int .i64 r1)), (.v (.int .i64 r2)), (.v (.int .i64 r3))]), (.sc (.v (.int .i64 r4))), (.sc (.v (.int .i64 r5))), (.sc (.v (.int .i64 r6))), (.sc (.v (.bool r7)))]), []⟩ => some ((⟨r1, r2, r3⟩ : Rack), r4, r5, r6, r7)
 | _ => none
theorem spec_EventOn_i {r : Rs} {y : Rack × Int × Int × Int × Bool} (h : spec_EventOn_d r = some y) : r = ⟨(.tp [(.ag [(.v (.int .i64 y.1.Fresh)), (.v (.int .i64 y.1.Day)), (.v (.int .i64 y.1.Old))]), (.sc (.v (.int .i64 y.2.1))), (.sc (.v (.int .i64 y.2.2.1))), (.sc (.v (.int .i64 y.2.2.2.1))), (.sc (.v (.bool y.2.2.2.2)))]), []⟩ := by
 unfold spec_EventOn_d at h; split at h
 · cases h; rfl
 · cases h
theorem spec_EventOn_e (k : Nat) (r : Rack) (e : Event) : callF env (spec_EventOn_O k) spec_EventOn_v Try.f110 (k + 1) (spec_EventOn_A r e) (fun r => spec_EventOn_d (r.fin 0 [])) = spec_EventOn k r e := by kernel_rfl
noncomputable def spec_EventOn_x (k : Nat) : Ent1 := fun A R Q => match A with
 | ⟨[(.ag [(.v (.int .i64 a1)), (.v (.int .i64 a2)), (.v (.int .i64 a3))]), (.ag [(.v (.int .i64 a4)), (.v (.int .i64 a5))])], []⟩ => (spec_EventOn k (⟨a1, a2, a3⟩ : Rack) (⟨a4, a5⟩ : Event)).bind fun y => Q ⟨(.tp [(.ag [(.v (.int .i64 y.1.Fresh)), (.v (.int .i64 y.1.Day)), (.v (.int .i64 y.1.Old))]), (.sc (.v (.int .i64 y.2.1))), (.sc (.v (.int .i64 y.2.2.1))), (.sc (.v (.int .i64 y.2.2.2.1))), (.sc (.v (.bool y.2.2.2.2)))]), []⟩
 | _ => none
theorem spec_EventOn_ok (k : Nat) : OkE Try.prog 110 (spec_EventOn_x k) := by
 intro A R Q x h
 unfold spec_EventOn_x at h
 split at h
 · obtain ⟨y, hy, hK⟩ := Option.bind_eq_some_iff.1 h
   obtain ⟨r, hr, hd⟩ := callF_ok envOk (spec_EventOn_Ok k) follows Try.func110 (by kernel_rfl) ((spec_EventOn_e k _ _).trans hy)
   exact ⟨_, spec_EventOn_i hd ▸ hr.fin [], hK⟩
 · cases h
/-! ### spec.l37Count: function 106 -/
noncomputable def spec_l37Count_s0 (k : Nat)  (events : (List Event)) (J : Int → Int → Int → Int → Int → Int → Int → Option (Book × Bool)) (x0_0 : Int) (x0_1 : Int) (x0_2 : Int) (x0_3 : Int) (x0_4 : Int) (x0_5 : Int) (x0_6 : Int) : Option (Book × Bool) :=
 cond (decide ((x0_0 : Int) < ((events).length : Int)))
 (if 0 ≤ (x0_0 : Int) ∧ (x0_0 : Int) < ((events).length : Int) then
  (spec_EventOn k (⟨x0_1, x0_2, x0_3⟩ : Rack) (events.getD (Int.toNat x0_0) dk_impl_Event)).bind fun y2 =>
   cond (!y2.2.2.2.2)
    (some ((⟨([] ++ events), (⟨x0_1, x0_2, x0_3⟩ : Rack), x0_4, x0_5, x0_6⟩ : Book), false))
    (J (wr (x0_0 + 1)) y2.1.Fresh y2.1.Day y2.1.Old (wr (x0_4 + y2.2.1)) (wr (x0_5 + y2.2.2.1)) (wr (x0_6 + y2.2.2.2.1))) else none)
 (some ((⟨([] ++ events), (⟨x0_1, x0_2, x0_3⟩ : Rack), x0_4, x0_5, x0_6⟩ : Book), true))
noncomputable def spec_l37Count_l0 (k : Nat) : Nat → (List Event) → Int → Int → Int → Int → Int → Int → Int → Option (Book × Bool)
 | 0, events, x0_0, x0_1, x0_2, x0_3, x0_4, x0_5, x0_6 => spec_l37Count_s0 k events (fun _ _ _ _ _ _ _ => none) x0_0 x0_1 x0_2 x0_3 x0_4 x0_5 x0_6
 | m + 1, events, x0_0, x0_1, x0_2, x0_3, x0_4, x0_5, x0_6 => spec_l37Count_s0 k events (spec_l37Count_l0 k m events) x0_0 x0_1 x0_2 x0_3 x0_4 x0_5 x0_6
noncomputable def spec_l37Count_m (k : Nat) (J0 : (List Event) → Int → Int → Int → Int → Int → Int → Int → Option (Book × Bool)) (events : (List Event)) : Option (Book × Bool) :=
 if ([] : List Event).length + (events : List Event).length ≤ maxRow then
 cond (decide ((40 : Int) < ((events).length : Int)))
  (some ((⟨([] ++ events), (⟨0, 0, 0⟩ : Rack), 0, 0, 0⟩ : Book), false))
  (J0 events 0 0 0 0 0 0 0) else none
noncomputable def spec_l37Count (k : Nat) (events : (List Event)) : Option (Book × Bool) := spec_l37Count_m k (spec_l37Count_l0 k k) events
noncomputable def spec_l37Count_v : Nat → List Nat := fun t => match t with | 5 => [0, 2, 3, 4, 5] | _ => []
noncomputable def spec_l37Count_O (k : Nat) : Oracle := ofL [(110, spec_EventOn_x k)]
theorem spec_l37Count_Ok (k : Nat) : OkO (Ct Try.prog) (spec_l37Count_O k) := okO_cons (spec_EventOn_ok k) (okO_nil)
noncomputable def spec_l37Count_A (events : (List Event)) : Pk := ⟨[(.sc (.sl 0))], [(.row false K.k_impl_Event events)]⟩
noncomputable def spec_l37Count_d : Rs → Option (Book × Bool)
 | ⟨(.tp [(.ag [(.sl 1), (.v (.int .i64 r2)), (.v (.int .i64 r3)), (.v (.int .i64 r4)), (.v (.int .i64 r5)), (.v (.int .i64 r6)), (.v (.int .i64 r7))]), (.sc (.v (.bool r8)))]), [.dead, (.row true K.k_impl_Event r1)]⟩ => some ((⟨r1, (⟨r2, r3, r4⟩ : Rack), r5, r6, r7⟩ : Book), r8)
 | _ => none
theorem spec_l37Count_i {r : Rs} {y : Book × Bool} (h : spec_l37Count_d r = some y) : r = ⟨(.tp [(.ag [(.sl 1), (.v (.int .i64 y.1.Rack.Fresh)), (.v (.int .i64 y.1.Rack.Day)), (.v (.int .i64 y.1.Rack.Old)), (.v (.int .i64 y.1.Baked)), (.v (.int .i64 y.1.Sold)), (.v (.int .i64 y.1.Thrown))]), (.sc (.v (.bool y.2)))]), [.dead, (.row true K.k_impl_Event y.1.Events)]⟩ := by
 unfold spec_l37Count_d at h; split at h
 · cases h; rfl
 · cases h
noncomputable def spec_l37Count_h0 (k m : Nat) (events : (List Event)) (x0_0 : Int) (x0_1 : Int) (x0_2 : Int) (x0_3 : Int) (x0_4 : Int) (x0_5 : Int) (x0_6 : Int) : Option (Book × Bool) := hdAt env (spec_l37Count_O k) spec_l37Count_v Try.f106 1 (fun r => spec_l37Count_d (r.fin 1 [])) [1, 1, 1, 0, 1, 0] k m ⟨tmF [0, 2, 3, 4, 5] [(.a (.sc (.sl 0))), (.a (.sc (.bp 2 0))), (.a (.sc (.v (.bool false)))), (.a (.sc (.bp 4 0))), (.a (.sc (.v (.int .i64 x0_0))))], blF [(.row false K.k_impl_Event events), (.row true K.k_impl_Event []), (.box true [(.sl 1), (.v (.int .i64 0)), (.v (.int .i64 0)), (.v (.int .i64 0)), (.v (.int .i64 0)), (.v (.int .i64 0)), (.v (.int .i64 0))]), (.row true K.k_impl_Event ([] ++ events)), (.box true [(.sl 3), (.v (.int .i64 x0_1)), (.v (.int .i64 x0_2)), (.v (.int .i64 x0_3)), (.v (.int .i64 x0_4)), (.v (.int .i64 x0_5)), (.v (.int .i64 x0_6))])]⟩
theorem spec_l37Count_z0 (k : Nat) (events : (List Event)) (x0_0 : Int) (x0_1 : Int) (x0_2 : Int) (x0_3 : Int) (x0_4 : Int) (x0_5 : Int) (x0_6 : Int) : spec_l37Count_h0 k 0 events x0_0 x0_1 x0_2 x0_3 x0_4 x0_5 x0_6 = spec_l37Count_s0 k events (fun _ _ _ _ _ _ _ => none) x0_0 x0_1 x0_2 x0_3 x0_4 x0_5 x0_6 := by kernel_rfl
theorem spec_l37Count_g0 (k : Nat) (H : St → Option (Book × Bool)) (events : (List Event)) (x0_0 : Int) (x0_1 : Int) (x0_2 : Int) (x0_3 : Int) (x0_4 : Int) (x0_5 : Int) (x0_6 : Int) : rnd env (spec_l37Count_O k) spec_l37Count_v Try.f106 1 (fun r => spec_l37Count_d (r.fin 1 [])) [1, 1, 1, 0, 1, 0] k H ⟨tmF [0, 2, 3, 4, 5] [(.a (.sc (.sl 0))), (.a (.sc (.bp 2 0))), (.a (.sc (.v (.bool false)))), (.a (.sc (.bp 4 0))), (.a (.sc (.v (.int .i64 x0_0))))], blF [(.row false K.k_impl_Event events), (.row true K.k_impl_Event []), (.box true [(.sl 1), (.v (.int .i64 0)), (.v (.int .i64 0)), (.v (.int .i64 0)), (.v (.int .i64 0)), (.v (.int .i64 0)), (.v (.int .i64 0))]), (.row true K.k_impl_Event ([] ++ events)), (.box true [(.sl 3), (.v (.int .i64 x0_1)), (.v (.int .i64 x0_2)), (.v (.int .i64 x0_3)), (.v (.int .i64 x0_4)), (.v (.int .i64 x0_5)), (.v (.int .i64 x0_6))])]⟩ = spec_l37Count_s0 k events (fun x0_0 x0_1 x0_2 x0_3 x0_4 x0_5 x0_6 => H ⟨tmF [0, 2, 3, 4, 5] [(.a (.sc (.sl 0))), (.a (.sc (.bp 2 0))), (.a (.sc (.v (.bool false)))), (.a (.sc (.bp 4 0))), (.a (.sc (.v (.int .i64 x0_0))))], blF [(.row false K.k_impl_Event events), (.row true K.k_impl_Event []), (.box true [(.sl 1), (.v (.int .i64 0)), (.v (.int .i64 0)), (.v (.int .i64 0)), (.v (.int .i64 0)), (.v (.int .i64 0)), (.v (.int .i64 0))]), (.row true K.k_impl_Event ([] ++ events)), (.box true [(.sl 3), (.v (.int .i64 x0_1)), (.v (.int .i64 x0_2)), (.v (.int .i64 x0_3)), (.v (.int .i64 x0_4)), (.v (.int .i64 x0_5)), (.v (.int .i64 x0_6))])]⟩) x0_0 x0_1 x0_2 x0_3 x0_4 x0_5 x0_6 := by kernel_rfl
theorem spec_l37Count_n0 (k m : Nat) (events : (List Event)) (x0_0 : Int) (x0_1 : Int) (x0_2 : Int) (x0_3 : Int) (x0_4 : Int) (x0_5 : Int) (x0_6 : Int) : spec_l37Count_h0 k (m + 1) events x0_0 x0_1 x0_2 x0_3 x0_4 x0_5 x0_6 = spec_l37Count_s0 k events (spec_l37Count_h0 k m events) x0_0 x0_1 x0_2 x0_3 x0_4 x0_5 x0_6 := (hdAt_succ _ _ _ _ _ _ _ _ _ _).trans (spec_l37Count_g0 k _ events x0_0 x0_1 x0_2 x0_3 x0_4 x0_5 x0_6)
theorem spec_l37Count_q0 (k : Nat) : ∀ m, spec_l37Count_h0 k m = spec_l37Count_l0 k m := by
 intro m
 induction m with
 | zero => funext events x0_0 x0_1 x0_2 x0_3 x0_4 x0_5 x0_6; rw [spec_l37Count_z0]; rfl
 | succ m ih => funext events x0_0 x0_1 x0_2 x0_3 x0_4 x0_5 x0_6; rw [spec_l37Count_n0, ih]; rfl
theorem spec_l37Count_e (k : Nat) (events : (List Event)) : callF env (spec_l37Count_O k) spec_l37Count_v Try.f106 (k + 1) (spec_l37Count_A events) (fun r => spec_l37Count_d (r.fin 1 [])) = spec_l37Count k events := by
 have e : callF env (spec_l37Count_O k) spec_l37Count_v Try.f106 (k + 1) (spec_l37Count_A events) (fun r => spec_l37Count_d (r.fin 1 [])) = spec_l37Count_m k (spec_l37Count_h0 k k) events := by kernel_rfl
 rw [e, spec_l37Count_q0]; rfl
noncomputable def spec_l37Count_x (k : Nat) : Ent1 := fun A R Q => match A with
 | ⟨[(.sc (.sl 0))], [(.row false K.k_impl_Event a1)]⟩ => (spec_l37Count k a1).bind fun y => Q ⟨(.tp [(.ag [(.sl 1), (.v (.int .i64 y.1.Rack.Fresh)), (.v (.int .i64 y.1.Rack.Day)), (.v (.int .i64 y.1.Rack.Old)), (.v (.int .i64 y.1.Baked)), (.v (.int .i64 y.1.Sold)), (.v (.int .i64 y.1.Thrown))]), (.sc (.v (.bool y.2)))]), [.dead, (.row true K.k_impl_Event y.1.Events)]⟩
 | _ => none
theorem spec_l37Count_ok (k : Nat) : OkE Try.prog 106 (spec_l37Count_x k) := by
 intro A R Q x h
 unfold spec_l37Count_x at h
 split at h
 · obtain ⟨y, hy, hK⟩ := Option.bind_eq_some_iff.1 h
   obtain ⟨r, hr, hd⟩ := callF_ok envOk (spec_l37Count_Ok k) follows Try.func106 (by kernel_rfl) ((spec_l37Count_e k _).trans hy)
   exact ⟨_, spec_l37Count_i hd ▸ hr.fin [], hK⟩
 · cases h
/-! ### spec.BookOk: function 85 -/
noncomputable def spec_BookOk (k : Nat)  (b : Book) : Option (Bool) :=
 (spec_l37Count k b.Events).bind fun y1 =>
 cond y1.2
  (cond (decide ((y1.1.Rack.Fresh : Int) = b.Rack.Fresh) && (decide ((y1.1.Rack.Day : Int) = b.Rack.Day) && decide ((y1.1.Rack.Old : Int) = b.Rack.Old)))
   (cond (decide ((y1.1.Baked : Int) = b.Baked))
    (cond (decide ((y1.1.Sold : Int) = b.Sold))
     (some (decide ((y1.1.Thrown : Int) = b.Thrown)))
     (some false))
    (some false))
   (some false))
  (some false)
noncomputable def spec_BookOk_v : Nat → List Nat := fun t => match t with | _ => []
noncomputable def spec_BookOk_O (k : Nat) : Oracle := ofL [(106, spec_l37Count_x k)]
theorem spec_BookOk_Ok (k : Nat) : OkO (Ct Try.prog) (spec_BookOk_O k) := okO_cons (spec_l37Count_ok k) (okO_nil)
noncomputable def spec_BookOk_A (b : Book) : Pk := ⟨[(.ag [(.sl 0), (.v (.int .i64 b.Rack.Fresh)), (.v (.int .i64 b.Rack.Day)), (.v (.int .i64 b.Rack.Old)), (.v (.int .i64 b.Baked)), (.v (.int .i64 b.Sold)), (.v (.int .i64 b.Thrown))])], [(.row false K.k_impl_Event b.Events)]⟩
noncomputable def spec_BookOk_d : Rs → Option (Bool)
 | ⟨(.a (.sc (.v (.bool r1)))), [.dead]⟩ => some r1
 | _ => none
theorem spec_BookOk_i {r : Rs} {y : Bool} (h : spec_BookOk_d r = some y) : r = ⟨(.a (.sc (.v (.bool y)))), [.dead]⟩ := by
 unfold spec_BookOk_d at h; split at h
 · cases h; rfl
 · cases h
theorem spec_BookOk_e (k : Nat) (b : Book) : callF env (spec_BookOk_O k) spec_BookOk_v Try.f85 (k + 1) (spec_BookOk_A b) (fun r => spec_BookOk_d (r.fin 1 [])) = spec_BookOk k b := by kernel_rfl
noncomputable def spec_BookOk_x (k : Nat) : Ent1 := fun A R Q => match A with
 | ⟨[(.ag [(.sl 0), (.v (.int .i64 a2)), (.v (.int .i64 a3)), (.v (.int .i64 a4)), (.v (.int .i64 a5)), (.v (.int .i64 a6)), (.v (.int .i64 a7))])], [(.row false K.k_impl_Event a1)]⟩ => (spec_BookOk k (⟨a1, (⟨a2, a3, a4⟩ : Rack), a5, a6, a7⟩ : Book)).bind fun y => Q ⟨(.a (.sc (.v (.bool y)))), [.dead]⟩
 | _ => none
theorem spec_BookOk_ok (k : Nat) : OkE Try.prog 85 (spec_BookOk_x k) := by
 intro A R Q x h
 unfold spec_BookOk_x at h
 split at h
 · obtain ⟨y, hy, hK⟩ := Option.bind_eq_some_iff.1 h
   obtain ⟨r, hr, hd⟩ := callF_ok envOk (spec_BookOk_Ok k) follows Try.func85 (by kernel_rfl) ((spec_BookOk_e k _).trans hy)
   exact ⟨_, spec_BookOk_i hd ▸ hr.fin [], hK⟩
 · cases h
/-! ### spec.l37Copy: function 89 -/
noncomputable def spec_l37Copy (k : Nat)  (b : Book) : Option (Book) :=
 if ([] : List Event).length + (b.Events : List Event).length ≤ maxRow then
 some (⟨([] ++ b.Events), b.Rack, b.Baked, b.Sold, b.Thrown⟩ : Book) else none
noncomputable def spec_l37Copy_v : Nat → List Nat := fun t => match t with | _ => []
noncomputable def spec_l37Copy_O (k : Nat) : Oracle := ofL []
theorem spec_l37Copy_Ok (k : Nat) : OkO (Ct Try.prog) (spec_l37Copy_O k) := okO_nil
noncomputable def spec_l37Copy_A (b : Book) : Pk := ⟨[(.ag [(.sl 0), (.v (.int .i64 b.Rack.Fresh)), (.v (.int .i64 b.Rack.Day)), (.v (.int .i64 b.Rack.Old)), (.v (.int .i64 b.Baked)), (.v (.int .i64 b.Sold)), (.v (.int .i64 b.Thrown))])], [(.row false K.k_impl_Event b.Events)]⟩
noncomputable def spec_l37Copy_d : Rs → Option (Book)
 | ⟨(.a (.ag [(.sl 1), (.v (.int .i64 r2)), (.v (.int .i64 r3)), (.v (.int .i64 r4)), (.v (.int .i64 r5)), (.v (.int .i64 r6)), (.v (.int .i64 r7))])), [.dead, (.row true K.k_impl_Event r1)]⟩ => some (⟨r1, (⟨r2, r3, r4⟩ : Rack), r5, r6, r7⟩ : Book)
 | _ => none
theorem spec_l37Copy_i {r : Rs} {y : Book} (h : spec_l37Copy_d r = some y) : r = ⟨(.a (.ag [(.sl 1), (.v (.int .i64 y.Rack.Fresh)), (.v (.int .i64 y.Rack.Day)), (.v (.int .i64 y.Rack.Old)), (.v (.int .i64 y.Baked)), (.v (.int .i64 y.Sold)), (.v (.int .i64 y.Thrown))])), [.dead, (.row true K.k_impl_Event y.Events)]⟩ := by
 unfold spec_l37Copy_d at h; split at h
 · cases h; rfl
 · cases h
theorem spec_l37Copy_e (k : Nat) (b : Book) : callF env (spec_l37Copy_O k) spec_l37Copy_v Try.f89 (k + 1) (spec_l37Copy_A b) (fun r => spec_l37Copy_d (r.fin 1 [])) = spec_l37Copy k b := by kernel_rfl
noncomputable def spec_l37Copy_x (k : Nat) : Ent1 := fun A R Q => match A with
 | ⟨[(.ag [(.sl 0), (.v (.int .i64 a2)), (.v (.int .i64 a3)), (.v (.int .i64 a4)), (.v (.int .i64 a5)), (.v (.int .i64 a6)), (.v (.int .i64 a7))])], [(.row false K.k_impl_Event a1)]⟩ => (spec_l37Copy k (⟨a1, (⟨a2, a3, a4⟩ : Rack), a5, a6, a7⟩ : Book)).bind fun y => Q ⟨(.a (.ag [(.sl 1), (.v (.int .i64 y.Rack.Fresh)), (.v (.int .i64 y.Rack.Day)), (.v (.int .i64 y.Rack.Old)), (.v (.int .i64 y.Baked)), (.v (.int .i64 y.Sold)), (.v (.int .i64 y.Thrown))])), [.dead, (.row true K.k_impl_Event y.Events)]⟩
 | _ => none
theorem spec_l37Copy_ok (k : Nat) : OkE Try.prog 89 (spec_l37Copy_x k) := by
 intro A R Q x h
 unfold spec_l37Copy_x at h
 split at h
 · obtain ⟨y, hy, hK⟩ := Option.bind_eq_some_iff.1 h
   obtain ⟨r, hr, hd⟩ := callF_ok envOk (spec_l37Copy_Ok k) follows Try.func89 (by kernel_rfl) ((spec_l37Copy_e k _).trans hy)
   exact ⟨_, spec_l37Copy_i hd ▸ hr.fin [], hK⟩
 · cases h
/-! ### spec.Enter: function 102 -/
noncomputable def spec_Enter (k : Nat)  (b : Book) (e : Event) : Option (Book × Bool) :=
 if ([] : List Event).length + (b.Events : List Event).length ≤ maxRow then
 if (([] ++ b.Events) : List Event).length + ([e] : List Event).length ≤ maxRow then
  (spec_l37Count k (([] ++ b.Events) ++ [e])).bind fun y1 =>
   (spec_BookOk k b).bind fun y2 =>
    cond (!y2)
     ((spec_l37Copy k b).bind fun y3 =>
      some (y3, false))
     (cond (!y1.2)
      ((spec_l37Copy k b).bind fun y4 =>
       some (y4, false))
      (some (y1.1, true))) else none else none
noncomputable def spec_Enter_v : Nat → List Nat := fun t => match t with | _ => []
noncomputable def spec_Enter_O (k : Nat) : Oracle := ofL [(106, spec_l37Count_x k), (85, spec_BookOk_x k), (89, spec_l37Copy_x k)]
theorem spec_Enter_Ok (k : Nat) : OkO (Ct Try.prog) (spec_Enter_O k) := okO_cons (spec_l37Count_ok k) (okO_cons (spec_BookOk_ok k) (okO_cons (spec_l37Copy_ok k) (okO_nil)))
noncomputable def spec_Enter_A (b : Book) (e : Event) : Pk := ⟨[(.ag [(.sl 0), (.v (.int .i64 b.Rack.Fresh)), (.v (.int .i64 b.Rack.Day)), (.v (.int .i64 b.Rack.Old)), (.v (.int .i64 b.Baked)), (.v (.int .i64 b.Sold)), (.v (.int .i64 b.Thrown))]), (.ag [(.v (.int .i64 e.Kind)), (.v (.int .i64 e.Loaves))])], [(.row false K.k_impl_Event b.Events)]⟩
noncomputable def spec_Enter_d : Rs → Option (Book × Bool)
 | ⟨(.tp [(.ag [(.sl 1), (.v (.int .i64 r2)), (.v (.int .i64 r3)), (.v (.int .i64 r4)), (.v (.int .i64 r5)), (.v (.int .i64 r6)), (.v (.int .i64 r7))]), (.sc (.v (.bool r8)))]), [.dead, (.row true K.k_impl_Event r1)]⟩ => some ((⟨r1, (⟨r2, r3, r4⟩ : Rack), r5, r6, r7⟩ : Book), r8)
 | _ => none
theorem spec_Enter_i {r : Rs} {y : Book × Bool} (h : spec_Enter_d r = some y) : r = ⟨(.tp [(.ag [(.sl 1), (.v (.int .i64 y.1.Rack.Fresh)), (.v (.int .i64 y.1.Rack.Day)), (.v (.int .i64 y.1.Rack.Old)), (.v (.int .i64 y.1.Baked)), (.v (.int .i64 y.1.Sold)), (.v (.int .i64 y.1.Thrown))]), (.sc (.v (.bool y.2)))]), [.dead, (.row true K.k_impl_Event y.1.Events)]⟩ := by
 unfold spec_Enter_d at h; split at h
 · cases h; rfl
 · cases h
theorem spec_Enter_e (k : Nat) (b : Book) (e : Event) : callF env (spec_Enter_O k) spec_Enter_v Try.f102 (k + 1) (spec_Enter_A b e) (fun r => spec_Enter_d (r.fin 1 [])) = spec_Enter k b e := by kernel_rfl
noncomputable def spec_Enter_x (k : Nat) : Ent1 := fun A R Q => match A with
 | ⟨[(.ag [(.sl 0), (.v (.int .i64 a2)), (.v (.int .i64 a3)), (.v (.int .i64 a4)), (.v (.int .i64 a5)), (.v (.int .i64 a6)), (.v (.int .i64 a7))]), (.ag [(.v (.int .i64 a8)), (.v (.int .i64 a9))])], [(.row false K.k_impl_Event a1)]⟩ => (spec_Enter k (⟨a1, (⟨a2, a3, a4⟩ : Rack), a5, a6, a7⟩ : Book) (⟨a8, a9⟩ : Event)).bind fun y => Q ⟨(.tp [(.ag [(.sl 1), (.v (.int .i64 y.1.Rack.Fresh)), (.v (.int .i64 y.1.Rack.Day)), (.v (.int .i64 y.1.Rack.Old)), (.v (.int .i64 y.1.Baked)), (.v (.int .i64 y.1.Sold)), (.v (.int .i64 y.1.Thrown))]), (.sc (.v (.bool y.2)))]), [.dead, (.row true K.k_impl_Event y.1.Events)]⟩
 | _ => none
theorem spec_Enter_ok (k : Nat) : OkE Try.prog 102 (spec_Enter_x k) := by
 intro A R Q x h
 unfold spec_Enter_x at h
 split at h
 · obtain ⟨y, hy, hK⟩ := Option.bind_eq_some_iff.1 h
   obtain ⟨r, hr, hd⟩ := callF_ok envOk (spec_Enter_Ok k) follows Try.func102 (by kernel_rfl) ((spec_Enter_e k _ _).trans hy)
   exact ⟨_, spec_Enter_i hd ▸ hr.fin [], hK⟩
 · cases h
/-! ### spec.l37Book: function 74 -/
noncomputable def spec_l37Book_s0 (k : Nat)  (c : l01Cur) (J : Int → Int → Int → (List Event) → Int → Int → Int → Int → Int → Int → Option (Book × (Int × Int))) (x0_0 : Int) (x0_1 : Int) (x0_2 : Int) (x0_3 : (List Event)) (x0_4 : Int) (x0_5 : Int) (x0_6 : Int) (x0_7 : Int) (x0_8 : Int) (x0_9 : Int) : Option (Book × (Int × Int)) :=
 cond (decide ((0 : Int) < x0_0))
 ((spec_l37Event k (⟨c.b, x0_1, x0_2⟩ : l01Cur)).bind fun y4 =>
  (spec_Enter k (⟨x0_3, (⟨x0_4, x0_5, x0_6⟩ : Rack), x0_7, x0_8, x0_9⟩ : Book) y4.1).bind fun y5 =>
   J (wr (x0_0 - 1)) y4.2.1 y4.2.2 y5.1.Events y5.1.Rack.Fresh y5.1.Rack.Day y5.1.Rack.Old y5.1.Baked y5.1.Sold y5.1.Thrown)
 (some ((⟨x0_3, (⟨x0_4, x0_5, x0_6⟩ : Rack), x0_7, x0_8, x0_9⟩ : Book), (x0_1, x0_2)))
noncomputable def spec_l37Book_l0 (k : Nat) : Nat → l01Cur → Int → Int → Int → (List Event) → Int → Int → Int → Int → Int → Int → Option (Book × (Int × Int))
 | 0, c, x0_0, x0_1, x0_2, x0_3, x0_4, x0_5, x0_6, x0_7, x0_8, x0_9 => spec_l37Book_s0 k c (fun _ _ _ _ _ _ _ _ _ _ => none) x0_0 x0_1 x0_2 x0_3 x0_4 x0_5 x0_6 x0_7 x0_8 x0_9
 | m + 1, c, x0_0, x0_1, x0_2, x0_3, x0_4, x0_5, x0_6, x0_7, x0_8, x0_9 => spec_l37Book_s0 k c (spec_l37Book_l0 k m c) x0_0 x0_1 x0_2 x0_3 x0_4 x0_5 x0_6 x0_7 x0_8 x0_9
noncomputable def spec_l37Book_m (k : Nat) (J0 : l01Cur → Int → Int → Int → (List Event) → Int → Int → Int → Int → Int → Int → Option (Book × (Int × Int))) (c : l01Cur) : Option (Book × (Int × Int)) :=
 (spec_l01Below k c 12).bind fun y1 =>
 J0 c y1.1 y1.2.1 y1.2.2 ([]) 0 0 0 0 0 0
noncomputable def spec_l37Book (k : Nat) (c : l01Cur) : Option (Book × (Int × Int)) := spec_l37Book_m k (spec_l37Book_l0 k k) c
noncomputable def spec_l37Book_v : Nat → List Nat := fun t => match t with | 3 => [0, 2, 3, 4] | _ => []
noncomputable def spec_l37Book_O (k : Nat) : Oracle := ofL [(102, spec_Enter_x k), (103, spec_l37Event_x k), (73, spec_l01Below_x k)]
theorem spec_l37Book_Ok (k : Nat) : OkO (Ct Try.prog) (spec_l37Book_O k) := okO_cons (spec_Enter_ok k) (okO_cons (spec_l37Event_ok k) (okO_cons (spec_l01Below_ok k) (okO_nil)))
noncomputable def spec_l37Book_A (c : l01Cur) : Pk := ⟨[(.sc (.bp 1 0))], [(.row false K.ku8 c.b), (.box true [(.sl 0), (.v (.int .i64 c.i)), (.v (.int .i64 c.h))])]⟩
noncomputable def spec_l37Book_d : Rs → Option (Book × (Int × Int))
 | ⟨(.a (.ag [(.sl 2), (.v (.int .i64 r2)), (.v (.int .i64 r3)), (.v (.int .i64 r4)), (.v (.int .i64 r5)), (.v (.int .i64 r6)), (.v (.int .i64 r7))])), [.dead, (.box true [(.sl 0), (.v (.int .i64 r8)), (.v (.int .i64 r9))]), (.row true K.k_impl_Event r1)]⟩ => some ((⟨r1, (⟨r2, r3, r4⟩ : Rack), r5, r6, r7⟩ : Book), (r8, r9))
 | _ => none
theorem spec_l37Book_i {r : Rs} {y : Book × (Int × Int)} (h : spec_l37Book_d r = some y) : r = ⟨(.a (.ag [(.sl 2), (.v (.int .i64 y.1.Rack.Fresh)), (.v (.int .i64 y.1.Rack.Day)), (.v (.int .i64 y.1.Rack.Old)), (.v (.int .i64 y.1.Baked)), (.v (.int .i64 y.1.Sold)), (.v (.int .i64 y.1.Thrown))])), [.dead, (.box true [(.sl 0), (.v (.int .i64 y.2.1)), (.v (.int .i64 y.2.2))]), (.row true K.k_impl_Event y.1.Events)]⟩ := by
 unfold spec_l37Book_d at h; split at h
 · cases h; rfl
 · cases h
noncomputable def spec_l37Book_h0 (k m : Nat) (c : l01Cur) (x0_0 : Int) (x0_1 : Int) (x0_2 : Int) (x0_3 : (List Event)) (x0_4 : Int) (x0_5 : Int) (x0_6 : Int) (x0_7 : Int) (x0_8 : Int) (x0_9 : Int) : Option (Book × (Int × Int)) := hdAt env (spec_l37Book_O k) spec_l37Book_v Try.f74 2 (fun r => spec_l37Book_d (r.fin 2 [])) [1, 1, 0, 1, 0] k m ⟨tmF [0, 2, 3, 4] [(.a (.sc (.bp 1 0))), (.a (.sc (.bp 3 0))), (.a (.sc (.bp 5 0))), (.a (.sc (.v (.int .i64 x0_0))))], blF [(.row false K.ku8 c.b), (.box true [(.sl 0), (.v (.int .i64 x0_1)), (.v (.int .i64 x0_2))]), (.row true K.k_impl_Event []), (.box true [(.sl 2), (.v (.int .i64 0)), (.v (.int .i64 0)), (.v (.int .i64 0)), (.v (.int .i64 0)), (.v (.int .i64 0)), (.v (.int .i64 0))]), (.row true K.k_impl_Event x0_3), (.box true [(.sl 4), (.v (.int .i64 x0_4)), (.v (.int .i64 x0_5)), (.v (.int .i64 x0_6)), (.v (.int .i64 x0_7)), (.v (.int .i64 x0_8)), (.v (.int .i64 x0_9))])]⟩
theorem spec_l37Book_z0 (k : Nat) (c : l01Cur) (x0_0 : Int) (x0_1 : Int) (x0_2 : Int) (x0_3 : (List Event)) (x0_4 : Int) (x0_5 : Int) (x0_6 : Int) (x0_7 : Int) (x0_8 : Int) (x0_9 : Int) : spec_l37Book_h0 k 0 c x0_0 x0_1 x0_2 x0_3 x0_4 x0_5 x0_6 x0_7 x0_8 x0_9 = spec_l37Book_s0 k c (fun _ _ _ _ _ _ _ _ _ _ => none) x0_0 x0_1 x0_2 x0_3 x0_4 x0_5 x0_6 x0_7 x0_8 x0_9 := by kernel_rfl
theorem spec_l37Book_g0 (k : Nat) (H : St → Option (Book × (Int × Int))) (c : l01Cur) (x0_0 : Int) (x0_1 : Int) (x0_2 : Int) (x0_3 : (List Event)) (x0_4 : Int) (x0_5 : Int) (x0_6 : Int) (x0_7 : Int) (x0_8 : Int) (x0_9 : Int) : rnd env (spec_l37Book_O k) spec_l37Book_v Try.f74 2 (fun r => spec_l37Book_d (r.fin 2 [])) [1, 1, 0, 1, 0] k H ⟨tmF [0, 2, 3, 4] [(.a (.sc (.bp 1 0))), (.a (.sc (.bp 3 0))), (.a (.sc (.bp 5 0))), (.a (.sc (.v (.int .i64 x0_0))))], blF [(.row false K.ku8 c.b), (.box true [(.sl 0), (.v (.int .i64 x0_1)), (.v (.int .i64 x0_2))]), (.row true K.k_impl_Event []), (.box true [(.sl 2), (.v (.int .i64 0)), (.v (.int .i64 0)), (.v (.int .i64 0)), (.v (.int .i64 0)), (.v (.int .i64 0)), (.v (.int .i64 0))]), (.row true K.k_impl_Event x0_3), (.box true [(.sl 4), (.v (.int .i64 x0_4)), (.v (.int .i64 x0_5)), (.v (.int .i64 x0_6)), (.v (.int .i64 x0_7)), (.v (.int .i64 x0_8)), (.v (.int .i64 x0_9))])]⟩ = spec_l37Book_s0 k c (fun x0_0 x0_1 x0_2 x0_3 x0_4 x0_5 x0_6 x0_7 x0_8 x0_9 => H ⟨tmF [0, 2, 3, 4] [(.a (.sc (.bp 1 0))), (.a (.sc (.bp 3 0))), (.a (.sc (.bp 5 0))), (.a (.sc (.v (.int .i64 x0_0))))], blF [(.row false K.ku8 c.b), (.box true [(.sl 0), (.v (.int .i64 x0_1)), (.v (.int .i64 x0_2))]), (.row true K.k_impl_Event []), (.box true [(.sl 2), (.v (.int .i64 0)), (.v (.int .i64 0)), (.v (.int .i64 0)), (.v (.int .i64 0)), (.v (.int .i64 0)), (.v (.int .i64 0))]), (.row true K.k_impl_Event x0_3), (.box true [(.sl 4), (.v (.int .i64 x0_4)), (.v (.int .i64 x0_5)), (.v (.int .i64 x0_6)), (.v (.int .i64 x0_7)), (.v (.int .i64 x0_8)), (.v (.int .i64 x0_9))])]⟩) x0_0 x0_1 x0_2 x0_3 x0_4 x0_5 x0_6 x0_7 x0_8 x0_9 := by kernel_rfl
theorem spec_l37Book_n0 (k m : Nat) (c : l01Cur) (x0_0 : Int) (x0_1 : Int) (x0_2 : Int) (x0_3 : (List Event)) (x0_4 : Int) (x0_5 : Int) (x0_6 : Int) (x0_7 : Int) (x0_8 : Int) (x0_9 : Int) : spec_l37Book_h0 k (m + 1) c x0_0 x0_1 x0_2 x0_3 x0_4 x0_5 x0_6 x0_7 x0_8 x0_9 = spec_l37Book_s0 k c (spec_l37Book_h0 k m c) x0_0 x0_1 x0_2 x0_3 x0_4 x0_5 x0_6 x0_7 x0_8 x0_9 := (hdAt_succ _ _ _ _ _ _ _ _ _ _).trans (spec_l37Book_g0 k _ c x0_0 x0_1 x0_2 x0_3 x0_4 x0_5 x0_6 x0_7 x0_8 x0_9)
theorem spec_l37Book_q0 (k : Nat) : ∀ m, spec_l37Book_h0 k m = spec_l37Book_l0 k m := by
 intro m
 induction m with
 | zero => funext c x0_0 x0_1 x0_2 x0_3 x0_4 x0_5 x0_6 x0_7 x0_8 x0_9; rw [spec_l37Book_z0]; rfl
 | succ m ih => funext c x0_0 x0_1 x0_2 x0_3 x0_4 x0_5 x0_6 x0_7 x0_8 x0_9; rw [spec_l37Book_n0, ih]; rfl
theorem spec_l37Book_e (k : Nat) (c : l01Cur) : callF env (spec_l37Book_O k) spec_l37Book_v Try.f74 (k + 1) (spec_l37Book_A c) (fun r => spec_l37Book_d (r.fin 2 [])) = spec_l37Book k c := by
 have e : callF env (spec_l37Book_O k) spec_l37Book_v Try.f74 (k + 1) (spec_l37Book_A c) (fun r => spec_l37Book_d (r.fin 2 [])) = spec_l37Book_m k (spec_l37Book_h0 k k) c := by kernel_rfl
 rw [e, spec_l37Book_q0]; rfl
noncomputable def spec_l37Book_x (k : Nat) : Ent1 := fun A R Q => match A with
 | ⟨[(.sc (.bp 1 0))], [(.row false K.ku8 a1), (.box true [(.sl 0), (.v (.int .i64 a2)), (.v (.int .i64 a3))])]⟩ => (spec_l37Book k (⟨a1, a2, a3⟩ : l01Cur)).bind fun y => Q ⟨(.a (.ag [(.sl 2), (.v (.int .i64 y.1.Rack.Fresh)), (.v (.int .i64 y.1.Rack.Day)), (.v (.int .i64 y.1.Rack.Old)), (.v (.int .i64 y.1.Baked)), (.v (.int .i64 y.1.Sold)), (.v (.int .i64 y.1.Thrown))])), [.dead, (.box true [(.sl 0), (.v (.int .i64 y.2.1)), (.v (.int .i64 y.2.2))]), (.row true K.k_impl_Event y.1.Events)]⟩
 | _ => none
theorem spec_l37Book_ok (k : Nat) : OkE Try.prog 74 (spec_l37Book_x k) := by
 intro A R Q x h
 unfold spec_l37Book_x at h
 split at h
 · obtain ⟨y, hy, hK⟩ := Option.bind_eq_some_iff.1 h
   obtain ⟨r, hr, hd⟩ := callF_ok envOk (spec_l37Book_Ok k) follows Try.func74 (by kernel_rfl) ((spec_l37Book_e k _).trans hy)
   exact ⟨_, spec_l37Book_i hd ▸ hr.fin [], hK⟩
 · cases h
/-! ### spec.DrawBook: function 28 -/
noncomputable def spec_DrawBook (k : Nat)  (code : (List Int)) : Option (Book) :=
 (spec_l01New k code).bind fun y1 =>
 (spec_l37Book k (⟨code, y1.1, y1.2⟩ : l01Cur)).bind fun y2 =>
  some y2.1
noncomputable def spec_DrawBook_v : Nat → List Nat := fun t => match t with | _ => []
noncomputable def spec_DrawBook_O (k : Nat) : Oracle := ofL [(34, spec_l01New_x k), (74, spec_l37Book_x k)]
theorem spec_DrawBook_Ok (k : Nat) : OkO (Ct Try.prog) (spec_DrawBook_O k) := okO_cons (spec_l01New_ok k) (okO_cons (spec_l37Book_ok k) (okO_nil))
noncomputable def spec_DrawBook_A (code : (List Int)) : Pk := ⟨[(.sc (.sl 0))], [(.row false K.ku8 code)]⟩
noncomputable def spec_DrawBook_d : Rs → Option (Book)
 | ⟨(.a (.ag [(.sl 1), (.v (.int .i64 r2)), (.v (.int .i64 r3)), (.v (.int .i64 r4)), (.v (.int .i64 r5)), (.v (.int .i64 r6)), (.v (.int .i64 r7))])), [.dead, (.row true K.k_impl_Event r1)]⟩ => some (⟨r1, (⟨r2, r3, r4⟩ : Rack), r5, r6, r7⟩ : Book)
 | _ => none
theorem spec_DrawBook_i {r : Rs} {y : Book} (h : spec_DrawBook_d r = some y) : r = ⟨(.a (.ag [(.sl 1), (.v (.int .i64 y.Rack.Fresh)), (.v (.int .i64 y.Rack.Day)), (.v (.int .i64 y.Rack.Old)), (.v (.int .i64 y.Baked)), (.v (.int .i64 y.Sold)), (.v (.int .i64 y.Thrown))])), [.dead, (.row true K.k_impl_Event y.Events)]⟩ := by
 unfold spec_DrawBook_d at h; split at h
 · cases h; rfl
 · cases h
theorem spec_DrawBook_e (k : Nat) (code : (List Int)) : callF env (spec_DrawBook_O k) spec_DrawBook_v Try.f28 (k + 1) (spec_DrawBook_A code) (fun r => spec_DrawBook_d (r.fin 1 [])) = spec_DrawBook k code := by kernel_rfl
noncomputable def spec_DrawBook_x (k : Nat) : Ent1 := fun A R Q => match A with
 | ⟨[(.sc (.sl 0))], [(.row false K.ku8 a1)]⟩ => (spec_DrawBook k a1).bind fun y => Q ⟨(.a (.ag [(.sl 1), (.v (.int .i64 y.Rack.Fresh)), (.v (.int .i64 y.Rack.Day)), (.v (.int .i64 y.Rack.Old)), (.v (.int .i64 y.Baked)), (.v (.int .i64 y.Sold)), (.v (.int .i64 y.Thrown))])), [.dead, (.row true K.k_impl_Event y.Events)]⟩
 | _ => none
theorem spec_DrawBook_ok (k : Nat) : OkE Try.prog 28 (spec_DrawBook_x k) := by
 intro A R Q x h
 unfold spec_DrawBook_x at h
 split at h
 · obtain ⟨y, hy, hK⟩ := Option.bind_eq_some_iff.1 h
   obtain ⟨r, hr, hd⟩ := callF_ok envOk (spec_DrawBook_Ok k) follows Try.func28 (by kernel_rfl) ((spec_DrawBook_e k _).trans hy)
   exact ⟨_, spec_DrawBook_i hd ▸ hr.fin [], hK⟩
 · cases h
/-! ### impl.in: function 53 -/
noncomputable def impl_in (k : Nat)  (n : Int) (low : Int) (high : Int) : Option (Bool) :=
 cond (decide ((low : Int) ≤ n))
 (some (decide ((n : Int) ≤ high)))
 (some false)
noncomputable def impl_in_v : Nat → List Nat := fun t => match t with | _ => []
noncomputable def impl_in_O (k : Nat) : Oracle := ofL []
theorem impl_in_Ok (k : Nat) : OkO (Ct Try.prog) (impl_in_O k) := okO_nil
noncomputable def impl_in_A (n : Int) (low : Int) (high : Int) : Pk := ⟨[(.sc (.v (.int .i64 n))), (.sc (.v (.int .i64 low))), (.sc (.v (.int .i64 high)))], []⟩
noncomputable def impl_in_d : Rs → Option (Bool)
 | ⟨(.a (.sc (.v (.bool r1)))), []⟩ => some r1
 | _ => none
theorem impl_in_i {r : Rs} {y : Bool} (h : impl_in_d r = some y) : r = ⟨(.a (.sc (.v (.bool y)))), []⟩ := by
 unfold impl_in_d at h; split at h
 · cases h; rfl
 · cases h
theorem impl_in_e (k : Nat) (n : Int) (low : Int) (high : Int) : callF env (impl_in_O k) impl_in_v Try.f53 (k + 1) (impl_in_A n low high) (fun r => impl_in_d (r.fin 0 [])) = impl_in k n low high := by kernel_rfl
noncomputable def impl_in_x (k : Nat) : Ent1 := fun A R Q => match A with
 | ⟨[(.sc (.v (.int .i64 a1))), (.sc (.v (.int .i64 a2))), (.sc (.v (.int .i64 a3)))], []⟩ => (impl_in k a1 a2 a3).bind fun y => Q ⟨(.a (.sc (.v (.bool y)))), []⟩
 | _ => none
theorem impl_in_ok (k : Nat) : OkE Try.prog 53 (impl_in_x k) := by
 intro A R Q x h
 unfold impl_in_x at h
 split at h
 · obtain ⟨y, hy, hK⟩ := Option.bind_eq_some_iff.1 h
   obtain ⟨r, hr, hd⟩ := callF_ok envOk (impl_in_Ok k) follows Try.func53 (by kernel_rfl) ((impl_in_e k _ _ _).trans hy)
   exact ⟨_, impl_in_i hd ▸ hr.fin [], hK⟩
 · cases h
/-! ### impl.allIn$1: function 108 -/
noncomputable def impl_allIn_1 (k : Nat)  (n : Int) (p1 : Int) (p2 : Int) : Option (Bool) :=
 (impl_in k n p1 p2).bind fun y1 =>
 some (!y1)
noncomputable def impl_allIn_1_v : Nat → List Nat := fun t => match t with | _ => []
noncomputable def impl_allIn_1_O (k : Nat) : Oracle := ofL [(53, impl_in_x k)]
theorem impl_allIn_1_Ok (k : Nat) : OkO (Ct Try.prog) (impl_allIn_1_O k) := okO_cons (impl_in_ok k) (okO_nil)
noncomputable def impl_allIn_1_A (n : Int) (p1 : Int) (p2 : Int) : Pk := ⟨[(.sc (.v (.int .i64 n))), (.sc (.bp 0 0)), (.sc (.bp 1 0))], [(.box false [(.v (.int .i64 p1))]), (.box false [(.v (.int .i64 p2))])]⟩
noncomputable def impl_allIn_1_d : Rs → Option (Bool)
 | ⟨(.a (.sc (.v (.bool r1)))), [.dead, .dead]⟩ => some r1
 | _ => none
theorem impl_allIn_1_i {r : Rs} {y : Bool} (h : impl_allIn_1_d r = some y) : r = ⟨(.a (.sc (.v (.bool y)))), [.dead, .dead]⟩ := by
 unfold impl_allIn_1_d at h; split at h
 · cases h; rfl
 · cases h
theorem impl_allIn_1_e (k : Nat) (n : Int) (p1 : Int) (p2 : Int) : callF env (impl_allIn_1_O k) impl_allIn_1_v Try.f108 (k + 1) (impl_allIn_1_A n p1 p2) (fun r => impl_allIn_1_d (r.fin 2 [])) = impl_allIn_1 k n p1 p2 := by kernel_rfl
noncomputable def impl_allIn_1_x (k : Nat) : Ent1 := fun A R Q => match A with
 | ⟨[(.sc (.v (.int .i64 a1))), (.sc (.bp 0 0)), (.sc (.bp 1 0))], [(.box false [(.v (.int .i64 a2))]), (.box false [(.v (.int .i64 a3))])]⟩ => (impl_allIn_1 k a1 a2 a3).bind fun y => Q ⟨(.a (.sc (.v (.bool y)))), [.dead, .dead]⟩
 | _ => none
theorem impl_allIn_1_ok (k : Nat) : OkE Try.prog 108 (impl_allIn_1_x k) := by
 intro A R Q x h
 unfold impl_allIn_1_x at h
 split at h
 · obtain ⟨y, hy, hK⟩ := Option.bind_eq_some_iff.1 h
   obtain ⟨r, hr, hd⟩ := callF_ok envOk (impl_allIn_1_Ok k) follows Try.func108 (by kernel_rfl) ((impl_allIn_1_e k _ _ _).trans hy)
   exact ⟨_, impl_allIn_1_i hd ▸ hr.fin [], hK⟩
 · cases h
end Go.Proofs.YtlhcphoojiemmaaX
