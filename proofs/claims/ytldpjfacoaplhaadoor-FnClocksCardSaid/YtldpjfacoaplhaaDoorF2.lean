/- What functions of the program compute, as functions of numbers and lists, and that they do. (The file is written by wip/x/vxp.py of this repository.) -/
import Derived.Test.YtldpjfacoaplhaaDoorF1
import Derived.Test.YtldpjfacoaplhaaDoorX18
namespace Go.Proofs.YtldpjfacoaplhaaDoorX
open Go Go.Proofs
set_option linter.unusedVariables false
set_option maxRecDepth 100000
/-! ### impl.actWords: function 38 -/
noncomputable def impl_actWords (k : Nat)  : Option ((List ByteArray)) :=
 some ([(ByteArray.mk #[98, 97, 107, 101]), (ByteArray.mk #[115, 101, 108, 108]), (ByteArray.mk #[99, 104, 101, 97, 112]), (ByteArray.mk #[109, 111, 114, 110, 105, 110, 103]), (ByteArray.mk #[98, 117, 121]), (ByteArray.mk #[102, 108, 111, 117, 114])])
noncomputable def impl_actWords_v : Nat → List Nat := fun t => match t with | _ => []
noncomputable def impl_actWords_O (k : Nat) : Oracle := ofL []
theorem impl_actWords_Ok (k : Nat) : OkO (Ct Tryd.prog) (impl_actWords_O k) := okO_nil
noncomputable def impl_actWords_A : Pk := ⟨[], []⟩
noncomputable def impl_actWords_d : Rs → Option ((List ByteArray))
 | ⟨(.a (.sc (.sl 0))), [(.row true K.kstr r1)]⟩ => some r1
 | _ => none
theorem impl_actWords_i {r : Rs} {y : (List ByteArray)} (h : impl_actWords_d r = some y) : r = ⟨(.a (.sc (.sl 0))), [(.row true K.kstr y)]⟩ := by
 unfold impl_actWords_d at h; split at h
 · cases h; rfl
 · cases h
theorem impl_actWords_e (k : Nat) : callF env (impl_actWords_O k) impl_actWords_v Tryd.f38 (k + 1) (impl_actWords_A) (fun r => impl_actWords_d (r.fin 0 [])) = impl_actWords k := by kernel_rfl
noncomputable def impl_actWords_x (k : Nat) : Ent1 := fun A R Q => match A with
 | ⟨[], []⟩ => (impl_actWords k).bind fun y => Q ⟨(.a (.sc (.sl 0))), [(.row true K.kstr y)]⟩
 | _ => none
theorem impl_actWords_ok (k : Nat) : OkE Tryd.prog 38 (impl_actWords_x k) := by
 intro A R Q x h
 unfold impl_actWords_x at h
 split at h
 · obtain ⟨y, hy, hK⟩ := Option.bind_eq_some_iff.1 h
   obtain ⟨r, hr, hd⟩ := callF_ok envOk (impl_actWords_Ok k) follows Tryd.func38 (by kernel_rfl) ((impl_actWords_e k).trans hy)
   exact ⟨_, impl_actWords_i hd ▸ hr.fin [], hK⟩
 · cases h
/-! ### impl.actNumbers: function 39 -/
noncomputable def impl_actNumbers (k : Nat)  : Option ((List Int)) :=
 some ([1, 1, 1, 0, 2, 1])
noncomputable def impl_actNumbers_v : Nat → List Nat := fun t => match t with | _ => []
noncomputable def impl_actNumbers_O (k : Nat) : Oracle := ofL []
theorem impl_actNumbers_Ok (k : Nat) : OkO (Ct Tryd.prog) (impl_actNumbers_O k) := okO_nil
noncomputable def impl_actNumbers_A : Pk := ⟨[], []⟩
noncomputable def impl_actNumbers_d : Rs → Option ((List Int))
 | ⟨(.a (.sc (.sl 0))), [(.row true K.ki64 r1)]⟩ => some r1
 | _ => none
theorem impl_actNumbers_i {r : Rs} {y : (List Int)} (h : impl_actNumbers_d r = some y) : r = ⟨(.a (.sc (.sl 0))), [(.row true K.ki64 y)]⟩ := by
 unfold impl_actNumbers_d at h; split at h
 · cases h; rfl
 · cases h
theorem impl_actNumbers_e (k : Nat) : callF env (impl_actNumbers_O k) impl_actNumbers_v Tryd.f39 (k + 1) (impl_actNumbers_A) (fun r => impl_actNumbers_d (r.fin 0 [])) = impl_actNumbers k := by kernel_rfl
noncomputable def impl_actNumbers_x (k : Nat) : Ent1 := fun A R Q => match A with
 | ⟨[], []⟩ => (impl_actNumbers k).bind fun y => Q ⟨(.a (.sc (.sl 0))), [(.row true K.ki64 y)]⟩
 | _ => none
theorem impl_actNumbers_ok (k : Nat) : OkE Tryd.prog 39 (impl_actNumbers_x k) := by
 intro A R Q x h
 unfold impl_actNumbers_x at h
 split at h
 · obtain ⟨y, hy, hK⟩ := Option.bind_eq_some_iff.1 h
   obtain ⟨r, hr, hd⟩ := callF_ok envOk (impl_actNumbers_Ok k) follows Tryd.func39 (by kernel_rfl) ((impl_actNumbers_e k).trans hy)
   exact ⟨_, impl_actNumbers_i hd ▸ hr.fin [], hK⟩
 · cases h
/-! ### impl.ActOk: function 40 -/
noncomputable def impl_ActOk (k : Nat)  (a : Deed) : Option (Bool) :=
 cond (decide ((a.Kind : Int) = 1))
 (cond (decide ((a.Kind : Int) = 1))
  ((impl_in k a.A 0 1000).bind fun y1 =>
   cond y1
    (some (decide ((a.B : Int) = 0)))
    (some false))
  (cond (decide ((a.Kind : Int) = 4))
   (cond (decide ((a.A : Int) = 0))
    (some (decide ((a.B : Int) = 0)))
    (some false))
   (cond (decide ((a.Kind : Int) = 5))
    ((impl_in k a.A 0 3).bind fun y2 =>
     cond y2
      ((impl_in k a.B 0 100000).bind fun y3 =>
       some y3)
      (some false))
    (some false))))
 (cond (decide ((a.Kind : Int) = 2))
  (cond (decide ((a.Kind : Int) = 2))
   ((impl_in k a.A 0 1000).bind fun y4 =>
    cond y4
     (some (decide ((a.B : Int) = 0)))
     (some false))
   (cond (decide ((a.Kind : Int) = 4))
    (cond (decide ((a.A : Int) = 0))
     (some (decide ((a.B : Int) = 0)))
     (some false))
    (cond (decide ((a.Kind : Int) = 5))
     ((impl_in k a.A 0 3).bind fun y5 =>
      cond y5
       ((impl_in k a.B 0 100000).bind fun y6 =>
        some y6)
       (some false))
     (some false))))
  (cond (decide ((a.Kind : Int) = 3))
   (cond (decide ((a.Kind : Int) = 3))
    ((impl_in k a.A 0 1000).bind fun y7 =>
     cond y7
      (some (decide ((a.B : Int) = 0)))
      (some false))
    (cond (decide ((a.Kind : Int) = 4))
     (cond (decide ((a.A : Int) = 0))
      (some (decide ((a.B : Int) = 0)))
      (some false))
     (cond (decide ((a.Kind : Int) = 5))
      ((impl_in k a.A 0 3).bind fun y8 =>
       cond y8
        ((impl_in k a.B 0 100000).bind fun y9 =>
        some y9)
        (some false))
      (some false))))
   (cond (decide ((a.Kind : Int) = 6))
    ((impl_in k a.A 0 1000).bind fun y10 =>
     cond y10
      (some (decide ((a.B : Int) = 0)))
      (some false))
    (cond (decide ((a.Kind : Int) = 4))
     (cond (decide ((a.A : Int) = 0))
      (some (decide ((a.B : Int) = 0)))
      (some false))
     (cond (decide ((a.Kind : Int) = 5))
      ((impl_in k a.A 0 3).bind fun y11 =>
       cond y11
        ((impl_in k a.B 0 100000).bind fun y12 =>
        some y12)
        (some false))
      (some false))))))
noncomputable def impl_ActOk_v : Nat → List Nat := fun t => match t with | _ => []
noncomputable def impl_ActOk_O (k : Nat) : Oracle := ofL [(30, impl_in_x k)]
theorem impl_ActOk_Ok (k : Nat) : OkO (Ct Tryd.prog) (impl_ActOk_O k) := okO_cons (impl_in_ok k) (okO_nil)
noncomputable def impl_ActOk_A (a : Deed) : Pk := ⟨[(.ag [(.v (.int .i64 a.Kind)), (.v (.int .i64 a.A)), (.v (.int .i64 a.B))])], []⟩
noncomputable def impl_ActOk_d : Rs → Option (Bool)
 | ⟨(.a (.sc (.v (.bool r1)))), []⟩ => some r1
 | _ => none
theorem impl_ActOk_i {r : Rs} {y : Bool} (h : impl_ActOk_d r = some y) : r = ⟨(.a (.sc (.v (.bool y)))), []⟩ := by
 unfold impl_ActOk_d at h; split at h
 · cases h; rfl
 · cases h
theorem impl_ActOk_e (k : Nat) (a : Deed) : callF env (impl_ActOk_O k) impl_ActOk_v Tryd.f40 (k + 1) (impl_ActOk_A a) (fun r => impl_ActOk_d (r.fin 0 [])) = impl_ActOk k a := by kernel_rfl
noncomputable def impl_ActOk_x (k : Nat) : Ent1 := fun A R Q => match A with
 | ⟨[(.ag [(.v (.int .i64 a1)), (.v (.int .i64 a2)), (.v (.int .i64 a3))])], []⟩ => (impl_ActOk k (⟨a1, a2, a3⟩ : Deed)).bind fun y => Q ⟨(.a (.sc (.v (.bool y)))), []⟩
 | _ => none
theorem impl_ActOk_ok (k : Nat) : OkE Tryd.prog 40 (impl_ActOk_x k) := by
 intro A R Q x h
 unfold impl_ActOk_x at h
 split at h
 · obtain ⟨y, hy, hK⟩ := Option.bind_eq_some_iff.1 h
   obtain ⟨r, hr, hd⟩ := callF_ok envOk (impl_ActOk_Ok k) follows Tryd.func40 (by kernel_rfl) ((impl_ActOk_e k _).trans hy)
   exact ⟨_, impl_ActOk_i hd ▸ hr.fin [], hK⟩
 · cases h
/-! ### impl.ParseAct: function 18 -/
noncomputable def impl_ParseAct_s0 (k : Nat)  (y1 : (List ByteArray) × Bool) (y3 : Int × (List ByteArray)) (J : Int → Int → Int → Option (Deed × Bool)) (x0_0 : Int) (x0_1 : Int) (x0_2 : Int) : Option (Deed × Bool) :=
 cond (decide ((x0_0 : Int) < ((((y1.1.take (Int.toNat ((y1.1).length : Int))).drop 1)).length : Int)))
 (if 0 ≤ (x0_0 : Int) ∧ (x0_0 : Int) < ((((y1.1.take (Int.toNat ((y1.1).length : Int))).drop 1)).length : Int) then
  (impl_ParseUint k (((y1.1.take (Int.toNat ((y1.1).length : Int))).drop 1).getD (Int.toNat x0_0) (ByteArray.mk #[]))).bind fun y7 =>
   cond (!y7.2)
    (some ((⟨0, 0, 0⟩ : Deed), false))
    (if 0 ≤ (x0_0 : Int) ∧ (x0_0 : Int) < (2 : Int) then
     cond (decide ((x0_0 : Int) = 0))
      (J (wr (x0_0 + 1)) y7.1 x0_2)
      (cond (decide ((x0_0 : Int) = 1))
       (J (wr (x0_0 + 1)) x0_1 y7.1)
       (none)) else none) else none)
 (if 0 ≤ (0 : Int) ∧ (0 : Int) < (2 : Int) then
  if 0 ≤ (1 : Int) ∧ (1 : Int) < (2 : Int) then
   (impl_ActOk k (⟨(wr (y3.1 + 1)), x0_1, x0_2⟩ : Deed)).bind fun y8 =>
    cond (!y8)
     (some ((⟨0, 0, 0⟩ : Deed), false))
     (some ((⟨(wr (y3.1 + 1)), x0_1, x0_2⟩ : Deed), true)) else none else none)
noncomputable def impl_ParseAct_l0 (k : Nat) : Nat → (List ByteArray) × Bool → Int × (List ByteArray) → Int → Int → Int → Option (Deed × Bool)
 | 0, y1, y3, x0_0, x0_1, x0_2 => impl_ParseAct_s0 k y1 y3 (fun _ _ _ => none) x0_0 x0_1 x0_2
 | m + 1, y1, y3, x0_0, x0_1, x0_2 => impl_ParseAct_s0 k y1 y3 (impl_ParseAct_l0 k m y1 y3) x0_0 x0_1 x0_2
noncomputable def impl_ParseAct_m (k : Nat) (J0 : (List ByteArray) × Bool → Int × (List ByteArray) → Int → Int → Int → Option (Deed × Bool)) (line : ByteArray) : Option (Deed × Bool) :=
 (impl_SplitFields k line).bind fun y1 =>
 cond (!y1.2)
  (some ((⟨0, 0, 0⟩ : Deed), false))
  (cond (decide ((((y1.1).length : Int) : Int) = 0))
   (some ((⟨0, 0, 0⟩ : Deed), false))
   ((impl_actWords k).bind fun y2 =>
    if 0 ≤ (0 : Int) ∧ (0 : Int) < ((y1.1).length : Int) then
     (slices_Index_string_string k y2 (y1.1.getD 0 (ByteArray.mk #[]))).bind fun y3 =>
      cond (decide ((y3.1 : Int) < 0))
       (some ((⟨0, 0, 0⟩ : Deed), false))
       ((impl_actNumbers k).bind fun y4 =>
        if 0 ≤ (y3.1 : Int) ∧ (y3.1 : Int) < ((y4).length : Int) then
        cond (!(decide ((((y1.1).length : Int) : Int) = (wr ((y4.getD (Int.toNat y3.1) 0) + 1)))))
        (some ((⟨0, 0, 0⟩ : Deed), false))
        (if (0 : Int) ≤ 1 ∧ 1 ≤ ((y1.1).length : Int) ∧ ((y1.1).length : Int) ≤ ((y1.1).length : Int) then
        J0 y1 y3 0 0 0 else none) else none) else none))
noncomputable def impl_ParseAct (k : Nat) (line : ByteArray) : Option (Deed × Bool) := impl_ParseAct_m k (impl_ParseAct_l0 k k) line
noncomputable def impl_ParseAct_v : Nat → List Nat := fun t => match t with | 9 => [2, 3, 6, 7, 46, 47, 48] | _ => []
noncomputable def impl_ParseAct_O (k : Nat) : Oracle := ofL [(24, impl_ParseUint_x k), (36, impl_SplitFields_x k), (37, slices_Index_string_string_x k), (38, impl_actWords_x k), (39, impl_actNumbers_x k), (40, impl_ActOk_x k)]
theorem impl_ParseAct_Ok (k : Nat) : OkO (Ct Tryd.prog) (impl_ParseAct_O k) := okO_cons (impl_ParseUint_ok k) (okO_cons (impl_SplitFields_ok k) (okO_cons (slices_Index_string_string_ok k) (okO_cons (impl_actWords_ok k) (okO_cons (impl_actNumbers_ok k) (okO_cons (impl_ActOk_ok k) (okO_nil))))))
noncomputable def impl_ParseAct_A (line : ByteArray) : Pk := ⟨[(.sc (.v (.string line)))], []⟩
noncomputable def impl_ParseAct_d : Rs → Option (Deed × Bool)
 | ⟨(.tp [(.ag [(.v (.int .i64 r1)), (.v (.int .i64 r2)), (.v (.int .i64 r3))]), (.sc (.v (.bool r4)))]), []⟩ => some ((⟨r1, r2, r3⟩ : Deed), r4)
 | _ => none
theorem impl_ParseAct_i {r : Rs} {y : Deed × Bool} (h : impl_ParseAct_d r = some y) : r = ⟨(.tp [(.ag [(.v (.int .i64 y.1.Kind)), (.v (.int .i64 y.1.A)), (.v (.int .i64 y.1.B))]), (.sc (.v (.bool y.2)))]), []⟩ := by
 unfold impl_ParseAct_d at h; split at h
 · cases h; rfl
 · cases h
noncomputable def impl_ParseAct_h0 (k m : Nat) (y1 : (List ByteArray) × Bool) (y3 : Int × (List ByteArray)) (x0_0 : Int) (x0_1 : Int) (x0_2 : Int) : Option (Deed × Bool) := hdAt env (impl_ParseAct_O k) impl_ParseAct_v Tryd.f18 0 (fun r => impl_ParseAct_d (r.fin 0 [])) [1, 1, 1, 1, 1, 1, 0, 1, 0] k m ⟨tmF [2, 3, 6, 7, 46, 47, 48] [(.a (.sc (.bp 0 0))), (.a (.sc (.v (.bool false)))), (.a (.sc (.v (.int .i64 y3.1)))), (.a (.sc (.bp 1 0))), (.a (.sc (.sl 2))), (.a (.sc (.v (.int .i64 ((((y1.1.take (Int.toNat ((y1.1).length : Int))).drop 1)).length : Int))))), (.a (.sc (.v (.int .i64 x0_0))))], blF [(.box true [(.v (.int .i64 0)), (.v (.int .i64 0)), (.v (.int .i64 0))]), (.box true [(.v (.int .i64 x0_1)), (.v (.int .i64 x0_2))]), (.row false K.kstr ((y1.1.take (Int.toNat ((y1.1).length : Int))).drop 1))]⟩
theorem impl_ParseAct_z0 (k : Nat) (y1 : (List ByteArray) × Bool) (y3 : Int × (List ByteArray)) (x0_0 : Int) (x0_1 : Int) (x0_2 : Int) : impl_ParseAct_h0 k 0 y1 y3 x0_0 x0_1 x0_2 = impl_ParseAct_s0 k y1 y3 (fun _ _ _ => none) x0_0 x0_1 x0_2 := by kernel_rfl
theorem impl_ParseAct_g0 (k : Nat) (H : St → Option (Deed × Bool)) (y1 : (List ByteArray) × Bool) (y3 : Int × (List ByteArray)) (x0_0 : Int) (x0_1 : Int) (x0_2 : Int) : rnd env (impl_ParseAct_O k) impl_ParseAct_v Tryd.f18 0 (fun r => impl_ParseAct_d (r.fin 0 [])) [1, 1, 1, 1, 1, 1, 0, 1, 0] k H ⟨tmF [2, 3, 6, 7, 46, 47, 48] [(.a (.sc (.bp 0 0))), (.a (.sc (.v (.bool false)))), (.a (.sc (.v (.int .i64 y3.1)))), (.a (.sc (.bp 1 0))), (.a (.sc (.sl 2))), (.a (.sc (.v (.int .i64 ((((y1.1.take (Int.toNat ((y1.1).length : Int))).drop 1)).length : Int))))), (.a (.sc (.v (.int .i64 x0_0))))], blF [(.box true [(.v (.int .i64 0)), (.v (.int .i64 0)), (.v (.int .i64 0))]), (.box true [(.v (.int .i64 x0_1)), (.v (.int .i64 x0_2))]), (.row false K.kstr ((y1.1.take (Int.toNat ((y1.1).length : Int))).drop 1))]⟩ = impl_ParseAct_s0 k y1 y3 (fun x0_0 x0_1 x0_2 => H ⟨tmF [2, 3, 6, 7, 46, 47, 48] [(.a (.sc (.bp 0 0))), (.a (.sc (.v (.bool false)))), (.a (.sc (.v (.int .i64 y3.1)))), (.a (.sc (.bp 1 0))), (.a (.sc (.sl 2))), (.a (.sc (.v (.int .i64 ((((y1.1.take (Int.toNat ((y1.1).length : Int))).drop 1)).length : Int))))), (.a (.sc (.v (.int .i64 x0_0))))], blF [(.box true [(.v (.int .i64 0)), (.v (.int .i64 0)), (.v (.int .i64 0))]), (.box true [(.v (.int .i64 x0_1)), (.v (.int .i64 x0_2))]), (.row false K.kstr ((y1.1.take (Int.toNat ((y1.1).length : Int))).drop 1))]⟩) x0_0 x0_1 x0_2 := by kernel_rfl
theorem impl_ParseAct_n0 (k m : Nat) (y1 : (List ByteArray) × Bool) (y3 : Int × (List ByteArray)) (x0_0 : Int) (x0_1 : Int) (x0_2 : Int) : impl_ParseAct_h0 k (m + 1) y1 y3 x0_0 x0_1 x0_2 = impl_ParseAct_s0 k y1 y3 (impl_ParseAct_h0 k m y1 y3) x0_0 x0_1 x0_2 := (hdAt_succ _ _ _ _ _ _ _ _ _ _).trans (impl_ParseAct_g0 k _ y1 y3 x0_0 x0_1 x0_2)
theorem impl_ParseAct_q0 (k : Nat) : ∀ m, impl_ParseAct_h0 k m = impl_ParseAct_l0 k m := by
 intro m
 induction m with
 | zero => funext y1 y3 x0_0 x0_1 x0_2; rw [impl_ParseAct_z0]; rfl
 | succ m ih => funext y1 y3 x0_0 x0_1 x0_2; rw [impl_ParseAct_n0, ih]; rfl
theorem impl_ParseAct_e (k : Nat) (line : ByteArray) : callF env (impl_ParseAct_O k) impl_ParseAct_v Tryd.f18 (k + 1) (impl_ParseAct_A line) (fun r => impl_ParseAct_d (r.fin 0 [])) = impl_ParseAct k line := by
 have e : ∀ H : St → Option (Deed × Bool), callE env (impl_ParseAct_O k) impl_ParseAct_v Tryd.f18 (k + 1) (impl_ParseAct_A line) [1, 1, 1, 1, 1, 1, 0, 1, 0] (fun r => impl_ParseAct_d (r.fin 0 [])) H = impl_ParseAct_m k (fun y1 y3 x0_0 x0_1 x0_2 => H ⟨tmF [2, 3, 6, 7, 46, 47, 48] [(.a (.sc (.bp 0 0))), (.a (.sc (.v (.bool false)))), (.a (.sc (.v (.int .i64 y3.1)))), (.a (.sc (.bp 1 0))), (.a (.sc (.sl 2))), (.a (.sc (.v (.int .i64 ((((y1.1.take (Int.toNat ((y1.1).length : Int))).drop 1)).length : Int))))), (.a (.sc (.v (.int .i64 x0_0))))], blF [(.box true [(.v (.int .i64 0)), (.v (.int .i64 0)), (.v (.int .i64 0))]), (.box true [(.v (.int .i64 x0_1)), (.v (.int .i64 x0_2))]), (.row false K.kstr ((y1.1.take (Int.toNat ((y1.1).length : Int))).drop 1))]⟩) line := fun H => by kernel_rfl
 exact (callE_eq env (impl_ParseAct_O k) impl_ParseAct_v Tryd.f18 k (impl_ParseAct_A line) [1, 1, 1, 1, 1, 1, 0, 1, 0] 0 (fun r => impl_ParseAct_d (r.fin 0 [])) rfl (by kernel_rfl)).trans ((e (hdAt env (impl_ParseAct_O k) impl_ParseAct_v Tryd.f18 0 (fun r => impl_ParseAct_d (r.fin 0 [])) [1, 1, 1, 1, 1, 1, 0, 1, 0] k k)).trans (by
  show impl_ParseAct_m k (impl_ParseAct_h0 k k) line = _
  rw [impl_ParseAct_q0]; rfl))
noncomputable def impl_ParseAct_x (k : Nat) : Ent1 := fun A R Q => match A with
 | ⟨[(.sc (.v (.string a1)))], []⟩ => (impl_ParseAct k a1).bind fun y => Q ⟨(.tp [(.ag [(.v (.int .i64 y.1.Kind)), (.v (.int .i64 y.1.A)), (.v (.int .i64 y.1.B))]), (.sc (.v (.bool y.2)))]), []⟩
 | _ => none
theorem impl_ParseAct_ok (k : Nat) : OkE Tryd.prog 18 (impl_ParseAct_x k) := by
 intro A R Q x h
 unfold impl_ParseAct_x at h
 split at h
 · obtain ⟨y, hy, hK⟩ := Option.bind_eq_some_iff.1 h
   obtain ⟨r, hr, hd⟩ := callF_ok envOk (impl_ParseAct_Ok k) follows Tryd.func18 (by kernel_rfl) ((impl_ParseAct_e k _).trans hy)
   exact ⟨_, impl_ParseAct_i hd ▸ hr.fin [], hK⟩
 · cases h
/-! ### laws.eqAct: function 19 -/
noncomputable def laws_eqAct (k : Nat)  (a : Deed) (b : Deed) : Option (Bool) :=
 cond (!(decide ((a.Kind : Int) = b.Kind)))
 (some false)
 (cond (!(decide ((a.A : Int) = b.A)))
  (some false)
  (cond (!(decide ((a.B : Int) = b.B)))
   (some false)
   (some true)))
noncomputable def laws_eqAct_v : Nat → List Nat := fun t => match t with | _ => []
noncomputable def laws_eqAct_O (k : Nat) : Oracle := ofL []
theorem laws_eqAct_Ok (k : Nat) : OkO (Ct Tryd.prog) (laws_eqAct_O k) := okO_nil
noncomputable def laws_eqAct_A (a : Deed) (b : Deed) : Pk := ⟨[(.ag [(.v (.int .i64 a.Kind)), (.v (.int .i64 a.A)), (.v (.int .i64 a.B))]), (.ag [(.v (.int .i64 b.Kind)), (.v (.int .i64 b.A)), (.v (.int .i64 b.B))])], []⟩
noncomputable def laws_eqAct_d : Rs → Option (Bool)
 | ⟨(.a (.sc (.v (.bool r1)))), []⟩ => some r1
 | _ => none
theorem laws_eqAct_i {r : Rs} {y : Bool} (h : laws_eqAct_d r = some y) : r = ⟨(.a (.sc (.v (.bool y)))), []⟩ := by
 unfold laws_eqAct_d at h; split at h
 · cases h; rfl
 · cases h
theorem laws_eqAct_e (k : Nat) (a : Deed) (b : Deed) : callF env (laws_eqAct_O k) laws_eqAct_v Tryd.f19 (k + 1) (laws_eqAct_A a b) (fun r => laws_eqAct_d (r.fin 0 [])) = laws_eqAct k a b := by kernel_rfl
noncomputable def laws_eqAct_x (k : Nat) : Ent1 := fun A R Q => match A with
 | ⟨[(.ag [(.v (.int .i64 a1)), (.v (.int .i64 a2)), (.v (.int .i64 a3))]), (.ag [(.v (.int .i64 a4)), (.v (.int .i64 a5)), (.v (.int .i64 a6))])], []⟩ => (laws_eqAct k (⟨a1, a2, a3⟩ : Deed) (⟨a4, a5, a6⟩ : Deed)).bind fun y => Q ⟨(.a (.sc (.v (.bool y)))), []⟩
 | _ => none
theorem laws_eqAct_ok (k : Nat) : OkE Tryd.prog 19 (laws_eqAct_x k) := by
 intro A R Q x h
 unfold laws_eqAct_x at h
 split at h
 · obtain ⟨y, hy, hK⟩ := Option.bind_eq_some_iff.1 h
   obtain ⟨r, hr, hd⟩ := callF_ok envOk (laws_eqAct_Ok k) follows Tryd.func19 (by kernel_rfl) ((laws_eqAct_e k _ _).trans hy)
   exact ⟨_, laws_eqAct_i hd ▸ hr.fin [], hK⟩
 · cases h
/-! ### laws.FnExactParseAct: function 6 -/
noncomputable def laws_FnExactParseAct (k : Nat)  (aLine : ByteArray) : Option (Bool) :=
 cond (decide ((1048576 : Int) < ((aLine).size : Int)))
 (some true)
 ((spec_ParseAct k aLine).bind fun y1 =>
  (impl_ParseAct k aLine).bind fun y2 =>
   (laws_eqAct k y2.1 y1.1).bind fun y3 =>
    cond (!y3)
     (some false)
     (cond (!(y2.2 == y1.2))
      (some false)
      (some true)))
noncomputable def laws_FnExactParseAct_v : Nat → List Nat := fun t => match t with | _ => []
noncomputable def laws_FnExactParseAct_O (k : Nat) : Oracle := ofL [(17, spec_ParseAct_x k), (18, impl_ParseAct_x k), (19, laws_eqAct_x k)]
theorem laws_FnExactParseAct_Ok (k : Nat) : OkO (Ct Tryd.prog) (laws_FnExactParseAct_O k) := okO_cons (spec_ParseAct_ok k) (okO_cons (impl_ParseAct_ok k) (okO_cons (laws_eqAct_ok k) (okO_nil)))
noncomputable def laws_FnExactParseAct_A (aLine : ByteArray) : Pk := ⟨[(.sc (.v (.string aLine)))], []⟩
noncomputable def laws_FnExactParseAct_d : Rs → Option (Bool)
 | ⟨(.a (.sc (.v (.bool r1)))), []⟩ => some r1
 | _ => none
theorem laws_FnExactParseAct_i {r : Rs} {y : Bool} (h : laws_FnExactParseAct_d r = some y) : r = ⟨(.a (.sc (.v (.bool y)))), []⟩ := by
 unfold laws_FnExactParseAct_d at h; split at h
 · cases h; rfl
 · cases h
theorem laws_FnExactParseAct_e (k : Nat) (aLine : ByteArray) : callF env (laws_FnExactParseAct_O k) laws_FnExactParseAct_v Tryd.f6 (k + 1) (laws_FnExactParseAct_A aLine) (fun r => laws_FnExactParseAct_d (r.fin 0 [])) = laws_FnExactParseAct k aLine := by kernel_rfl
noncomputable def laws_FnExactParseAct_x (k : Nat) : Ent1 := fun A R Q => match A with
 | ⟨[(.sc (.v (.string a1)))], []⟩ => (laws_FnExactParseAct k a1).bind fun y => Q ⟨(.a (.sc (.v (.bool y)))), []⟩
 | _ => none
theorem laws_FnExactParseAct_ok (k : Nat) : OkE Tryd.prog 6 (laws_FnExactParseAct_x k) := by
 intro A R Q x h
 unfold laws_FnExactParseAct_x at h
 split at h
 · obtain ⟨y, hy, hK⟩ := Option.bind_eq_some_iff.1 h
   obtain ⟨r, hr, hd⟩ := callF_ok envOk (laws_FnExactParseAct_Ok k) follows Tryd.func6 (by kernel_rfl) ((laws_FnExactParseAct_e k _).trans hy)
   exact ⟨_, laws_FnExactParseAct_i hd ▸ hr.fin [], hK⟩
 · cases h
end Go.Proofs.YtldpjfacoaplhaaDoorX
