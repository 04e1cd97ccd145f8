/- What functions of the program compute, as functions of numbers and lists, and that they do. (The file is written by wip/x/vxp.py of this repository.) -/
import Derived.Test.YtonaabffckkdlaaF4
namespace Go.Proofs.YtonaabffckkdlaaX
open Go Go.Proofs
set_option linter.unusedVariables false
set_option maxRecDepth 100000
/-! ### spec.BakedWeight: function 103 -/
noncomputable def spec_BakedWeight (k : Nat)  (l : Loaf) (dough : Int) : Option (Int) :=
 (spec_LoafOk k l).bind fun y1 =>
 cond (!y1)
  (some (-1))
  ((spec_l01In k dough 0 10000).bind fun y2 =>
   cond (!y2)
    (some (-1))
    (if (100 : Int) ≠ 0 then
     some (wr (dough - (wr (Int.tdiv (wr ((wr (dough * l.Loss)) + 99)) 100)))) else none))
noncomputable def spec_BakedWeight_v : Nat → List Nat := fun t => match t with | _ => []
noncomputable def spec_BakedWeight_O (k : Nat) : Oracle := ofL [(65, spec_LoafOk_x k), (66, spec_l01In_x k)]
theorem spec_BakedWeight_Ok (k : Nat) : OkO (Ct Try.prog) (spec_BakedWeight_O k) := okO_cons (spec_LoafOk_ok k) (okO_cons (spec_l01In_ok k) (okO_nil))
noncomputable def spec_BakedWeight_A (l : Loaf) (dough : Int) : Pk := ⟨[(.ag [(.v (.int .i64 l.Weight)), (.v (.int .i64 l.Loss))]), (.sc (.v (.int .i64 dough)))], []⟩
noncomputable def spec_BakedWeight_d : Rs → Option (Int)
 | ⟨(.a (.sc (.v (.int .i64 r1)))), []⟩ => some r1
 | _ => none
theorem spec_BakedWeight_i {r : Rs} {y : Int} (h : spec_BakedWeight_d r = some y) : r = ⟨(.a (.sc (.v (.int .i64 y)))), []⟩ := by
 unfold spec_BakedWeight_d at h; split at h
 · cases h; rfl
 · cases h
theorem spec_BakedWeight_e (k : Nat) (l : Loaf) (dough : Int) : callF env (spec_BakedWeight_O k) spec_BakedWeight_v Try.f103 (k + 1) (spec_BakedWeight_A l dough) (fun r => spec_BakedWeight_d (r.fin 0 [])) = spec_BakedWeight k l dough := by kernel_rfl
noncomputable def spec_BakedWeight_x (k : Nat) : Ent1 := fun A R Q => match A with
 | ⟨[(.ag [(.v (.int .i64 a1)), (.v (.int .i64 a2))]), (.sc (.v (.int .i64 a3)))], []⟩ => (spec_BakedWeight k (⟨a1, a2⟩ : Loaf) a3).bind fun y => Q ⟨(.a (.sc (.v (.int .i64 y)))), []⟩
 | _ => none
theorem spec_BakedWeight_ok (k : Nat) : OkE Try.prog 103 (spec_BakedWeight_x k) := by
 intro A R Q x h
 unfold spec_BakedWeight_x at h
 split at h
 · obtain ⟨y, hy, hK⟩ := Option.bind_eq_some_iff.1 h
   obtain ⟨r, hr, hd⟩ := callF_ok envOk (spec_BakedWeight_Ok k) follows Try.func103 (by kernel_rfl) ((spec_BakedWeight_e k _ _).trans hy)
   exact ⟨_, spec_BakedWeight_i hd ▸ hr.fin [], hK⟩
 · cases h
/-! ### spec.DoughFor: function 79 -/
noncomputable def spec_DoughFor_s0 (k : Nat)  (l : Loaf) (J : Int → Option (Int)) (x0_0 : Int) : Option (Int) :=
 (spec_BakedWeight k l x0_0).bind fun y3 =>
 cond (decide ((y3 : Int) < l.Weight))
  (J (wr (x0_0 + 1)))
  (some x0_0)
noncomputable def spec_DoughFor_l0 (k : Nat) : Nat → Loaf → Int → Option (Int)
 | 0, l, x0_0 => spec_DoughFor_s0 k l (fun _ => none) x0_0
 | m + 1, l, x0_0 => spec_DoughFor_s0 k l (spec_DoughFor_l0 k m l) x0_0
noncomputable def spec_DoughFor_m (k : Nat) (J0 : Loaf → Int → Option (Int)) (l : Loaf) : Option (Int) :=
 (spec_LoafOk k l).bind fun y1 =>
 cond (!y1)
  (some (-1))
  (J0 l l.Weight)
noncomputable def spec_DoughFor (k : Nat) (l : Loaf) : Option (Int) := spec_DoughFor_m k (spec_DoughFor_l0 k k) l
noncomputable def spec_DoughFor_v : Nat → List Nat := fun t => match t with | 4 => [1, 2, 3] | _ => []
noncomputable def spec_DoughFor_O (k : Nat) : Oracle := ofL [(103, spec_BakedWeight_x k), (65, spec_LoafOk_x k)]
theorem spec_DoughFor_Ok (k : Nat) : OkO (Ct Try.prog) (spec_DoughFor_O k) := okO_cons (spec_BakedWeight_ok k) (okO_cons (spec_LoafOk_ok k) (okO_nil))
noncomputable def spec_DoughFor_A (l : Loaf) : Pk := ⟨[(.ag [(.v (.int .i64 l.Weight)), (.v (.int .i64 l.Loss))])], []⟩
noncomputable def spec_DoughFor_d : Rs → Option (Int)
 | ⟨(.a (.sc (.v (.int .i64 r1)))), []⟩ => some r1
 | _ => none
theorem spec_DoughFor_i {r : Rs} {y : Int} (h : spec_DoughFor_d r = some y) : r = ⟨(.a (.sc (.v (.int .i64 y)))), []⟩ := by
 unfold spec_DoughFor_d at h; split at h
 · cases h; rfl
 · cases h
noncomputable def spec_DoughFor_h0 (k m : Nat) (l : Loaf) (x0_0 : Int) : Option (Int) := hdAt env (spec_DoughFor_O k) spec_DoughFor_v Try.f79 0 (fun r => spec_DoughFor_d (r.fin 0 [])) [1, 1, 1, 0, 0] k m ⟨tmF [1, 2, 3] [(.a (.sc (.bp 0 0))), (.a (.sc (.v (.int .i64 0)))), (.a (.sc (.v (.int .i64 x0_0))))], blF [(.box true [(.v (.int .i64 l.Weight)), (.v (.int .i64 l.Loss))])]⟩
theorem spec_DoughFor_z0 (k : Nat) (l : Loaf) (x0_0 : Int) : spec_DoughFor_h0 k 0 l x0_0 = spec_DoughFor_s0 k l (fun _ => none) x0_0 := by kernel_rfl
theorem spec_DoughFor_g0 (k : Nat) (H : St → Option (Int)) (l : Loaf) (x0_0 : Int) : rnd env (spec_DoughFor_O k) spec_DoughFor_v Try.f79 0 (fun r => spec_DoughFor_d (r.fin 0 [])) [1, 1, 1, 0, 0] k H ⟨tmF [1, 2, 3] [(.a (.sc (.bp 0 0))), (.a (.sc (.v (.int .i64 0)))), (.a (.sc (.v (.int .i64 x0_0))))], blF [(.box true [(.v (.int .i64 l.Weight)), (.v (.int .i64 l.Loss))])]⟩ = spec_DoughFor_s0 k l (fun x0_0 => H ⟨tmF [1, 2, 3] [(.a (.sc (.bp 0 0))), (.a (.sc (.v (.int .i64 0)))), (.a (.sc (.v (.int .i64 x0_0))))], blF [(.box true [(.v (.int .i64 l.Weight)), (.v (.int .i64 l.Loss))])]⟩) x0_0 := by kernel_rfl
theorem spec_DoughFor_n0 (k m : Nat) (l : Loaf) (x0_0 : Int) : spec_DoughFor_h0 k (m + 1) l x0_0 = spec_DoughFor_s0 k l (spec_DoughFor_h0 k m l) x0_0 := (hdAt_succ _ _ _ _ _ _ _ _ _ _).trans (spec_DoughFor_g0 k _ l x0_0)
theorem spec_DoughFor_q0 (k : Nat) : ∀ m, spec_DoughFor_h0 k m = spec_DoughFor_l0 k m := by
 intro m
 induction m with
 | zero => funext l x0_0; rw [spec_DoughFor_z0]; rfl
 | succ m ih => funext l x0_0; rw [spec_DoughFor_n0, ih]; rfl
theorem spec_DoughFor_e (k : Nat) (l : Loaf) : callF env (spec_DoughFor_O k) spec_DoughFor_v Try.f79 (k + 1) (spec_DoughFor_A l) (fun r => spec_DoughFor_d (r.fin 0 [])) = spec_DoughFor k l := by
 have e : callF env (spec_DoughFor_O k) spec_DoughFor_v Try.f79 (k + 1) (spec_DoughFor_A l) (fun r => spec_DoughFor_d (r.fin 0 [])) = spec_DoughFor_m k (spec_DoughFor_h0 k k) l := by kernel_rfl
 rw [e, spec_DoughFor_q0]; rfl
noncomputable def spec_DoughFor_x (k : Nat) : Ent1 := fun A R Q => match A with
 | ⟨[(.ag [(.v (.int .i64 a1)), (.v (.int .i64 a2))])], []⟩ => (spec_DoughFor k (⟨a1, a2⟩ : Loaf)).bind fun y => Q ⟨(.a (.sc (.v (.int .i64 y)))), []⟩
 | _ => none
theorem spec_DoughFor_ok (k : Nat) : OkE Try.prog 79 (spec_DoughFor_x k) := by
 intro A R Q x h
 unfold spec_DoughFor_x at h
 split at h
 · obtain ⟨y, hy, hK⟩ := Option.bind_eq_some_iff.1 h
   obtain ⟨r, hr, hd⟩ := callF_ok envOk (spec_DoughFor_Ok k) follows Try.func79 (by kernel_rfl) ((spec_DoughFor_e k _).trans hy)
   exact ⟨_, spec_DoughFor_i hd ▸ hr.fin [], hK⟩
 · cases h
/-! ### spec.WholeParts: function 102 -/
noncomputable def spec_WholeParts (k : Nat)  (d : Dough) : Option (Int) :=
 (spec_DoughOk k d).bind fun y1 =>
 cond (!y1)
  (some (-1))
  (some (wr ((wr ((wr ((1000 : Int) + d.Water)) + d.Salt)) + d.Leaven)))
noncomputable def spec_WholeParts_v : Nat → List Nat := fun t => match t with | _ => []
noncomputable def spec_WholeParts_O (k : Nat) : Oracle := ofL [(64, spec_DoughOk_x k)]
theorem spec_WholeParts_Ok (k : Nat) : OkO (Ct Try.prog) (spec_WholeParts_O k) := okO_cons (spec_DoughOk_ok k) (okO_nil)
noncomputable def spec_WholeParts_A (d : Dough) : Pk := ⟨[(.ag [(.v (.int .i64 d.Water)), (.v (.int .i64 d.Salt)), (.v (.int .i64 d.Leaven))])], []⟩
noncomputable def spec_WholeParts_d : Rs → Option (Int)
 | ⟨(.a (.sc (.v (.int .i64 r1)))), []⟩ => some r1
 | _ => none
theorem spec_WholeParts_i {r : Rs} {y : Int} (h : spec_WholeParts_d r = some y) : r = ⟨(.a (.sc (.v (.int .i64 y)))), []⟩ := by
 unfold spec_WholeParts_d at h; split at h
 · cases h; rfl
 · cases h
theorem spec_WholeParts_e (k : Nat) (d : Dough) : callF env (spec_WholeParts_O k) spec_WholeParts_v Try.f102 (k + 1) (spec_WholeParts_A d) (fun r => spec_WholeParts_d (r.fin 0 [])) = spec_WholeParts k d := by kernel_rfl
noncomputable def spec_WholeParts_x (k : Nat) : Ent1 := fun A R Q => match A with
 | ⟨[(.ag [(.v (.int .i64 a1)), (.v (.int .i64 a2)), (.v (.int .i64 a3))])], []⟩ => (spec_WholeParts k (⟨a1, a2, a3⟩ : Dough)).bind fun y => Q ⟨(.a (.sc (.v (.int .i64 y)))), []⟩
 | _ => none
theorem spec_WholeParts_ok (k : Nat) : OkE Try.prog 102 (spec_WholeParts_x k) := by
 intro A R Q x h
 unfold spec_WholeParts_x at h
 split at h
 · obtain ⟨y, hy, hK⟩ := Option.bind_eq_some_iff.1 h
   obtain ⟨r, hr, hd⟩ := callF_ok envOk (spec_WholeParts_Ok k) follows Try.func102 (by kernel_rfl) ((spec_WholeParts_e k _).trans hy)
   exact ⟨_, spec_WholeParts_i hd ▸ hr.fin [], hK⟩
 · cases h
/-! ### spec.FlourFor: function 78 -/
noncomputable def spec_FlourFor (k : Nat)  (d : Dough) (weight : Int) : Option (Int) :=
 (spec_WholeParts k d).bind fun y1 =>
 cond (decide ((y1 : Int) < 0))
  (some (-1))
  ((spec_l01In k weight 0 1000000).bind fun y2 =>
   cond (!y2)
    (some (-1))
    (if (y1 : Int) ≠ 0 then
     some (wr (Int.tdiv (wr ((wr ((wr (weight * 1000)) + y1)) - 1)) y1)) else none))
noncomputable def spec_FlourFor_v : Nat → List Nat := fun t => match t with | _ => []
noncomputable def spec_FlourFor_O (k : Nat) : Oracle := ofL [(102, spec_WholeParts_x k), (66, spec_l01In_x k)]
theorem spec_FlourFor_Ok (k : Nat) : OkO (Ct Try.prog) (spec_FlourFor_O k) := okO_cons (spec_WholeParts_ok k) (okO_cons (spec_l01In_ok k) (okO_nil))
noncomputable def spec_FlourFor_A (d : Dough) (weight : Int) : Pk := ⟨[(.ag [(.v (.int .i64 d.Water)), (.v (.int .i64 d.Salt)), (.v (.int .i64 d.Leaven))]), (.sc (.v (.int .i64 weight)))], []⟩
noncomputable def spec_FlourFor_d : Rs → Option (Int)
 | ⟨(.a (.sc (.v (.int .i64 r1)))), []⟩ => some r1
 | _ => none
theorem spec_FlourFor_i {r : Rs} {y : Int} (h : spec_FlourFor_d r = some y) : r = ⟨(.a (.sc (.v (.int .i64 y)))), []⟩ := by
 unfold spec_FlourFor_d at h; split at h
 · cases h; rfl
 · cases h
theorem spec_FlourFor_e (k : Nat) (d : Dough) (weight : Int) : callF env (spec_FlourFor_O k) spec_FlourFor_v Try.f78 (k + 1) (spec_FlourFor_A d weight) (fun r => spec_FlourFor_d (r.fin 0 [])) = spec_FlourFor k d weight := by kernel_rfl
noncomputable def spec_FlourFor_x (k : Nat) : Ent1 := fun A R Q => match A with
 | ⟨[(.ag [(.v (.int .i64 a1)), (.v (.int .i64 a2)), (.v (.int .i64 a3))]), (.sc (.v (.int .i64 a4)))], []⟩ => (spec_FlourFor k (⟨a1, a2, a3⟩ : Dough) a4).bind fun y => Q ⟨(.a (.sc (.v (.int .i64 y)))), []⟩
 | _ => none
theorem spec_FlourFor_ok (k : Nat) : OkE Try.prog 78 (spec_FlourFor_x k) := by
 intro A R Q x h
 unfold spec_FlourFor_x at h
 split at h
 · obtain ⟨y, hy, hK⟩ := Option.bind_eq_some_iff.1 h
   obtain ⟨r, hr, hd⟩ := callF_ok envOk (spec_FlourFor_Ok k) follows Try.func78 (by kernel_rfl) ((spec_FlourFor_e k _ _).trans hy)
   exact ⟨_, spec_FlourFor_i hd ▸ hr.fin [], hK⟩
 · cases h
/-! ### spec.FlourNeeded: function 39 -/
noncomputable def spec_FlourNeeded (k : Nat)  (b : Bakery) (loaves : Int) : Option (Int) :=
 (spec_BakeryOk k b).bind fun y1 =>
 cond (!y1)
  (some (-1))
  ((spec_l01In k loaves 0 1000).bind fun y2 =>
   cond (!y2)
    (some (-1))
    ((spec_DoughFor k b.Loaf).bind fun y3 =>
     (spec_FlourFor k b.Dough (wr (y3 * loaves))).bind fun y4 =>
      some y4))
noncomputable def spec_FlourNeeded_v : Nat → List Nat := fun t => match t with | _ => []
noncomputable def spec_FlourNeeded_O (k : Nat) : Oracle := ofL [(24, spec_BakeryOk_x k), (66, spec_l01In_x k), (78, spec_FlourFor_x k), (79, spec_DoughFor_x k)]
theorem spec_FlourNeeded_Ok (k : Nat) : OkO (Ct Try.prog) (spec_FlourNeeded_O k) := okO_cons (spec_BakeryOk_ok k) (okO_cons (spec_l01In_ok k) (okO_cons (spec_FlourFor_ok k) (okO_cons (spec_DoughFor_ok k) (okO_nil))))
noncomputable def spec_FlourNeeded_A (b : Bakery) (loaves : Int) : Pk := ⟨[(.ag [(.sl 0), (.v (.int .i64 b.Dough.Water)), (.v (.int .i64 b.Dough.Salt)), (.v (.int .i64 b.Dough.Leaven)), (.v (.int .i64 b.Loaf.Weight)), (.v (.int .i64 b.Loaf.Loss)), (.sl 1), (.v (.int .i64 b.Book.Rack.Fresh)), (.v (.int .i64 b.Book.Rack.Day)), (.v (.int .i64 b.Book.Rack.Old)), (.v (.int .i64 b.Book.Baked)), (.v (.int .i64 b.Book.Sold)), (.v (.int .i64 b.Book.Thrown)), (.v (.int .i64 b.Money))]), (.sc (.v (.int .i64 loaves)))], [(.row false K.ki64 b.Stock.Grams), (.row false K.k_impl_Event b.Book.Events)]⟩
noncomputable def spec_FlourNeeded_d : Rs → Option (Int)
 | ⟨(.a (.sc (.v (.int .i64 r1)))), [.dead, .dead]⟩ => some r1
 | _ => none
theorem spec_FlourNeeded_i {r : Rs} {y : Int} (h : spec_FlourNeeded_d r = some y) : r = ⟨(.a (.sc (.v (.int .i64 y)))), [.dead, .dead]⟩ := by
 unfold spec_FlourNeeded_d at h; split at h
 · cases h; rfl
 · cases h
theorem spec_FlourNeeded_e (k : Nat) (b : Bakery) (loaves : Int) : callF env (spec_FlourNeeded_O k) spec_FlourNeeded_v Try.f39 (k + 1) (spec_FlourNeeded_A b loaves) (fun r => spec_FlourNeeded_d (r.fin 2 [])) = spec_FlourNeeded k b loaves := by kernel_rfl
noncomputable def spec_FlourNeeded_x (k : Nat) : Ent1 := fun A R Q => match A with
 | ⟨[(.ag [(.sl 0), (.v (.int .i64 a2)), (.v (.int .i64 a3)), (.v (.int .i64 a4)), (.v (.int .i64 a5)), (.v (.int .i64 a6)), (.sl 1), (.v (.int .i64 a8)), (.v (.int .i64 a9)), (.v (.int .i64 a10)), (.v (.int .i64 a11)), (.v (.int .i64 a12)), (.v (.int .i64 a13)), (.v (.int .i64 a14))]), (.sc (.v (.int .i64 a15)))], [(.row false K.ki64 a1), (.row false K.k_impl_Event a7)]⟩ => (spec_FlourNeeded k (⟨(⟨a1⟩ : Stock), (⟨a2, a3, a4⟩ : Dough), (⟨a5, a6⟩ : Loaf), (⟨a7, (⟨a8, a9, a10⟩ : Rack), a11, a12, a13⟩ : Book), a14⟩ : Bakery) a15).bind fun y => Q ⟨(.a (.sc (.v (.int .i64 y)))), [.dead, .dead]⟩
 | _ => none
theorem spec_FlourNeeded_ok (k : Nat) : OkE Try.prog 39 (spec_FlourNeeded_x k) := by
 intro A R Q x h
 unfold spec_FlourNeeded_x at h
 split at h
 · obtain ⟨y, hy, hK⟩ := Option.bind_eq_some_iff.1 h
   obtain ⟨r, hr, hd⟩ := callF_ok envOk (spec_FlourNeeded_Ok k) follows Try.func39 (by kernel_rfl) ((spec_FlourNeeded_e k _ _).trans hy)
   exact ⟨_, spec_FlourNeeded_i hd ▸ hr.fin [], hK⟩
 · cases h
/-! ### spec.PartOf: function 121 -/
noncomputable def spec_PartOf (k : Nat)  (flour : Int) (part : Int) : Option (Int) :=
 (spec_l01In k flour 0 1000000).bind fun y1 =>
 cond (!y1)
  (some (-1))
  ((spec_l01In k part 0 2000).bind fun y2 =>
   cond (!y2)
    (some (-1))
    (if (1000 : Int) ≠ 0 then
     some (wr (Int.tdiv (wr ((wr (flour * part)) + 500)) 1000)) else none))
noncomputable def spec_PartOf_v : Nat → List Nat := fun t => match t with | _ => []
noncomputable def spec_PartOf_O (k : Nat) : Oracle := ofL [(66, spec_l01In_x k)]
theorem spec_PartOf_Ok (k : Nat) : OkO (Ct Try.prog) (spec_PartOf_O k) := okO_cons (spec_l01In_ok k) (okO_nil)
noncomputable def spec_PartOf_A (flour : Int) (part : Int) : Pk := ⟨[(.sc (.v (.int .i64 flour))), (.sc (.v (.int .i64 part)))], []⟩
noncomputable def spec_PartOf_d : Rs → Option (Int)
 | ⟨(.a (.sc (.v (.int .i64 r1)))), []⟩ => some r1
 | _ => none
theorem spec_PartOf_i {r : Rs} {y : Int} (h : spec_PartOf_d r = some y) : r = ⟨(.a (.sc (.v (.int .i64 y)))), []⟩ := by
 unfold spec_PartOf_d at h; split at h
 · cases h; rfl
 · cases h
theorem spec_PartOf_e (k : Nat) (flour : Int) (part : Int) : callF env (spec_PartOf_O k) spec_PartOf_v Try.f121 (k + 1) (spec_PartOf_A flour part) (fun r => spec_PartOf_d (r.fin 0 [])) = spec_PartOf k flour part := by kernel_rfl
noncomputable def spec_PartOf_x (k : Nat) : Ent1 := fun A R Q => match A with
 | ⟨[(.sc (.v (.int .i64 a1))), (.sc (.v (.int .i64 a2)))], []⟩ => (spec_PartOf k a1 a2).bind fun y => Q ⟨(.a (.sc (.v (.int .i64 y)))), []⟩
 | _ => none
theorem spec_PartOf_ok (k : Nat) : OkE Try.prog 121 (spec_PartOf_x k) := by
 intro A R Q x h
 unfold spec_PartOf_x at h
 split at h
 · obtain ⟨y, hy, hK⟩ := Option.bind_eq_some_iff.1 h
   obtain ⟨r, hr, hd⟩ := callF_ok envOk (spec_PartOf_Ok k) follows Try.func121 (by kernel_rfl) ((spec_PartOf_e k _ _).trans hy)
   exact ⟨_, spec_PartOf_i hd ▸ hr.fin [], hK⟩
 · cases h
/-! ### spec.Amounts: function 107 -/
noncomputable def spec_Amounts (k : Nat)  (d : Dough) (flour : Int) : Option ((List Int)) :=
 (spec_DoughOk k d).bind fun y1 =>
 cond (!y1)
  (some ([]))
  ((spec_l01In k flour 0 1000000).bind fun y2 =>
   cond (!y2)
    (some ([]))
    ((spec_PartOf k flour d.Water).bind fun y3 =>
     (spec_PartOf k flour d.Salt).bind fun y4 =>
      (spec_PartOf k flour d.Leaven).bind fun y5 =>
       some ([flour, y3, y4, y5])))
noncomputable def spec_Amounts_v : Nat → List Nat := fun t => match t with | _ => []
noncomputable def spec_Amounts_O (k : Nat) : Oracle := ofL [(121, spec_PartOf_x k), (64, spec_DoughOk_x k), (66, spec_l01In_x k)]
theorem spec_Amounts_Ok (k : Nat) : OkO (Ct Try.prog) (spec_Amounts_O k) := okO_cons (spec_PartOf_ok k) (okO_cons (spec_DoughOk_ok k) (okO_cons (spec_l01In_ok k) (okO_nil)))
noncomputable def spec_Amounts_A (d : Dough) (flour : Int) : Pk := ⟨[(.ag [(.v (.int .i64 d.Water)), (.v (.int .i64 d.Salt)), (.v (.int .i64 d.Leaven))]), (.sc (.v (.int .i64 flour)))], []⟩
noncomputable def spec_Amounts_d : Rs → Option ((List Int))
 | ⟨(.a (.sc (.sl 0))), [(.row true K.ki64 r1)]⟩ => some r1
 | _ => none
theorem spec_Amounts_i {r : Rs} {y : (List Int)} (h : spec_Amounts_d r = some y) : r = ⟨(.a (.sc (.sl 0))), [(.row true K.ki64 y)]⟩ := by
 unfold spec_Amounts_d at h; split at h
 · cases h; rfl
 · cases h
theorem spec_Amounts_e (k : Nat) (d : Dough) (flour : Int) : callF env (spec_Amounts_O k) spec_Amounts_v Try.f107 (k + 1) (spec_Amounts_A d flour) (fun r => spec_Amounts_d (r.fin 0 [])) = spec_Amounts k d flour := by kernel_rfl
noncomputable def spec_Amounts_x (k : Nat) : Ent1 := fun A R Q => match A with
 | ⟨[(.ag [(.v (.int .i64 a1)), (.v (.int .i64 a2)), (.v (.int .i64 a3))]), (.sc (.v (.int .i64 a4)))], []⟩ => (spec_Amounts k (⟨a1, a2, a3⟩ : Dough) a4).bind fun y => Q ⟨(.a (.sc (.sl 0))), [(.row true K.ki64 y)]⟩
 | _ => none
theorem spec_Amounts_ok (k : Nat) : OkE Try.prog 107 (spec_Amounts_x k) := by
 intro A R Q x h
 unfold spec_Amounts_x at h
 split at h
 · obtain ⟨y, hy, hK⟩ := Option.bind_eq_some_iff.1 h
   obtain ⟨r, hr, hd⟩ := callF_ok envOk (spec_Amounts_Ok k) follows Try.func107 (by kernel_rfl) ((spec_Amounts_e k _ _).trans hy)
   exact ⟨_, spec_Amounts_i hd ▸ hr.fin [], hK⟩
 · cases h
/-! ### spec.FirstMissing: function 108 -/
noncomputable def spec_FirstMissing_s0 (k : Nat)  (s : Stock) (y1 : (List Int)) (J : Int → Option (Int)) (x0_0 : Int) : Option (Int) :=
 cond (decide ((x0_0 : Int) < ((y1).length : Int)))
 ((spec_StoreOk k s).bind fun y3 =>
  cond y3
   (if 0 ≤ (x0_0 : Int) ∧ (x0_0 : Int) < ((y1).length : Int) then
    if 0 ≤ (x0_0 : Int) ∧ (x0_0 : Int) < ((s.Grams).length : Int) then
     cond (decide (((s.Grams.getD (Int.toNat x0_0) 0) : Int) < (y1.getD (Int.toNat x0_0) 0)))
      (some x0_0)
      (J (wr (x0_0 + 1))) else none else none)
   (some (-1)))
 (some (-1))
noncomputable def spec_FirstMissing_l0 (k : Nat) : Nat → Stock → (List Int) → Int → Option (Int)
 | 0, s, y1, x0_0 => spec_FirstMissing_s0 k s y1 (fun _ => none) x0_0
 | m + 1, s, y1, x0_0 => spec_FirstMissing_s0 k s y1 (spec_FirstMissing_l0 k m s y1) x0_0
noncomputable def spec_FirstMissing_m (k : Nat) (J0 : Stock → (List Int) → Int → Option (Int)) (s : Stock) (d : Dough) (flour : Int) : Option (Int) :=
 (spec_Amounts k d flour).bind fun y1 =>
 J0 s y1 0
noncomputable def spec_FirstMissing (k : Nat) (s : Stock) (d : Dough) (flour : Int) : Option (Int) := spec_FirstMissing_m k (spec_FirstMissing_l0 k k) s d flour
noncomputable def spec_FirstMissing_v : Nat → List Nat := fun t => match t with | 3 => [3, 6, 7, 8] | _ => []
noncomputable def spec_FirstMissing_O (k : Nat) : Oracle := ofL [(107, spec_Amounts_x k), (63, spec_StoreOk_x k)]
theorem spec_FirstMissing_Ok (k : Nat) : OkO (Ct Try.prog) (spec_FirstMissing_O k) := okO_cons (spec_Amounts_ok k) (okO_cons (spec_StoreOk_ok k) (okO_nil))
noncomputable def spec_FirstMissing_A (s : Stock) (d : Dough) (flour : Int) : Pk := ⟨[(.ag [(.sl 0)]), (.ag [(.v (.int .i64 d.Water)), (.v (.int .i64 d.Salt)), (.v (.int .i64 d.Leaven))]), (.sc (.v (.int .i64 flour)))], [(.row false K.ki64 s.Grams)]⟩
noncomputable def spec_FirstMissing_d : Rs → Option (Int)
 | ⟨(.a (.sc (.v (.int .i64 r1)))), [.dead]⟩ => some r1
 | _ => none
theorem spec_FirstMissing_i {r : Rs} {y : Int} (h : spec_FirstMissing_d r = some y) : r = ⟨(.a (.sc (.v (.int .i64 y)))), [.dead]⟩ := by
 unfold spec_FirstMissing_d at h; split at h
 · cases h; rfl
 · cases h
noncomputable def spec_FirstMissing_h0 (k m : Nat) (s : Stock) (y1 : (List Int)) (x0_0 : Int) : Option (Int) := hdAt env (spec_FirstMissing_O k) spec_FirstMissing_v Try.f108 1 (fun r => spec_FirstMissing_d (r.fin 1 [])) [1, 1, 0, 1, 0] k m ⟨tmF [3, 6, 7, 8] [(.a (.sc (.bp 1 0))), (.a (.sc (.v (.int .i64 0)))), (.a (.sc (.sl 2))), (.a (.sc (.v (.int .i64 x0_0))))], blF [(.row false K.ki64 s.Grams), (.box true [(.sl 0)]), (.row true K.ki64 y1)]⟩
theorem spec_FirstMissing_z0 (k : Nat) (s : Stock) (y1 : (List Int)) (x0_0 : Int) : spec_FirstMissing_h0 k 0 s y1 x0_0 = spec_FirstMissing_s0 k s y1 (fun _ => none) x0_0 := by kernel_rfl
theorem spec_FirstMissing_g0 (k : Nat) (H : St → Option (Int)) (s : Stock) (y1 : (List Int)) (x0_0 : Int) : rnd env (spec_FirstMissing_O k) spec_FirstMissing_v Try.f108 1 (fun r => spec_FirstMissing_d (r.fin 1 [])) [1, 1, 0, 1, 0] k H ⟨tmF [3, 6, 7, 8] [(.a (.sc (.bp 1 0))), (.a (.sc (.v (.int .i64 0)))), (.a (.sc (.sl 2))), (.a (.sc (.v (.int .i64 x0_0))))], blF [(.row false K.ki64 s.Grams), (.box true [(.sl 0)]), (.row true K.ki64 y1)]⟩ = spec_FirstMissing_s0 k s y1 (fun x0_0 => H ⟨tmF [3, 6, 7, 8] [(.a (.sc (.bp 1 0))), (.a (.sc (.v (.int .i64 0)))), (.a (.sc (.sl 2))), (.a (.sc (.v (.int .i64 x0_0))))], blF [(.row false K.ki64 s.Grams), (.box true [(.sl 0)]), (.row true K.ki64 y1)]⟩) x0_0 := by kernel_rfl
theorem spec_FirstMissing_n0 (k m : Nat) (s : Stock) (y1 : (List Int)) (x0_0 : Int) : spec_FirstMissing_h0 k (m + 1) s y1 x0_0 = spec_FirstMissing_s0 k s y1 (spec_FirstMissing_h0 k m s y1) x0_0 := (hdAt_succ _ _ _ _ _ _ _ _ _ _).trans (spec_FirstMissing_g0 k _ s y1 x0_0)
theorem spec_FirstMissing_q0 (k : Nat) : ∀ m, spec_FirstMissing_h0 k m = spec_FirstMissing_l0 k m := by
 intro m
 induction m with
 | zero => funext s y1 x0_0; rw [spec_FirstMissing_z0]; rfl
 | succ m ih => funext s y1 x0_0; rw [spec_FirstMissing_n0, ih]; rfl
theorem spec_FirstMissing_e (k : Nat) (s : Stock) (d : Dough) (flour : Int) : callF env (spec_FirstMissing_O k) spec_FirstMissing_v Try.f108 (k + 1) (spec_FirstMissing_A s d flour) (fun r => spec_FirstMissing_d (r.fin 1 [])) = spec_FirstMissing k s d flour := by
 have e : callF env (spec_FirstMissing_O k) spec_FirstMissing_v Try.f108 (k + 1) (spec_FirstMissing_A s d flour) (fun r => spec_FirstMissing_d (r.fin 1 [])) = spec_FirstMissing_m k (spec_FirstMissing_h0 k k) s d flour := by kernel_rfl
 rw [e, spec_FirstMissing_q0]; rfl
noncomputable def spec_FirstMissing_x (k : Nat) : Ent1 := fun A R Q => match A with
 | ⟨[(.ag [(.sl 0)]), (.ag [(.v (.int .i64 a2)), (.v (.int .i64 a3)), (.v (.int .i64 a4))]), (.sc (.v (.int .i64 a5)))], [(.row false K.ki64 a1)]⟩ => (spec_FirstMissing k (⟨a1⟩ : Stock) (⟨a2, a3, a4⟩ : Dough) a5).bind fun y => Q ⟨(.a (.sc (.v (.int .i64 y)))), [.dead]⟩
 | _ => none
theorem spec_FirstMissing_ok (k : Nat) : OkE Try.prog 108 (spec_FirstMissing_x k) := by
 intro A R Q x h
 unfold spec_FirstMissing_x at h
 split at h
 · obtain ⟨y, hy, hK⟩ := Option.bind_eq_some_iff.1 h
   obtain ⟨r, hr, hd⟩ := callF_ok envOk (spec_FirstMissing_Ok k) follows Try.func108 (by kernel_rfl) ((spec_FirstMissing_e k _ _ _).trans hy)
   exact ⟨_, spec_FirstMissing_i hd ▸ hr.fin [], hK⟩
 · cases h
/-! ### spec.TakeFor: function 92 -/
noncomputable def spec_TakeFor_s0 (k : Nat)  (s : Stock) (y2 : (List Int)) (J : Int → (List Int) → Option (Stock × Bool)) (x0_0 : Int) (x0_1 : (List Int)) : Option (Stock × Bool) :=
 cond (decide ((x0_0 : Int) < 4))
 (if 0 ≤ (x0_0 : Int) ∧ (x0_0 : Int) < ((s.Grams).length : Int) then
  if 0 ≤ (x0_0 : Int) ∧ (x0_0 : Int) < ((y2).length : Int) then
   if 0 ≤ (x0_0 : Int) ∧ (x0_0 : Int) < ((x0_1).length : Int) then
    J (wr (x0_0 + 1)) (x0_1.set (Int.toNat x0_0) (wr ((s.Grams.getD (Int.toNat x0_0) 0) - (y2.getD (Int.toNat x0_0) 0)))) else none else none else none)
 (some ((⟨x0_1⟩ : Stock), true))
noncomputable def spec_TakeFor_l0 (k : Nat) : Nat → Stock → (List Int) → Int → (List Int) → Option (Stock × Bool)
 | 0, s, y2, x0_0, x0_1 => spec_TakeFor_s0 k s y2 (fun _ _ => none) x0_0 x0_1
 | m + 1, s, y2, x0_0, x0_1 => spec_TakeFor_s0 k s y2 (spec_TakeFor_l0 k m s y2) x0_0 x0_1
noncomputable def spec_TakeFor_m (k : Nat) (J0 : Stock → (List Int) → Int → (List Int) → Option (Stock × Bool)) (s : Stock) (d : Dough) (flour : Int) : Option (Stock × Bool) :=
 (spec_l36Copy k s).bind fun y1 =>
 (spec_Amounts k d flour).bind fun y2 =>
  (spec_StoreOk k s).bind fun y3 =>
   cond (!y3)
    (some (y1, false))
    (cond (decide ((((y2).length : Int) : Int) = 0))
     (some (y1, false))
     ((spec_FirstMissing k s d flour).bind fun y4 =>
      cond (decide ((0 : Int) ≤ y4))
       (some (y1, false))
       (J0 s y2 0 y1.Grams)))
noncomputable def spec_TakeFor (k : Nat) (s : Stock) (d : Dough) (flour : Int) : Option (Stock × Bool) := spec_TakeFor_m k (spec_TakeFor_l0 k k) s d flour
noncomputable def spec_TakeFor_v : Nat → List Nat := fun t => match t with | 6 => [3, 6, 7, 8, 9, 10] | _ => []
noncomputable def spec_TakeFor_O (k : Nat) : Oracle := ofL [(106, spec_l36Copy_x k), (107, spec_Amounts_x k), (108, spec_FirstMissing_x k), (63, spec_StoreOk_x k)]
theorem spec_TakeFor_Ok (k : Nat) : OkO (Ct Try.prog) (spec_TakeFor_O k) := okO_cons (spec_l36Copy_ok k) (okO_cons (spec_Amounts_ok k) (okO_cons (spec_FirstMissing_ok k) (okO_cons (spec_StoreOk_ok k) (okO_nil))))
noncomputable def spec_TakeFor_A (s : Stock) (d : Dough) (flour : Int) : Pk := ⟨[(.ag [(.sl 0)]), (.ag [(.v (.int .i64 d.Water)), (.v (.int .i64 d.Salt)), (.v (.int .i64 d.Leaven))]), (.sc (.v (.int .i64 flour)))], [(.row false K.ki64 s.Grams)]⟩
noncomputable def spec_TakeFor_d : Rs → Option (Stock × Bool)
 | ⟨(.tp [(.ag [(.sl 1)]), (.sc (.v (.bool r2)))]), [.dead, (.row true K.ki64 r1)]⟩ => some ((⟨r1⟩ : Stock), r2)
 | _ => none
theorem spec_TakeFor_i {r : Rs} {y : Stock × Bool} (h : spec_TakeFor_d r = some y) : r = ⟨(.tp [(.ag [(.sl 1)]), (.sc (.v (.bool y.2)))]), [.dead, (.row true K.ki64 y.1.Grams)]⟩ := by
 unfold spec_TakeFor_d at h; split at h
 · cases h; rfl
 · cases h
noncomputable def spec_TakeFor_h0 (k m : Nat) (s : Stock) (y2 : (List Int)) (x0_0 : Int) (x0_1 : (List Int)) : Option (Stock × Bool) := hdAt env (spec_TakeFor_O k) spec_TakeFor_v Try.f92 1 (fun r => spec_TakeFor_d (r.fin 1 [])) [1, 1, 1, 1, 0, 1, 0] k m ⟨tmF [3, 6, 7, 8, 9, 10] [(.a (.sc (.bp 1 0))), (.a (.sc (.bp 3 0))), (.a (.sc (.v (.bool false)))), (.a (.sc (.bp 5 0))), (.a (.sc (.sl 6))), (.a (.sc (.v (.int .i64 x0_0))))], blF [(.row false K.ki64 s.Grams), (.box true [(.sl 0)]), (.row true K.ki64 []), (.box true [(.sl 2)]), (.row true K.ki64 x0_1), (.box true [(.sl 4)]), (.row true K.ki64 y2)]⟩
theorem spec_TakeFor_z0 (k : Nat) (s : Stock) (y2 : (List Int)) (x0_0 : Int) (x0_1 : (List Int)) : spec_TakeFor_h0 k 0 s y2 x0_0 x0_1 = spec_TakeFor_s0 k s y2 (fun _ _ => none) x0_0 x0_1 := by kernel_rfl
theorem spec_TakeFor_g0 (k : Nat) (H : St → Option (Stock × Bool)) (s : Stock) (y2 : (List Int)) (x0_0 : Int) (x0_1 : (List Int)) : rnd env (spec_TakeFor_O k) spec_TakeFor_v Try.f92 1 (fun r => spec_TakeFor_d (r.fin 1 [])) [1, 1, 1, 1, 0, 1, 0] k H ⟨tmF [3, 6, 7, 8, 9, 10] [(.a (.sc (.bp 1 0))), (.a (.sc (.bp 3 0))), (.a (.sc (.v (.bool false)))), (.a (.sc (.bp 5 0))), (.a (.sc (.sl 6))), (.a (.sc (.v (.int .i64 x0_0))))], blF [(.row false K.ki64 s.Grams), (.box true [(.sl 0)]), (.row true K.ki64 []), (.box true [(.sl 2)]), (.row true K.ki64 x0_1), (.box true [(.sl 4)]), (.row true K.ki64 y2)]⟩ = spec_TakeFor_s0 k s y2 (fun x0_0 x0_1 => H ⟨tmF [3, 6, 7, 8, 9, 10] [(.a (.sc (.bp 1 0))), (.a (.sc (.bp 3 0))), (.a (.sc (.v (.bool false)))), (.a (.sc (.bp 5 0))), (.a (.sc (.sl 6))), (.a (.sc (.v (.int .i64 x0_0))))], blF [(.row false K.ki64 s.Grams), (.box true [(.sl 0)]), (.row true K.ki64 []), (.box true [(.sl 2)]), (.row true K.ki64 x0_1), (.box true [(.sl 4)]), (.row true K.ki64 y2)]⟩) x0_0 x0_1 := by kernel_rfl
theorem spec_TakeFor_n0 (k m : Nat) (s : Stock) (y2 : (List Int)) (x0_0 : Int) (x0_1 : (List Int)) : spec_TakeFor_h0 k (m + 1) s y2 x0_0 x0_1 = spec_TakeFor_s0 k s y2 (spec_TakeFor_h0 k m s y2) x0_0 x0_1 := (hdAt_succ _ _ _ _ _ _ _ _ _ _).trans (spec_TakeFor_g0 k _ s y2 x0_0 x0_1)
theorem spec_TakeFor_q0 (k : Nat) : ∀ m, spec_TakeFor_h0 k m = spec_TakeFor_l0 k m := by
 intro m
 induction m with
 | zero => funext s y2 x0_0 x0_1; rw [spec_TakeFor_z0]; rfl
 | succ m ih => funext s y2 x0_0 x0_1; rw [spec_TakeFor_n0, ih]; rfl
theorem spec_TakeFor_e (k : Nat) (s : Stock) (d : Dough) (flour : Int) : callF env (spec_TakeFor_O k) spec_TakeFor_v Try.f92 (k + 1) (spec_TakeFor_A s d flour) (fun r => spec_TakeFor_d (r.fin 1 [])) = spec_TakeFor k s d flour := by
 have e : callF env (spec_TakeFor_O k) spec_TakeFor_v Try.f92 (k + 1) (spec_TakeFor_A s d flour) (fun r => spec_TakeFor_d (r.fin 1 [])) = spec_TakeFor_m k (spec_TakeFor_h0 k k) s d flour := by kernel_rfl
 rw [e, spec_TakeFor_q0]; rfl
noncomputable def spec_TakeFor_x (k : Nat) : Ent1 := fun A R Q => match A with
 | ⟨[(.ag [(.sl 0)]), (.ag [(.v (.int .i64 a2)), (.v (.int .i64 a3)), (.v (.int .i64 a4))]), (.sc (.v (.int .i64 a5)))], [(.row false K.ki64 a1)]⟩ => (spec_TakeFor k (⟨a1⟩ : Stock) (⟨a2, a3, a4⟩ : Dough) a5).bind fun y => Q ⟨(.tp [(.ag [(.sl 1)]), (.sc (.v (.bool y.2)))]), [.dead, (.row true K.ki64 y.1.Grams)]⟩
 | _ => none
theorem spec_TakeFor_ok (k : Nat) : OkE Try.prog 92 (spec_TakeFor_x k) := by
 intro A R Q x h
 unfold spec_TakeFor_x at h
 split at h
 · obtain ⟨y, hy, hK⟩ := Option.bind_eq_some_iff.1 h
   obtain ⟨r, hr, hd⟩ := callF_ok envOk (spec_TakeFor_Ok k) follows Try.func92 (by kernel_rfl) ((spec_TakeFor_e k _ _ _).trans hy)
   exact ⟨_, spec_TakeFor_i hd ▸ hr.fin [], hK⟩
 · cases h
/-! ### spec.BakeLoaves: function 47 -/
noncomputable def spec_BakeLoaves (k : Nat)  (b : Bakery) (loaves : Int) : Option (Bakery × Bool) :=
 (spec_FlourNeeded k b loaves).bind fun y1 =>
 cond (decide ((y1 : Int) < 0))
  ((spec_l38Copy k b).bind fun y2 =>
   some (y2, false))
  ((spec_TakeFor k b.Stock b.Dough y1).bind fun y3 =>
   (spec_l38Enter k b (⟨1, loaves⟩ : Event) 0).bind fun y4 =>
    cond (!y3.2)
     ((spec_l38Copy k b).bind fun y5 =>
      some (y5, false))
     (cond (!y4.2)
      ((spec_l38Copy k b).bind fun y6 =>
       some (y6, false))
      (some ((⟨y3.1, y4.1.Dough, y4.1.Loaf, y4.1.Book, y4.1.Money⟩ : Bakery), true))))
noncomputable def spec_BakeLoaves_v : Nat → List Nat := fun t => match t with | _ => []
noncomputable def spec_BakeLoaves_O (k : Nat) : Oracle := ofL [(39, spec_FlourNeeded_x k), (82, spec_l38Enter_x k), (86, spec_l38Copy_x k), (92, spec_TakeFor_x k)]
theorem spec_BakeLoaves_Ok (k : Nat) : OkO (Ct Try.prog) (spec_BakeLoaves_O k) := okO_cons (spec_FlourNeeded_ok k) (okO_cons (spec_l38Enter_ok k) (okO_cons (spec_l38Copy_ok k) (okO_cons (spec_TakeFor_ok k) (okO_nil))))
noncomputable def spec_BakeLoaves_A (b : Bakery) (loaves : Int) : Pk := ⟨[(.ag [(.sl 0), (.v (.int .i64 b.Dough.Water)), (.v (.int .i64 b.Dough.Salt)), (.v (.int .i64 b.Dough.Leaven)), (.v (.int .i64 b.Loaf.Weight)), (.v (.int .i64 b.Loaf.Loss)), (.sl 1), (.v (.int .i64 b.Book.Rack.Fresh)), (.v (.int .i64 b.Book.Rack.Day)), (.v (.int .i64 b.Book.Rack.Old)), (.v (.int .i64 b.Book.Baked)), (.v (.int .i64 b.Book.Sold)), (.v (.int .i64 b.Book.Thrown)), (.v (.int .i64 b.Money))]), (.sc (.v (.int .i64 loaves)))], [(.row false K.ki64 b.Stock.Grams), (.row false K.k_impl_Event b.Book.Events)]⟩
noncomputable def spec_BakeLoaves_d : Rs → Option (Bakery × Bool)
 | ⟨(.tp [(.ag [(.sl 2), (.v (.int .i64 r2)), (.v (.int .i64 r3)), (.v (.int .i64 r4)), (.v (.int .i64 r5)), (.v (.int .i64 r6)), (.sl 3), (.v (.int .i64 r8)), (.v (.int .i64 r9)), (.v (.int .i64 r10)), (.v (.int .i64 r11)), (.v (.int .i64 r12)), (.v (.int .i64 r13)), (.v (.int .i64 r14))]), (.sc (.v (.bool r15)))]), [.dead, .dead, (.row true K.ki64 r1), (.row true K.k_impl_Event r7)]⟩ => some ((⟨(⟨r1⟩ : Stock), (⟨r2, r3, r4⟩ : Dough), (⟨r5, r6⟩ : Loaf), (⟨r7, (⟨r8, r9, r10⟩ : Rack), r11, r12, r13⟩ : Book), r14⟩ : Bakery), r15)
 | _ => none
theorem spec_BakeLoaves_i {r : Rs} {y : Bakery × Bool} (h : spec_BakeLoaves_d r = some y) : r = ⟨(.tp [(.ag [(.sl 2), (.v (.int .i64 y.1.Dough.Water)), (.v (.int .i64 y.1.Dough.Salt)), (.v (.int .i64 y.1.Dough.Leaven)), (.v (.int .i64 y.1.Loaf.Weight)), (.v (.int .i64 y.1.Loaf.Loss)), (.sl 3), (.v (.int .i64 y.1.Book.Rack.Fresh)), (.v (.int .i64 y.1.Book.Rack.Day)), (.v (.int .i64 y.1.Book.Rack.Old)), (.v (.int .i64 y.1.Book.Baked)), (.v (.int .i64 y.1.Book.Sold)), (.v (.int .i64 y.1.Book.Thrown)), (.v (.int .i64 y.1.Money))]), (.sc (.v (.bool y.2)))]), [.dead, .dead, (.row true K.ki64 y.1.Stock.Grams), (.row true K.k_impl_Event y.1.Book.Events)]⟩ := by
 unfold spec_BakeLoaves_d at h; split at h
 · cases h; rfl
 · cases h
theorem spec_BakeLoaves_e (k : Nat) (b : Bakery) (loaves : Int) : callF env (spec_BakeLoaves_O k) spec_BakeLoaves_v Try.f47 (k + 1) (spec_BakeLoaves_A b loaves) (fun r => spec_BakeLoaves_d (r.fin 2 [])) = spec_BakeLoaves k b loaves := by kernel_rfl
noncomputable def spec_BakeLoaves_x (k : Nat) : Ent1 := fun A R Q => match A with
 | ⟨[(.ag [(.sl 0), (.v (.int .i64 a2)), (.v (.int .i64 a3)), (.v (.int .i64 a4)), (.v (.int .i64 a5)), (.v (.int .i64 a6)), (.sl 1), (.v (.int .i64 a8)), (.v (.int .i64 a9)), (.v (.int .i64 a10)), (.v (.int .i64 a11)), (.v (.int .i64 a12)), (.v (.int .i64 a13)), (.v (.int .i64 a14))]), (.sc (.v (.int .i64 a15)))], [(.row false K.ki64 a1), (.row false K.k_impl_Event a7)]⟩ => (spec_BakeLoaves k (⟨(⟨a1⟩ : Stock), (⟨a2, a3, a4⟩ : Dough), (⟨a5, a6⟩ : Loaf), (⟨a7, (⟨a8, a9, a10⟩ : Rack), a11, a12, a13⟩ : Book), a14⟩ : Bakery) a15).bind fun y => Q ⟨(.tp [(.ag [(.sl 2), (.v (.int .i64 y.1.Dough.Water)), (.v (.int .i64 y.1.Dough.Salt)), (.v (.int .i64 y.1.Dough.Leaven)), (.v (.int .i64 y.1.Loaf.Weight)), (.v (.int .i64 y.1.Loaf.Loss)), (.sl 3), (.v (.int .i64 y.1.Book.Rack.Fresh)), (.v (.int .i64 y.1.Book.Rack.Day)), (.v (.int .i64 y.1.Book.Rack.Old)), (.v (.int .i64 y.1.Book.Baked)), (.v (.int .i64 y.1.Book.Sold)), (.v (.int .i64 y.1.Book.Thrown)), (.v (.int .i64 y.1.Money))]), (.sc (.v (.bool y.2)))]), [.dead, .dead, (.row true K.ki64 y.1.Stock.Grams), (.row true K.k_impl_Event y.1.Book.Events)]⟩
 | _ => none
theorem spec_BakeLoaves_ok (k : Nat) : OkE Try.prog 47 (spec_BakeLoaves_x k) := by
 intro A R Q x h
 unfold spec_BakeLoaves_x at h
 split at h
 · obtain ⟨y, hy, hK⟩ := Option.bind_eq_some_iff.1 h
   obtain ⟨r, hr, hd⟩ := callF_ok envOk (spec_BakeLoaves_Ok k) follows Try.func47 (by kernel_rfl) ((spec_BakeLoaves_e k _ _).trans hy)
   exact ⟨_, spec_BakeLoaves_i hd ▸ hr.fin [], hK⟩
 · cases h
/-! ### impl.Loaf).baked: function 105 -/
noncomputable def impl_Loaf_baked (k : Nat)  (l : Loaf) (dough : Int) : Option (Int) :=
 (impl_up k (wr (dough * l.Loss)) 100).bind fun y1 =>
 some (wr (dough - y1))
noncomputable def impl_Loaf_baked_v : Nat → List Nat := fun t => match t with | _ => []
noncomputable def impl_Loaf_baked_O (k : Nat) : Oracle := ofL [(90, impl_up_x k)]
theorem impl_Loaf_baked_Ok (k : Nat) : OkO (Ct Try.prog) (impl_Loaf_baked_O k) := okO_cons (impl_up_ok k) (okO_nil)
noncomputable def impl_Loaf_baked_A (l : Loaf) (dough : Int) : Pk := ⟨[(.ag [(.v (.int .i64 l.Weight)), (.v (.int .i64 l.Loss))]), (.sc (.v (.int .i64 dough)))], []⟩
noncomputable def impl_Loaf_baked_d : Rs → Option (Int)
 | ⟨(.a (.sc (.v (.int .i64 r1)))), []⟩ => some r1
 | _ => none
theorem impl_Loaf_baked_i {r : Rs} {y : Int} (h : impl_Loaf_baked_d r = some y) : r = ⟨(.a (.sc (.v (.int .i64 y)))), []⟩ := by
 unfold impl_Loaf_baked_d at h; split at h
 · cases h; rfl
 · cases h
theorem impl_Loaf_baked_e (k : Nat) (l : Loaf) (dough : Int) : callF env (impl_Loaf_baked_O k) impl_Loaf_baked_v Try.f105 (k + 1) (impl_Loaf_baked_A l dough) (fun r => impl_Loaf_baked_d (r.fin 0 [])) = impl_Loaf_baked k l dough := by kernel_rfl
noncomputable def impl_Loaf_baked_x (k : Nat) : Ent1 := fun A R Q => match A with
 | ⟨[(.ag [(.v (.int .i64 a1)), (.v (.int .i64 a2))]), (.sc (.v (.int .i64 a3)))], []⟩ => (impl_Loaf_baked k (⟨a1, a2⟩ : Loaf) a3).bind fun y => Q ⟨(.a (.sc (.v (.int .i64 y)))), []⟩
 | _ => none
theorem impl_Loaf_baked_ok (k : Nat) : OkE Try.prog 105 (impl_Loaf_baked_x k) := by
 intro A R Q x h
 unfold impl_Loaf_baked_x at h
 split at h
 · obtain ⟨y, hy, hK⟩ := Option.bind_eq_some_iff.1 h
   obtain ⟨r, hr, hd⟩ := callF_ok envOk (impl_Loaf_baked_Ok k) follows Try.func105 (by kernel_rfl) ((impl_Loaf_baked_e k _ _).trans hy)
   exact ⟨_, impl_Loaf_baked_i hd ▸ hr.fin [], hK⟩
 · cases h
/-! ### impl.DoughFor: function 81 -/
noncomputable def impl_DoughFor_s0 (k : Nat)  (l : Loaf) (J : Int → Option (Int)) (x0_0 : Int) : Option (Int) :=
 (impl_Loaf_baked k l x0_0).bind fun y3 =>
 cond (decide ((y3 : Int) < l.Weight))
  (J (wr (x0_0 + 1)))
  (some x0_0)
noncomputable def impl_DoughFor_l0 (k : Nat) : Nat → Loaf → Int → Option (Int)
 | 0, l, x0_0 => impl_DoughFor_s0 k l (fun _ => none) x0_0
 | m + 1, l, x0_0 => impl_DoughFor_s0 k l (impl_DoughFor_l0 k m l) x0_0
noncomputable def impl_DoughFor_m (k : Nat) (J0 : Loaf → Int → Option (Int)) (l : Loaf) : Option (Int) :=
 (impl_LoafOk k l).bind fun y1 =>
 cond (!y1)
  (some (-1))
  (J0 l l.Weight)
noncomputable def impl_DoughFor (k : Nat) (l : Loaf) : Option (Int) := impl_DoughFor_m k (impl_DoughFor_l0 k k) l
noncomputable def impl_DoughFor_v : Nat → List Nat := fun t => match t with | 4 => [1, 2, 3] | _ => []
noncomputable def impl_DoughFor_O (k : Nat) : Oracle := ofL [(105, impl_Loaf_baked_x k), (70, impl_LoafOk_x k)]
theorem impl_DoughFor_Ok (k : Nat) : OkO (Ct Try.prog) (impl_DoughFor_O k) := okO_cons (impl_Loaf_baked_ok k) (okO_cons (impl_LoafOk_ok k) (okO_nil))
noncomputable def impl_DoughFor_A (l : Loaf) : Pk := ⟨[(.ag [(.v (.int .i64 l.Weight)), (.v (.int .i64 l.Loss))])], []⟩
noncomputable def impl_DoughFor_d : Rs → Option (Int)
 | ⟨(.a (.sc (.v (.int .i64 r1)))), []⟩ => some r1
 | _ => none
theorem impl_DoughFor_i {r : Rs} {y : Int} (h : impl_DoughFor_d r = some y) : r = ⟨(.a (.sc (.v (.int .i64 y)))), []⟩ := by
 unfold impl_DoughFor_d at h; split at h
 · cases h; rfl
 · cases h
noncomputable def impl_DoughFor_h0 (k m : Nat) (l : Loaf) (x0_0 : Int) : Option (Int) := hdAt env (impl_DoughFor_O k) impl_DoughFor_v Try.f81 0 (fun r => impl_DoughFor_d (r.fin 0 [])) [1, 1, 1, 0, 0] k m ⟨tmF [1, 2, 3] [(.a (.sc (.bp 0 0))), (.a (.sc (.v (.int .i64 0)))), (.a (.sc (.v (.int .i64 x0_0))))], blF [(.box true [(.v (.int .i64 l.Weight)), (.v (.int .i64 l.Loss))])]⟩
theorem impl_DoughFor_z0 (k : Nat) (l : Loaf) (x0_0 : Int) : impl_DoughFor_h0 k 0 l x0_0 = impl_DoughFor_s0 k l (fun _ => none) x0_0 := by kernel_rfl
theorem impl_DoughFor_g0 (k : Nat) (H : St → Option (Int)) (l : Loaf) (x0_0 : Int) : rnd env (impl_DoughFor_O k) impl_DoughFor_v Try.f81 0 (fun r => impl_DoughFor_d (r.fin 0 [])) [1, 1, 1, 0, 0] k H ⟨tmF [1, 2, 3] [(.a (.sc (.bp 0 0))), (.a (.sc (.v (.int .i64 0)))), (.a (.sc (.v (.int .i64 x0_0))))], blF [(.box true [(.v (.int .i64 l.Weight)), (.v (.int .i64 l.Loss))])]⟩ = impl_DoughFor_s0 k l (fun x0_0 => H ⟨tmF [1, 2, 3] [(.a (.sc (.bp 0 0))), (.a (.sc (.v (.int .i64 0)))), (.a (.sc (.v (.int .i64 x0_0))))], blF [(.box true [(.v (.int .i64 l.Weight)), (.v (.int .i64 l.Loss))])]⟩) x0_0 := by kernel_rfl
theorem impl_DoughFor_n0 (k m : Nat) (l : Loaf) (x0_0 : Int) : impl_DoughFor_h0 k (m + 1) l x0_0 = impl_DoughFor_s0 k l (impl_DoughFor_h0 k m l) x0_0 := (hdAt_succ _ _ _ _ _ _ _ _ _ _).trans (impl_DoughFor_g0 k _ l x0_0)
theorem impl_DoughFor_q0 (k : Nat) : ∀ m, impl_DoughFor_h0 k m = impl_DoughFor_l0 k m := by
 intro m
 induction m with
 | zero => funext l x0_0; rw [impl_DoughFor_z0]; rfl
 | succ m ih => funext l x0_0; rw [impl_DoughFor_n0, ih]; rfl
theorem impl_DoughFor_e (k : Nat) (l : Loaf) : callF env (impl_DoughFor_O k) impl_DoughFor_v Try.f81 (k + 1) (impl_DoughFor_A l) (fun r => impl_DoughFor_d (r.fin 0 [])) = impl_DoughFor k l := by
 have e : callF env (impl_DoughFor_O k) impl_DoughFor_v Try.f81 (k + 1) (impl_DoughFor_A l) (fun r => impl_DoughFor_d (r.fin 0 [])) = impl_DoughFor_m k (impl_DoughFor_h0 k k) l := by kernel_rfl
 rw [e, impl_DoughFor_q0]; rfl
noncomputable def impl_DoughFor_x (k : Nat) : Ent1 := fun A R Q => match A with
 | ⟨[(.ag [(.v (.int .i64 a1)), (.v (.int .i64 a2))])], []⟩ => (impl_DoughFor k (⟨a1, a2⟩ : Loaf)).bind fun y => Q ⟨(.a (.sc (.v (.int .i64 y)))), []⟩
 | _ => none
theorem impl_DoughFor_ok (k : Nat) : OkE Try.prog 81 (impl_DoughFor_x k) := by
 intro A R Q x h
 unfold impl_DoughFor_x at h
 split at h
 · obtain ⟨y, hy, hK⟩ := Option.bind_eq_some_iff.1 h
   obtain ⟨r, hr, hd⟩ := callF_ok envOk (impl_DoughFor_Ok k) follows Try.func81 (by kernel_rfl) ((impl_DoughFor_e k _).trans hy)
   exact ⟨_, impl_DoughFor_i hd ▸ hr.fin [], hK⟩
 · cases h
/-! ### impl.WholeParts: function 104 -/
noncomputable def impl_WholeParts (k : Nat)  (d : Dough) : Option (Int) :=
 (impl_DoughOk k d).bind fun y1 =>
 cond (!y1)
  (some (-1))
  (some (wr ((wr ((wr ((1000 : Int) + d.Water)) + d.Salt)) + d.Leaven)))
noncomputable def impl_WholeParts_v : Nat → List Nat := fun t => match t with | _ => []
noncomputable def impl_WholeParts_O (k : Nat) : Oracle := ofL [(69, impl_DoughOk_x k)]
theorem impl_WholeParts_Ok (k : Nat) : OkO (Ct Try.prog) (impl_WholeParts_O k) := okO_cons (impl_DoughOk_ok k) (okO_nil)
noncomputable def impl_WholeParts_A (d : Dough) : Pk := ⟨[(.ag [(.v (.int .i64 d.Water)), (.v (.int .i64 d.Salt)), (.v (.int .i64 d.Leaven))])], []⟩
noncomputable def impl_WholeParts_d : Rs → Option (Int)
 | ⟨(.a (.sc (.v (.int .i64 r1)))), []⟩ => some r1
 | _ => none
theorem impl_WholeParts_i {r : Rs} {y : Int} (h : impl_WholeParts_d r = some y) : r = ⟨(.a (.sc (.v (.int .i64 y)))), []⟩ := by
 unfold impl_WholeParts_d at h; split at h
 · cases h; rfl
 · cases h
theorem impl_WholeParts_e (k : Nat) (d : Dough) : callF env (impl_WholeParts_O k) impl_WholeParts_v Try.f104 (k + 1) (impl_WholeParts_A d) (fun r => impl_WholeParts_d (r.fin 0 [])) = impl_WholeParts k d := by kernel_rfl
noncomputable def impl_WholeParts_x (k : Nat) : Ent1 := fun A R Q => match A with
 | ⟨[(.ag [(.v (.int .i64 a1)), (.v (.int .i64 a2)), (.v (.int .i64 a3))])], []⟩ => (impl_WholeParts k (⟨a1, a2, a3⟩ : Dough)).bind fun y => Q ⟨(.a (.sc (.v (.int .i64 y)))), []⟩
 | _ => none
theorem impl_WholeParts_ok (k : Nat) : OkE Try.prog 104 (impl_WholeParts_x k) := by
 intro A R Q x h
 unfold impl_WholeParts_x at h
 split at h
 · obtain ⟨y, hy, hK⟩ := Option.bind_eq_some_iff.1 h
   obtain ⟨r, hr, hd⟩ := callF_ok envOk (impl_WholeParts_Ok k) follows Try.func104 (by kernel_rfl) ((impl_WholeParts_e k _).trans hy)
   exact ⟨_, impl_WholeParts_i hd ▸ hr.fin [], hK⟩
 · cases h
/-! ### impl.FlourFor: function 80 -/
noncomputable def impl_FlourFor (k : Nat)  (d : Dough) (weight : Int) : Option (Int) :=
 (impl_DoughOk k d).bind fun y1 =>
 cond (!y1)
  (some (-1))
  ((impl_in k weight 0 1000000).bind fun y2 =>
   cond (!y2)
    (some (-1))
    ((impl_WholeParts k d).bind fun y3 =>
     (impl_up k (wr ((1000 : Int) * weight)) y3).bind fun y4 =>
      some y4))
noncomputable def impl_FlourFor_v : Nat → List Nat := fun t => match t with | _ => []
noncomputable def impl_FlourFor_O (k : Nat) : Oracle := ofL [(104, impl_WholeParts_x k), (69, impl_DoughOk_x k), (71, impl_in_x k), (90, impl_up_x k)]
theorem impl_FlourFor_Ok (k : Nat) : OkO (Ct Try.prog) (impl_FlourFor_O k) := okO_cons (impl_WholeParts_ok k) (okO_cons (impl_DoughOk_ok k) (okO_cons (impl_in_ok k) (okO_cons (impl_up_ok k) (okO_nil))))
noncomputable def impl_FlourFor_A (d : Dough) (weight : Int) : Pk := ⟨[(.ag [(.v (.int .i64 d.Water)), (.v (.int .i64 d.Salt)), (.v (.int .i64 d.Leaven))]), (.sc (.v (.int .i64 weight)))], []⟩
noncomputable def impl_FlourFor_d : Rs → Option (Int)
 | ⟨(.a (.sc (.v (.int .i64 r1)))), []⟩ => some r1
 | _ => none
theorem impl_FlourFor_i {r : Rs} {y : Int} (h : impl_FlourFor_d r = some y) : r = ⟨(.a (.sc (.v (.int .i64 y)))), []⟩ := by
 unfold impl_FlourFor_d at h; split at h
 · cases h; rfl
 · cases h
theorem impl_FlourFor_e (k : Nat) (d : Dough) (weight : Int) : callF env (impl_FlourFor_O k) impl_FlourFor_v Try.f80 (k + 1) (impl_FlourFor_A d weight) (fun r => impl_FlourFor_d (r.fin 0 [])) = impl_FlourFor k d weight := by kernel_rfl
noncomputable def impl_FlourFor_x (k : Nat) : Ent1 := fun A R Q => match A with
 | ⟨[(.ag [(.v (.int .i64 a1)), (.v (.int .i64 a2)), (.v (.int .i64 a3))]), (.sc (.v (.int .i64 a4)))], []⟩ => (impl_FlourFor k (⟨a1, a2, a3⟩ : Dough) a4).bind fun y => Q ⟨(.a (.sc (.v (.int .i64 y)))), []⟩
 | _ => none
theorem impl_FlourFor_ok (k : Nat) : OkE Try.prog 80 (impl_FlourFor_x k) := by
 intro A R Q x h
 unfold impl_FlourFor_x at h
 split at h
 · obtain ⟨y, hy, hK⟩ := Option.bind_eq_some_iff.1 h
   obtain ⟨r, hr, hd⟩ := callF_ok envOk (impl_FlourFor_Ok k) follows Try.func80 (by kernel_rfl) ((impl_FlourFor_e k _ _).trans hy)
   exact ⟨_, impl_FlourFor_i hd ▸ hr.fin [], hK⟩
 · cases h
/-! ### impl.FlourNeeded: function 40 -/
noncomputable def impl_FlourNeeded (k : Nat)  (b : Bakery) (loaves : Int) : Option (Int) :=
 (impl_BakeryOk k b).bind fun y1 =>
 cond (!y1)
  (some (-1))
  ((impl_in k loaves 0 1000).bind fun y2 =>
   cond (!y2)
    (some (-1))
    ((impl_DoughFor k b.Loaf).bind fun y3 =>
     (impl_FlourFor k b.Dough (wr (y3 * loaves))).bind fun y4 =>
      some y4))
noncomputable def impl_FlourNeeded_v : Nat → List Nat := fun t => match t with | _ => []
noncomputable def impl_FlourNeeded_O (k : Nat) : Oracle := ofL [(26, impl_BakeryOk_x k), (71, impl_in_x k), (80, impl_FlourFor_x k), (81, impl_DoughFor_x k)]
theorem impl_FlourNeeded_Ok (k : Nat) : OkO (Ct Try.prog) (impl_FlourNeeded_O k) := okO_cons (impl_BakeryOk_ok k) (okO_cons (impl_in_ok k) (okO_cons (impl_FlourFor_ok k) (okO_cons (impl_DoughFor_ok k) (okO_nil))))
noncomputable def impl_FlourNeeded_A (b : Bakery) (loaves : Int) : Pk := ⟨[(.ag [(.sl 0), (.v (.int .i64 b.Dough.Water)), (.v (.int .i64 b.Dough.Salt)), (.v (.int .i64 b.Dough.Leaven)), (.v (.int .i64 b.Loaf.Weight)), (.v (.int .i64 b.Loaf.Loss)), (.sl 1), (.v (.int .i64 b.Book.Rack.Fresh)), (.v (.int .i64 b.Book.Rack.Day)), (.v (.int .i64 b.Book.Rack.Old)), (.v (.int .i64 b.Book.Baked)), (.v (.int .i64 b.Book.Sold)), (.v (.int .i64 b.Book.Thrown)), (.v (.int .i64 b.Money))]), (.sc (.v (.int .i64 loaves)))], [(.row false K.ki64 b.Stock.Grams), (.row false K.k_impl_Event b.Book.Events)]⟩
noncomputable def impl_FlourNeeded_d : Rs → Option (Int)
 | ⟨(.a (.sc (.v (.int .i64 r1)))), [.dead, .dead]⟩ => some r1
 | _ => none
theorem impl_FlourNeeded_i {r : Rs} {y : Int} (h : impl_FlourNeeded_d r = some y) : r = ⟨(.a (.sc (.v (.int .i64 y)))), [.dead, .dead]⟩ := by
 unfold impl_FlourNeeded_d at h; split at h
 · cases h; rfl
 · cases h
theorem impl_FlourNeeded_e (k : Nat) (b : Bakery) (loaves : Int) : callF env (impl_FlourNeeded_O k) impl_FlourNeeded_v Try.f40 (k + 1) (impl_FlourNeeded_A b loaves) (fun r => impl_FlourNeeded_d (r.fin 2 [])) = impl_FlourNeeded k b loaves := by kernel_rfl
noncomputable def impl_FlourNeeded_x (k : Nat) : Ent1 := fun A R Q => match A with
 | ⟨[(.ag [(.sl 0), (.v (.int .i64 a2)), (.v (.int .i64 a3)), (.v (.int .i64 a4)), (.v (.int .i64 a5)), (.v (.int .i64 a6)), (.sl 1), (.v (.int .i64 a8)), (.v (.int .i64 a9)), (.v (.int .i64 a10)), (.v (.int .i64 a11)), (.v (.int .i64 a12)), (.v (.int .i64 a13)), (.v (.int .i64 a14))]), (.sc (.v (.int .i64 a15)))], [(.row false K.ki64 a1), (.row false K.k_impl_Event a7)]⟩ => (impl_FlourNeeded k (⟨(⟨a1⟩ : Stock), (⟨a2, a3, a4⟩ : Dough), (⟨a5, a6⟩ : Loaf), (⟨a7, (⟨a8, a9, a10⟩ : Rack), a11, a12, a13⟩ : Book), a14⟩ : Bakery) a15).bind fun y => Q ⟨(.a (.sc (.v (.int .i64 y)))), [.dead, .dead]⟩
 | _ => none
theorem impl_FlourNeeded_ok (k : Nat) : OkE Try.prog 40 (impl_FlourNeeded_x k) := by
 intro A R Q x h
 unfold impl_FlourNeeded_x at h
 split at h
 · obtain ⟨y, hy, hK⟩ := Option.bind_eq_some_iff.1 h
   obtain ⟨r, hr, hd⟩ := callF_ok envOk (impl_FlourNeeded_Ok k) follows Try.func40 (by kernel_rfl) ((impl_FlourNeeded_e k _ _).trans hy)
   exact ⟨_, impl_FlourNeeded_i hd ▸ hr.fin [], hK⟩
 · cases h
/-! ### impl.PartOf: function 122 -/
noncomputable def impl_PartOf (k : Nat)  (flour : Int) (part : Int) : Option (Int) :=
 (impl_in k flour 0 1000000).bind fun y1 =>
 cond (!y1)
  (some (-1))
  ((impl_in k part 0 2000).bind fun y2 =>
   cond (!y2)
    (some (-1))
    (if (1000 : Int) ≠ 0 then
     some (wr (Int.tdiv (wr ((wr (flour * part)) + 500)) 1000)) else none))
noncomputable def impl_PartOf_v : Nat → List Nat := fun t => match t with | _ => []
noncomputable def impl_PartOf_O (k : Nat) : Oracle := ofL [(71, impl_in_x k)]
theorem impl_PartOf_Ok (k : Nat) : OkO (Ct Try.prog) (impl_PartOf_O k) := okO_cons (impl_in_ok k) (okO_nil)
noncomputable def impl_PartOf_A (flour : Int) (part : Int) : Pk := ⟨[(.sc (.v (.int .i64 flour))), (.sc (.v (.int .i64 part)))], []⟩
noncomputable def impl_PartOf_d : Rs → Option (Int)
 | ⟨(.a (.sc (.v (.int .i64 r1)))), []⟩ => some r1
 | _ => none
theorem impl_PartOf_i {r : Rs} {y : Int} (h : impl_PartOf_d r = some y) : r = ⟨(.a (.sc (.v (.int .i64 y)))), []⟩ := by
 unfold impl_PartOf_d at h; split at h
 · cases h; rfl
 · cases h
theorem impl_PartOf_e (k : Nat) (flour : Int) (part : Int) : callF env (impl_PartOf_O k) impl_PartOf_v Try.f122 (k + 1) (impl_PartOf_A flour part) (fun r => impl_PartOf_d (r.fin 0 [])) = impl_PartOf k flour part := by kernel_rfl
noncomputable def impl_PartOf_x (k : Nat) : Ent1 := fun A R Q => match A with
 | ⟨[(.sc (.v (.int .i64 a1))), (.sc (.v (.int .i64 a2)))], []⟩ => (impl_PartOf k a1 a2).bind fun y => Q ⟨(.a (.sc (.v (.int .i64 y)))), []⟩
 | _ => none
theorem impl_PartOf_ok (k : Nat) : OkE Try.prog 122 (impl_PartOf_x k) := by
 intro A R Q x h
 unfold impl_PartOf_x at h
 split at h
 · obtain ⟨y, hy, hK⟩ := Option.bind_eq_some_iff.1 h
   obtain ⟨r, hr, hd⟩ := callF_ok envOk (impl_PartOf_Ok k) follows Try.func122 (by kernel_rfl) ((impl_PartOf_e k _ _).trans hy)
   exact ⟨_, impl_PartOf_i hd ▸ hr.fin [], hK⟩
 · cases h
/-! ### impl.Amounts: function 109 -/
noncomputable def impl_Amounts (k : Nat)  (d : Dough) (flour : Int) : Option ((Unit) ⊕ ((List Int))) :=
 (impl_DoughOk k d).bind fun y1 =>
 cond (!y1)
  (some (.inl ()))
  ((impl_in k flour 0 1000000).bind fun y2 =>
   cond (!y2)
    (some (.inl ()))
    ((impl_PartOf k flour d.Water).bind fun y3 =>
     (impl_PartOf k flour d.Salt).bind fun y4 =>
      (impl_PartOf k flour d.Leaven).bind fun y5 =>
       some (.inr ([flour, y3, y4, y5]))))
noncomputable def impl_Amounts_v : Nat → List Nat := fun t => match t with | _ => []
noncomputable def impl_Amounts_O (k : Nat) : Oracle := ofL [(122, impl_PartOf_x k), (69, impl_DoughOk_x k), (71, impl_in_x k)]
theorem impl_Amounts_Ok (k : Nat) : OkO (Ct Try.prog) (impl_Amounts_O k) := okO_cons (impl_PartOf_ok k) (okO_cons (impl_DoughOk_ok k) (okO_cons (impl_in_ok k) (okO_nil)))
noncomputable def impl_Amounts_A (d : Dough) (flour : Int) : Pk := ⟨[(.ag [(.v (.int .i64 d.Water)), (.v (.int .i64 d.Salt)), (.v (.int .i64 d.Leaven))]), (.sc (.v (.int .i64 flour)))], []⟩
noncomputable def impl_Amounts_d : Rs → Option ((Unit) ⊕ ((List Int)))
 | ⟨(.a (.sc .nl)), []⟩ => some (.inl ())
 | ⟨(.a (.sc (.sl 0))), [(.row true K.ki64 r1)]⟩ => some (.inr r1)
 | _ => none
theorem impl_Amounts_i {r : Rs} {y : (Unit) ⊕ ((List Int))} (h : impl_Amounts_d r = some y) : r = (y.elim (fun y => (⟨(.a (.sc .nl)), []⟩ : Rs)) (fun y => (⟨(.a (.sc (.sl 0))), [(.row true K.ki64 y)]⟩ : Rs)) : Rs) := by
 unfold impl_Amounts_d at h; split at h
 · cases h; rfl
 · cases h; rfl
 · cases h
theorem impl_Amounts_e (k : Nat) (d : Dough) (flour : Int) : callF env (impl_Amounts_O k) impl_Amounts_v Try.f109 (k + 1) (impl_Amounts_A d flour) (fun r => impl_Amounts_d (r.fin 0 [])) = impl_Amounts k d flour := by kernel_rfl
noncomputable def impl_Amounts_x (k : Nat) : Ent1 := fun A R Q => match A with
 | ⟨[(.ag [(.v (.int .i64 a1)), (.v (.int .i64 a2)), (.v (.int .i64 a3))]), (.sc (.v (.int .i64 a4)))], []⟩ => (impl_Amounts k (⟨a1, a2, a3⟩ : Dough) a4).bind fun y => y.elim (fun y => Q ⟨(.a (.sc .nl)), []⟩) (fun y => Q ⟨(.a (.sc (.sl 0))), [(.row true K.ki64 y)]⟩)
 | _ => none
theorem impl_Amounts_ok (k : Nat) : OkE Try.prog 109 (impl_Amounts_x k) := by
 intro A R Q x h
 unfold impl_Amounts_x at h
 split at h
 · obtain ⟨y, hy, hK⟩ := Option.bind_eq_some_iff.1 h
   obtain ⟨r, hr, hd⟩ := callF_ok envOk (impl_Amounts_Ok k) follows Try.func109 (by kernel_rfl) ((impl_Amounts_e k _ _).trans hy)
   refine ⟨_, impl_Amounts_i hd ▸ hr.fin [], ?_⟩
   cases y <;> exact hK
 · cases h
/-! ### impl.missing: function 110 -/
noncomputable def impl_missing_s0 (k : Nat)  (s : Stock) (amounts : (List Int)) (J : Int → Option (Int)) (x0_0 : Int) : Option (Int) :=
 cond (decide ((x0_0 : Int) < ((amounts).length : Int)))
 (if 0 ≤ (x0_0 : Int) ∧ (x0_0 : Int) < ((amounts).length : Int) then
  if 0 ≤ (x0_0 : Int) ∧ (x0_0 : Int) < ((s.Grams).length : Int) then
   cond (decide (((s.Grams.getD (Int.toNat x0_0) 0) : Int) < (amounts.getD (Int.toNat x0_0) 0)))
    (some x0_0)
    (J (wr (x0_0 + 1))) else none else none)
 (some (-1))
noncomputable def impl_missing_l0 (k : Nat) : Nat → Stock → (List Int) → Int → Option (Int)
 | 0, s, amounts, x0_0 => impl_missing_s0 k s amounts (fun _ => none) x0_0
 | m + 1, s, amounts, x0_0 => impl_missing_s0 k s amounts (impl_missing_l0 k m s amounts) x0_0
noncomputable def impl_missing_m (k : Nat) (J0 : Stock → (List Int) → Int → Option (Int)) (s : Stock) (amounts : (List Int)) : Option (Int) :=
 J0 s amounts 0
noncomputable def impl_missing (k : Nat) (s : Stock) (amounts : (List Int)) : Option (Int) := impl_missing_m k (impl_missing_l0 k k) s amounts
noncomputable def impl_missing_v : Nat → List Nat := fun t => match t with | 2 => [2, 4, 7, 8, 9] | _ => []
noncomputable def impl_missing_O (k : Nat) : Oracle := ofL []
theorem impl_missing_Ok (k : Nat) : OkO (Ct Try.prog) (impl_missing_O k) := okO_nil
noncomputable def impl_missing_A (s : Stock) (amounts : (List Int)) : Pk := ⟨[(.ag [(.sl 0)]), (.sc (.sl 1))], [(.row false K.ki64 s.Grams), (.row false K.ki64 amounts)]⟩
noncomputable def impl_missing_d : Rs → Option (Int)
 | ⟨(.a (.sc (.v (.int .i64 r1)))), [.dead, .dead]⟩ => some r1
 | _ => none
theorem impl_missing_i {r : Rs} {y : Int} (h : impl_missing_d r = some y) : r = ⟨(.a (.sc (.v (.int .i64 y)))), [.dead, .dead]⟩ := by
 unfold impl_missing_d at h; split at h
 · cases h; rfl
 · cases h
noncomputable def impl_missing_h0 (k m : Nat) (s : Stock) (amounts : (List Int)) (x0_0 : Int) : Option (Int) := hdAt env (impl_missing_O k) impl_missing_v Try.f110 2 (fun r => impl_missing_d (r.fin 2 [])) [1, 0, 1, 0] k m ⟨tmF [2, 4, 7, 8, 9] [(.a (.sc (.bp 2 0))), (.a (.sc (.v (.int .i64 0)))), (.a (.sc (.sl 1))), (.a (.sc (.v (.int .i64 ((amounts).length : Int))))), (.a (.sc (.v (.int .i64 x0_0))))], blF [(.row false K.ki64 s.Grams), (.row false K.ki64 amounts), (.box true [(.sl 0)])]⟩
theorem impl_missing_z0 (k : Nat) (s : Stock) (amounts : (List Int)) (x0_0 : Int) : impl_missing_h0 k 0 s amounts x0_0 = impl_missing_s0 k s amounts (fun _ => none) x0_0 := by kernel_rfl
theorem impl_missing_g0 (k : Nat) (H : St → Option (Int)) (s : Stock) (amounts : (List Int)) (x0_0 : Int) : rnd env (impl_missing_O k) impl_missing_v Try.f110 2 (fun r => impl_missing_d (r.fin 2 [])) [1, 0, 1, 0] k H ⟨tmF [2, 4, 7, 8, 9] [(.a (.sc (.bp 2 0))), (.a (.sc (.v (.int .i64 0)))), (.a (.sc (.sl 1))), (.a (.sc (.v (.int .i64 ((amounts).length : Int))))), (.a (.sc (.v (.int .i64 x0_0))))], blF [(.row false K.ki64 s.Grams), (.row false K.ki64 amounts), (.box true [(.sl 0)])]⟩ = impl_missing_s0 k s amounts (fun x0_0 => H ⟨tmF [2, 4, 7, 8, 9] [(.a (.sc (.bp 2 0))), (.a (.sc (.v (.int .i64 0)))), (.a (.sc (.sl 1))), (.a (.sc (.v (.int .i64 ((amounts).length : Int))))), (.a (.sc (.v (.int .i64 x0_0))))], blF [(.row false K.ki64 s.Grams), (.row false K.ki64 amounts), (.box true [(.sl 0)])]⟩) x0_0 := by kernel_rfl
theorem impl_missing_n0 (k m : Nat) (s : Stock) (amounts : (List Int)) (x0_0 : Int) : impl_missing_h0 k (m + 1) s amounts x0_0 = impl_missing_s0 k s amounts (impl_missing_h0 k m s amounts) x0_0 := (hdAt_succ _ _ _ _ _ _ _ _ _ _).trans (impl_missing_g0 k _ s amounts x0_0)
theorem impl_missing_q0 (k : Nat) : ∀ m, impl_missing_h0 k m = impl_missing_l0 k m := by
 intro m
 induction m with
 | zero => funext s amounts x0_0; rw [impl_missing_z0]; rfl
 | succ m ih => funext s amounts x0_0; rw [impl_missing_n0, ih]; rfl
theorem impl_missing_e (k : Nat) (s : Stock) (amounts : (List Int)) : callF env (impl_missing_O k) impl_missing_v Try.f110 (k + 1) (impl_missing_A s amounts) (fun r => impl_missing_d (r.fin 2 [])) = impl_missing k s amounts := by
 have e : callF env (impl_missing_O k) impl_missing_v Try.f110 (k + 1) (impl_missing_A s amounts) (fun r => impl_missing_d (r.fin 2 [])) = impl_missing_m k (impl_missing_h0 k k) s amounts := by kernel_rfl
 rw [e, impl_missing_q0]; rfl
noncomputable def impl_missing_x (k : Nat) : Ent1 := fun A R Q => match A with
 | ⟨[(.ag [(.sl 0)]), (.sc (.sl 1))], [(.row false K.ki64 a1), (.row false K.ki64 a2)]⟩ => (impl_missing k (⟨a1⟩ : Stock) a2).bind fun y => Q ⟨(.a (.sc (.v (.int .i64 y)))), [.dead, .dead]⟩
 | _ => none
theorem impl_missing_ok (k : Nat) : OkE Try.prog 110 (impl_missing_x k) := by
 intro A R Q x h
 unfold impl_missing_x at h
 split at h
 · obtain ⟨y, hy, hK⟩ := Option.bind_eq_some_iff.1 h
   obtain ⟨r, hr, hd⟩ := callF_ok envOk (impl_missing_Ok k) follows Try.func110 (by kernel_rfl) ((impl_missing_e k _ _).trans hy)
   exact ⟨_, impl_missing_i hd ▸ hr.fin [], hK⟩
 · cases h
/-! ### impl.TakeFor: function 94 -/
noncomputable def impl_TakeFor_s0 (k : Nat)  (s : Stock) (y5 : (List Int)) (J : Int → (List Int) → Option (Stock × Bool)) (x0_0 : Int) (x0_1 : (List Int)) : Option (Stock × Bool) :=
 cond (decide ((x0_0 : Int) < ((y5).length : Int)))
 (if 0 ≤ (x0_0 : Int) ∧ (x0_0 : Int) < ((y5).length : Int) then
  if 0 ≤ (x0_0 : Int) ∧ (x0_0 : Int) < ((x0_1).length : Int) then
   if 0 ≤ (x0_0 : Int) ∧ (x0_0 : Int) < ((x0_1).length : Int) then
    J (wr (x0_0 + 1)) (x0_1.set (Int.toNat x0_0) (wr ((x0_1.getD (Int.toNat x0_0) 0) - (y5.getD (Int.toNat x0_0) 0)))) else none else none else none)
 (some ((⟨x0_1⟩ : Stock), true))
noncomputable def impl_TakeFor_l0 (k : Nat) : Nat → Stock → (List Int) → Int → (List Int) → Option (Stock × Bool)
 | 0, s, y5, x0_0, x0_1 => impl_TakeFor_s0 k s y5 (fun _ _ => none) x0_0 x0_1
 | m + 1, s, y5, x0_0, x0_1 => impl_TakeFor_s0 k s y5 (impl_TakeFor_l0 k m s y5) x0_0 x0_1
noncomputable def impl_TakeFor_m (k : Nat) (J0 : Stock → (List Int) → Int → (List Int) → Option (Stock × Bool)) (s : Stock) (d : Dough) (flour : Int) : Option (Stock × Bool) :=
 (impl_Amounts k d flour).bind fun y1 =>
 y1.elim (fun y2 =>
  (impl_stockCopy k s).bind fun y3 =>
  (impl_StoreOk k s).bind fun y4 =>
   cond (!y4)
    (some (y3, false))
    (some (y3, false))) (fun y5 =>
  (impl_stockCopy k s).bind fun y6 =>
  (impl_StoreOk k s).bind fun y7 =>
   cond (!y7)
    (some (y6, false))
    ((@ite _ (y5 ≠ []) (neNil y5)
     ((impl_missing k s y5).bind fun y8 =>
      cond (decide ((0 : Int) ≤ y8))
       (some (y6, false))
       (J0 s y5 0 y6.Grams)) none)))
noncomputable def impl_TakeFor (k : Nat) (s : Stock) (d : Dough) (flour : Int) : Option (Stock × Bool) := impl_TakeFor_m k (impl_TakeFor_l0 k k) s d flour
noncomputable def impl_TakeFor_v : Nat → List Nat := fun t => match t with | 5 => [6, 7, 9, 31, 32, 33] | _ => []
noncomputable def impl_TakeFor_O (k : Nat) : Oracle := ofL [(101, impl_stockCopy_x k), (109, impl_Amounts_x k), (110, impl_missing_x k), (68, impl_StoreOk_x k)]
theorem impl_TakeFor_Ok (k : Nat) : OkO (Ct Try.prog) (impl_TakeFor_O k) := okO_cons (impl_stockCopy_ok k) (okO_cons (impl_Amounts_ok k) (okO_cons (impl_missing_ok k) (okO_cons (impl_StoreOk_ok k) (okO_nil))))
noncomputable def impl_TakeFor_A (s : Stock) (d : Dough) (flour : Int) : Pk := ⟨[(.ag [(.sl 0)]), (.ag [(.v (.int .i64 d.Water)), (.v (.int .i64 d.Salt)), (.v (.int .i64 d.Leaven))]), (.sc (.v (.int .i64 flour)))], [(.row false K.ki64 s.Grams)]⟩
noncomputable def impl_TakeFor_d : Rs → Option (Stock × Bool)
 | ⟨(.tp [(.ag [(.sl 1)]), (.sc (.v (.bool r2)))]), [.dead, (.row true K.ki64 r1)]⟩ => some ((⟨r1⟩ : Stock), r2)
 | _ => none
theorem impl_TakeFor_i {r : Rs} {y : Stock × Bool} (h : impl_TakeFor_d r = some y) : r = ⟨(.tp [(.ag [(.sl 1)]), (.sc (.v (.bool y.2)))]), [.dead, (.row true K.ki64 y.1.Grams)]⟩ := by
 unfold impl_TakeFor_d at h; split at h
 · cases h; rfl
 · cases h
noncomputable def impl_TakeFor_h0 (k m : Nat) (s : Stock) (y5 : (List Int)) (x0_0 : Int) (x0_1 : (List Int)) : Option (Stock × Bool) := hdAt env (impl_TakeFor_O k) impl_TakeFor_v Try.f94 1 (fun r => impl_TakeFor_d (r.fin 1 [])) [1, 1, 1, 0, 1, 0] k m ⟨tmF [6, 7, 9, 31, 32, 33] [(.a (.sc (.bp 2 0))), (.a (.sc (.v (.bool false)))), (.a (.sc (.bp 4 0))), (.a (.sc (.sl 5))), (.a (.sc (.v (.int .i64 ((y5).length : Int))))), (.a (.sc (.v (.int .i64 x0_0))))], blF [(.row false K.ki64 s.Grams), (.row true K.ki64 []), (.box true [(.sl 1)]), (.row true K.ki64 x0_1), (.box true [(.sl 3)]), (.row true K.ki64 y5)]⟩
theorem impl_TakeFor_z0 (k : Nat) (s : Stock) (y5 : (List Int)) (x0_0 : Int) (x0_1 : (List Int)) : impl_TakeFor_h0 k 0 s y5 x0_0 x0_1 = impl_TakeFor_s0 k s y5 (fun _ _ => none) x0_0 x0_1 := by kernel_rfl
theorem impl_TakeFor_g0 (k : Nat) (H : St → Option (Stock × Bool)) (s : Stock) (y5 : (List Int)) (x0_0 : Int) (x0_1 : (List Int)) : rnd env (impl_TakeFor_O k) impl_TakeFor_v Try.f94 1 (fun r => impl_TakeFor_d (r.fin 1 [])) [1, 1, 1, 0, 1, 0] k H ⟨tmF [6, 7, 9, 31, 32, 33] [(.a (.sc (.bp 2 0))), (.a (.sc (.v (.bool false)))), (.a (.sc (.bp 4 0))), (.a (.sc (.sl 5))), (.a (.sc (.v (.int .i64 ((y5).length : Int))))), (.a (.sc (.v (.int .i64 x0_0))))], blF [(.row false K.ki64 s.Grams), (.row true K.ki64 []), (.box true [(.sl 1)]), (.row true K.ki64 x0_1), (.box true [(.sl 3)]), (.row true K.ki64 y5)]⟩ = impl_TakeFor_s0 k s y5 (fun x0_0 x0_1 => H ⟨tmF [6, 7, 9, 31, 32, 33] [(.a (.sc (.bp 2 0))), (.a (.sc (.v (.bool false)))), (.a (.sc (.bp 4 0))), (.a (.sc (.sl 5))), (.a (.sc (.v (.int .i64 ((y5).length : Int))))), (.a (.sc (.v (.int .i64 x0_0))))], blF [(.row false K.ki64 s.Grams), (.row true K.ki64 []), (.box true [(.sl 1)]), (.row true K.ki64 x0_1), (.box true [(.sl 3)]), (.row true K.ki64 y5)]⟩) x0_0 x0_1 := by kernel_rfl
theorem impl_TakeFor_n0 (k m : Nat) (s : Stock) (y5 : (List Int)) (x0_0 : Int) (x0_1 : (List Int)) : impl_TakeFor_h0 k (m + 1) s y5 x0_0 x0_1 = impl_TakeFor_s0 k s y5 (impl_TakeFor_h0 k m s y5) x0_0 x0_1 := (hdAt_succ _ _ _ _ _ _ _ _ _ _).trans (impl_TakeFor_g0 k _ s y5 x0_0 x0_1)
theorem impl_TakeFor_q0 (k : Nat) : ∀ m, impl_TakeFor_h0 k m = impl_TakeFor_l0 k m := by
 intro m
 induction m with
 | zero => funext s y5 x0_0 x0_1; rw [impl_TakeFor_z0]; rfl
 | succ m ih => funext s y5 x0_0 x0_1; rw [impl_TakeFor_n0, ih]; rfl
theorem impl_TakeFor_e (k : Nat) (s : Stock) (d : Dough) (flour : Int) : callF env (impl_TakeFor_O k) impl_TakeFor_v Try.f94 (k + 1) (impl_TakeFor_A s d flour) (fun r => impl_TakeFor_d (r.fin 1 [])) = impl_TakeFor k s d flour := by
 have e : callF env (impl_TakeFor_O k) impl_TakeFor_v Try.f94 (k + 1) (impl_TakeFor_A s d flour) (fun r => impl_TakeFor_d (r.fin 1 [])) = impl_TakeFor_m k (impl_TakeFor_h0 k k) s d flour := by kernel_rfl
 rw [e, impl_TakeFor_q0]; rfl
noncomputable def impl_TakeFor_x (k : Nat) : Ent1 := fun A R Q => match A with
 | ⟨[(.ag [(.sl 0)]), (.ag [(.v (.int .i64 a2)), (.v (.int .i64 a3)), (.v (.int .i64 a4))]), (.sc (.v (.int .i64 a5)))], [(.row false K.ki64 a1)]⟩ => (impl_TakeFor k (⟨a1⟩ : Stock) (⟨a2, a3, a4⟩ : Dough) a5).bind fun y => Q ⟨(.tp [(.ag [(.sl 1)]), (.sc (.v (.bool y.2)))]), [.dead, (.row true K.ki64 y.1.Grams)]⟩
 | _ => none
theorem impl_TakeFor_ok (k : Nat) : OkE Try.prog 94 (impl_TakeFor_x k) := by
 intro A R Q x h
 unfold impl_TakeFor_x at h
 split at h
 · obtain ⟨y, hy, hK⟩ := Option.bind_eq_some_iff.1 h
   obtain ⟨r, hr, hd⟩ := callF_ok envOk (impl_TakeFor_Ok k) follows Try.func94 (by kernel_rfl) ((impl_TakeFor_e k _ _ _).trans hy)
   exact ⟨_, impl_TakeFor_i hd ▸ hr.fin [], hK⟩
 · cases h
end Go.Proofs.YtonaabffckkdlaaX
