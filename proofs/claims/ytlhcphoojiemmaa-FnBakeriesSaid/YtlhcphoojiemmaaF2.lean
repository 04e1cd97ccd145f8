/- What functions of the program compute, as functions of numbers and lists, and that they do. (The file is written by wip/x/vxp.py of this repository.) -/
import Derived.Test.YtlhcphoojiemmaaF1
namespace Go.Proofs.YtlhcphoojiemmaaX
open Go Go.Proofs
set_option linter.unusedVariables false
set_option maxRecDepth 100000
/-! ### spec.l01Once: function 80 -/
noncomputable def spec_l01Once (k : Nat)  (c : l01Cur) (n : Int) : Option (Bool × (Int × Int)) :=
 (spec_l01Below k c n).bind fun y1 =>
 some ((decide ((y1.1 : Int) = 0)), (y1.2.1, y1.2.2))
noncomputable def spec_l01Once_v : Nat → List Nat := fun t => match t with | _ => []
noncomputable def spec_l01Once_O (k : Nat) : Oracle := ofL [(73, spec_l01Below_x k)]
theorem spec_l01Once_Ok (k : Nat) : OkO (Ct Try.prog) (spec_l01Once_O k) := okO_cons (spec_l01Below_ok k) (okO_nil)
noncomputable def spec_l01Once_A (c : l01Cur) (n : Int) : Pk := ⟨[(.sc (.bp 1 0)), (.sc (.v (.int .i64 n)))], [(.row false K.ku8 c.b), (.box true [(.sl 0), (.v (.int .i64 c.i)), (.v (.int .i64 c.h))])]⟩
noncomputable def spec_l01Once_d : Rs → Option (Bool × (Int × Int))
 | ⟨(.a (.sc (.v (.bool r1)))), [.dead, (.box true [(.sl 0), (.v (.int .i64 r2)), (.v (.int .i64 r3))])]⟩ => some (r1, (r2, r3))
 | _ => none
theorem spec_l01Once_i {r : Rs} {y : Bool × (Int × Int)} (h : spec_l01Once_d r = some y) : r = ⟨(.a (.sc (.v (.bool y.1)))), [.dead, (.box true [(.sl 0), (.v (.int .i64 y.2.1)), (.v (.int .i64 y.2.2))])]⟩ := by
 unfold spec_l01Once_d at h; split at h
 · cases h; rfl
 · cases h
theorem spec_l01Once_e (k : Nat) (c : l01Cur) (n : Int) : callF env (spec_l01Once_O k) spec_l01Once_v Try.f80 (k + 1) (spec_l01Once_A c n) (fun r => spec_l01Once_d (r.fin 2 [])) = spec_l01Once k c n := by kernel_rfl
noncomputable def spec_l01Once_x (k : Nat) : Ent1 := fun A R Q => match A with
 | ⟨[(.sc (.bp 1 0)), (.sc (.v (.int .i64 a4)))], [(.row false K.ku8 a1), (.box true [(.sl 0), (.v (.int .i64 a2)), (.v (.int .i64 a3))])]⟩ => (spec_l01Once k (⟨a1, a2, a3⟩ : l01Cur) a4).bind fun y => Q ⟨(.a (.sc (.v (.bool y.1)))), [.dead, (.box true [(.sl 0), (.v (.int .i64 y.2.1)), (.v (.int .i64 y.2.2))])]⟩
 | _ => none
theorem spec_l01Once_ok (k : Nat) : OkE Try.prog 80 (spec_l01Once_x k) := by
 intro A R Q x h
 unfold spec_l01Once_x at h
 split at h
 · obtain ⟨y, hy, hK⟩ := Option.bind_eq_some_iff.1 h
   obtain ⟨r, hr, hd⟩ := callF_ok envOk (spec_l01Once_Ok k) follows Try.func80 (by kernel_rfl) ((spec_l01Once_e k _ _).trans hy)
   exact ⟨_, spec_l01Once_i hd ▸ hr.fin [], hK⟩
 · cases h
/-! ### spec.StoreOk: function 64 -/
noncomputable def spec_StoreOk_s0 (k : Nat)  (s : Stock) (J : Int → Option (Bool)) (x0_0 : Int) : Option (Bool) :=
 cond (decide ((x0_0 : Int) < ((s.Grams).length : Int)))
 (if 0 ≤ (x0_0 : Int) ∧ (x0_0 : Int) < ((s.Grams).length : Int) then
  (spec_l01In k (s.Grams.getD (Int.toNat x0_0) 0) 0 1000000).bind fun y2 =>
   cond (!y2)
    (some false)
    (J (wr (x0_0 + 1))) else none)
 (some (decide ((((s.Grams).length : Int) : Int) = 4)))
noncomputable def spec_StoreOk_l0 (k : Nat) : Nat → Stock → Int → Option (Bool)
 | 0, s, x0_0 => spec_StoreOk_s0 k s (fun _ => none) x0_0
 | m + 1, s, x0_0 => spec_StoreOk_s0 k s (spec_StoreOk_l0 k m s) x0_0
noncomputable def spec_StoreOk_m (k : Nat) (J0 : Stock → Int → Option (Bool)) (s : Stock) : Option (Bool) :=
 J0 s 0
noncomputable def spec_StoreOk (k : Nat) (s : Stock) : Option (Bool) := spec_StoreOk_m k (spec_StoreOk_l0 k k) s
noncomputable def spec_StoreOk_v : Nat → List Nat := fun t => match t with | 2 => [1, 2, 3] | _ => []
noncomputable def spec_StoreOk_O (k : Nat) : Oracle := ofL [(38, spec_l01In_x k)]
theorem spec_StoreOk_Ok (k : Nat) : OkO (Ct Try.prog) (spec_StoreOk_O k) := okO_cons (spec_l01In_ok k) (okO_nil)
noncomputable def spec_StoreOk_A (s : Stock) : Pk := ⟨[(.ag [(.sl 0)])], [(.row false K.ki64 s.Grams)]⟩
noncomputable def spec_StoreOk_d : Rs → Option (Bool)
 | ⟨(.a (.sc (.v (.bool r1)))), [.dead]⟩ => some r1
 | _ => none
theorem spec_StoreOk_i {r : Rs} {y : Bool} (h : spec_StoreOk_d r = some y) : r = ⟨(.a (.sc (.v (.bool y)))), [.dead]⟩ := by
 unfold spec_StoreOk_d at h; split at h
 · cases h; rfl
 · cases h
noncomputable def spec_StoreOk_h0 (k m : Nat) (s : Stock) (x0_0 : Int) : Option (Bool) := hdAt env (spec_StoreOk_O k) spec_StoreOk_v Try.f64 1 (fun r => spec_StoreOk_d (r.fin 1 [])) [1, 0, 1, 0] k m ⟨tmF [1, 2, 3] [(.a (.sc (.bp 1 0))), (.a (.sc (.v (.bool false)))), (.a (.sc (.v (.int .i64 x0_0))))], blF [(.row false K.ki64 s.Grams), (.box true [(.sl 0)])]⟩
theorem spec_StoreOk_z0 (k : Nat) (s : Stock) (x0_0 : Int) : spec_StoreOk_h0 k 0 s x0_0 = spec_StoreOk_s0 k s (fun _ => none) x0_0 := by kernel_rfl
theorem spec_StoreOk_g0 (k : Nat) (H : St → Option (Bool)) (s : Stock) (x0_0 : Int) : rnd env (spec_StoreOk_O k) spec_StoreOk_v Try.f64 1 (fun r => spec_StoreOk_d (r.fin 1 [])) [1, 0, 1, 0] k H ⟨tmF [1, 2, 3] [(.a (.sc (.bp 1 0))), (.a (.sc (.v (.bool false)))), (.a (.sc (.v (.int .i64 x0_0))))], blF [(.row false K.ki64 s.Grams), (.box true [(.sl 0)])]⟩ = spec_StoreOk_s0 k s (fun x0_0 => H ⟨tmF [1, 2, 3] [(.a (.sc (.bp 1 0))), (.a (.sc (.v (.bool false)))), (.a (.sc (.v (.int .i64 x0_0))))], blF [(.row false K.ki64 s.Grams), (.box true [(.sl 0)])]⟩) x0_0 := by kernel_rfl
theorem spec_StoreOk_n0 (k m : Nat) (s : Stock) (x0_0 : Int) : spec_StoreOk_h0 k (m + 1) s x0_0 = spec_StoreOk_s0 k s (spec_StoreOk_h0 k m s) x0_0 := (hdAt_succ _ _ _ _ _ _ _ _ _ _).trans (spec_StoreOk_g0 k _ s x0_0)
theorem spec_StoreOk_q0 (k : Nat) : ∀ m, spec_StoreOk_h0 k m = spec_StoreOk_l0 k m := by
 intro m
 induction m with
 | zero => funext s x0_0; rw [spec_StoreOk_z0]; rfl
 | succ m ih => funext s x0_0; rw [spec_StoreOk_n0, ih]; rfl
theorem spec_StoreOk_e (k : Nat) (s : Stock) : callF env (spec_StoreOk_O k) spec_StoreOk_v Try.f64 (k + 1) (spec_StoreOk_A s) (fun r => spec_StoreOk_d (r.fin 1 [])) = spec_StoreOk k s := by
 have e : callF env (spec_StoreOk_O k) spec_StoreOk_v Try.f64 (k + 1) (spec_StoreOk_A s) (fun r => spec_StoreOk_d (r.fin 1 [])) = spec_StoreOk_m k (spec_StoreOk_h0 k k) s := by kernel_rfl
 rw [e, spec_StoreOk_q0]; rfl
noncomputable def spec_StoreOk_x (k : Nat) : Ent1 := fun A R Q => match A with
 | ⟨[(.ag [(.sl 0)])], [(.row false K.ki64 a1)]⟩ => (spec_StoreOk k (⟨a1⟩ : Stock)).bind fun y => Q ⟨(.a (.sc (.v (.bool y)))), [.dead]⟩
 | _ => none
theorem spec_StoreOk_ok (k : Nat) : OkE Try.prog 64 (spec_StoreOk_x k) := by
 intro A R Q x h
 unfold spec_StoreOk_x at h
 split at h
 · obtain ⟨y, hy, hK⟩ := Option.bind_eq_some_iff.1 h
   obtain ⟨r, hr, hd⟩ := callF_ok envOk (spec_StoreOk_Ok k) follows Try.func64 (by kernel_rfl) ((spec_StoreOk_e k _).trans hy)
   exact ⟨_, spec_StoreOk_i hd ▸ hr.fin [], hK⟩
 · cases h
/-! ### spec.DoughOk: function 83 -/
noncomputable def spec_DoughOk (k : Nat)  (d : Dough) : Option (Bool) :=
 (spec_l01In k d.Water 300 1200).bind fun y1 =>
 cond y1
  ((spec_l01In k d.Salt 0 50).bind fun y2 =>
   cond y2
    ((spec_l01In k d.Leaven 0 500).bind fun y3 =>
     some y3)
    (some false))
  (some false)
noncomputable def spec_DoughOk_v : Nat → List Nat := fun t => match t with | _ => []
noncomputable def spec_DoughOk_O (k : Nat) : Oracle := ofL [(38, spec_l01In_x k)]
theorem spec_DoughOk_Ok (k : Nat) : OkO (Ct Try.prog) (spec_DoughOk_O k) := okO_cons (spec_l01In_ok k) (okO_nil)
noncomputable def spec_DoughOk_A (d : Dough) : Pk := ⟨[(.ag [(.v (.int .i64 d.Water)), (.v (.int .i64 d.Salt)), (.v (.int .i64 d.Leaven))])], []⟩
noncomputable def spec_DoughOk_d : Rs → Option (Bool)
 | ⟨(.a (.sc (.v (.bool r1)))), []⟩ => some r1
 | _ => none
theorem spec_DoughOk_i {r : Rs} {y : Bool} (h : spec_DoughOk_d r = some y) : r = ⟨(.a (.sc (.v (.bool y)))), []⟩ := by
 unfold spec_DoughOk_d at h; split at h
 · cases h; rfl
 · cases h
theorem spec_DoughOk_e (k : Nat) (d : Dough) : callF env (spec_DoughOk_O k) spec_DoughOk_v Try.f83 (k + 1) (spec_DoughOk_A d) (fun r => spec_DoughOk_d (r.fin 0 [])) = spec_DoughOk k d := by kernel_rfl
noncomputable def spec_DoughOk_x (k : Nat) : Ent1 := fun A R Q => match A with
 | ⟨[(.ag [(.v (.int .i64 a1)), (.v (.int .i64 a2)), (.v (.int .i64 a3))])], []⟩ => (spec_DoughOk k (⟨a1, a2, a3⟩ : Dough)).bind fun y => Q ⟨(.a (.sc (.v (.bool y)))), []⟩
 | _ => none
theorem spec_DoughOk_ok (k : Nat) : OkE Try.prog 83 (spec_DoughOk_x k) := by
 intro A R Q x h
 unfold spec_DoughOk_x at h
 split at h
 · obtain ⟨y, hy, hK⟩ := Option.bind_eq_some_iff.1 h
   obtain ⟨r, hr, hd⟩ := callF_ok envOk (spec_DoughOk_Ok k) follows Try.func83 (by kernel_rfl) ((spec_DoughOk_e k _).trans hy)
   exact ⟨_, spec_DoughOk_i hd ▸ hr.fin [], hK⟩
 · cases h
/-! ### spec.LoafOk: function 84 -/
noncomputable def spec_LoafOk (k : Nat)  (l : Loaf) : Option (Bool) :=
 (spec_l01In k l.Weight 10 5000).bind fun y1 =>
 cond y1
  ((spec_l01In k l.Loss 0 40).bind fun y2 =>
   some y2)
  (some false)
noncomputable def spec_LoafOk_v : Nat → List Nat := fun t => match t with | _ => []
noncomputable def spec_LoafOk_O (k : Nat) : Oracle := ofL [(38, spec_l01In_x k)]
theorem spec_LoafOk_Ok (k : Nat) : OkO (Ct Try.prog) (spec_LoafOk_O k) := okO_cons (spec_l01In_ok k) (okO_nil)
noncomputable def spec_LoafOk_A (l : Loaf) : Pk := ⟨[(.ag [(.v (.int .i64 l.Weight)), (.v (.int .i64 l.Loss))])], []⟩
noncomputable def spec_LoafOk_d : Rs → Option (Bool)
 | ⟨(.a (.sc (.v (.bool r1)))), []⟩ => some r1
 | _ => none
theorem spec_LoafOk_i {r : Rs} {y : Bool} (h : spec_LoafOk_d r = some y) : r = ⟨(.a (.sc (.v (.bool y)))), []⟩ := by
 unfold spec_LoafOk_d at h; split at h
 · cases h; rfl
 · cases h
theorem spec_LoafOk_e (k : Nat) (l : Loaf) : callF env (spec_LoafOk_O k) spec_LoafOk_v Try.f84 (k + 1) (spec_LoafOk_A l) (fun r => spec_LoafOk_d (r.fin 0 [])) = spec_LoafOk k l := by kernel_rfl
noncomputable def spec_LoafOk_x (k : Nat) : Ent1 := fun A R Q => match A with
 | ⟨[(.ag [(.v (.int .i64 a1)), (.v (.int .i64 a2))])], []⟩ => (spec_LoafOk k (⟨a1, a2⟩ : Loaf)).bind fun y => Q ⟨(.a (.sc (.v (.bool y)))), []⟩
 | _ => none
theorem spec_LoafOk_ok (k : Nat) : OkE Try.prog 84 (spec_LoafOk_x k) := by
 intro A R Q x h
 unfold spec_LoafOk_x at h
 split at h
 · obtain ⟨y, hy, hK⟩ := Option.bind_eq_some_iff.1 h
   obtain ⟨r, hr, hd⟩ := callF_ok envOk (spec_LoafOk_Ok k) follows Try.func84 (by kernel_rfl) ((spec_LoafOk_e k _).trans hy)
   exact ⟨_, spec_LoafOk_i hd ▸ hr.fin [], hK⟩
 · cases h
/-! ### spec.BakeryOk: function 37 -/
noncomputable def spec_BakeryOk (k : Nat)  (b : Bakery) : Option (Bool) :=
 (spec_StoreOk k b.Stock).bind fun y1 =>
 cond y1
  ((spec_DoughOk k b.Dough).bind fun y2 =>
   cond y2
    ((spec_LoafOk k b.Loaf).bind fun y3 =>
     cond y3
      ((spec_BookOk k b.Book).bind fun y4 =>
       cond y4
        ((spec_l01In k b.Money 0 1000000).bind fun y5 =>
        some y5)
        (some false))
      (some false))
    (some false))
  (some false)
noncomputable def spec_BakeryOk_v : Nat → List Nat := fun t => match t with | _ => []
noncomputable def spec_BakeryOk_O (k : Nat) : Oracle := ofL [(38, spec_l01In_x k), (64, spec_StoreOk_x k), (83, spec_DoughOk_x k), (84, spec_LoafOk_x k), (85, spec_BookOk_x k)]
theorem spec_BakeryOk_Ok (k : Nat) : OkO (Ct Try.prog) (spec_BakeryOk_O k) := okO_cons (spec_l01In_ok k) (okO_cons (spec_StoreOk_ok k) (okO_cons (spec_DoughOk_ok k) (okO_cons (spec_LoafOk_ok k) (okO_cons (spec_BookOk_ok k) (okO_nil)))))
noncomputable def spec_BakeryOk_A (b : Bakery) : Pk := ⟨[(.ag [(.sl 0), (.v (.int .i64 b.Dough.Water)), (.v (.int .i64 b.Dough.Salt)), (.v (.int .i64 b.Dough.Leaven)), (.v (.int .i64 b.Loaf.Weight)), (.v (.int .i64 b.Loaf.Loss)), (.sl 1), (.v (.int .i64 b.Book.Rack.Fresh)), (.v (.int .i64 b.Book.Rack.Day)), (.v (.int .i64 b.Book.Rack.Old)), (.v (.int .i64 b.Book.Baked)), (.v (.int .i64 b.Book.Sold)), (.v (.int .i64 b.Book.Thrown)), (.v (.int .i64 b.Money))])], [(.row false K.ki64 b.Stock.Grams), (.row false K.k_impl_Event b.Book.Events)]⟩
noncomputable def spec_BakeryOk_d : Rs → Option (Bool)
 | ⟨(.a (.sc (.v (.bool r1)))), [.dead, .dead]⟩ => some r1
 | _ => none
theorem spec_BakeryOk_i {r : Rs} {y : Bool} (h : spec_BakeryOk_d r = some y) : r = ⟨(.a (.sc (.v (.bool y)))), [.dead, .dead]⟩ := by
 unfold spec_BakeryOk_d at h; split at h
 · cases h; rfl
 · cases h
theorem spec_BakeryOk_e (k : Nat) (b : Bakery) : callF env (spec_BakeryOk_O k) spec_BakeryOk_v Try.f37 (k + 1) (spec_BakeryOk_A b) (fun r => spec_BakeryOk_d (r.fin 2 [])) = spec_BakeryOk k b := by kernel_rfl
noncomputable def spec_BakeryOk_x (k : Nat) : Ent1 := fun A R Q => match A with
 | ⟨[(.ag [(.sl 0), (.v (.int .i64 a2)), (.v (.int .i64 a3)), (.v (.int .i64 a4)), (.v (.int .i64 a5)), (.v (.int .i64 a6)), (.sl 1), (.v (.int .i64 a8)), (.v (.int .i64 a9)), (.v (.int .i64 a10)), (.v (.int .i64 a11)), (.v (.int .i64 a12)), (.v (.int .i64 a13)), (.v (.int .i64 a14))])], [(.row false K.ki64 a1), (.row false K.k_impl_Event a7)]⟩ => (spec_BakeryOk k (⟨(⟨a1⟩ : Stock), (⟨a2, a3, a4⟩ : Dough), (⟨a5, a6⟩ : Loaf), (⟨a7, (⟨a8, a9, a10⟩ : Rack), a11, a12, a13⟩ : Book), a14⟩ : Bakery)).bind fun y => Q ⟨(.a (.sc (.v (.bool y)))), [.dead, .dead]⟩
 | _ => none
theorem spec_BakeryOk_ok (k : Nat) : OkE Try.prog 37 (spec_BakeryOk_x k) := by
 intro A R Q x h
 unfold spec_BakeryOk_x at h
 split at h
 · obtain ⟨y, hy, hK⟩ := Option.bind_eq_some_iff.1 h
   obtain ⟨r, hr, hd⟩ := callF_ok envOk (spec_BakeryOk_Ok k) follows Try.func37 (by kernel_rfl) ((spec_BakeryOk_e k _).trans hy)
   exact ⟨_, spec_BakeryOk_i hd ▸ hr.fin [], hK⟩
 · cases h
/-! ### spec.OpenBakery: function 105 -/
noncomputable def spec_OpenBakery (k : Nat)  (grams : (List Int)) (d : Dough) (l : Loaf) (money : Int) : Option (Bakery × Bool) :=
 if ([] : List Int).length + (grams : List Int).length ≤ maxRow then
 (spec_BakeryOk k (⟨(⟨([] ++ grams)⟩ : Stock), d, l, (⟨[], (⟨0, 0, 0⟩ : Rack), 0, 0, 0⟩ : Book), money⟩ : Bakery)).bind fun y1 =>
  cond (!y1)
   (some ((⟨(⟨[]⟩ : Stock), (⟨0, 0, 0⟩ : Dough), (⟨0, 0⟩ : Loaf), (⟨[], (⟨0, 0, 0⟩ : Rack), 0, 0, 0⟩ : Book), 0⟩ : Bakery), false))
   (some ((⟨(⟨([] ++ grams)⟩ : Stock), d, l, (⟨[], (⟨0, 0, 0⟩ : Rack), 0, 0, 0⟩ : Book), money⟩ : Bakery), true)) else none
noncomputable def spec_OpenBakery_v : Nat → List Nat := fun t => match t with | _ => []
noncomputable def spec_OpenBakery_O (k : Nat) : Oracle := ofL [(37, spec_BakeryOk_x k)]
theorem spec_OpenBakery_Ok (k : Nat) : OkO (Ct Try.prog) (spec_OpenBakery_O k) := okO_cons (spec_BakeryOk_ok k) (okO_nil)
noncomputable def spec_OpenBakery_A (grams : (List Int)) (d : Dough) (l : Loaf) (money : Int) : Pk := ⟨[(.sc (.sl 0)), (.ag [(.v (.int .i64 d.Water)), (.v (.int .i64 d.Salt)), (.v (.int .i64 d.Leaven))]), (.ag [(.v (.int .i64 l.Weight)), (.v (.int .i64 l.Loss))]), (.sc (.v (.int .i64 money)))], [(.row false K.ki64 grams)]⟩
noncomputable def spec_OpenBakery_d : Rs → Option (Bakery × Bool)
 | ⟨(.tp [(.ag [(.sl 1), (.v (.int .i64 r2)), (.v (.int .i64 r3)), (.v (.int .i64 r4)), (.v (.int .i64 r5)), (.v (.int .i64 r6)), (.sl 2), (.v (.int .i64 r8)), (.v (.int .i64 r9)), (.v (.int .i64 r10)), (.v (.int .i64 r11)), (.v (.int .i64 r12)), (.v (.int .i64 r13)), (.v (.int .i64 r14))]), (.sc (.v (.bool r15)))]), [.dead, (.row true K.ki64 r1), (.row true K.k_impl_Event r7)]⟩ => some ((⟨(⟨r1⟩ : Stock), (⟨r2, r3, r4⟩ : Dough), (⟨r5, r6⟩ : Loaf), (⟨r7, (⟨r8, r9, r10⟩ : Rack), r11, r12, r13⟩ : Book), r14⟩ : Bakery), r15)
 | _ => none
theorem spec_OpenBakery_i {r : Rs} {y : Bakery × Bool} (h : spec_OpenBakery_d r = some y) : r = ⟨(.tp [(.ag [(.sl 1), (.v (.int .i64 y.1.Dough.Water)), (.v (.int .i64 y.1.Dough.Salt)), (.v (.int .i64 y.1.Dough.Leaven)), (.v (.int .i64 y.1.Loaf.Weight)), (.v (.int .i64 y.1.Loaf.Loss)), (.sl 2), (.v (.int .i64 y.1.Book.Rack.Fresh)), (.v (.int .i64 y.1.Book.Rack.Day)), (.v (.int .i64 y.1.Book.Rack.Old)), (.v (.int .i64 y.1.Book.Baked)), (.v (.int .i64 y.1.Book.Sold)), (.v (.int .i64 y.1.Book.Thrown)), (.v (.int .i64 y.1.Money))]), (.sc (.v (.bool y.2)))]), [.dead, (.row true K.ki64 y.1.Stock.Grams), (.row true K.k_impl_Event y.1.Book.Events)]⟩ := by
 unfold spec_OpenBakery_d at h; split at h
 · cases h; rfl
 · cases h
theorem spec_OpenBakery_e (k : Nat) (grams : (List Int)) (d : Dough) (l : Loaf) (money : Int) : callF env (spec_OpenBakery_O k) spec_OpenBakery_v Try.f105 (k + 1) (spec_OpenBakery_A grams d l money) (fun r => spec_OpenBakery_d (r.fin 1 [])) = spec_OpenBakery k grams d l money := by kernel_rfl
noncomputable def spec_OpenBakery_x (k : Nat) : Ent1 := fun A R Q => match A with
 | ⟨[(.sc (.sl 0)), (.ag [(.v (.int .i64 a2)), (.v (.int .i64 a3)), (.v (.int .i64 a4))]), (.ag [(.v (.int .i64 a5)), (.v (.int .i64 a6))]), (.sc (.v (.int .i64 a7)))], [(.row false K.ki64 a1)]⟩ => (spec_OpenBakery k a1 (⟨a2, a3, a4⟩ : Dough) (⟨a5, a6⟩ : Loaf) a7).bind fun y => Q ⟨(.tp [(.ag [(.sl 1), (.v (.int .i64 y.1.Dough.Water)), (.v (.int .i64 y.1.Dough.Salt)), (.v (.int .i64 y.1.Dough.Leaven)), (.v (.int .i64 y.1.Loaf.Weight)), (.v (.int .i64 y.1.Loaf.Loss)), (.sl 2), (.v (.int .i64 y.1.Book.Rack.Fresh)), (.v (.int .i64 y.1.Book.Rack.Day)), (.v (.int .i64 y.1.Book.Rack.Old)), (.v (.int .i64 y.1.Book.Baked)), (.v (.int .i64 y.1.Book.Sold)), (.v (.int .i64 y.1.Book.Thrown)), (.v (.int .i64 y.1.Money))]), (.sc (.v (.bool y.2)))]), [.dead, (.row true K.ki64 y.1.Stock.Grams), (.row true K.k_impl_Event y.1.Book.Events)]⟩
 | _ => none
theorem spec_OpenBakery_ok (k : Nat) : OkE Try.prog 105 (spec_OpenBakery_x k) := by
 intro A R Q x h
 unfold spec_OpenBakery_x at h
 split at h
 · obtain ⟨y, hy, hK⟩ := Option.bind_eq_some_iff.1 h
   obtain ⟨r, hr, hd⟩ := callF_ok envOk (spec_OpenBakery_Ok k) follows Try.func105 (by kernel_rfl) ((spec_OpenBakery_e k _ _ _ _).trans hy)
   exact ⟨_, spec_OpenBakery_i hd ▸ hr.fin [], hK⟩
 · cases h
/-! ### spec.SampleBakery: function 81 -/
noncomputable def spec_SampleBakery (k : Nat)  : Option (Bakery) :=
 (spec_OpenBakery k ([4000, 3000, 100, 800]) (⟨650, 20, 200⟩ : Dough) (⟨500, 15⟩ : Loaf) 50).bind fun y1 =>
 some y1.1
noncomputable def spec_SampleBakery_v : Nat → List Nat := fun t => match t with | _ => []
noncomputable def spec_SampleBakery_O (k : Nat) : Oracle := ofL [(105, spec_OpenBakery_x k)]
theorem spec_SampleBakery_Ok (k : Nat) : OkO (Ct Try.prog) (spec_SampleBakery_O k) := okO_cons (spec_OpenBakery_ok k) (okO_nil)
noncomputable def spec_SampleBakery_A : Pk := ⟨[], []⟩
noncomputable def spec_SampleBakery_d : Rs → Option (Bakery)
 | ⟨(.a (.ag [(.sl 0), (.v (.int .i64 r2)), (.v (.int .i64 r3)), (.v (.int .i64 r4)), (.v (.int .i64 r5)), (.v (.int .i64 r6)), (.sl 1), (.v (.int .i64 r8)), (.v (.int .i64 r9)), (.v (.int .i64 r10)), (.v (.int .i64 r11)), (.v (.int .i64 r12)), (.v (.int .i64 r13)), (.v (.int .i64 r14))])), [(.row true K.ki64 r1), (.row true K.k_impl_Event r7)]⟩ => some (⟨(⟨r1⟩ : Stock), (⟨r2, r3, r4⟩ : Dough), (⟨r5, r6⟩ : Loaf), (⟨r7, (⟨r8, r9, r10⟩ : Rack), r11, r12, r13⟩ : Book), r14⟩ : Bakery)
 | _ => none
theorem spec_SampleBakery_i {r : Rs} {y : Bakery} (h : spec_SampleBakery_d r = some y) : r = ⟨(.a (.ag [(.sl 0), (.v (.int .i64 y.Dough.Water)), (.v (.int .i64 y.Dough.Salt)), (.v (.int .i64 y.Dough.Leaven)), (.v (.int .i64 y.Loaf.Weight)), (.v (.int .i64 y.Loaf.Loss)), (.sl 1), (.v (.int .i64 y.Book.Rack.Fresh)), (.v (.int .i64 y.Book.Rack.Day)), (.v (.int .i64 y.Book.Rack.Old)), (.v (.int .i64 y.Book.Baked)), (.v (.int .i64 y.Book.Sold)), (.v (.int .i64 y.Book.Thrown)), (.v (.int .i64 y.Money))])), [(.row true K.ki64 y.Stock.Grams), (.row true K.k_impl_Event y.Book.Events)]⟩ := by
 unfold spec_SampleBakery_d at h; split at h
 · cases h; rfl
 · cases h
theorem spec_SampleBakery_e (k : Nat) : callF env (spec_SampleBakery_O k) spec_SampleBakery_v Try.f81 (k + 1) (spec_SampleBakery_A) (fun r => spec_SampleBakery_d (r.fin 0 [])) = spec_SampleBakery k := by kernel_rfl
noncomputable def spec_SampleBakery_x (k : Nat) : Ent1 := fun A R Q => match A with
 | ⟨[], []⟩ => (spec_SampleBakery k).bind fun y => Q ⟨(.a (.ag [(.sl 0), (.v (.int .i64 y.Dough.Water)), (.v (.int .i64 y.Dough.Salt)), (.v (.int .i64 y.Dough.Leaven)), (.v (.int .i64 y.Loaf.Weight)), (.v (.int .i64 y.Loaf.Loss)), (.sl 1), (.v (.int .i64 y.Book.Rack.Fresh)), (.v (.int .i64 y.Book.Rack.Day)), (.v (.int .i64 y.Book.Rack.Old)), (.v (.int .i64 y.Book.Baked)), (.v (.int .i64 y.Book.Sold)), (.v (.int .i64 y.Book.Thrown)), (.v (.int .i64 y.Money))])), [(.row true K.ki64 y.Stock.Grams), (.row true K.k_impl_Event y.Book.Events)]⟩
 | _ => none
theorem spec_SampleBakery_ok (k : Nat) : OkE Try.prog 81 (spec_SampleBakery_x k) := by
 intro A R Q x h
 unfold spec_SampleBakery_x at h
 split at h
 · obtain ⟨y, hy, hK⟩ := Option.bind_eq_some_iff.1 h
   obtain ⟨r, hr, hd⟩ := callF_ok envOk (spec_SampleBakery_Ok k) follows Try.func81 (by kernel_rfl) ((spec_SampleBakery_e k).trans hy)
   exact ⟨_, spec_SampleBakery_i hd ▸ hr.fin [], hK⟩
 · cases h
/-! ### spec.l36Stock: function 93 -/
noncomputable def spec_l36Stock (k : Nat)  (c : l01Cur) : Option (Stock × (Int × Int)) :=
 (spec_l01Below k c 250).bind fun y1 =>
 (spec_l01Below k (⟨c.b, y1.2.1, y1.2.2⟩ : l01Cur) 250).bind fun y2 =>
  (spec_l01Below k (⟨c.b, y2.2.1, y2.2.2⟩ : l01Cur) 50).bind fun y3 =>
   (spec_l01Below k (⟨c.b, y3.2.1, y3.2.2⟩ : l01Cur) 200).bind fun y4 =>
    some ((⟨[(wr ((8 : Int) * y1.1)), (wr ((6 : Int) * y2.1)), y3.1, (wr ((2 : Int) * y4.1))]⟩ : Stock), (y4.2.1, y4.2.2))
noncomputable def spec_l36Stock_v : Nat → List Nat := fun t => match t with | _ => []
noncomputable def spec_l36Stock_O (k : Nat) : Oracle := ofL [(73, spec_l01Below_x k)]
theorem spec_l36Stock_Ok (k : Nat) : OkO (Ct Try.prog) (spec_l36Stock_O k) := okO_cons (spec_l01Below_ok k) (okO_nil)
noncomputable def spec_l36Stock_A (c : l01Cur) : Pk := ⟨[(.sc (.bp 1 0))], [(.row false K.ku8 c.b), (.box true [(.sl 0), (.v (.int .i64 c.i)), (.v (.int .i64 c.h))])]⟩
noncomputable def spec_l36Stock_d : Rs → Option (Stock × (Int × Int))
 | ⟨(.a (.ag [(.sl 2)])), [.dead, (.box true [(.sl 0), (.v (.int .i64 r2)), (.v (.int .i64 r3))]), (.row true K.ki64 r1)]⟩ => some ((⟨r1⟩ : Stock), (r2, r3))
 | _ => none
theorem spec_l36Stock_i {r : Rs} {y : Stock × (Int × Int)} (h : spec_l36Stock_d r = some y) : r = ⟨(.a (.ag [(.sl 2)])), [.dead, (.box true [(.sl 0), (.v (.int .i64 y.2.1)), (.v (.int .i64 y.2.2))]), (.row true K.ki64 y.1.Grams)]⟩ := by
 unfold spec_l36Stock_d at h; split at h
 · cases h; rfl
 · cases h
theorem spec_l36Stock_e (k : Nat) (c : l01Cur) : callF env (spec_l36Stock_O k) spec_l36Stock_v Try.f93 (k + 1) (spec_l36Stock_A c) (fun r => spec_l36Stock_d (r.fin 2 [])) = spec_l36Stock k c := by kernel_rfl
noncomputable def spec_l36Stock_x (k : Nat) : Ent1 := fun A R Q => match A with
 | ⟨[(.sc (.bp 1 0))], [(.row false K.ku8 a1), (.box true [(.sl 0), (.v (.int .i64 a2)), (.v (.int .i64 a3))])]⟩ => (spec_l36Stock k (⟨a1, a2, a3⟩ : l01Cur)).bind fun y => Q ⟨(.a (.ag [(.sl 2)])), [.dead, (.box true [(.sl 0), (.v (.int .i64 y.2.1)), (.v (.int .i64 y.2.2))]), (.row true K.ki64 y.1.Grams)]⟩
 | _ => none
theorem spec_l36Stock_ok (k : Nat) : OkE Try.prog 93 (spec_l36Stock_x k) := by
 intro A R Q x h
 unfold spec_l36Stock_x at h
 split at h
 · obtain ⟨y, hy, hK⟩ := Option.bind_eq_some_iff.1 h
   obtain ⟨r, hr, hd⟩ := callF_ok envOk (spec_l36Stock_Ok k) follows Try.func93 (by kernel_rfl) ((spec_l36Stock_e k _).trans hy)
   exact ⟨_, spec_l36Stock_i hd ▸ hr.fin [], hK⟩
 · cases h
/-! ### spec.l02Dough: function 94 -/
noncomputable def spec_l02Dough (k : Nat)  (c : l01Cur) : Option (Dough × (Int × Int)) :=
 (spec_l01Below k c 250).bind fun y1 =>
 (spec_l01Below k (⟨c.b, y1.2.1, y1.2.2⟩ : l01Cur) 10).bind fun y2 =>
  (spec_l01Below k (⟨c.b, y2.2.1, y2.2.2⟩ : l01Cur) 250).bind fun y3 =>
   some ((⟨(wr ((550 : Int) + y1.1)), (wr ((15 : Int) + y2.1)), y3.1⟩ : Dough), (y3.2.1, y3.2.2))
noncomputable def spec_l02Dough_v : Nat → List Nat := fun t => match t with | _ => []
noncomputable def spec_l02Dough_O (k : Nat) : Oracle := ofL [(73, spec_l01Below_x k)]
theorem spec_l02Dough_Ok (k : Nat) : OkO (Ct Try.prog) (spec_l02Dough_O k) := okO_cons (spec_l01Below_ok k) (okO_nil)
noncomputable def spec_l02Dough_A (c : l01Cur) : Pk := ⟨[(.sc (.bp 1 0))], [(.row false K.ku8 c.b), (.box true [(.sl 0), (.v (.int .i64 c.i)), (.v (.int .i64 c.h))])]⟩
noncomputable def spec_l02Dough_d : Rs → Option (Dough × (Int × Int))
 | ⟨(.a (.ag [(.v (.int .i64 r1)), (.v (.int .i64 r2)), (.v (.int .i64 r3))])), [.dead, (.box true [(.sl 0), (.v (.int .i64 r4)), (.v (.int .i64 r5))])]⟩ => some ((⟨r1, r2, r3⟩ : Dough), (r4, r5))
 | _ => none
theorem spec_l02Dough_i {r : Rs} {y : Dough × (Int × Int)} (h : spec_l02Dough_d r = some y) : r = ⟨(.a (.ag [(.v (.int .i64 y.1.Water)), (.v (.int .i64 y.1.Salt)), (.v (.int .i64 y.1.Leaven))])), [.dead, (.box true [(.sl 0), (.v (.int .i64 y.2.1)), (.v (.int .i64 y.2.2))])]⟩ := by
 unfold spec_l02Dough_d at h; split at h
 · cases h; rfl
 · cases h
theorem spec_l02Dough_e (k : Nat) (c : l01Cur) : callF env (spec_l02Dough_O k) spec_l02Dough_v Try.f94 (k + 1) (spec_l02Dough_A c) (fun r => spec_l02Dough_d (r.fin 2 [])) = spec_l02Dough k c := by kernel_rfl
noncomputable def spec_l02Dough_x (k : Nat) : Ent1 := fun A R Q => match A with
 | ⟨[(.sc (.bp 1 0))], [(.row false K.ku8 a1), (.box true [(.sl 0), (.v (.int .i64 a2)), (.v (.int .i64 a3))])]⟩ => (spec_l02Dough k (⟨a1, a2, a3⟩ : l01Cur)).bind fun y => Q ⟨(.a (.ag [(.v (.int .i64 y.1.Water)), (.v (.int .i64 y.1.Salt)), (.v (.int .i64 y.1.Leaven))])), [.dead, (.box true [(.sl 0), (.v (.int .i64 y.2.1)), (.v (.int .i64 y.2.2))])]⟩
 | _ => none
theorem spec_l02Dough_ok (k : Nat) : OkE Try.prog 94 (spec_l02Dough_x k) := by
 intro A R Q x h
 unfold spec_l02Dough_x at h
 split at h
 · obtain ⟨y, hy, hK⟩ := Option.bind_eq_some_iff.1 h
   obtain ⟨r, hr, hd⟩ := callF_ok envOk (spec_l02Dough_Ok k) follows Try.func94 (by kernel_rfl) ((spec_l02Dough_e k _).trans hy)
   exact ⟨_, spec_l02Dough_i hd ▸ hr.fin [], hK⟩
 · cases h
/-! ### spec.l01PickInt: function 95 -/
noncomputable def spec_l01PickInt (k : Nat)  (c : l01Cur) (list : (List Int)) : Option (Int × (Int × Int)) :=
 (spec_l01Below k c ((list).length : Int)).bind fun y1 =>
 if 0 ≤ (y1.1 : Int) ∧ (y1.1 : Int) < ((list).length : Int) then
  some ((list.getD (Int.toNat y1.1) 0), (y1.2.1, y1.2.2)) else none
noncomputable def spec_l01PickInt_v : Nat → List Nat := fun t => match t with | _ => []
noncomputable def spec_l01PickInt_O (k : Nat) : Oracle := ofL [(73, spec_l01Below_x k)]
theorem spec_l01PickInt_Ok (k : Nat) : OkO (Ct Try.prog) (spec_l01PickInt_O k) := okO_cons (spec_l01Below_ok k) (okO_nil)
noncomputable def spec_l01PickInt_A (c : l01Cur) (list : (List Int)) : Pk := ⟨[(.sc (.bp 1 0)), (.sc (.sl 2))], [(.row false K.ku8 c.b), (.box true [(.sl 0), (.v (.int .i64 c.i)), (.v (.int .i64 c.h))]), (.row false K.ki64 list)]⟩
noncomputable def spec_l01PickInt_d : Rs → Option (Int × (Int × Int))
 | ⟨(.a (.sc (.v (.int .i64 r1)))), [.dead, (.box true [(.sl 0), (.v (.int .i64 r2)), (.v (.int .i64 r3))]), .dead]⟩ => some (r1, (r2, r3))
 | _ => none
theorem spec_l01PickInt_i {r : Rs} {y : Int × (Int × Int)} (h : spec_l01PickInt_d r = some y) : r = ⟨(.a (.sc (.v (.int .i64 y.1)))), [.dead, (.box true [(.sl 0), (.v (.int .i64 y.2.1)), (.v (.int .i64 y.2.2))]), .dead]⟩ := by
 unfold spec_l01PickInt_d at h; split at h
 · cases h; rfl
 · cases h
theorem spec_l01PickInt_e (k : Nat) (c : l01Cur) (list : (List Int)) : callF env (spec_l01PickInt_O k) spec_l01PickInt_v Try.f95 (k + 1) (spec_l01PickInt_A c list) (fun r => spec_l01PickInt_d (r.fin 3 [])) = spec_l01PickInt k c list := by kernel_rfl
noncomputable def spec_l01PickInt_x (k : Nat) : Ent1 := fun A R Q => match A with
 | ⟨[(.sc (.bp 1 0)), (.sc (.sl 2))], [(.row false K.ku8 a1), (.box true [(.sl 0), (.v (.int .i64 a2)), (.v (.int .i64 a3))]), (.row false K.ki64 a4)]⟩ => (spec_l01PickInt k (⟨a1, a2, a3⟩ : l01Cur) a4).bind fun y => Q ⟨(.a (.sc (.v (.int .i64 y.1)))), [.dead, (.box true [(.sl 0), (.v (.int .i64 y.2.1)), (.v (.int .i64 y.2.2))]), .dead]⟩
 | _ => none
theorem spec_l01PickInt_ok (k : Nat) : OkE Try.prog 95 (spec_l01PickInt_x k) := by
 intro A R Q x h
 unfold spec_l01PickInt_x at h
 split at h
 · obtain ⟨y, hy, hK⟩ := Option.bind_eq_some_iff.1 h
   obtain ⟨r, hr, hd⟩ := callF_ok envOk (spec_l01PickInt_Ok k) follows Try.func95 (by kernel_rfl) ((spec_l01PickInt_e k _ _).trans hy)
   exact ⟨_, spec_l01PickInt_i hd ▸ hr.fin [], hK⟩
 · cases h
/-! ### spec.l38Bakery: function 55 -/
noncomputable def spec_l38Bakery (k : Nat)  (c : l01Cur) : Option (Bakery × (Int × Int)) :=
 (spec_l36Stock k c).bind fun y1 =>
 (spec_l02Dough k (⟨c.b, y1.2.1, y1.2.2⟩ : l01Cur)).bind fun y2 =>
  (spec_l01Below k (⟨c.b, y2.2.1, y2.2.2⟩ : l01Cur) 200).bind fun y3 =>
   (spec_l01Below k (⟨c.b, y3.2.1, y3.2.2⟩ : l01Cur) 20).bind fun y4 =>
    (spec_l37Book k (⟨c.b, y4.2.1, y4.2.2⟩ : l01Cur)).bind fun y5 =>
     (spec_l01PickInt k (⟨c.b, y5.2.1, y5.2.2⟩ : l01Cur) ([0, 4, 60, 300, 999990])).bind fun y6 =>
      some ((⟨y1.1, y2.1, (⟨(wr ((50 : Int) + y3.1)), y4.1⟩ : Loaf), y5.1, y6.1⟩ : Bakery), (y6.2.1, y6.2.2))
noncomputable def spec_l38Bakery_v : Nat → List Nat := fun t => match t with | _ => []
noncomputable def spec_l38Bakery_O (k : Nat) : Oracle := ofL [(73, spec_l01Below_x k), (74, spec_l37Book_x k), (93, spec_l36Stock_x k), (94, spec_l02Dough_x k), (95, spec_l01PickInt_x k)]
theorem spec_l38Bakery_Ok (k : Nat) : OkO (Ct Try.prog) (spec_l38Bakery_O k) := okO_cons (spec_l01Below_ok k) (okO_cons (spec_l37Book_ok k) (okO_cons (spec_l36Stock_ok k) (okO_cons (spec_l02Dough_ok k) (okO_cons (spec_l01PickInt_ok k) (okO_nil)))))
noncomputable def spec_l38Bakery_A (c : l01Cur) : Pk := ⟨[(.sc (.bp 1 0))], [(.row false K.ku8 c.b), (.box true [(.sl 0), (.v (.int .i64 c.i)), (.v (.int .i64 c.h))])]⟩
noncomputable def spec_l38Bakery_d : Rs → Option (Bakery × (Int × Int))
 | ⟨(.a (.ag [(.sl 2), (.v (.int .i64 r2)), (.v (.int .i64 r3)), (.v (.int .i64 r4)), (.v (.int .i64 r5)), (.v (.int .i64 r6)), (.sl 3), (.v (.int .i64 r8)), (.v (.int .i64 r9)), (.v (.int .i64 r10)), (.v (.int .i64 r11)), (.v (.int .i64 r12)), (.v (.int .i64 r13)), (.v (.int .i64 r14))])), [.dead, (.box true [(.sl 0), (.v (.int .i64 r15)), (.v (.int .i64 r16))]), (.row true K.ki64 r1), (.row true K.k_impl_Event r7)]⟩ => some ((⟨(⟨r1⟩ : Stock), (⟨r2, r3, r4⟩ : Dough), (⟨r5, r6⟩ : Loaf), (⟨r7, (⟨r8, r9, r10⟩ : Rack), r11, r12, r13⟩ : Book), r14⟩ : Bakery), (r15, r16))
 | _ => none
theorem spec_l38Bakery_i {r : Rs} {y : Bakery × (Int × Int)} (h : spec_l38Bakery_d r = some y) : r = ⟨(.a (.ag [(.sl 2), (.v (.int .i64 y.1.Dough.Water)), (.v (.int .i64 y.1.Dough.Salt)), (.v (.int .i64 y.1.Dough.Leaven)), (.v (.int .i64 y.1.Loaf.Weight)), (.v (.int .i64 y.1.Loaf.Loss)), (.sl 3), (.v (.int .i64 y.1.Book.Rack.Fresh)), (.v (.int .i64 y.1.Book.Rack.Day)), (.v (.int .i64 y.1.Book.Rack.Old)), (.v (.int .i64 y.1.Book.Baked)), (.v (.int .i64 y.1.Book.Sold)), (.v (.int .i64 y.1.Book.Thrown)), (.v (.int .i64 y.1.Money))])), [.dead, (.box true [(.sl 0), (.v (.int .i64 y.2.1)), (.v (.int .i64 y.2.2))]), (.row true K.ki64 y.1.Stock.Grams), (.row true K.k_impl_Event y.1.Book.Events)]⟩ := by
 unfold spec_l38Bakery_d at h; split at h
 · cases h; rfl
 · cases h
theorem spec_l38Bakery_e (k : Nat) (c : l01Cur) : callD env (spec_l38Bakery_O k) spec_l38Bakery_v Try.f55 (k + 1) (spec_l38Bakery_A c) (fun r => spec_l38Bakery_d (r.fin 2 [])) = spec_l38Bakery k c := by kernel_rfl
noncomputable def spec_l38Bakery_x (k : Nat) : Ent1 := fun A R Q => match A with
 | ⟨[(.sc (.bp 1 0))], [(.row false K.ku8 a1), (.box true [(.sl 0), (.v (.int .i64 a2)), (.v (.int .i64 a3))])]⟩ => (spec_l38Bakery k (⟨a1, a2, a3⟩ : l01Cur)).bind fun y => Q ⟨(.a (.ag [(.sl 2), (.v (.int .i64 y.1.Dough.Water)), (.v (.int .i64 y.1.Dough.Salt)), (.v (.int .i64 y.1.Dough.Leaven)), (.v (.int .i64 y.1.Loaf.Weight)), (.v (.int .i64 y.1.Loaf.Loss)), (.sl 3), (.v (.int .i64 y.1.Book.Rack.Fresh)), (.v (.int .i64 y.1.Book.Rack.Day)), (.v (.int .i64 y.1.Book.Rack.Old)), (.v (.int .i64 y.1.Book.Baked)), (.v (.int .i64 y.1.Book.Sold)), (.v (.int .i64 y.1.Book.Thrown)), (.v (.int .i64 y.1.Money))])), [.dead, (.box true [(.sl 0), (.v (.int .i64 y.2.1)), (.v (.int .i64 y.2.2))]), (.row true K.ki64 y.1.Stock.Grams), (.row true K.k_impl_Event y.1.Book.Events)]⟩
 | _ => none
theorem spec_l38Bakery_ok (k : Nat) : OkE Try.prog 55 (spec_l38Bakery_x k) := by
 intro A R Q x h
 unfold spec_l38Bakery_x at h
 split at h
 · obtain ⟨y, hy, hK⟩ := Option.bind_eq_some_iff.1 h
   obtain ⟨r, hr, hd⟩ := callD_ok envOk (spec_l38Bakery_Ok k) follows Try.func55 (by kernel_rfl) ((spec_l38Bakery_e k _).trans hy)
   exact ⟨_, spec_l38Bakery_i hd ▸ hr.fin [], hK⟩
 · cases h
/-! ### spec.l39Bakery: function 35 -/
noncomputable def spec_l39Bakery (k : Nat)  (c : l01Cur) : Option (Bakery × (Int × Int)) :=
 (spec_l01Once k c 2).bind fun y1 =>
 cond y1.1
  ((spec_SampleBakery k).bind fun y2 =>
   some (y2, (y1.2.1, y1.2.2)))
  ((spec_l38Bakery k (⟨c.b, y1.2.1, y1.2.2⟩ : l01Cur)).bind fun y3 =>
   some (y3.1, (y3.2.1, y3.2.2)))
noncomputable def spec_l39Bakery_v : Nat → List Nat := fun t => match t with | _ => []
noncomputable def spec_l39Bakery_O (k : Nat) : Oracle := ofL [(55, spec_l38Bakery_x k), (80, spec_l01Once_x k), (81, spec_SampleBakery_x k)]
theorem spec_l39Bakery_Ok (k : Nat) : OkO (Ct Try.prog) (spec_l39Bakery_O k) := okO_cons (spec_l38Bakery_ok k) (okO_cons (spec_l01Once_ok k) (okO_cons (spec_SampleBakery_ok k) (okO_nil)))
noncomputable def spec_l39Bakery_A (c : l01Cur) : Pk := ⟨[(.sc (.bp 1 0))], [(.row false K.ku8 c.b), (.box true [(.sl 0), (.v (.int .i64 c.i)), (.v (.int .i64 c.h))])]⟩
noncomputable def spec_l39Bakery_d : Rs → Option (Bakery × (Int × Int))
 | ⟨(.a (.ag [(.sl 2), (.v (.int .i64 r2)), (.v (.int .i64 r3)), (.v (.int .i64 r4)), (.v (.int .i64 r5)), (.v (.int .i64 r6)), (.sl 3), (.v (.int .i64 r8)), (.v (.int .i64 r9)), (.v (.int .i64 r10)), (.v (.int .i64 r11)), (.v (.int .i64 r12)), (.v (.int .i64 r13)), (.v (.int .i64 r14))])), [.dead, (.box true [(.sl 0), (.v (.int .i64 r15)), (.v (.int .i64 r16))]), (.row true K.ki64 r1), (.row true K.k_impl_Event r7)]⟩ => some ((⟨(⟨r1⟩ : Stock), (⟨r2, r3, r4⟩ : Dough), (⟨r5, r6⟩ : Loaf), (⟨r7, (⟨r8, r9, r10⟩ : Rack), r11, r12, r13⟩ : Book), r14⟩ : Bakery), (r15, r16))
 | _ => none
theorem spec_l39Bakery_i {r : Rs} {y : Bakery × (Int × Int)} (h : spec_l39Bakery_d r = some y) : r = ⟨(.a (.ag [(.sl 2), (.v (.int .i64 y.1.Dough.Water)), (.v (.int .i64 y.1.Dough.Salt)), (.v (.int .i64 y.1.Dough.Leaven)), (.v (.int .i64 y.1.Loaf.Weight)), (.v (.int .i64 y.1.Loaf.Loss)), (.sl 3), (.v (.int .i64 y.1.Book.Rack.Fresh)), (.v (.int .i64 y.1.Book.Rack.Day)), (.v (.int .i64 y.1.Book.Rack.Old)), (.v (.int .i64 y.1.Book.Baked)), (.v (.int .i64 y.1.Book.Sold)), (.v (.int .i64 y.1.Book.Thrown)), (.v (.int .i64 y.1.Money))])), [.dead, (.box true [(.sl 0), (.v (.int .i64 y.2.1)), (.v (.int .i64 y.2.2))]), (.row true K.ki64 y.1.Stock.Grams), (.row true K.k_impl_Event y.1.Book.Events)]⟩ := by
 unfold spec_l39Bakery_d at h; split at h
 · cases h; rfl
 · cases h
theorem spec_l39Bakery_e (k : Nat) (c : l01Cur) : callF env (spec_l39Bakery_O k) spec_l39Bakery_v Try.f35 (k + 1) (spec_l39Bakery_A c) (fun r => spec_l39Bakery_d (r.fin 2 [])) = spec_l39Bakery k c := by kernel_rfl
noncomputable def spec_l39Bakery_x (k : Nat) : Ent1 := fun A R Q => match A with
 | ⟨[(.sc (.bp 1 0))], [(.row false K.ku8 a1), (.box true [(.sl 0), (.v (.int .i64 a2)), (.v (.int .i64 a3))])]⟩ => (spec_l39Bakery k (⟨a1, a2, a3⟩ : l01Cur)).bind fun y => Q ⟨(.a (.ag [(.sl 2), (.v (.int .i64 y.1.Dough.Water)), (.v (.int .i64 y.1.Dough.Salt)), (.v (.int .i64 y.1.Dough.Leaven)), (.v (.int .i64 y.1.Loaf.Weight)), (.v (.int .i64 y.1.Loaf.Loss)), (.sl 3), (.v (.int .i64 y.1.Book.Rack.Fresh)), (.v (.int .i64 y.1.Book.Rack.Day)), (.v (.int .i64 y.1.Book.Rack.Old)), (.v (.int .i64 y.1.Book.Baked)), (.v (.int .i64 y.1.Book.Sold)), (.v (.int .i64 y.1.Book.Thrown)), (.v (.int .i64 y.1.Money))])), [.dead, (.box true [(.sl 0), (.v (.int .i64 y.2.1)), (.v (.int .i64 y.2.2))]), (.row true K.ki64 y.1.Stock.Grams), (.row true K.k_impl_Event y.1.Book.Events)]⟩
 | _ => none
theorem spec_l39Bakery_ok (k : Nat) : OkE Try.prog 35 (spec_l39Bakery_x k) := by
 intro A R Q x h
 unfold spec_l39Bakery_x at h
 split at h
 · obtain ⟨y, hy, hK⟩ := Option.bind_eq_some_iff.1 h
   obtain ⟨r, hr, hd⟩ := callF_ok envOk (spec_l39Bakery_Ok k) follows Try.func35 (by kernel_rfl) ((spec_l39Bakery_e k _).trans hy)
   exact ⟨_, spec_l39Bakery_i hd ▸ hr.fin [], hK⟩
 · cases h
/-! ### spec.l39Act: function 82 -/
noncomputable def spec_l39Act (k : Nat)  (c : l01Cur) : Option (Deed × (Int × Int)) :=
 (spec_l01Below k c 8).bind fun y1 =>
 cond (decide ((y1.1 : Int) = 0))
  (cond (decide ((y1.1 : Int) = 0))
   ((spec_l01Below k (⟨c.b, y1.2.1, y1.2.2⟩ : l01Cur) 8).bind fun y2 =>
    some ((⟨1, y2.1, 0⟩ : Deed), (y2.2.1, y2.2.2)))
   (cond (decide ((y1.1 : Int) = 2))
    (cond (decide ((y1.1 : Int) = 2))
     ((spec_l01Below k (⟨c.b, y1.2.1, y1.2.2⟩ : l01Cur) 7).bind fun y3 =>
      some ((⟨2, y3.1, 0⟩ : Deed), (y3.2.1, y3.2.2)))
     (cond (decide ((y1.1 : Int) = 4))
      ((spec_l01Below k (⟨c.b, y1.2.1, y1.2.2⟩ : l01Cur) 5).bind fun y4 =>
       some ((⟨3, y4.1, 0⟩ : Deed), (y4.2.1, y4.2.2)))
      (cond (decide ((y1.1 : Int) = 5))
       (some ((⟨4, 0, 0⟩ : Deed), (y1.2.1, y1.2.2)))
       (cond (decide ((y1.1 : Int) = 6))
        ((spec_l01Below k (⟨c.b, y1.2.1, y1.2.2⟩ : l01Cur) 4).bind fun y5 =>
        (spec_l01Below k (⟨c.b, y5.2.1, y5.2.2⟩ : l01Cur) 250).bind fun y6 =>
        some ((⟨5, y5.1, (wr ((10 : Int) * y6.1))⟩ : Deed), (y6.2.1, y6.2.2)))
        ((spec_l01Below k (⟨c.b, y1.2.1, y1.2.2⟩ : l01Cur) 20).bind fun y7 =>
        some ((⟨6, y7.1, 0⟩ : Deed), (y7.2.1, y7.2.2)))))))
    (cond (decide ((y1.1 : Int) = 3))
     ((spec_l01Below k (⟨c.b, y1.2.1, y1.2.2⟩ : l01Cur) 7).bind fun y8 =>
      some ((⟨2, y8.1, 0⟩ : Deed), (y8.2.1, y8.2.2)))
     (cond (decide ((y1.1 : Int) = 4))
      ((spec_l01Below k (⟨c.b, y1.2.1, y1.2.2⟩ : l01Cur) 5).bind fun y9 =>
       some ((⟨3, y9.1, 0⟩ : Deed), (y9.2.1, y9.2.2)))
      (cond (decide ((y1.1 : Int) = 5))
       (some ((⟨4, 0, 0⟩ : Deed), (y1.2.1, y1.2.2)))
       (cond (decide ((y1.1 : Int) = 6))
        ((spec_l01Below k (⟨c.b, y1.2.1, y1.2.2⟩ : l01Cur) 4).bind fun y10 =>
        (spec_l01Below k (⟨c.b, y10.2.1, y10.2.2⟩ : l01Cur) 250).bind fun y11 =>
        some ((⟨5, y10.1, (wr ((10 : Int) * y11.1))⟩ : Deed), (y11.2.1, y11.2.2)))
        ((spec_l01Below k (⟨c.b, y1.2.1, y1.2.2⟩ : l01Cur) 20).bind fun y12 =>
        some ((⟨6, y12.1, 0⟩ : Deed), (y12.2.1, y12.2.2)))))))))
  (cond (decide ((y1.1 : Int) = 1))
   ((spec_l01Below k (⟨c.b, y1.2.1, y1.2.2⟩ : l01Cur) 8).bind fun y13 =>
    some ((⟨1, y13.1, 0⟩ : Deed), (y13.2.1, y13.2.2)))
   (cond (decide ((y1.1 : Int) = 2))
    (cond (decide ((y1.1 : Int) = 2))
     ((spec_l01Below k (⟨c.b, y1.2.1, y1.2.2⟩ : l01Cur) 7).bind fun y14 =>
      some ((⟨2, y14.1, 0⟩ : Deed), (y14.2.1, y14.2.2)))
     (cond (decide ((y1.1 : Int) = 4))
      ((spec_l01Below k (⟨c.b, y1.2.1, y1.2.2⟩ : l01Cur) 5).bind fun y15 =>
       some ((⟨3, y15.1, 0⟩ : Deed), (y15.2.1, y15.2.2)))
      (cond (decide ((y1.1 : Int) = 5))
       (some ((⟨4, 0, 0⟩ : Deed), (y1.2.1, y1.2.2)))
       (cond (decide ((y1.1 : Int) = 6))
        ((spec_l01Below k (⟨c.b, y1.2.1, y1.2.2⟩ : l01Cur) 4).bind fun y16 =>
        (spec_l01Below k (⟨c.b, y16.2.1, y16.2.2⟩ : l01Cur) 250).bind fun y17 =>
        some ((⟨5, y16.1, (wr ((10 : Int) * y17.1))⟩ : Deed), (y17.2.1, y17.2.2)))
        ((spec_l01Below k (⟨c.b, y1.2.1, y1.2.2⟩ : l01Cur) 20).bind fun y18 =>
        some ((⟨6, y18.1, 0⟩ : Deed), (y18.2.1, y18.2.2)))))))
    (cond (decide ((y1.1 : Int) = 3))
     ((spec_l01Below k (⟨c.b, y1.2.1, y1.2.2⟩ : l01Cur) 7).bind fun y19 =>
      some ((⟨2, y19.1, 0⟩ : Deed), (y19.2.1, y19.2.2)))
     (cond (decide ((y1.1 : Int) = 4))
      ((spec_l01Below k (⟨c.b, y1.2.1, y1.2.2⟩ : l01Cur) 5).bind fun y20 =>
       some ((⟨3, y20.1, 0⟩ : Deed), (y20.2.1, y20.2.2)))
      (cond (decide ((y1.1 : Int) = 5))
       (some ((⟨4, 0, 0⟩ : Deed), (y1.2.1, y1.2.2)))
       (cond (decide ((y1.1 : Int) = 6))
        ((spec_l01Below k (⟨c.b, y1.2.1, y1.2.2⟩ : l01Cur) 4).bind fun y21 =>
        (spec_l01Below k (⟨c.b, y21.2.1, y21.2.2⟩ : l01Cur) 250).bind fun y22 =>
        some ((⟨5, y21.1, (wr ((10 : Int) * y22.1))⟩ : Deed), (y22.2.1, y22.2.2)))
        ((spec_l01Below k (⟨c.b, y1.2.1, y1.2.2⟩ : l01Cur) 20).bind fun y23 =>
        some ((⟨6, y23.1, 0⟩ : Deed), (y23.2.1, y23.2.2)))))))))
noncomputable def spec_l39Act_v : Nat → List Nat := fun t => match t with | _ => []
noncomputable def spec_l39Act_O (k : Nat) : Oracle := ofL [(73, spec_l01Below_x k)]
theorem spec_l39Act_Ok (k : Nat) : OkO (Ct Try.prog) (spec_l39Act_O k) := okO_cons (spec_l01Below_ok k) (okO_nil)
noncomputable def spec_l39Act_A (c : l01Cur) : Pk := ⟨[(.sc (.bp 1 0))], [(.row false K.ku8 c.b), (.box true [(.sl 0), (.v (.int .i64 c.i)), (.v (.int .i64 c.h))])]⟩
noncomputable def spec_l39Act_d : Rs → Option (Deed × (Int × Int))
 | ⟨(.a (.ag [(.v (.int .i64 r1)), (.v (.int .i64 r2)), (.v (.int .i64 r3))])), [.dead, (.box true [(.sl 0), (.v (.int .i64 r4)), (.v (.int .i64 r5))])]⟩ => some ((⟨r1, r2, r3⟩ : Deed), (r4, r5))
 | _ => none
theorem spec_l39Act_i {r : Rs} {y : Deed × (Int × Int)} (h : spec_l39Act_d r = some y) : r = ⟨(.a (.ag [(.v (.int .i64 y.1.Kind)), (.v (.int .i64 y.1.A)), (.v (.int .i64 y.1.B))])), [.dead, (.box true [(.sl 0), (.v (.int .i64 y.2.1)), (.v (.int .i64 y.2.2))])]⟩ := by
 unfold spec_l39Act_d at h; split at h
 · cases h; rfl
 · cases h
theorem spec_l39Act_e (k : Nat) (c : l01Cur) : callF env (spec_l39Act_O k) spec_l39Act_v Try.f82 (k + 1) (spec_l39Act_A c) (fun r => spec_l39Act_d (r.fin 2 [])) = spec_l39Act k c := by kernel_rfl
noncomputable def spec_l39Act_x (k : Nat) : Ent1 := fun A R Q => match A with
 | ⟨[(.sc (.bp 1 0))], [(.row false K.ku8 a1), (.box true [(.sl 0), (.v (.int .i64 a2)), (.v (.int .i64 a3))])]⟩ => (spec_l39Act k (⟨a1, a2, a3⟩ : l01Cur)).bind fun y => Q ⟨(.a (.ag [(.v (.int .i64 y.1.Kind)), (.v (.int .i64 y.1.A)), (.v (.int .i64 y.1.B))])), [.dead, (.box true [(.sl 0), (.v (.int .i64 y.2.1)), (.v (.int .i64 y.2.2))])]⟩
 | _ => none
theorem spec_l39Act_ok (k : Nat) : OkE Try.prog 82 (spec_l39Act_x k) := by
 intro A R Q x h
 unfold spec_l39Act_x at h
 split at h
 · obtain ⟨y, hy, hK⟩ := Option.bind_eq_some_iff.1 h
   obtain ⟨r, hr, hd⟩ := callF_ok envOk (spec_l39Act_Ok k) follows Try.func82 (by kernel_rfl) ((spec_l39Act_e k _).trans hy)
   exact ⟨_, spec_l39Act_i hd ▸ hr.fin [], hK⟩
 · cases h
/-! ### spec.l39List: function 36 -/
noncomputable def spec_l39List_s0 (k : Nat)  (c : l01Cur) (y1 : Int × (Int × Int)) (J : Int → Int → Int → (List Deed) → Option ((List Deed) × (Int × Int))) (x0_0 : Int) (x0_1 : Int) (x0_2 : Int) (x0_3 : (List Deed)) : Option ((List Deed) × (Int × Int)) :=
 cond (decide ((x0_0 : Int) < y1.1))
 ((spec_l39Act k (⟨c.b, x0_1, x0_2⟩ : l01Cur)).bind fun y3 =>
  if (x0_3 : List Deed).length + ([y3.1] : List Deed).length ≤ maxRow then
   J (wr (x0_0 + 1)) y3.2.1 y3.2.2 (x0_3 ++ [y3.1]) else none)
 (some (x0_3, (x0_1, x0_2)))
noncomputable def spec_l39List_l0 (k : Nat) : Nat → l01Cur → Int × (Int × Int) → Int → Int → Int → (List Deed) → Option ((List Deed) × (Int × Int))
 | 0, c, y1, x0_0, x0_1, x0_2, x0_3 => spec_l39List_s0 k c y1 (fun _ _ _ _ => none) x0_0 x0_1 x0_2 x0_3
 | m + 1, c, y1, x0_0, x0_1, x0_2, x0_3 => spec_l39List_s0 k c y1 (spec_l39List_l0 k m c y1) x0_0 x0_1 x0_2 x0_3
noncomputable def spec_l39List_m (k : Nat) (J0 : l01Cur → Int × (Int × Int) → Int → Int → Int → (List Deed) → Option ((List Deed) × (Int × Int))) (c : l01Cur) : Option ((List Deed) × (Int × Int)) :=
 (spec_l01Below k c 14).bind fun y1 =>
 J0 c y1 0 y1.2.1 y1.2.2 ([])
noncomputable def spec_l39List (k : Nat) (c : l01Cur) : Option ((List Deed) × (Int × Int)) := spec_l39List_m k (spec_l39List_l0 k k) c
noncomputable def spec_l39List_v : Nat → List Nat := fun t => match t with | 4 => [0, 2, 3, 4, 5] | _ => []
noncomputable def spec_l39List_O (k : Nat) : Oracle := ofL [(73, spec_l01Below_x k), (82, spec_l39Act_x k)]
theorem spec_l39List_Ok (k : Nat) : OkO (Ct Try.prog) (spec_l39List_O k) := okO_cons (spec_l01Below_ok k) (okO_cons (spec_l39Act_ok k) (okO_nil))
noncomputable def spec_l39List_A (c : l01Cur) : Pk := ⟨[(.sc (.bp 1 0))], [(.row false K.ku8 c.b), (.box true [(.sl 0), (.v (.int .i64 c.i)), (.v (.int .i64 c.h))])]⟩
noncomputable def spec_l39List_d : Rs → Option ((List Deed) × (Int × Int))
 | ⟨(.a (.sc (.sl 2))), [.dead, (.box true [(.sl 0), (.v (.int .i64 r2)), (.v (.int .i64 r3))]), (.row true K.k_impl_Act r1)]⟩ => some (r1, (r2, r3))
 | _ => none
theorem spec_l39List_i {r : Rs} {y : (List Deed) × (Int × Int)} (h : spec_l39List_d r = some y) : r = ⟨(.a (.sc (.sl 2))), [.dead, (.box true [(.sl 0), (.v (.int .i64 y.2.1)), (.v (.int .i64 y.2.2))]), (.row true K.k_impl_Act y.1)]⟩ := by
 unfold spec_l39List_d at h; split at h
 · cases h; rfl
 · cases h
noncomputable def spec_l39List_h0 (k m : Nat) (c : l01Cur) (y1 : Int × (Int × Int)) (x0_0 : Int) (x0_1 : Int) (x0_2 : Int) (x0_3 : (List Deed)) : Option ((List Deed) × (Int × Int)) := hdAt env (spec_l39List_O k) spec_l39List_v Try.f36 2 (fun r => spec_l39List_d (r.fin 2 [])) [1, 1, 1, 0, 1, 0] k m ⟨tmF [0, 2, 3, 4, 5] [(.a (.sc (.bp 1 0))), (.a (.sc .nl)), (.a (.sc (.sl 2))), (.a (.sc (.v (.int .i64 y1.1)))), (.a (.sc (.v (.int .i64 x0_0))))], blF [(.row false K.ku8 c.b), (.box true [(.sl 0), (.v (.int .i64 x0_1)), (.v (.int .i64 x0_2))]), (.row true K.k_impl_Act x0_3)]⟩
theorem spec_l39List_z0 (k : Nat) (c : l01Cur) (y1 : Int × (Int × Int)) (x0_0 : Int) (x0_1 : Int) (x0_2 : Int) (x0_3 : (List Deed)) : spec_l39List_h0 k 0 c y1 x0_0 x0_1 x0_2 x0_3 = spec_l39List_s0 k c y1 (fun _ _ _ _ => none) x0_0 x0_1 x0_2 x0_3 := by kernel_rfl
theorem spec_l39List_g0 (k : Nat) (H : St → Option ((List Deed) × (Int × Int))) (c : l01Cur) (y1 : Int × (Int × Int)) (x0_0 : Int) (x0_1 : Int) (x0_2 : Int) (x0_3 : (List Deed)) : rnd env (spec_l39List_O k) spec_l39List_v Try.f36 2 (fun r => spec_l39List_d (r.fin 2 [])) [1, 1, 1, 0, 1, 0] k H ⟨tmF [0, 2, 3, 4, 5] [(.a (.sc (.bp 1 0))), (.a (.sc .nl)), (.a (.sc (.sl 2))), (.a (.sc (.v (.int .i64 y1.1)))), (.a (.sc (.v (.int .i64 x0_0))))], blF [(.row false K.ku8 c.b), (.box true [(.sl 0), (.v (.int .i64 x0_1)), (.v (.int .i64 x0_2))]), (.row true K.k_impl_Act x0_3)]⟩ = spec_l39List_s0 k c y1 (fun x0_0 x0_1 x0_2 x0_3 => H ⟨tmF [0, 2, 3, 4, 5] [(.a (.sc (.bp 1 0))), (.a (.sc .nl)), (.a (.sc (.sl 2))), (.a (.sc (.v (.int .i64 y1.1)))), (.a (.sc (.v (.int .i64 x0_0))))], blF [(.row false K.ku8 c.b), (.box true [(.sl 0), (.v (.int .i64 x0_1)), (.v (.int .i64 x0_2))]), (.row true K.k_impl_Act x0_3)]⟩) x0_0 x0_1 x0_2 x0_3 := by kernel_rfl
theorem spec_l39List_n0 (k m : Nat) (c : l01Cur) (y1 : Int × (Int × Int)) (x0_0 : Int) (x0_1 : Int) (x0_2 : Int) (x0_3 : (List Deed)) : spec_l39List_h0 k (m + 1) c y1 x0_0 x0_1 x0_2 x0_3 = spec_l39List_s0 k c y1 (spec_l39List_h0 k m c y1) x0_0 x0_1 x0_2 x0_3 := (hdAt_succ _ _ _ _ _ _ _ _ _ _).trans (spec_l39List_g0 k _ c y1 x0_0 x0_1 x0_2 x0_3)
theorem spec_l39List_q0 (k : Nat) : ∀ m, spec_l39List_h0 k m = spec_l39List_l0 k m := by
 intro m
 induction m with
 | zero => funext c y1 x0_0 x0_1 x0_2 x0_3; rw [spec_l39List_z0]; rfl
 | succ m ih => funext c y1 x0_0 x0_1 x0_2 x0_3; rw [spec_l39List_n0, ih]; rfl
theorem spec_l39List_e (k : Nat) (c : l01Cur) : callF env (spec_l39List_O k) spec_l39List_v Try.f36 (k + 1) (spec_l39List_A c) (fun r => spec_l39List_d (r.fin 2 [])) = spec_l39List k c := by
 have e : callF env (spec_l39List_O k) spec_l39List_v Try.f36 (k + 1) (spec_l39List_A c) (fun r => spec_l39List_d (r.fin 2 [])) = spec_l39List_m k (spec_l39List_h0 k k) c := by kernel_rfl
 rw [e, spec_l39List_q0]; rfl
noncomputable def spec_l39List_x (k : Nat) : Ent1 := fun A R Q => match A with
 | ⟨[(.sc (.bp 1 0))], [(.row false K.ku8 a1), (.box true [(.sl 0), (.v (.int .i64 a2)), (.v (.int .i64 a3))])]⟩ => (spec_l39List k (⟨a1, a2, a3⟩ : l01Cur)).bind fun y => Q ⟨(.a (.sc (.sl 2))), [.dead, (.box true [(.sl 0), (.v (.int .i64 y.2.1)), (.v (.int .i64 y.2.2))]), (.row true K.k_impl_Act y.1)]⟩
 | _ => none
theorem spec_l39List_ok (k : Nat) : OkE Try.prog 36 (spec_l39List_x k) := by
 intro A R Q x h
 unfold spec_l39List_x at h
 split at h
 · obtain ⟨y, hy, hK⟩ := Option.bind_eq_some_iff.1 h
   obtain ⟨r, hr, hd⟩ := callF_ok envOk (spec_l39List_Ok k) follows Try.func36 (by kernel_rfl) ((spec_l39List_e k _).trans hy)
   exact ⟨_, spec_l39List_i hd ▸ hr.fin [], hK⟩
 · cases h
/-! ### spec.DrawActs: function 9 -/
noncomputable def spec_DrawActs (k : Nat)  (code : (List Int)) : Option (Bakery × (List Deed)) :=
 (spec_l01New k code).bind fun y1 =>
 (spec_l39Bakery k (⟨code, y1.1, y1.2⟩ : l01Cur)).bind fun y2 =>
  (spec_l39List k (⟨code, y2.2.1, y2.2.2⟩ : l01Cur)).bind fun y3 =>
   some (y2.1, y3.1)
noncomputable def spec_DrawActs_v : Nat → List Nat := fun t => match t with | _ => []
noncomputable def spec_DrawActs_O (k : Nat) : Oracle := ofL [(34, spec_l01New_x k), (35, spec_l39Bakery_x k), (36, spec_l39List_x k)]
theorem spec_DrawActs_Ok (k : Nat) : OkO (Ct Try.prog) (spec_DrawActs_O k) := okO_cons (spec_l01New_ok k) (okO_cons (spec_l39Bakery_ok k) (okO_cons (spec_l39List_ok k) (okO_nil)))
noncomputable def spec_DrawActs_A (code : (List Int)) : Pk := ⟨[(.sc (.sl 0))], [(.row false K.ku8 code)]⟩
noncomputable def spec_DrawActs_d : Rs → Option (Bakery × (List Deed))
 | ⟨(.tp [(.ag [(.sl 1), (.v (.int .i64 r2)), (.v (.int .i64 r3)), (.v (.int .i64 r4)), (.v (.int .i64 r5)), (.v (.int .i64 r6)), (.sl 2), (.v (.int .i64 r8)), (.v (.int .i64 r9)), (.v (.int .i64 r10)), (.v (.int .i64 r11)), (.v (.int .i64 r12)), (.v (.int .i64 r13)), (.v (.int .i64 r14))]), (.sc (.sl 3))]), [.dead, (.row true K.ki64 r1), (.row true K.k_impl_Event r7), (.row true K.k_impl_Act r15)]⟩ => some ((⟨(⟨r1⟩ : Stock), (⟨r2, r3, r4⟩ : Dough), (⟨r5, r6⟩ : Loaf), (⟨r7, (⟨r8, r9, r10⟩ : Rack), r11, r12, r13⟩ : Book), r14⟩ : Bakery), r15)
 | _ => none
theorem spec_DrawActs_i {r : Rs} {y : Bakery × (List Deed)} (h : spec_DrawActs_d r = some y) : r = ⟨(.tp [(.ag [(.sl 1), (.v (.int .i64 y.1.Dough.Water)), (.v (.int .i64 y.1.Dough.Salt)), (.v (.int .i64 y.1.Dough.Leaven)), (.v (.int .i64 y.1.Loaf.Weight)), (.v (.int .i64 y.1.Loaf.Loss)), (.sl 2), (.v (.int .i64 y.1.Book.Rack.Fresh)), (.v (.int .i64 y.1.Book.Rack.Day)), (.v (.int .i64 y.1.Book.Rack.Old)), (.v (.int .i64 y.1.Book.Baked)), (.v (.int .i64 y.1.Book.Sold)), (.v (.int .i64 y.1.Book.Thrown)), (.v (.int .i64 y.1.Money))]), (.sc (.sl 3))]), [.dead, (.row true K.ki64 y.1.Stock.Grams), (.row true K.k_impl_Event y.1.Book.Events), (.row true K.k_impl_Act y.2)]⟩ := by
 unfold spec_DrawActs_d at h; split at h
 · cases h; rfl
 · cases h
theorem spec_DrawActs_e (k : Nat) (code : (List Int)) : callF env (spec_DrawActs_O k) spec_DrawActs_v Try.f9 (k + 1) (spec_DrawActs_A code) (fun r => spec_DrawActs_d (r.fin 1 [])) = spec_DrawActs k code := by kernel_rfl
noncomputable def spec_DrawActs_x (k : Nat) : Ent1 := fun A R Q => match A with
 | ⟨[(.sc (.sl 0))], [(.row false K.ku8 a1)]⟩ => (spec_DrawActs k a1).bind fun y => Q ⟨(.tp [(.ag [(.sl 1), (.v (.int .i64 y.1.Dough.Water)), (.v (.int .i64 y.1.Dough.Salt)), (.v (.int .i64 y.1.Dough.Leaven)), (.v (.int .i64 y.1.Loaf.Weight)), (.v (.int .i64 y.1.Loaf.Loss)), (.sl 2), (.v (.int .i64 y.1.Book.Rack.Fresh)), (.v (.int .i64 y.1.Book.Rack.Day)), (.v (.int .i64 y.1.Book.Rack.Old)), (.v (.int .i64 y.1.Book.Baked)), (.v (.int .i64 y.1.Book.Sold)), (.v (.int .i64 y.1.Book.Thrown)), (.v (.int .i64 y.1.Money))]), (.sc (.sl 3))]), [.dead, (.row true K.ki64 y.1.Stock.Grams), (.row true K.k_impl_Event y.1.Book.Events), (.row true K.k_impl_Act y.2)]⟩
 | _ => none
theorem spec_DrawActs_ok (k : Nat) : OkE Try.prog 9 (spec_DrawActs_x k) := by
 intro A R Q x h
 unfold spec_DrawActs_x at h
 split at h
 · obtain ⟨y, hy, hK⟩ := Option.bind_eq_some_iff.1 h
   obtain ⟨r, hr, hd⟩ := callF_ok envOk (spec_DrawActs_Ok k) follows Try.func9 (by kernel_rfl) ((spec_DrawActs_e k _).trans hy)
   exact ⟨_, spec_DrawActs_i hd ▸ hr.fin [], hK⟩
 · cases h
/-! ### impl.stockCopy: function 88 -/
noncomputable def impl_stockCopy (k : Nat)  (s : Stock) : Option (Stock) :=
 if ([] : List Int).length + (s.Grams : List Int).length ≤ maxRow then
 some (⟨([] ++ s.Grams)⟩ : Stock) else none
noncomputable def impl_stockCopy_v : Nat → List Nat := fun t => match t with | _ => []
noncomputable def impl_stockCopy_O (k : Nat) : Oracle := ofL []
theorem impl_stockCopy_Ok (k : Nat) : OkO (Ct Try.prog) (impl_stockCopy_O k) := okO_nil
noncomputable def impl_stockCopy_A (s : Stock) : Pk := ⟨[(.ag [(.sl 0)])], [(.row false K.ki64 s.Grams)]⟩
noncomputable def impl_stockCopy_d : Rs → Option (Stock)
 | ⟨(.a (.ag [(.sl 1)])), [.dead, (.row true K.ki64 r1)]⟩ => some (⟨r1⟩ : Stock)
 | _ => none
theorem impl_stockCopy_i {r : Rs} {y : Stock} (h : impl_stockCopy_d r = some y) : r = ⟨(.a (.ag [(.sl 1)])), [.dead, (.row true K.ki64 y.Grams)]⟩ := by
 unfold impl_stockCopy_d at h; split at h
 · cases h; rfl
 · cases h
theorem impl_stockCopy_e (k : Nat) (s : Stock) : callF env (impl_stockCopy_O k) impl_stockCopy_v Try.f88 (k + 1) (impl_stockCopy_A s) (fun r => impl_stockCopy_d (r.fin 1 [])) = impl_stockCopy k s := by kernel_rfl
noncomputable def impl_stockCopy_x (k : Nat) : Ent1 := fun A R Q => match A with
 | ⟨[(.ag [(.sl 0)])], [(.row false K.ki64 a1)]⟩ => (impl_stockCopy k (⟨a1⟩ : Stock)).bind fun y => Q ⟨(.a (.ag [(.sl 1)])), [.dead, (.row true K.ki64 y.Grams)]⟩
 | _ => none
theorem impl_stockCopy_ok (k : Nat) : OkE Try.prog 88 (impl_stockCopy_x k) := by
 intro A R Q x h
 unfold impl_stockCopy_x at h
 split at h
 · obtain ⟨y, hy, hK⟩ := Option.bind_eq_some_iff.1 h
   obtain ⟨r, hr, hd⟩ := callF_ok envOk (impl_stockCopy_Ok k) follows Try.func88 (by kernel_rfl) ((impl_stockCopy_e k _).trans hy)
   exact ⟨_, impl_stockCopy_i hd ▸ hr.fin [], hK⟩
 · cases h
/-! ### impl.bakeryCopy: function 42 -/
noncomputable def impl_bakeryCopy (k : Nat)  (b : Bakery) : Option (Bakery) :=
 (impl_stockCopy k b.Stock).bind fun y1 =>
 (impl_bookCopy k b.Book).bind fun y2 =>
  some (⟨y1, b.Dough, b.Loaf, y2, b.Money⟩ : Bakery)
noncomputable def impl_bakeryCopy_v : Nat → List Nat := fun t => match t with | _ => []
noncomputable def impl_bakeryCopy_O (k : Nat) : Oracle := ofL [(75, impl_bookCopy_x k), (88, impl_stockCopy_x k)]
theorem impl_bakeryCopy_Ok (k : Nat) : OkO (Ct Try.prog) (impl_bakeryCopy_O k) := okO_cons (impl_bookCopy_ok k) (okO_cons (impl_stockCopy_ok k) (okO_nil))
noncomputable def impl_bakeryCopy_A (b : Bakery) : Pk := ⟨[(.ag [(.sl 0), (.v (.int .i64 b.Dough.Water)), (.v (.int .i64 b.Dough.Salt)), (.v (.int .i64 b.Dough.Leaven)), (.v (.int .i64 b.Loaf.Weight)), (.v (.int .i64 b.Loaf.Loss)), (.sl 1), (.v (.int .i64 b.Book.Rack.Fresh)), (.v (.int .i64 b.Book.Rack.Day)), (.v (.int .i64 b.Book.Rack.Old)), (.v (.int .i64 b.Book.Baked)), (.v (.int .i64 b.Book.Sold)), (.v (.int .i64 b.Book.Thrown)), (.v (.int .i64 b.Money))])], [(.row false K.ki64 b.Stock.Grams), (.row false K.k_impl_Event b.Book.Events)]⟩
noncomputable def impl_bakeryCopy_d : Rs → Option (Bakery)
 | ⟨(.a (.ag [(.sl 2), (.v (.int .i64 r2)), (.v (.int .i64 r3)), (.v (.int .i64 r4)), (.v (.int .i64 r5)), (.v (.int .i64 r6)), (.sl 3), (.v (.int .i64 r8)), (.v (.int .i64 r9)), (.v (.int .i64 r10)), (.v (.int .i64 r11)), (.v (.int .i64 r12)), (.v (.int .i64 r13)), (.v (.int .i64 r14))])), [.dead, .dead, (.row true K.ki64 r1), (.row true K.k_impl_Event r7)]⟩ => some (⟨(⟨r1⟩ : Stock), (⟨r2, r3, r4⟩ : Dough), (⟨r5, r6⟩ : Loaf), (⟨r7, (⟨r8, r9, r10⟩ : Rack), r11, r12, r13⟩ : Book), r14⟩ : Bakery)
 | _ => none
theorem impl_bakeryCopy_i {r : Rs} {y : Bakery} (h : impl_bakeryCopy_d r = some y) : r = ⟨(.a (.ag [(.sl 2), (.v (.int .i64 y.Dough.Water)), (.v (.int .i64 y.Dough.Salt)), (.v (.int .i64 y.Dough.Leaven)), (.v (.int .i64 y.Loaf.Weight)), (.v (.int .i64 y.Loaf.Loss)), (.sl 3), (.v (.int .i64 y.Book.Rack.Fresh)), (.v (.int .i64 y.Book.Rack.Day)), (.v (.int .i64 y.Book.Rack.Old)), (.v (.int .i64 y.Book.Baked)), (.v (.int .i64 y.Book.Sold)), (.v (.int .i64 y.Book.Thrown)), (.v (.int .i64 y.Money))])), [.dead, .dead, (.row true K.ki64 y.Stock.Grams), (.row true K.k_impl_Event y.Book.Events)]⟩ := by
 unfold impl_bakeryCopy_d at h; split at h
 · cases h; rfl
 · cases h
theorem impl_bakeryCopy_e (k : Nat) (b : Bakery) : callF env (impl_bakeryCopy_O k) impl_bakeryCopy_v Try.f42 (k + 1) (impl_bakeryCopy_A b) (fun r => impl_bakeryCopy_d (r.fin 2 [])) = impl_bakeryCopy k b := by kernel_rfl
noncomputable def impl_bakeryCopy_x (k : Nat) : Ent1 := fun A R Q => match A with
 | ⟨[(.ag [(.sl 0), (.v (.int .i64 a2)), (.v (.int .i64 a3)), (.v (.int .i64 a4)), (.v (.int .i64 a5)), (.v (.int .i64 a6)), (.sl 1), (.v (.int .i64 a8)), (.v (.int .i64 a9)), (.v (.int .i64 a10)), (.v (.int .i64 a11)), (.v (.int .i64 a12)), (.v (.int .i64 a13)), (.v (.int .i64 a14))])], [(.row false K.ki64 a1), (.row false K.k_impl_Event a7)]⟩ => (impl_bakeryCopy k (⟨(⟨a1⟩ : Stock), (⟨a2, a3, a4⟩ : Dough), (⟨a5, a6⟩ : Loaf), (⟨a7, (⟨a8, a9, a10⟩ : Rack), a11, a12, a13⟩ : Book), a14⟩ : Bakery)).bind fun y => Q ⟨(.a (.ag [(.sl 2), (.v (.int .i64 y.Dough.Water)), (.v (.int .i64 y.Dough.Salt)), (.v (.int .i64 y.Dough.Leaven)), (.v (.int .i64 y.Loaf.Weight)), (.v (.int .i64 y.Loaf.Loss)), (.sl 3), (.v (.int .i64 y.Book.Rack.Fresh)), (.v (.int .i64 y.Book.Rack.Day)), (.v (.int .i64 y.Book.Rack.Old)), (.v (.int .i64 y.Book.Baked)), (.v (.int .i64 y.Book.Sold)), (.v (.int .i64 y.Book.Thrown)), (.v (.int .i64 y.Money))])), [.dead, .dead, (.row true K.ki64 y.Stock.Grams), (.row true K.k_impl_Event y.Book.Events)]⟩
 | _ => none
theorem impl_bakeryCopy_ok (k : Nat) : OkE Try.prog 42 (impl_bakeryCopy_x k) := by
 intro A R Q x h
 unfold impl_bakeryCopy_x at h
 split at h
 · obtain ⟨y, hy, hK⟩ := Option.bind_eq_some_iff.1 h
   obtain ⟨r, hr, hd⟩ := callF_ok envOk (impl_bakeryCopy_Ok k) follows Try.func42 (by kernel_rfl) ((impl_bakeryCopy_e k _).trans hy)
   exact ⟨_, impl_bakeryCopy_i hd ▸ hr.fin [], hK⟩
 · cases h
/-! ### impl.StoreOk: function 50 -/
noncomputable def impl_StoreOk (k : Nat)  (s : Stock) : Option (Bool) :=
 cond (decide ((((s.Grams).length : Int) : Int) = 4))
 ((impl_allIn k s.Grams 0 1000000).bind fun y1 =>
  some y1)
 (some false)
noncomputable def impl_StoreOk_v : Nat → List Nat := fun t => match t with | _ => []
noncomputable def impl_StoreOk_O (k : Nat) : Oracle := ofL [(92, impl_allIn_x k)]
theorem impl_StoreOk_Ok (k : Nat) : OkO (Ct Try.prog) (impl_StoreOk_O k) := okO_cons (impl_allIn_ok k) (okO_nil)
noncomputable def impl_StoreOk_A (s : Stock) : Pk := ⟨[(.ag [(.sl 0)])], [(.row false K.ki64 s.Grams)]⟩
noncomputable def impl_StoreOk_d : Rs → Option (Bool)
 | ⟨(.a (.sc (.v (.bool r1)))), [.dead]⟩ => some r1
 | _ => none
theorem impl_StoreOk_i {r : Rs} {y : Bool} (h : impl_StoreOk_d r = some y) : r = ⟨(.a (.sc (.v (.bool y)))), [.dead]⟩ := by
 unfold impl_StoreOk_d at h; split at h
 · cases h; rfl
 · cases h
theorem impl_StoreOk_e (k : Nat) (s : Stock) : callF env (impl_StoreOk_O k) impl_StoreOk_v Try.f50 (k + 1) (impl_StoreOk_A s) (fun r => impl_StoreOk_d (r.fin 1 [])) = impl_StoreOk k s := by kernel_rfl
noncomputable def impl_StoreOk_x (k : Nat) : Ent1 := fun A R Q => match A with
 | ⟨[(.ag [(.sl 0)])], [(.row false K.ki64 a1)]⟩ => (impl_StoreOk k (⟨a1⟩ : Stock)).bind fun y => Q ⟨(.a (.sc (.v (.bool y)))), [.dead]⟩
 | _ => none
theorem impl_StoreOk_ok (k : Nat) : OkE Try.prog 50 (impl_StoreOk_x k) := by
 intro A R Q x h
 unfold impl_StoreOk_x at h
 split at h
 · obtain ⟨y, hy, hK⟩ := Option.bind_eq_some_iff.1 h
   obtain ⟨r, hr, hd⟩ := callF_ok envOk (impl_StoreOk_Ok k) follows Try.func50 (by kernel_rfl) ((impl_StoreOk_e k _).trans hy)
   exact ⟨_, impl_StoreOk_i hd ▸ hr.fin [], hK⟩
 · cases h
/-! ### impl.DoughOk: function 51 -/
noncomputable def impl_DoughOk (k : Nat)  (d : Dough) : Option (Bool) :=
 (impl_in k d.Water 300 1200).bind fun y1 =>
 cond y1
  ((impl_in k d.Salt 0 50).bind fun y2 =>
   cond y2
    ((impl_in k d.Leaven 0 500).bind fun y3 =>
     some y3)
    (some false))
  (some false)
noncomputable def impl_DoughOk_v : Nat → List Nat := fun t => match t with | _ => []
noncomputable def impl_DoughOk_O (k : Nat) : Oracle := ofL [(53, impl_in_x k)]
theorem impl_DoughOk_Ok (k : Nat) : OkO (Ct Try.prog) (impl_DoughOk_O k) := okO_cons (impl_in_ok k) (okO_nil)
noncomputable def impl_DoughOk_A (d : Dough) : Pk := ⟨[(.ag [(.v (.int .i64 d.Water)), (.v (.int .i64 d.Salt)), (.v (.int .i64 d.Leaven))])], []⟩
noncomputable def impl_DoughOk_d : Rs → Option (Bool)
 | ⟨(.a (.sc (.v (.bool r1)))), []⟩ => some r1
 | _ => none
theorem impl_DoughOk_i {r : Rs} {y : Bool} (h : impl_DoughOk_d r = some y) : r = ⟨(.a (.sc (.v (.bool y)))), []⟩ := by
 unfold impl_DoughOk_d at h; split at h
 · cases h; rfl
 · cases h
theorem impl_DoughOk_e (k : Nat) (d : Dough) : callF env (impl_DoughOk_O k) impl_DoughOk_v Try.f51 (k + 1) (impl_DoughOk_A d) (fun r => impl_DoughOk_d (r.fin 0 [])) = impl_DoughOk k d := by kernel_rfl
noncomputable def impl_DoughOk_x (k : Nat) : Ent1 := fun A R Q => match A with
 | ⟨[(.ag [(.v (.int .i64 a1)), (.v (.int .i64 a2)), (.v (.int .i64 a3))])], []⟩ => (impl_DoughOk k (⟨a1, a2, a3⟩ : Dough)).bind fun y => Q ⟨(.a (.sc (.v (.bool y)))), []⟩
 | _ => none
theorem impl_DoughOk_ok (k : Nat) : OkE Try.prog 51 (impl_DoughOk_x k) := by
 intro A R Q x h
 unfold impl_DoughOk_x at h
 split at h
 · obtain ⟨y, hy, hK⟩ := Option.bind_eq_some_iff.1 h
   obtain ⟨r, hr, hd⟩ := callF_ok envOk (impl_DoughOk_Ok k) follows Try.func51 (by kernel_rfl) ((impl_DoughOk_e k _).trans hy)
   exact ⟨_, impl_DoughOk_i hd ▸ hr.fin [], hK⟩
 · cases h
end Go.Proofs.YtlhcphoojiemmaaX
