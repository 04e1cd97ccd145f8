/- What functions of the program compute, as functions of numbers and lists, and that they do. (The file is written by wip/x/vxp.py of this repository.) -/
import Derived.Test.YtfbnbdcjnbgibaaDoorF1
namespace Go.Proofs.YtfbnbdcjnbgibaaDoorX
open Go Go.Proofs
set_option linter.unusedVariables false
set_option maxRecDepth 100000
/-! ### slices.ContainsFunc[[]int,int]: function 102 -/
noncomputable def slices_ContainsFunc_int_int_103 (k : Nat)  (s : (List Int)) (f_0 : Int) (f_1 : Int) : Option (Bool) :=
 (slices_IndexFunc_int_int_103 k s f_0 f_1).bind fun y1 =>
 some (decide ((0 : Int) ≤ y1))
noncomputable def slices_ContainsFunc_int_int_103_v : Nat → List Nat := fun t => match t with | _ => []
noncomputable def slices_ContainsFunc_int_int_103_O (k : Nat) : Oracle := ofL [(112, slices_IndexFunc_int_int_103_x k)]
theorem slices_ContainsFunc_int_int_103_Ok (k : Nat) : OkO (Ct Tryd.prog) (slices_ContainsFunc_int_int_103_O k) := okO_cons (slices_IndexFunc_int_int_103_ok k) (okO_nil)
noncomputable def slices_ContainsFunc_int_int_103_A (s : (List Int)) (f_0 : Int) (f_1 : Int) : Pk := ⟨[(.sc (.sl 0)), (.sc (.fn 103 [1, 2]))], [(.row false K.ki64 s), (.box false [(.v (.int .i64 f_0))]), (.box false [(.v (.int .i64 f_1))])]⟩
noncomputable def slices_ContainsFunc_int_int_103_d : Rs → Option (Bool)
 | ⟨(.a (.sc (.v (.bool r1)))), [.dead, .dead, .dead]⟩ => some r1
 | _ => none
theorem slices_ContainsFunc_int_int_103_i {r : Rs} {y : Bool} (h : slices_ContainsFunc_int_int_103_d r = some y) : r = ⟨(.a (.sc (.v (.bool y)))), [.dead, .dead, .dead]⟩ := by
 unfold slices_ContainsFunc_int_int_103_d at h; split at h
 · cases h; rfl
 · cases h
theorem slices_ContainsFunc_int_int_103_e (k : Nat) (s : (List Int)) (f_0 : Int) (f_1 : Int) : callF env (slices_ContainsFunc_int_int_103_O k) slices_ContainsFunc_int_int_103_v Tryd.f102 (k + 1) (slices_ContainsFunc_int_int_103_A s f_0 f_1) (fun r => slices_ContainsFunc_int_int_103_d (r.fin 3 [])) = slices_ContainsFunc_int_int_103 k s f_0 f_1 := by kernel_rfl
noncomputable def slices_ContainsFunc_int_int_103_x (k : Nat) : Ent1 := fun A R Q => match A with
 | ⟨[(.sc (.sl 0)), (.sc (.fn 103 [1, 2]))], [(.row false K.ki64 a1), (.box false [(.v (.int .i64 a2))]), (.box false [(.v (.int .i64 a3))])]⟩ => (slices_ContainsFunc_int_int_103 k a1 a2 a3).bind fun y => Q ⟨(.a (.sc (.v (.bool y)))), [.dead, .dead, .dead]⟩
 | _ => none
theorem slices_ContainsFunc_int_int_103_ok (k : Nat) : OkE Tryd.prog 102 (slices_ContainsFunc_int_int_103_x k) := by
 intro A R Q x h
 unfold slices_ContainsFunc_int_int_103_x at h
 split at h
 · obtain ⟨y, hy, hK⟩ := Option.bind_eq_some_iff.1 h
   obtain ⟨r, hr, hd⟩ := callF_ok envOk (slices_ContainsFunc_int_int_103_Ok k) follows Tryd.func102 (by kernel_rfl) ((slices_ContainsFunc_int_int_103_e k _ _ _).trans hy)
   exact ⟨_, slices_ContainsFunc_int_int_103_i hd ▸ hr.fin [], hK⟩
 · cases h
/-! ### impl.allIn: function 93 -/
noncomputable def impl_allIn (k : Nat)  (list : (List Int)) (low : Int) (high : Int) : Option (Bool) :=
 (slices_ContainsFunc_int_int_103 k list low high).bind fun y1 =>
 some (!y1)
noncomputable def impl_allIn_v : Nat → List Nat := fun t => match t with | _ => []
noncomputable def impl_allIn_O (k : Nat) : Oracle := ofL [(102, slices_ContainsFunc_int_int_103_x k)]
theorem impl_allIn_Ok (k : Nat) : OkO (Ct Tryd.prog) (impl_allIn_O k) := okO_cons (slices_ContainsFunc_int_int_103_ok k) (okO_nil)
noncomputable def impl_allIn_A (list : (List Int)) (low : Int) (high : Int) : Pk := ⟨[(.sc (.sl 0)), (.sc (.v (.int .i64 low))), (.sc (.v (.int .i64 high)))], [(.row false K.ki64 list)]⟩
noncomputable def impl_allIn_d : Rs → Option (Bool)
 | ⟨(.a (.sc (.v (.bool r1)))), [.dead]⟩ => some r1
 | _ => none
theorem impl_allIn_i {r : Rs} {y : Bool} (h : impl_allIn_d r = some y) : r = ⟨(.a (.sc (.v (.bool y)))), [.dead]⟩ := by
 unfold impl_allIn_d at h; split at h
 · cases h; rfl
 · cases h
theorem impl_allIn_e (k : Nat) (list : (List Int)) (low : Int) (high : Int) : callF env (impl_allIn_O k) impl_allIn_v Tryd.f93 (k + 1) (impl_allIn_A list low high) (fun r => impl_allIn_d (r.fin 1 [])) = impl_allIn k list low high := by kernel_rfl
noncomputable def impl_allIn_x (k : Nat) : Ent1 := fun A R Q => match A with
 | ⟨[(.sc (.sl 0)), (.sc (.v (.int .i64 a2))), (.sc (.v (.int .i64 a3)))], [(.row false K.ki64 a1)]⟩ => (impl_allIn k a1 a2 a3).bind fun y => Q ⟨(.a (.sc (.v (.bool y)))), [.dead]⟩
 | _ => none
theorem impl_allIn_ok (k : Nat) : OkE Tryd.prog 93 (impl_allIn_x k) := by
 intro A R Q x h
 unfold impl_allIn_x at h
 split at h
 · obtain ⟨y, hy, hK⟩ := Option.bind_eq_some_iff.1 h
   obtain ⟨r, hr, hd⟩ := callF_ok envOk (impl_allIn_Ok k) follows Tryd.func93 (by kernel_rfl) ((impl_allIn_e k _ _ _).trans hy)
   exact ⟨_, impl_allIn_i hd ▸ hr.fin [], hK⟩
 · cases h
/-! ### impl.StoreOk: function 66 -/
noncomputable def impl_StoreOk (k : Nat)  (s : Stock) : Option (Bool) :=
 cond (decide ((((s.Grams).length : Int) : Int) = 4))
 ((impl_allIn k s.Grams 0 1000000).bind fun y1 =>
  some y1)
 (some false)
noncomputable def impl_StoreOk_v : Nat → List Nat := fun t => match t with | _ => []
noncomputable def impl_StoreOk_O (k : Nat) : Oracle := ofL [(93, impl_allIn_x k)]
theorem impl_StoreOk_Ok (k : Nat) : OkO (Ct Tryd.prog) (impl_StoreOk_O k) := okO_cons (impl_allIn_ok k) (okO_nil)
noncomputable def impl_StoreOk_A (s : Stock) : Pk := ⟨[(.ag [(.sl 0)])], [(.row false K.ki64 s.Grams)]⟩
noncomputable def impl_StoreOk_d : Rs → Option (Bool)
 | ⟨(.a (.sc (.v (.bool r1)))), [.dead]⟩ => some r1
 | _ => none
theorem impl_StoreOk_i {r : Rs} {y : Bool} (h : impl_StoreOk_d r = some y) : r = ⟨(.a (.sc (.v (.bool y)))), [.dead]⟩ := by
 unfold impl_StoreOk_d at h; split at h
 · cases h; rfl
 · cases h
theorem impl_StoreOk_e (k : Nat) (s : Stock) : callF env (impl_StoreOk_O k) impl_StoreOk_v Tryd.f66 (k + 1) (impl_StoreOk_A s) (fun r => impl_StoreOk_d (r.fin 1 [])) = impl_StoreOk k s := by kernel_rfl
noncomputable def impl_StoreOk_x (k : Nat) : Ent1 := fun A R Q => match A with
 | ⟨[(.ag [(.sl 0)])], [(.row false K.ki64 a1)]⟩ => (impl_StoreOk k (⟨a1⟩ : Stock)).bind fun y => Q ⟨(.a (.sc (.v (.bool y)))), [.dead]⟩
 | _ => none
theorem impl_StoreOk_ok (k : Nat) : OkE Tryd.prog 66 (impl_StoreOk_x k) := by
 intro A R Q x h
 unfold impl_StoreOk_x at h
 split at h
 · obtain ⟨y, hy, hK⟩ := Option.bind_eq_some_iff.1 h
   obtain ⟨r, hr, hd⟩ := callF_ok envOk (impl_StoreOk_Ok k) follows Tryd.func66 (by kernel_rfl) ((impl_StoreOk_e k _).trans hy)
   exact ⟨_, impl_StoreOk_i hd ▸ hr.fin [], hK⟩
 · cases h
/-! ### impl.DoughOk: function 67 -/
noncomputable def impl_DoughOk (k : Nat)  (d : Dough) : Option (Bool) :=
 (impl_in k d.Water 300 1200).bind fun y1 =>
 cond y1
  ((impl_in k d.Salt 0 50).bind fun y2 =>
   cond y2
    ((impl_in k d.Leaven 0 500).bind fun y3 =>
     some y3)
    (some false))
  (some false)
noncomputable def impl_DoughOk_v : Nat → List Nat := fun t => match t with | _ => []
noncomputable def impl_DoughOk_O (k : Nat) : Oracle := ofL [(58, impl_in_x k)]
theorem impl_DoughOk_Ok (k : Nat) : OkO (Ct Tryd.prog) (impl_DoughOk_O k) := okO_cons (impl_in_ok k) (okO_nil)
noncomputable def impl_DoughOk_A (d : Dough) : Pk := ⟨[(.ag [(.v (.int .i64 d.Water)), (.v (.int .i64 d.Salt)), (.v (.int .i64 d.Leaven))])], []⟩
noncomputable def impl_DoughOk_d : Rs → Option (Bool)
 | ⟨(.a (.sc (.v (.bool r1)))), []⟩ => some r1
 | _ => none
theorem impl_DoughOk_i {r : Rs} {y : Bool} (h : impl_DoughOk_d r = some y) : r = ⟨(.a (.sc (.v (.bool y)))), []⟩ := by
 unfold impl_DoughOk_d at h; split at h
 · cases h; rfl
 · cases h
theorem impl_DoughOk_e (k : Nat) (d : Dough) : callF env (impl_DoughOk_O k) impl_DoughOk_v Tryd.f67 (k + 1) (impl_DoughOk_A d) (fun r => impl_DoughOk_d (r.fin 0 [])) = impl_DoughOk k d := by kernel_rfl
noncomputable def impl_DoughOk_x (k : Nat) : Ent1 := fun A R Q => match A with
 | ⟨[(.ag [(.v (.int .i64 a1)), (.v (.int .i64 a2)), (.v (.int .i64 a3))])], []⟩ => (impl_DoughOk k (⟨a1, a2, a3⟩ : Dough)).bind fun y => Q ⟨(.a (.sc (.v (.bool y)))), []⟩
 | _ => none
theorem impl_DoughOk_ok (k : Nat) : OkE Tryd.prog 67 (impl_DoughOk_x k) := by
 intro A R Q x h
 unfold impl_DoughOk_x at h
 split at h
 · obtain ⟨y, hy, hK⟩ := Option.bind_eq_some_iff.1 h
   obtain ⟨r, hr, hd⟩ := callF_ok envOk (impl_DoughOk_Ok k) follows Tryd.func67 (by kernel_rfl) ((impl_DoughOk_e k _).trans hy)
   exact ⟨_, impl_DoughOk_i hd ▸ hr.fin [], hK⟩
 · cases h
/-! ### impl.LoafOk: function 68 -/
noncomputable def impl_LoafOk (k : Nat)  (l : Loaf) : Option (Bool) :=
 (impl_in k l.Weight 10 5000).bind fun y1 =>
 cond y1
  ((impl_in k l.Loss 0 40).bind fun y2 =>
   some y2)
  (some false)
noncomputable def impl_LoafOk_v : Nat → List Nat := fun t => match t with | _ => []
noncomputable def impl_LoafOk_O (k : Nat) : Oracle := ofL [(58, impl_in_x k)]
theorem impl_LoafOk_Ok (k : Nat) : OkO (Ct Tryd.prog) (impl_LoafOk_O k) := okO_cons (impl_in_ok k) (okO_nil)
noncomputable def impl_LoafOk_A (l : Loaf) : Pk := ⟨[(.ag [(.v (.int .i64 l.Weight)), (.v (.int .i64 l.Loss))])], []⟩
noncomputable def impl_LoafOk_d : Rs → Option (Bool)
 | ⟨(.a (.sc (.v (.bool r1)))), []⟩ => some r1
 | _ => none
theorem impl_LoafOk_i {r : Rs} {y : Bool} (h : impl_LoafOk_d r = some y) : r = ⟨(.a (.sc (.v (.bool y)))), []⟩ := by
 unfold impl_LoafOk_d at h; split at h
 · cases h; rfl
 · cases h
theorem impl_LoafOk_e (k : Nat) (l : Loaf) : callF env (impl_LoafOk_O k) impl_LoafOk_v Tryd.f68 (k + 1) (impl_LoafOk_A l) (fun r => impl_LoafOk_d (r.fin 0 [])) = impl_LoafOk k l := by kernel_rfl
noncomputable def impl_LoafOk_x (k : Nat) : Ent1 := fun A R Q => match A with
 | ⟨[(.ag [(.v (.int .i64 a1)), (.v (.int .i64 a2))])], []⟩ => (impl_LoafOk k (⟨a1, a2⟩ : Loaf)).bind fun y => Q ⟨(.a (.sc (.v (.bool y)))), []⟩
 | _ => none
theorem impl_LoafOk_ok (k : Nat) : OkE Tryd.prog 68 (impl_LoafOk_x k) := by
 intro A R Q x h
 unfold impl_LoafOk_x at h
 split at h
 · obtain ⟨y, hy, hK⟩ := Option.bind_eq_some_iff.1 h
   obtain ⟨r, hr, hd⟩ := callF_ok envOk (impl_LoafOk_Ok k) follows Tryd.func68 (by kernel_rfl) ((impl_LoafOk_e k _).trans hy)
   exact ⟨_, impl_LoafOk_i hd ▸ hr.fin [], hK⟩
 · cases h
/-! ### impl.RackOk: function 113 -/
noncomputable def impl_RackOk (k : Nat)  (r : Rack) : Option (Bool) :=
 (impl_allIn k ([r.Fresh, r.Day, r.Old]) 0 10000).bind fun y1 =>
 some y1
noncomputable def impl_RackOk_v : Nat → List Nat := fun t => match t with | _ => []
noncomputable def impl_RackOk_O (k : Nat) : Oracle := ofL [(93, impl_allIn_x k)]
theorem impl_RackOk_Ok (k : Nat) : OkO (Ct Tryd.prog) (impl_RackOk_O k) := okO_cons (impl_allIn_ok k) (okO_nil)
noncomputable def impl_RackOk_A (r : Rack) : Pk := ⟨[(.ag [(.v (.int .i64 r.Fresh)), (.v (.int .i64 r.Day)), (.v (.int .i64 r.Old))])], []⟩
noncomputable def impl_RackOk_d : Rs → Option (Bool)
 | ⟨(.a (.sc (.v (.bool r1)))), []⟩ => some r1
 | _ => none
theorem impl_RackOk_i {r : Rs} {y : Bool} (h : impl_RackOk_d r = some y) : r = ⟨(.a (.sc (.v (.bool y)))), []⟩ := by
 unfold impl_RackOk_d at h; split at h
 · cases h; rfl
 · cases h
theorem impl_RackOk_e (k : Nat) (r : Rack) : callF env (impl_RackOk_O k) impl_RackOk_v Tryd.f113 (k + 1) (impl_RackOk_A r) (fun r => impl_RackOk_d (r.fin 0 [])) = impl_RackOk k r := by kernel_rfl
noncomputable def impl_RackOk_x (k : Nat) : Ent1 := fun A R Q => match A with
 | ⟨[(.ag [(.v (.int .i64 a1)), (.v (.int .i64 a2)), (.v (.int .i64 a3))])], []⟩ => (impl_RackOk k (⟨a1, a2, a3⟩ : Rack)).bind fun y => Q ⟨(.a (.sc (.v (.bool y)))), []⟩
 | _ => none
theorem impl_RackOk_ok (k : Nat) : OkE Tryd.prog 113 (impl_RackOk_x k) := by
 intro A R Q x h
 unfold impl_RackOk_x at h
 split at h
 · obtain ⟨y, hy, hK⟩ := Option.bind_eq_some_iff.1 h
   obtain ⟨r, hr, hd⟩ := callF_ok envOk (impl_RackOk_Ok k) follows Tryd.func113 (by kernel_rfl) ((impl_RackOk_e k _).trans hy)
   exact ⟨_, impl_RackOk_i hd ▸ hr.fin [], hK⟩
 · cases h
/-! ### impl.taken: function 126 -/
noncomputable def impl_taken (k : Nat)  (first : Int) (second : Int) (n : Int) : Option (Int × Int × Int) :=
 some ((wr (first - (mn first n))), (wr (second - (mn second (wr (n - (mn first n)))))), (wr ((mn first n) + (mn second (wr (n - (mn first n)))))))
noncomputable def impl_taken_v : Nat → List Nat := fun t => match t with | _ => []
noncomputable def impl_taken_O (k : Nat) : Oracle := ofL []
theorem impl_taken_Ok (k : Nat) : OkO (Ct Tryd.prog) (impl_taken_O k) := okO_nil
noncomputable def impl_taken_A (first : Int) (second : Int) (n : Int) : Pk := ⟨[(.sc (.v (.int .i64 first))), (.sc (.v (.int .i64 second))), (.sc (.v (.int .i64 n)))], []⟩
noncomputable def impl_taken_d : Rs → Option (Int × Int × Int)
 | ⟨(.tp [(.sc (.v (.int .i64 r1))), (.sc (.v (.int .i64 r2))), (.sc (.v (.int .i64 r3)))]), []⟩ => some (r1, r2, r3)
 | _ => none
theorem impl_taken_i {r : Rs} {y : Int × Int × Int} (h : impl_taken_d r = some y) : r = ⟨(.tp [(.sc (.v (.int .i64 y.1))), (.sc (.v (.int .i64 y.2.1))), (.sc (.v (.int .i64 y.2.2)))]), []⟩ := by
 unfold impl_taken_d at h; split at h
 · cases h; rfl
 · cases h
theorem impl_taken_e (k : Nat) (first : Int) (second : Int) (n : Int) : callF env (impl_taken_O k) impl_taken_v Tryd.f126 (k + 1) (impl_taken_A first second n) (fun r => impl_taken_d (r.fin 0 [])) = impl_taken k first second n := by kernel_rfl
noncomputable def impl_taken_x (k : Nat) : Ent1 := fun A R Q => match A with
 | ⟨[(.sc (.v (.int .i64 a1))), (.sc (.v (.int .i64 a2))), (.sc (.v (.int .i64 a3)))], []⟩ => (impl_taken k a1 a2 a3).bind fun y => Q ⟨(.tp [(.sc (.v (.int .i64 y.1))), (.sc (.v (.int .i64 y.2.1))), (.sc (.v (.int .i64 y.2.2)))]), []⟩
 | _ => none
theorem impl_taken_ok (k : Nat) : OkE Tryd.prog 126 (impl_taken_x k) := by
 intro A R Q x h
 unfold impl_taken_x at h
 split at h
 · obtain ⟨y, hy, hK⟩ := Option.bind_eq_some_iff.1 h
   obtain ⟨r, hr, hd⟩ := callF_ok envOk (impl_taken_Ok k) follows Tryd.func126 (by kernel_rfl) ((impl_taken_e k _ _ _).trans hy)
   exact ⟨_, impl_taken_i hd ▸ hr.fin [], hK⟩
 · cases h
/-! ### impl.SellFresh: function 114 -/
noncomputable def impl_SellFresh (k : Nat)  (r : Rack) (n : Int) : Option (Rack × Int) :=
 (impl_RackOk k r).bind fun y1 =>
 cond (!y1)
  (some (r, (-1)))
  ((impl_in k n 0 10000).bind fun y2 =>
   cond (!y2)
    (some (r, (-1)))
    ((impl_taken k r.Fresh r.Day n).bind fun y3 =>
     some ((⟨y3.1, y3.2.1, r.Old⟩ : Rack), y3.2.2)))
noncomputable def impl_SellFresh_v : Nat → List Nat := fun t => match t with | _ => []
noncomputable def impl_SellFresh_O (k : Nat) : Oracle := ofL [(113, impl_RackOk_x k), (126, impl_taken_x k), (58, impl_in_x k)]
theorem impl_SellFresh_Ok (k : Nat) : OkO (Ct Tryd.prog) (impl_SellFresh_O k) := okO_cons (impl_RackOk_ok k) (okO_cons (impl_taken_ok k) (okO_cons (impl_in_ok k) (okO_nil)))
noncomputable def impl_SellFresh_A (r : Rack) (n : Int) : Pk := ⟨[(.ag [(.v (.int .i64 r.Fresh)), (.v (.int .i64 r.Day)), (.v (.int .i64 r.Old))]), (.sc (.v (.int .i64 n)))], []⟩
noncomputable def impl_SellFresh_d : Rs → Option (Rack × Int)
 | ⟨(.tp [(.ag [(.v (.int .i64 r1)), (.v (.int .i64 r2)), (.v (.int .i64 r3))]), (.sc (.v (.int .i64 r4)))]), []⟩ => some ((⟨r1, r2, r3⟩ : Rack), r4)
 | _ => none
theorem impl_SellFresh_i {r : Rs} {y : Rack × Int} (h : impl_SellFresh_d r = some y) : r = ⟨(.tp [(.ag [(.v (.int .i64 y.1.Fresh)), (.v (.int .i64 y.1.Day)), (.v (.int .i64 y.1.Old))]), (.sc (.v (.int .i64 y.2)))]), []⟩ := by
 unfold impl_SellFresh_d at h; split at h
 · cases h; rfl
 · cases h
theorem impl_SellFresh_e (k : Nat) (r : Rack) (n : Int) : callF env (impl_SellFresh_O k) impl_SellFresh_v Tryd.f114 (k + 1) (impl_SellFresh_A r n) (fun r => impl_SellFresh_d (r.fin 0 [])) = impl_SellFresh k r n := by kernel_rfl
noncomputable def impl_SellFresh_x (k : Nat) : Ent1 := fun A R Q => match A with
 | ⟨[(.ag [(.v (.int .i64 a1)), (.v (.int .i64 a2)), (.v (.int .i64 a3))]), (.sc (.v (.int .i64 a4)))], []⟩ => (impl_SellFresh k (⟨a1, a2, a3⟩ : Rack) a4).bind fun y => Q ⟨(.tp [(.ag [(.v (.int .i64 y.1.Fresh)), (.v (.int .i64 y.1.Day)), (.v (.int .i64 y.1.Old))]), (.sc (.v (.int .i64 y.2)))]), []⟩
 | _ => none
theorem impl_SellFresh_ok (k : Nat) : OkE Tryd.prog 114 (impl_SellFresh_x k) := by
 intro A R Q x h
 unfold impl_SellFresh_x at h
 split at h
 · obtain ⟨y, hy, hK⟩ := Option.bind_eq_some_iff.1 h
   obtain ⟨r, hr, hd⟩ := callF_ok envOk (impl_SellFresh_Ok k) follows Tryd.func114 (by kernel_rfl) ((impl_SellFresh_e k _ _).trans hy)
   exact ⟨_, impl_SellFresh_i hd ▸ hr.fin [], hK⟩
 · cases h
/-! ### impl.SellCheap: function 115 -/
noncomputable def impl_SellCheap (k : Nat)  (r : Rack) (n : Int) : Option (Rack × Int) :=
 (impl_RackOk k r).bind fun y1 =>
 cond (!y1)
  (some (r, (-1)))
  ((impl_in k n 0 10000).bind fun y2 =>
   cond (!y2)
    (some (r, (-1)))
    ((impl_taken k r.Old r.Day n).bind fun y3 =>
     some ((⟨r.Fresh, y3.2.1, y3.1⟩ : Rack), y3.2.2)))
noncomputable def impl_SellCheap_v : Nat → List Nat := fun t => match t with | _ => []
noncomputable def impl_SellCheap_O (k : Nat) : Oracle := ofL [(113, impl_RackOk_x k), (126, impl_taken_x k), (58, impl_in_x k)]
theorem impl_SellCheap_Ok (k : Nat) : OkO (Ct Tryd.prog) (impl_SellCheap_O k) := okO_cons (impl_RackOk_ok k) (okO_cons (impl_taken_ok k) (okO_cons (impl_in_ok k) (okO_nil)))
noncomputable def impl_SellCheap_A (r : Rack) (n : Int) : Pk := ⟨[(.ag [(.v (.int .i64 r.Fresh)), (.v (.int .i64 r.Day)), (.v (.int .i64 r.Old))]), (.sc (.v (.int .i64 n)))], []⟩
noncomputable def impl_SellCheap_d : Rs → Option (Rack × Int)
 | ⟨(.tp [(.ag [(.v (.int .i64 r1)), (.v (.int .i64 r2)), (.v (.int .i64 r3))]), (.sc (.v (.int .i64 r4)))]), []⟩ => some ((⟨r1, r2, r3⟩ : Rack), r4)
 | _ => none
theorem impl_SellCheap_i {r : Rs} {y : Rack × Int} (h : impl_SellCheap_d r = some y) : r = ⟨(.tp [(.ag [(.v (.int .i64 y.1.Fresh)), (.v (.int .i64 y.1.Day)), (.v (.int .i64 y.1.Old))]), (.sc (.v (.int .i64 y.2)))]), []⟩ := by
 unfold impl_SellCheap_d at h; split at h
 · cases h; rfl
 · cases h
theorem impl_SellCheap_e (k : Nat) (r : Rack) (n : Int) : callF env (impl_SellCheap_O k) impl_SellCheap_v Tryd.f115 (k + 1) (impl_SellCheap_A r n) (fun r => impl_SellCheap_d (r.fin 0 [])) = impl_SellCheap k r n := by kernel_rfl
noncomputable def impl_SellCheap_x (k : Nat) : Ent1 := fun A R Q => match A with
 | ⟨[(.ag [(.v (.int .i64 a1)), (.v (.int .i64 a2)), (.v (.int .i64 a3))]), (.sc (.v (.int .i64 a4)))], []⟩ => (impl_SellCheap k (⟨a1, a2, a3⟩ : Rack) a4).bind fun y => Q ⟨(.tp [(.ag [(.v (.int .i64 y.1.Fresh)), (.v (.int .i64 y.1.Day)), (.v (.int .i64 y.1.Old))]), (.sc (.v (.int .i64 y.2)))]), []⟩
 | _ => none
theorem impl_SellCheap_ok (k : Nat) : OkE Tryd.prog 115 (impl_SellCheap_x k) := by
 intro A R Q x h
 unfold impl_SellCheap_x at h
 split at h
 · obtain ⟨y, hy, hK⟩ := Option.bind_eq_some_iff.1 h
   obtain ⟨r, hr, hd⟩ := callF_ok envOk (impl_SellCheap_Ok k) follows Tryd.func115 (by kernel_rfl) ((impl_SellCheap_e k _ _).trans hy)
   exact ⟨_, impl_SellCheap_i hd ▸ hr.fin [], hK⟩
 · cases h
/-! ### impl.NextMorning: function 116 -/
noncomputable def impl_NextMorning (k : Nat)  (r : Rack) (baked : Int) : Option (Rack × Int) :=
 (impl_RackOk k r).bind fun y1 =>
 cond (!y1)
  (some (r, (-1)))
  ((impl_in k baked 0 10000).bind fun y2 =>
   cond (!y2)
    (some (r, (-1)))
    (some ((⟨baked, r.Fresh, r.Day⟩ : Rack), r.Old)))
noncomputable def impl_NextMorning_v : Nat → List Nat := fun t => match t with | _ => []
noncomputable def impl_NextMorning_O (k : Nat) : Oracle := ofL [(113, impl_RackOk_x k), (58, impl_in_x k)]
theorem impl_NextMorning_Ok (k : Nat) : OkO (Ct Tryd.prog) (impl_NextMorning_O k) := okO_cons (impl_RackOk_ok k) (okO_cons (impl_in_ok k) (okO_nil))
noncomputable def impl_NextMorning_A (r : Rack) (baked : Int) : Pk := ⟨[(.ag [(.v (.int .i64 r.Fresh)), (.v (.int .i64 r.Day)), (.v (.int .i64 r.Old))]), (.sc (.v (.int .i64 baked)))], []⟩
noncomputable def impl_NextMorning_d : Rs → Option (Rack × Int)
 | ⟨(.tp [(.ag [(.v (.int .i64 r1)), (.v (.int .i64 r2)), (.v (.int .i64 r3))]), (.sc (.v (.int .i64 r4)))]), []⟩ => some ((⟨r1, r2, r3⟩ : Rack), r4)
 | _ => none
theorem impl_NextMorning_i {r : Rs} {y : Rack × Int} (h : impl_NextMorning_d r = some y) : r = ⟨(.tp [(.ag [(.v (.int .i64 y.1.Fresh)), (.v (.int .i64 y.1.Day)), (.v (.int .i64 y.1.Old))]), (.sc (.v (.int .i64 y.2)))]), []⟩ := by
 unfold impl_NextMorning_d at h; split at h
 · cases h; rfl
 · cases h
theorem impl_NextMorning_e (k : Nat) (r : Rack) (baked : Int) : callF env (impl_NextMorning_O k) impl_NextMorning_v Tryd.f116 (k + 1) (impl_NextMorning_A r baked) (fun r => impl_NextMorning_d (r.fin 0 [])) = impl_NextMorning k r baked := by kernel_rfl
noncomputable def impl_NextMorning_x (k : Nat) : Ent1 := fun A R Q => match A with
 | ⟨[(.ag [(.v (.int .i64 a1)), (.v (.int .i64 a2)), (.v (.int .i64 a3))]), (.sc (.v (.int .i64 a4)))], []⟩ => (impl_NextMorning k (⟨a1, a2, a3⟩ : Rack) a4).bind fun y => Q ⟨(.tp [(.ag [(.v (.int .i64 y.1.Fresh)), (.v (.int .i64 y.1.Day)), (.v (.int .i64 y.1.Old))]), (.sc (.v (.int .i64 y.2)))]), []⟩
 | _ => none
theorem impl_NextMorning_ok (k : Nat) : OkE Tryd.prog 116 (impl_NextMorning_x k) := by
 intro A R Q x h
 unfold impl_NextMorning_x at h
 split at h
 · obtain ⟨y, hy, hK⟩ := Option.bind_eq_some_iff.1 h
   obtain ⟨r, hr, hd⟩ := callF_ok envOk (impl_NextMorning_Ok k) follows Tryd.func116 (by kernel_rfl) ((impl_NextMorning_e k _ _).trans hy)
   exact ⟨_, impl_NextMorning_i hd ▸ hr.fin [], hK⟩
 · cases h
/-! ### impl.EventOn: function 104 -/
noncomputable def impl_EventOn (k : Nat)  (r : Rack) (e : Event) : Option (Rack × Int × Int × Int × Bool) :=
 (impl_RackOk k r).bind fun y1 =>
 cond (!y1)
  (some (r, 0, 0, 0, false))
  ((impl_in k e.Loaves 0 1000).bind fun y2 =>
   cond (!y2)
    (some (r, 0, 0, 0, false))
    (cond (decide ((e.Kind : Int) = 1))
     ((impl_RackOk k (⟨(wr (r.Fresh + e.Loaves)), r.Day, r.Old⟩ : Rack)).bind fun y3 =>
      cond (!y3)
       (some (r, 0, 0, 0, false))
       (some ((⟨(wr (r.Fresh + e.Loaves)), r.Day, r.Old⟩ : Rack), e.Loaves, 0, 0, true)))
     (cond (decide ((e.Kind : Int) = 2))
      ((impl_SellFresh k r e.Loaves).bind fun y4 =>
       cond (!(decide ((y4.2 : Int) = e.Loaves)))
        (some (r, 0, 0, 0, false))
        ((impl_RackOk k y4.1).bind fun y5 =>
        cond (!y5)
        (some (r, 0, 0, 0, false))
        (some (y4.1, 0, y4.2, 0, true))))
      (cond (decide ((e.Kind : Int) = 3))
       ((impl_SellCheap k r e.Loaves).bind fun y6 =>
        cond (!(decide ((y6.2 : Int) = e.Loaves)))
        (some (r, 0, 0, 0, false))
        ((impl_RackOk k y6.1).bind fun y7 =>
        cond (!y7)
        (some (r, 0, 0, 0, false))
        (some (y6.1, 0, y6.2, 0, true))))
       (cond (decide ((e.Kind : Int) = 4))
        ((impl_NextMorning k r 0).bind fun y8 =>
        cond (!(decide ((e.Loaves : Int) = 0)))
        (some (r, 0, 0, 0, false))
        ((impl_RackOk k y8.1).bind fun y9 =>
        cond (!y9)
        (some (r, 0, 0, 0, false))
        (some (y8.1, 0, 0, y8.2, true))))
        (some (r, 0, 0, 0, false)))))))
noncomputable def impl_EventOn_v : Nat → List Nat := fun t => match t with | _ => []
noncomputable def impl_EventOn_O (k : Nat) : Oracle := ofL [(113, impl_RackOk_x k), (114, impl_SellFresh_x k), (115, impl_SellCheap_x k), (116, impl_NextMorning_x k), (58, impl_in_x k)]
theorem impl_EventOn_Ok (k : Nat) : OkO (Ct Tryd.prog) (impl_EventOn_O k) := okO_cons (impl_RackOk_ok k) (okO_cons (impl_SellFresh_ok k) (okO_cons (impl_SellCheap_ok k) (okO_cons (impl_NextMorning_ok k) (okO_cons (impl_in_ok k) (okO_nil)))))
noncomputable def impl_EventOn_A (r : Rack) (e : Event) : Pk := ⟨[(.ag [(.v (.int .i64 r.Fresh)), (.v (.int .i64 r.Day)), (.v (.int .i64 r.Old))]), (.ag [(.v (.int .i64 e.Kind)), (.v (.int .i64 e.Loaves))])], []⟩
noncomputable def impl_EventOn_d : Rs → Option (Rack × Int × Int × Int × Bool)
 | ⟨(.tp [(.ag [(.v (.int .i64 r1)), (.v (.int .i64 r2)), (.v (.int .i64 r3))]), (.sc (.v (.int .i64 r4))), (.sc (.v (.int .i64 r5))), (.sc (.v (.int .i64 r6))), (.sc (.v (.bool r7)))]), []⟩ => some ((⟨r1, r2, r3⟩ : Rack), r4, r5, r6, r7)
 | _ => none
theorem impl_EventOn_i {r : Rs} {y : Rack × Int × Int × Int × Bool} (h : impl_EventOn_d r = some y) : r = ⟨(.tp [(.ag [(.v (.int .i64 y.1.Fresh)), (.v (.int .i64 y.1.Day)), (.v (.int .i64 y.1.Old))]), (.sc (.v (.int .i64 y.2.1))), (.sc (.v (.int .i64 y.2.2.1))), (.sc (.v (.int .i64 y.2.2.2.1))), (.sc (.v (.bool y.2.2.2.2)))]), []⟩ := by
 unfold impl_EventOn_d at h; split at h
 · cases h; rfl
 · cases h
theorem impl_EventOn_e (k : Nat) (r : Rack) (e : Event) : callF env (impl_EventOn_O k) impl_EventOn_v Tryd.f104 (k + 1) (impl_EventOn_A r e) (fun r => impl_EventOn_d (r.fin 0 [])) = impl_EventOn k r e := by kernel_rfl
noncomputable def impl_EventOn_x (k : Nat) : Ent1 := fun A R Q => match A with
 | ⟨[(.ag [(.v (.int .i64 a1)), (.v (.int .i64 a2)), (.v (.int .i64 a3))]), (.ag [(.v (.int .i64 a4)), (.v (.int .i64 a5))])], []⟩ => (impl_EventOn k (⟨a1, a2, a3⟩ : Rack) (⟨a4, a5⟩ : Event)).bind fun y => Q ⟨(.tp [(.ag [(.v (.int .i64 y.1.Fresh)), (.v (.int .i64 y.1.Day)), (.v (.int .i64 y.1.Old))]), (.sc (.v (.int .i64 y.2.1))), (.sc (.v (.int .i64 y.2.2.1))), (.sc (.v (.int .i64 y.2.2.2.1))), (.sc (.v (.bool y.2.2.2.2)))]), []⟩
 | _ => none
theorem impl_EventOn_ok (k : Nat) : OkE Tryd.prog 104 (impl_EventOn_x k) := by
 intro A R Q x h
 unfold impl_EventOn_x at h
 split at h
 · obtain ⟨y, hy, hK⟩ := Option.bind_eq_some_iff.1 h
   obtain ⟨r, hr, hd⟩ := callF_ok envOk (impl_EventOn_Ok k) follows Tryd.func104 (by kernel_rfl) ((impl_EventOn_e k _ _).trans hy)
   exact ⟨_, impl_EventOn_i hd ▸ hr.fin [], hK⟩
 · cases h
/-! ### impl.counted: function 94 -/
noncomputable def impl_counted_s0 (k : Nat)  (events : (List Event)) (J : Int → Int → Int → Int → Int → Int → Int → Option (Book × Bool)) (x0_0 : Int) (x0_1 : Int) (x0_2 : Int) (x0_3 : Int) (x0_4 : Int) (x0_5 : Int) (x0_6 : Int) : Option (Book × Bool) :=
 cond (decide ((x0_0 : Int) < ((events).length : Int)))
 (if 0 ≤ (x0_0 : Int) ∧ (x0_0 : Int) < ((events).length : Int) then
  (impl_EventOn k (⟨x0_1, x0_2, x0_3⟩ : Rack) (events.getD (Int.toNat x0_0) dk_impl_Event)).bind fun y2 =>
   cond (!y2.2.2.2.2)
    (some ((⟨[], (⟨0, 0, 0⟩ : Rack), 0, 0, 0⟩ : Book), false))
    (J (wr (x0_0 + 1)) y2.1.Fresh y2.1.Day y2.1.Old (wr (x0_4 + y2.2.1)) (wr (x0_5 + y2.2.2.1)) (wr (x0_6 + y2.2.2.2.1))) else none)
 (some ((⟨([] ++ events), (⟨x0_1, x0_2, x0_3⟩ : Rack), x0_4, x0_5, x0_6⟩ : Book), (decide ((((events).length : Int) : Int) ≤ 40))))
noncomputable def impl_counted_l0 (k : Nat) : Nat → (List Event) → Int → Int → Int → Int → Int → Int → Int → Option (Book × Bool)
 | 0, events, x0_0, x0_1, x0_2, x0_3, x0_4, x0_5, x0_6 => impl_counted_s0 k events (fun _ _ _ _ _ _ _ => none) x0_0 x0_1 x0_2 x0_3 x0_4 x0_5 x0_6
 | m + 1, events, x0_0, x0_1, x0_2, x0_3, x0_4, x0_5, x0_6 => impl_counted_s0 k events (impl_counted_l0 k m events) x0_0 x0_1 x0_2 x0_3 x0_4 x0_5 x0_6
noncomputable def impl_counted_m (k : Nat) (J0 : (List Event) → Int → Int → Int → Int → Int → Int → Int → Option (Book × Bool)) (events : (List Event)) : Option (Book × Bool) :=
 if ([] : List Event).length + (events : List Event).length ≤ maxRow then
 J0 events 0 0 0 0 0 0 0 else none
noncomputable def impl_counted (k : Nat) (events : (List Event)) : Option (Book × Bool) := impl_counted_m k (impl_counted_l0 k k) events
noncomputable def impl_counted_v : Nat → List Nat := fun t => match t with | 3 => [0, 2, 3, 4, 16, 17, 18] | _ => []
noncomputable def impl_counted_O (k : Nat) : Oracle := ofL [(104, impl_EventOn_x k)]
theorem impl_counted_Ok (k : Nat) : OkO (Ct Tryd.prog) (impl_counted_O k) := okO_cons (impl_EventOn_ok k) (okO_nil)
noncomputable def impl_counted_A (events : (List Event)) : Pk := ⟨[(.sc (.sl 0))], [(.row false K.k_impl_Event events)]⟩
noncomputable def impl_counted_d : Rs → Option (Book × Bool)
 | ⟨(.tp [(.ag [(.sl 1), (.v (.int .i64 r2)), (.v (.int .i64 r3)), (.v (.int .i64 r4)), (.v (.int .i64 r5)), (.v (.int .i64 r6)), (.v (.int .i64 r7))]), (.sc (.v (.bool r8)))]), [.dead, (.row true K.k_impl_Event r1)]⟩ => some ((⟨r1, (⟨r2, r3, r4⟩ : Rack), r5, r6, r7⟩ : Book), r8)
 | _ => none
theorem impl_counted_i {r : Rs} {y : Book × Bool} (h : impl_counted_d r = some y) : r = ⟨(.tp [(.ag [(.sl 1), (.v (.int .i64 y.1.Rack.Fresh)), (.v (.int .i64 y.1.Rack.Day)), (.v (.int .i64 y.1.Rack.Old)), (.v (.int .i64 y.1.Baked)), (.v (.int .i64 y.1.Sold)), (.v (.int .i64 y.1.Thrown))]), (.sc (.v (.bool y.2)))]), [.dead, (.row true K.k_impl_Event y.1.Events)]⟩ := by
 unfold impl_counted_d at h; split at h
 · cases h; rfl
 · cases h
noncomputable def impl_counted_h0 (k m : Nat) (events : (List Event)) (x0_0 : Int) (x0_1 : Int) (x0_2 : Int) (x0_3 : Int) (x0_4 : Int) (x0_5 : Int) (x0_6 : Int) : Option (Book × Bool) := hdAt env (impl_counted_O k) impl_counted_v Tryd.f94 1 (fun r => impl_counted_d (r.fin 1 [])) [1, 1, 0, 1, 0] k m ⟨tmF [0, 2, 3, 4, 16, 17, 18] [(.a (.sc (.sl 0))), (.a (.sc (.bp 2 0))), (.a (.sc (.v (.bool false)))), (.a (.sc (.bp 4 0))), (.a (.sc (.sl 0))), (.a (.sc (.v (.int .i64 ((events).length : Int))))), (.a (.sc (.v (.int .i64 x0_0))))], blF [(.row false K.k_impl_Event events), (.row true K.k_impl_Event []), (.box true [(.sl 1), (.v (.int .i64 0)), (.v (.int .i64 0)), (.v (.int .i64 0)), (.v (.int .i64 0)), (.v (.int .i64 0)), (.v (.int .i64 0))]), (.row true K.k_impl_Event ([] ++ events)), (.box true [(.sl 3), (.v (.int .i64 x0_1)), (.v (.int .i64 x0_2)), (.v (.int .i64 x0_3)), (.v (.int .i64 x0_4)), (.v (.int .i64 x0_5)), (.v (.int .i64 x0_6))])]⟩
theorem impl_counted_z0 (k : Nat) (events : (List Event)) (x0_0 : Int) (x0_1 : Int) (x0_2 : Int) (x0_3 : Int) (x0_4 : Int) (x0_5 : Int) (x0_6 : Int) : impl_counted_h0 k 0 events x0_0 x0_1 x0_2 x0_3 x0_4 x0_5 x0_6 = impl_counted_s0 k events (fun _ _ _ _ _ _ _ => none) x0_0 x0_1 x0_2 x0_3 x0_4 x0_5 x0_6 := by kernel_rfl
theorem impl_counted_g0 (k : Nat) (H : St → Option (Book × Bool)) (events : (List Event)) (x0_0 : Int) (x0_1 : Int) (x0_2 : Int) (x0_3 : Int) (x0_4 : Int) (x0_5 : Int) (x0_6 : Int) : rnd env (impl_counted_O k) impl_counted_v Tryd.f94 1 (fun r => impl_counted_d (r.fin 1 [])) [1, 1, 0, 1, 0] k H ⟨tmF [0, 2, 3, 4, 16, 17, 18] [(.a (.sc (.sl 0))), (.a (.sc (.bp 2 0))), (.a (.sc (.v (.bool false)))), (.a (.sc (.bp 4 0))), (.a (.sc (.sl 0))), (.a (.sc (.v (.int .i64 ((events).length : Int))))), (.a (.sc (.v (.int .i64 x0_0))))], blF [(.row false K.k_impl_Event events), (.row true K.k_impl_Event []), (.box true [(.sl 1), (.v (.int .i64 0)), (.v (.int .i64 0)), (.v (.int .i64 0)), (.v (.int .i64 0)), (.v (.int .i64 0)), (.v (.int .i64 0))]), (.row true K.k_impl_Event ([] ++ events)), (.box true [(.sl 3), (.v (.int .i64 x0_1)), (.v (.int .i64 x0_2)), (.v (.int .i64 x0_3)), (.v (.int .i64 x0_4)), (.v (.int .i64 x0_5)), (.v (.int .i64 x0_6))])]⟩ = impl_counted_s0 k events (fun x0_0 x0_1 x0_2 x0_3 x0_4 x0_5 x0_6 => H ⟨tmF [0, 2, 3, 4, 16, 17, 18] [(.a (.sc (.sl 0))), (.a (.sc (.bp 2 0))), (.a (.sc (.v (.bool false)))), (.a (.sc (.bp 4 0))), (.a (.sc (.sl 0))), (.a (.sc (.v (.int .i64 ((events).length : Int))))), (.a (.sc (.v (.int .i64 x0_0))))], blF [(.row false K.k_impl_Event events), (.row true K.k_impl_Event []), (.box true [(.sl 1), (.v (.int .i64 0)), (.v (.int .i64 0)), (.v (.int .i64 0)), (.v (.int .i64 0)), (.v (.int .i64 0)), (.v (.int .i64 0))]), (.row true K.k_impl_Event ([] ++ events)), (.box true [(.sl 3), (.v (.int .i64 x0_1)), (.v (.int .i64 x0_2)), (.v (.int .i64 x0_3)), (.v (.int .i64 x0_4)), (.v (.int .i64 x0_5)), (.v (.int .i64 x0_6))])]⟩) x0_0 x0_1 x0_2 x0_3 x0_4 x0_5 x0_6 := by kernel_rfl
theorem impl_counted_n0 (k m : Nat) (events : (List Event)) (x0_0 : Int) (x0_1 : Int) (x0_2 : Int) (x0_3 : Int) (x0_4 : Int) (x0_5 : Int) (x0_6 : Int) : impl_counted_h0 k (m + 1) events x0_0 x0_1 x0_2 x0_3 x0_4 x0_5 x0_6 = impl_counted_s0 k events (impl_counted_h0 k m events) x0_0 x0_1 x0_2 x0_3 x0_4 x0_5 x0_6 := (hdAt_succ _ _ _ _ _ _ _ _ _ _).trans (impl_counted_g0 k _ events x0_0 x0_1 x0_2 x0_3 x0_4 x0_5 x0_6)
theorem impl_counted_q0 (k : Nat) : ∀ m, impl_counted_h0 k m = impl_counted_l0 k m := by
 intro m
 induction m with
 | zero => funext events x0_0 x0_1 x0_2 x0_3 x0_4 x0_5 x0_6; rw [impl_counted_z0]; rfl
 | succ m ih => funext events x0_0 x0_1 x0_2 x0_3 x0_4 x0_5 x0_6; rw [impl_counted_n0, ih]; rfl
theorem impl_counted_e (k : Nat) (events : (List Event)) : callF env (impl_counted_O k) impl_counted_v Tryd.f94 (k + 1) (impl_counted_A events) (fun r => impl_counted_d (r.fin 1 [])) = impl_counted k events := by
 have e : callF env (impl_counted_O k) impl_counted_v Tryd.f94 (k + 1) (impl_counted_A events) (fun r => impl_counted_d (r.fin 1 [])) = impl_counted_m k (impl_counted_h0 k k) events := by kernel_rfl
 rw [e, impl_counted_q0]; rfl
noncomputable def impl_counted_x (k : Nat) : Ent1 := fun A R Q => match A with
 | ⟨[(.sc (.sl 0))], [(.row false K.k_impl_Event a1)]⟩ => (impl_counted k a1).bind fun y => Q ⟨(.tp [(.ag [(.sl 1), (.v (.int .i64 y.1.Rack.Fresh)), (.v (.int .i64 y.1.Rack.Day)), (.v (.int .i64 y.1.Rack.Old)), (.v (.int .i64 y.1.Baked)), (.v (.int .i64 y.1.Sold)), (.v (.int .i64 y.1.Thrown))]), (.sc (.v (.bool y.2)))]), [.dead, (.row true K.k_impl_Event y.1.Events)]⟩
 | _ => none
theorem impl_counted_ok (k : Nat) : OkE Tryd.prog 94 (impl_counted_x k) := by
 intro A R Q x h
 unfold impl_counted_x at h
 split at h
 · obtain ⟨y, hy, hK⟩ := Option.bind_eq_some_iff.1 h
   obtain ⟨r, hr, hd⟩ := callF_ok envOk (impl_counted_Ok k) follows Tryd.func94 (by kernel_rfl) ((impl_counted_e k _).trans hy)
   exact ⟨_, impl_counted_i hd ▸ hr.fin [], hK⟩
 · cases h
/-! ### impl.BookOk: function 69 -/
noncomputable def impl_BookOk (k : Nat)  (b : Book) : Option (Bool) :=
 (impl_counted k b.Events).bind fun y1 =>
 cond y1.2
  (cond (decide ((y1.1.Rack.Fresh : Int) = b.Rack.Fresh) && (decide ((y1.1.Rack.Day : Int) = b.Rack.Day) && decide ((y1.1.Rack.Old : Int) = b.Rack.Old)))
   (cond (decide ((y1.1.Baked : Int) = b.Baked))
    (cond (decide ((y1.1.Sold : Int) = b.Sold))
     (some (decide ((y1.1.Thrown : Int) = b.Thrown)))
     (some false))
    (some false))
   (some false))
  (some false)
noncomputable def impl_BookOk_v : Nat → List Nat := fun t => match t with | _ => []
noncomputable def impl_BookOk_O (k : Nat) : Oracle := ofL [(94, impl_counted_x k)]
theorem impl_BookOk_Ok (k : Nat) : OkO (Ct Tryd.prog) (impl_BookOk_O k) := okO_cons (impl_counted_ok k) (okO_nil)
noncomputable def impl_BookOk_A (b : Book) : Pk := ⟨[(.ag [(.sl 0), (.v (.int .i64 b.Rack.Fresh)), (.v (.int .i64 b.Rack.Day)), (.v (.int .i64 b.Rack.Old)), (.v (.int .i64 b.Baked)), (.v (.int .i64 b.Sold)), (.v (.int .i64 b.Thrown))])], [(.row false K.k_impl_Event b.Events)]⟩
noncomputable def impl_BookOk_d : Rs → Option (Bool)
 | ⟨(.a (.sc (.v (.bool r1)))), [.dead]⟩ => some r1
 | _ => none
theorem impl_BookOk_i {r : Rs} {y : Bool} (h : impl_BookOk_d r = some y) : r = ⟨(.a (.sc (.v (.bool y)))), [.dead]⟩ := by
 unfold impl_BookOk_d at h; split at h
 · cases h; rfl
 · cases h
theorem impl_BookOk_e (k : Nat) (b : Book) : callF env (impl_BookOk_O k) impl_BookOk_v Tryd.f69 (k + 1) (impl_BookOk_A b) (fun r => impl_BookOk_d (r.fin 1 [])) = impl_BookOk k b := by kernel_rfl
noncomputable def impl_BookOk_x (k : Nat) : Ent1 := fun A R Q => match A with
 | ⟨[(.ag [(.sl 0), (.v (.int .i64 a2)), (.v (.int .i64 a3)), (.v (.int .i64 a4)), (.v (.int .i64 a5)), (.v (.int .i64 a6)), (.v (.int .i64 a7))])], [(.row false K.k_impl_Event a1)]⟩ => (impl_BookOk k (⟨a1, (⟨a2, a3, a4⟩ : Rack), a5, a6, a7⟩ : Book)).bind fun y => Q ⟨(.a (.sc (.v (.bool y)))), [.dead]⟩
 | _ => none
theorem impl_BookOk_ok (k : Nat) : OkE Tryd.prog 69 (impl_BookOk_x k) := by
 intro A R Q x h
 unfold impl_BookOk_x at h
 split at h
 · obtain ⟨y, hy, hK⟩ := Option.bind_eq_some_iff.1 h
   obtain ⟨r, hr, hd⟩ := callF_ok envOk (impl_BookOk_Ok k) follows Tryd.func69 (by kernel_rfl) ((impl_BookOk_e k _).trans hy)
   exact ⟨_, impl_BookOk_i hd ▸ hr.fin [], hK⟩
 · cases h
/-! ### impl.BakeryOk: function 39 -/
noncomputable def impl_BakeryOk (k : Nat)  (b : Bakery) : Option (Bool) :=
 (impl_StoreOk k b.Stock).bind fun y1 =>
 cond y1
  ((impl_DoughOk k b.Dough).bind fun y2 =>
   cond y2
    ((impl_LoafOk k b.Loaf).bind fun y3 =>
     cond y3
      ((impl_BookOk k b.Book).bind fun y4 =>
       cond y4
        ((impl_in k b.Money 0 1000000).bind fun y5 =>
        some y5)
        (some false))
      (some false))
    (some false))
  (some false)
noncomputable def impl_BakeryOk_v : Nat → List Nat := fun t => match t with | _ => []
noncomputable def impl_BakeryOk_O (k : Nat) : Oracle := ofL [(58, impl_in_x k), (66, impl_StoreOk_x k), (67, impl_DoughOk_x k), (68, impl_LoafOk_x k), (69, impl_BookOk_x k)]
theorem impl_BakeryOk_Ok (k : Nat) : OkO (Ct Tryd.prog) (impl_BakeryOk_O k) := okO_cons (impl_in_ok k) (okO_cons (impl_StoreOk_ok k) (okO_cons (impl_DoughOk_ok k) (okO_cons (impl_LoafOk_ok k) (okO_cons (impl_BookOk_ok k) (okO_nil)))))
noncomputable def impl_BakeryOk_A (b : Bakery) : Pk := ⟨[(.ag [(.sl 0), (.v (.int .i64 b.Dough.Water)), (.v (.int .i64 b.Dough.Salt)), (.v (.int .i64 b.Dough.Leaven)), (.v (.int .i64 b.Loaf.Weight)), (.v (.int .i64 b.Loaf.Loss)), (.sl 1), (.v (.int .i64 b.Book.Rack.Fresh)), (.v (.int .i64 b.Book.Rack.Day)), (.v (.int .i64 b.Book.Rack.Old)), (.v (.int .i64 b.Book.Baked)), (.v (.int .i64 b.Book.Sold)), (.v (.int .i64 b.Book.Thrown)), (.v (.int .i64 b.Money))])], [(.row false K.ki64 b.Stock.Grams), (.row false K.k_impl_Event b.Book.Events)]⟩
noncomputable def impl_BakeryOk_d : Rs → Option (Bool)
 | ⟨(.a (.sc (.v (.bool r1)))), [.dead, .dead]⟩ => some r1
 | _ => none
theorem impl_BakeryOk_i {r : Rs} {y : Bool} (h : impl_BakeryOk_d r = some y) : r = ⟨(.a (.sc (.v (.bool y)))), [.dead, .dead]⟩ := by
 unfold impl_BakeryOk_d at h; split at h
 · cases h; rfl
 · cases h
theorem impl_BakeryOk_e (k : Nat) (b : Bakery) : callF env (impl_BakeryOk_O k) impl_BakeryOk_v Tryd.f39 (k + 1) (impl_BakeryOk_A b) (fun r => impl_BakeryOk_d (r.fin 2 [])) = impl_BakeryOk k b := by kernel_rfl
noncomputable def impl_BakeryOk_x (k : Nat) : Ent1 := fun A R Q => match A with
 | ⟨[(.ag [(.sl 0), (.v (.int .i64 a2)), (.v (.int .i64 a3)), (.v (.int .i64 a4)), (.v (.int .i64 a5)), (.v (.int .i64 a6)), (.sl 1), (.v (.int .i64 a8)), (.v (.int .i64 a9)), (.v (.int .i64 a10)), (.v (.int .i64 a11)), (.v (.int .i64 a12)), (.v (.int .i64 a13)), (.v (.int .i64 a14))])], [(.row false K.ki64 a1), (.row false K.k_impl_Event a7)]⟩ => (impl_BakeryOk k (⟨(⟨a1⟩ : Stock), (⟨a2, a3, a4⟩ : Dough), (⟨a5, a6⟩ : Loaf), (⟨a7, (⟨a8, a9, a10⟩ : Rack), a11, a12, a13⟩ : Book), a14⟩ : Bakery)).bind fun y => Q ⟨(.a (.sc (.v (.bool y)))), [.dead, .dead]⟩
 | _ => none
theorem impl_BakeryOk_ok (k : Nat) : OkE Tryd.prog 39 (impl_BakeryOk_x k) := by
 intro A R Q x h
 unfold impl_BakeryOk_x at h
 split at h
 · obtain ⟨y, hy, hK⟩ := Option.bind_eq_some_iff.1 h
   obtain ⟨r, hr, hd⟩ := callF_ok envOk (impl_BakeryOk_Ok k) follows Tryd.func39 (by kernel_rfl) ((impl_BakeryOk_e k _).trans hy)
   exact ⟨_, impl_BakeryOk_i hd ▸ hr.fin [], hK⟩
 · cases h
/-! ### impl.FormatBakery: function 17 -/
noncomputable def impl_FormatBakery (k : Nat)  (b : Bakery) : Option ((List ByteArray)) :=
 (impl_BakeryOk k b).bind fun y1 =>
 cond (!y1)
  (some ([]))
  ((impl_told k (ByteArray.mk #[115, 116, 111, 99, 107]) b.Stock.Grams).bind fun y2 =>
   (impl_told k (ByteArray.mk #[114, 97, 99, 107]) ([b.Book.Rack.Fresh, b.Book.Rack.Day, b.Book.Rack.Old])).bind fun y3 =>
    (impl_told k (ByteArray.mk #[98, 111, 111, 107]) ([b.Book.Baked, b.Book.Sold, b.Book.Thrown])).bind fun y4 =>
     (impl_told k (ByteArray.mk #[109, 111, 110, 101, 121]) ([b.Money])).bind fun y5 =>
      some ([y2, y3, y4, y5]))
noncomputable def impl_FormatBakery_v : Nat → List Nat := fun t => match t with | _ => []
noncomputable def impl_FormatBakery_O (k : Nat) : Oracle := ofL [(30, impl_told_x k), (39, impl_BakeryOk_x k)]
theorem impl_FormatBakery_Ok (k : Nat) : OkO (Ct Tryd.prog) (impl_FormatBakery_O k) := okO_cons (impl_told_ok k) (okO_cons (impl_BakeryOk_ok k) (okO_nil))
noncomputable def impl_FormatBakery_A (b : Bakery) : Pk := ⟨[(.ag [(.sl 0), (.v (.int .i64 b.Dough.Water)), (.v (.int .i64 b.Dough.Salt)), (.v (.int .i64 b.Dough.Leaven)), (.v (.int .i64 b.Loaf.Weight)), (.v (.int .i64 b.Loaf.Loss)), (.sl 1), (.v (.int .i64 b.Book.Rack.Fresh)), (.v (.int .i64 b.Book.Rack.Day)), (.v (.int .i64 b.Book.Rack.Old)), (.v (.int .i64 b.Book.Baked)), (.v (.int .i64 b.Book.Sold)), (.v (.int .i64 b.Book.Thrown)), (.v (.int .i64 b.Money))])], [(.row false K.ki64 b.Stock.Grams), (.row false K.k_impl_Event b.Book.Events)]⟩
noncomputable def impl_FormatBakery_d : Rs → Option ((List ByteArray))
 | ⟨(.a (.sc (.sl 2))), [.dead, .dead, (.row true K.kstr r1)]⟩ => some r1
 | _ => none
theorem impl_FormatBakery_i {r : Rs} {y : (List ByteArray)} (h : impl_FormatBakery_d r = some y) : r = ⟨(.a (.sc (.sl 2))), [.dead, .dead, (.row true K.kstr y)]⟩ := by
 unfold impl_FormatBakery_d at h; split at h
 · cases h; rfl
 · cases h
theorem impl_FormatBakery_e (k : Nat) (b : Bakery) : callF env (impl_FormatBakery_O k) impl_FormatBakery_v Tryd.f17 (k + 1) (impl_FormatBakery_A b) (fun r => impl_FormatBakery_d (r.fin 2 [K.kstr])) = impl_FormatBakery k b := by kernel_rfl
noncomputable def impl_FormatBakery_x (k : Nat) : Ent1 := fun A R Q => match A with
 | ⟨[(.ag [(.sl 0), (.v (.int .i64 a2)), (.v (.int .i64 a3)), (.v (.int .i64 a4)), (.v (.int .i64 a5)), (.v (.int .i64 a6)), (.sl 1), (.v (.int .i64 a8)), (.v (.int .i64 a9)), (.v (.int .i64 a10)), (.v (.int .i64 a11)), (.v (.int .i64 a12)), (.v (.int .i64 a13)), (.v (.int .i64 a14))])], [(.row false K.ki64 a1), (.row false K.k_impl_Event a7)]⟩ => (impl_FormatBakery k (⟨(⟨a1⟩ : Stock), (⟨a2, a3, a4⟩ : Dough), (⟨a5, a6⟩ : Loaf), (⟨a7, (⟨a8, a9, a10⟩ : Rack), a11, a12, a13⟩ : Book), a14⟩ : Bakery)).bind fun y => Q ⟨(.a (.sc (.sl 2))), [.dead, .dead, (.row true K.kstr y)]⟩
 | _ => none
theorem impl_FormatBakery_ok (k : Nat) : OkE Tryd.prog 17 (impl_FormatBakery_x k) := by
 intro A R Q x h
 unfold impl_FormatBakery_x at h
 split at h
 · obtain ⟨y, hy, hK⟩ := Option.bind_eq_some_iff.1 h
   obtain ⟨r, hr, hd⟩ := callF_ok envOk (impl_FormatBakery_Ok k) follows Tryd.func17 (by kernel_rfl) ((impl_FormatBakery_e k _).trans hy)
   exact ⟨_, impl_FormatBakery_i hd ▸ hr.fin [K.kstr], hK⟩
 · cases h
/-! ### laws.eqStringS: function 22 -/
noncomputable def laws_eqStringS_s0 (k : Nat)  (a : (List ByteArray)) (b : (List ByteArray)) (J : Int → Option (Bool)) (x0_0 : Int) : Option (Bool) :=
 cond (decide ((x0_0 : Int) < ((a).length : Int)))
 (if 0 ≤ (x0_0 : Int) ∧ (x0_0 : Int) < ((a).length : Int) then
  if 0 ≤ (x0_0 : Int) ∧ (x0_0 : Int) < ((b).length : Int) then
   cond (!(decide (((a.getD (Int.toNat x0_0) (ByteArray.mk #[])) : ByteArray) = (b.getD (Int.toNat x0_0) (ByteArray.mk #[])))))
    (some false)
    (J (wr (x0_0 + 1))) else none else none)
 (some true)
noncomputable def laws_eqStringS_l0 (k : Nat) : Nat → (List ByteArray) → (List ByteArray) → Int → Option (Bool)
 | 0, a, b, x0_0 => laws_eqStringS_s0 k a b (fun _ => none) x0_0
 | m + 1, a, b, x0_0 => laws_eqStringS_s0 k a b (laws_eqStringS_l0 k m a b) x0_0
noncomputable def laws_eqStringS_m (k : Nat) (J0 : (List ByteArray) → (List ByteArray) → Int → Option (Bool)) (a : (List ByteArray)) (b : (List ByteArray)) : Option (Bool) :=
 cond (!(decide ((((a).length : Int) : Int) = ((b).length : Int))))
 (some false)
 (J0 a b 0)
noncomputable def laws_eqStringS (k : Nat) (a : (List ByteArray)) (b : (List ByteArray)) : Option (Bool) := laws_eqStringS_m k (laws_eqStringS_l0 k k) a b
noncomputable def laws_eqStringS_v : Nat → List Nat := fun t => match t with | 4 => [0, 1, 4, 5] | _ => []
noncomputable def laws_eqStringS_O (k : Nat) : Oracle := ofL []
theorem laws_eqStringS_Ok (k : Nat) : OkO (Ct Tryd.prog) (laws_eqStringS_O k) := okO_nil
noncomputable def laws_eqStringS_A (a : (List ByteArray)) (b : (List ByteArray)) : Pk := ⟨[(.sc (.sl 0)), (.sc (.sl 1))], [(.row false K.kstr a), (.row false K.kstr b)]⟩
noncomputable def laws_eqStringS_d : Rs → Option (Bool)
 | ⟨(.a (.sc (.v (.bool r1)))), [.dead, .dead]⟩ => some r1
 | _ => none
theorem laws_eqStringS_i {r : Rs} {y : Bool} (h : laws_eqStringS_d r = some y) : r = ⟨(.a (.sc (.v (.bool y)))), [.dead, .dead]⟩ := by
 unfold laws_eqStringS_d at h; split at h
 · cases h; rfl
 · cases h
noncomputable def laws_eqStringS_h0 (k m : Nat) (a : (List ByteArray)) (b : (List ByteArray)) (x0_0 : Int) : Option (Bool) := hdAt env (laws_eqStringS_O k) laws_eqStringS_v Tryd.f22 2 (fun r => laws_eqStringS_d (r.fin 2 [])) [1, 1, 0, 1, 0] k m ⟨tmF [0, 1, 4, 5] [(.a (.sc (.sl 0))), (.a (.sc (.sl 1))), (.a (.sc (.v (.bool false)))), (.a (.sc (.v (.int .i64 x0_0))))], blF [(.row false K.kstr a), (.row false K.kstr b)]⟩
theorem laws_eqStringS_z0 (k : Nat) (a : (List ByteArray)) (b : (List ByteArray)) (x0_0 : Int) : laws_eqStringS_h0 k 0 a b x0_0 = laws_eqStringS_s0 k a b (fun _ => none) x0_0 := by kernel_rfl
theorem laws_eqStringS_g0 (k : Nat) (H : St → Option (Bool)) (a : (List ByteArray)) (b : (List ByteArray)) (x0_0 : Int) : rnd env (laws_eqStringS_O k) laws_eqStringS_v Tryd.f22 2 (fun r => laws_eqStringS_d (r.fin 2 [])) [1, 1, 0, 1, 0] k H ⟨tmF [0, 1, 4, 5] [(.a (.sc (.sl 0))), (.a (.sc (.sl 1))), (.a (.sc (.v (.bool false)))), (.a (.sc (.v (.int .i64 x0_0))))], blF [(.row false K.kstr a), (.row false K.kstr b)]⟩ = laws_eqStringS_s0 k a b (fun x0_0 => H ⟨tmF [0, 1, 4, 5] [(.a (.sc (.sl 0))), (.a (.sc (.sl 1))), (.a (.sc (.v (.bool false)))), (.a (.sc (.v (.int .i64 x0_0))))], blF [(.row false K.kstr a), (.row false K.kstr b)]⟩) x0_0 := by kernel_rfl
theorem laws_eqStringS_n0 (k m : Nat) (a : (List ByteArray)) (b : (List ByteArray)) (x0_0 : Int) : laws_eqStringS_h0 k (m + 1) a b x0_0 = laws_eqStringS_s0 k a b (laws_eqStringS_h0 k m a b) x0_0 := (hdAt_succ _ _ _ _ _ _ _ _ _ _).trans (laws_eqStringS_g0 k _ a b x0_0)
theorem laws_eqStringS_q0 (k : Nat) : ∀ m, laws_eqStringS_h0 k m = laws_eqStringS_l0 k m := by
 intro m
 induction m with
 | zero => funext a b x0_0; rw [laws_eqStringS_z0]; rfl
 | succ m ih => funext a b x0_0; rw [laws_eqStringS_n0, ih]; rfl
theorem laws_eqStringS_e (k : Nat) (a : (List ByteArray)) (b : (List ByteArray)) : callF env (laws_eqStringS_O k) laws_eqStringS_v Tryd.f22 (k + 1) (laws_eqStringS_A a b) (fun r => laws_eqStringS_d (r.fin 2 [])) = laws_eqStringS k a b := by
 have e : callF env (laws_eqStringS_O k) laws_eqStringS_v Tryd.f22 (k + 1) (laws_eqStringS_A a b) (fun r => laws_eqStringS_d (r.fin 2 [])) = laws_eqStringS_m k (laws_eqStringS_h0 k k) a b := by kernel_rfl
 rw [e, laws_eqStringS_q0]; rfl
noncomputable def laws_eqStringS_x (k : Nat) : Ent1 := fun A R Q => match A with
 | ⟨[(.sc (.sl 0)), (.sc (.sl 1))], [(.row false K.kstr a1), (.row false K.kstr a2)]⟩ => (laws_eqStringS k a1 a2).bind fun y => Q ⟨(.a (.sc (.v (.bool y)))), [.dead, .dead]⟩
 | _ => none
theorem laws_eqStringS_ok (k : Nat) : OkE Tryd.prog 22 (laws_eqStringS_x k) := by
 intro A R Q x h
 unfold laws_eqStringS_x at h
 split at h
 · obtain ⟨y, hy, hK⟩ := Option.bind_eq_some_iff.1 h
   obtain ⟨r, hr, hd⟩ := callF_ok envOk (laws_eqStringS_Ok k) follows Tryd.func22 (by kernel_rfl) ((laws_eqStringS_e k _ _).trans hy)
   exact ⟨_, laws_eqStringS_i hd ▸ hr.fin [], hK⟩
 · cases h
/-! ### laws.eqIntS: function 80 -/
noncomputable def laws_eqIntS_s0 (k : Nat)  (a : (List Int)) (b : (List Int)) (J : Int → Option (Bool)) (x0_0 : Int) : Option (Bool) :=
 cond (decide ((x0_0 : Int) < ((a).length : Int)))
 (if 0 ≤ (x0_0 : Int) ∧ (x0_0 : Int) < ((a).length : Int) then
  if 0 ≤ (x0_0 : Int) ∧ (x0_0 : Int) < ((b).length : Int) then
   cond (!(decide (((a.getD (Int.toNat x0_0) 0) : Int) = (b.getD (Int.toNat x0_0) 0))))
    (some false)
    (J (wr (x0_0 + 1))) else none else none)
 (some true)
noncomputable def laws_eqIntS_l0 (k : Nat) : Nat → (List Int) → (List Int) → Int → Option (Bool)
 | 0, a, b, x0_0 => laws_eqIntS_s0 k a b (fun _ => none) x0_0
 | m + 1, a, b, x0_0 => laws_eqIntS_s0 k a b (laws_eqIntS_l0 k m a b) x0_0
noncomputable def laws_eqIntS_m (k : Nat) (J0 : (List Int) → (List Int) → Int → Option (Bool)) (a : (List Int)) (b : (List Int)) : Option (Bool) :=
 cond (!(decide ((((a).length : Int) : Int) = ((b).length : Int))))
 (some false)
 (J0 a b 0)
noncomputable def laws_eqIntS (k : Nat) (a : (List Int)) (b : (List Int)) : Option (Bool) := laws_eqIntS_m k (laws_eqIntS_l0 k k) a b
noncomputable def laws_eqIntS_v : Nat → List Nat := fun t => match t with | 4 => [0, 1, 4, 5] | _ => []
noncomputable def laws_eqIntS_O (k : Nat) : Oracle := ofL []
theorem laws_eqIntS_Ok (k : Nat) : OkO (Ct Tryd.prog) (laws_eqIntS_O k) := okO_nil
noncomputable def laws_eqIntS_A (a : (List Int)) (b : (List Int)) : Pk := ⟨[(.sc (.sl 0)), (.sc (.sl 1))], [(.row false K.ki64 a), (.row false K.ki64 b)]⟩
noncomputable def laws_eqIntS_d : Rs → Option (Bool)
 | ⟨(.a (.sc (.v (.bool r1)))), [.dead, .dead]⟩ => some r1
 | _ => none
theorem laws_eqIntS_i {r : Rs} {y : Bool} (h : laws_eqIntS_d r = some y) : r = ⟨(.a (.sc (.v (.bool y)))), [.dead, .dead]⟩ := by
 unfold laws_eqIntS_d at h; split at h
 · cases h; rfl
 · cases h
noncomputable def laws_eqIntS_h0 (k m : Nat) (a : (List Int)) (b : (List Int)) (x0_0 : Int) : Option (Bool) := hdAt env (laws_eqIntS_O k) laws_eqIntS_v Tryd.f80 2 (fun r => laws_eqIntS_d (r.fin 2 [])) [1, 1, 0, 1, 0] k m ⟨tmF [0, 1, 4, 5] [(.a (.sc (.sl 0))), (.a (.sc (.sl 1))), (.a (.sc (.v (.bool false)))), (.a (.sc (.v (.int .i64 x0_0))))], blF [(.row false K.ki64 a), (.row false K.ki64 b)]⟩
theorem laws_eqIntS_z0 (k : Nat) (a : (List Int)) (b : (List Int)) (x0_0 : Int) : laws_eqIntS_h0 k 0 a b x0_0 = laws_eqIntS_s0 k a b (fun _ => none) x0_0 := by kernel_rfl
theorem laws_eqIntS_g0 (k : Nat) (H : St → Option (Bool)) (a : (List Int)) (b : (List Int)) (x0_0 : Int) : rnd env (laws_eqIntS_O k) laws_eqIntS_v Tryd.f80 2 (fun r => laws_eqIntS_d (r.fin 2 [])) [1, 1, 0, 1, 0] k H ⟨tmF [0, 1, 4, 5] [(.a (.sc (.sl 0))), (.a (.sc (.sl 1))), (.a (.sc (.v (.bool false)))), (.a (.sc (.v (.int .i64 x0_0))))], blF [(.row false K.ki64 a), (.row false K.ki64 b)]⟩ = laws_eqIntS_s0 k a b (fun x0_0 => H ⟨tmF [0, 1, 4, 5] [(.a (.sc (.sl 0))), (.a (.sc (.sl 1))), (.a (.sc (.v (.bool false)))), (.a (.sc (.v (.int .i64 x0_0))))], blF [(.row false K.ki64 a), (.row false K.ki64 b)]⟩) x0_0 := by kernel_rfl
theorem laws_eqIntS_n0 (k m : Nat) (a : (List Int)) (b : (List Int)) (x0_0 : Int) : laws_eqIntS_h0 k (m + 1) a b x0_0 = laws_eqIntS_s0 k a b (laws_eqIntS_h0 k m a b) x0_0 := (hdAt_succ _ _ _ _ _ _ _ _ _ _).trans (laws_eqIntS_g0 k _ a b x0_0)
theorem laws_eqIntS_q0 (k : Nat) : ∀ m, laws_eqIntS_h0 k m = laws_eqIntS_l0 k m := by
 intro m
 induction m with
 | zero => funext a b x0_0; rw [laws_eqIntS_z0]; rfl
 | succ m ih => funext a b x0_0; rw [laws_eqIntS_n0, ih]; rfl
theorem laws_eqIntS_e (k : Nat) (a : (List Int)) (b : (List Int)) : callF env (laws_eqIntS_O k) laws_eqIntS_v Tryd.f80 (k + 1) (laws_eqIntS_A a b) (fun r => laws_eqIntS_d (r.fin 2 [])) = laws_eqIntS k a b := by
 have e : callF env (laws_eqIntS_O k) laws_eqIntS_v Tryd.f80 (k + 1) (laws_eqIntS_A a b) (fun r => laws_eqIntS_d (r.fin 2 [])) = laws_eqIntS_m k (laws_eqIntS_h0 k k) a b := by kernel_rfl
 rw [e, laws_eqIntS_q0]; rfl
noncomputable def laws_eqIntS_x (k : Nat) : Ent1 := fun A R Q => match A with
 | ⟨[(.sc (.sl 0)), (.sc (.sl 1))], [(.row false K.ki64 a1), (.row false K.ki64 a2)]⟩ => (laws_eqIntS k a1 a2).bind fun y => Q ⟨(.a (.sc (.v (.bool y)))), [.dead, .dead]⟩
 | _ => none
theorem laws_eqIntS_ok (k : Nat) : OkE Tryd.prog 80 (laws_eqIntS_x k) := by
 intro A R Q x h
 unfold laws_eqIntS_x at h
 split at h
 · obtain ⟨y, hy, hK⟩ := Option.bind_eq_some_iff.1 h
   obtain ⟨r, hr, hd⟩ := callF_ok envOk (laws_eqIntS_Ok k) follows Tryd.func80 (by kernel_rfl) ((laws_eqIntS_e k _ _).trans hy)
   exact ⟨_, laws_eqIntS_i hd ▸ hr.fin [], hK⟩
 · cases h
/-! ### laws.eqStock: function 49 -/
noncomputable def laws_eqStock (k : Nat)  (a : Stock) (b : Stock) : Option (Bool) :=
 (laws_eqIntS k a.Grams b.Grams).bind fun y1 =>
 cond (!y1)
  (some false)
  (some true)
noncomputable def laws_eqStock_v : Nat → List Nat := fun t => match t with | _ => []
noncomputable def laws_eqStock_O (k : Nat) : Oracle := ofL [(80, laws_eqIntS_x k)]
theorem laws_eqStock_Ok (k : Nat) : OkO (Ct Tryd.prog) (laws_eqStock_O k) := okO_cons (laws_eqIntS_ok k) (okO_nil)
noncomputable def laws_eqStock_A (a : Stock) (b : Stock) : Pk := ⟨[(.ag [(.sl 0)]), (.ag [(.sl 1)])], [(.row false K.ki64 a.Grams), (.row false K.ki64 b.Grams)]⟩
noncomputable def laws_eqStock_d : Rs → Option (Bool)
 | ⟨(.a (.sc (.v (.bool r1)))), [.dead, .dead]⟩ => some r1
 | _ => none
theorem laws_eqStock_i {r : Rs} {y : Bool} (h : laws_eqStock_d r = some y) : r = ⟨(.a (.sc (.v (.bool y)))), [.dead, .dead]⟩ := by
 unfold laws_eqStock_d at h; split at h
 · cases h; rfl
 · cases h
theorem laws_eqStock_e (k : Nat) (a : Stock) (b : Stock) : callF env (laws_eqStock_O k) laws_eqStock_v Tryd.f49 (k + 1) (laws_eqStock_A a b) (fun r => laws_eqStock_d (r.fin 2 [])) = laws_eqStock k a b := by kernel_rfl
noncomputable def laws_eqStock_x (k : Nat) : Ent1 := fun A R Q => match A with
 | ⟨[(.ag [(.sl 0)]), (.ag [(.sl 1)])], [(.row false K.ki64 a1), (.row false K.ki64 a2)]⟩ => (laws_eqStock k (⟨a1⟩ : Stock) (⟨a2⟩ : Stock)).bind fun y => Q ⟨(.a (.sc (.v (.bool y)))), [.dead, .dead]⟩
 | _ => none
theorem laws_eqStock_ok (k : Nat) : OkE Tryd.prog 49 (laws_eqStock_x k) := by
 intro A R Q x h
 unfold laws_eqStock_x at h
 split at h
 · obtain ⟨y, hy, hK⟩ := Option.bind_eq_some_iff.1 h
   obtain ⟨r, hr, hd⟩ := callF_ok envOk (laws_eqStock_Ok k) follows Tryd.func49 (by kernel_rfl) ((laws_eqStock_e k _ _).trans hy)
   exact ⟨_, laws_eqStock_i hd ▸ hr.fin [], hK⟩
 · cases h
/-! ### laws.eqDough: function 50 -/
noncomputable def laws_eqDough (k : Nat)  (a : Dough) (b : Dough) : Option (Bool) :=
 cond (!(decide ((a.Water : Int) = b.Water)))
 (some false)
 (cond (!(decide ((a.Salt : Int) = b.Salt)))
  (some false)
  (cond (!(decide ((a.Leaven : Int) = b.Leaven)))
   (some false)
   (some true)))
noncomputable def laws_eqDough_v : Nat → List Nat := fun t => match t with | _ => []
noncomputable def laws_eqDough_O (k : Nat) : Oracle := ofL []
theorem laws_eqDough_Ok (k : Nat) : OkO (Ct Tryd.prog) (laws_eqDough_O k) := okO_nil
noncomputable def laws_eqDough_A (a : Dough) (b : Dough) : Pk := ⟨[(.ag [(.v (.int .i64 a.Water)), (.v (.int .i64 a.Salt)), (.v (.int .i64 a.Leaven))]), (.ag [(.v (.int .i64 b.Water)), (.v (.int .i64 b.Salt)), (.v (.int .i64 b.Leaven))])], []⟩
noncomputable def laws_eqDough_d : Rs → Option (Bool)
 | ⟨(.a (.sc (.v (.bool r1)))), []⟩ => some r1
 | _ => none
theorem laws_eqDough_i {r : Rs} {y : Bool} (h : laws_eqDough_d r = some y) : r = ⟨(.a (.sc (.v (.bool y)))), []⟩ := by
 unfold laws_eqDough_d at h; split at h
 · cases h; rfl
 · cases h
theorem laws_eqDough_e (k : Nat) (a : Dough) (b : Dough) : callF env (laws_eqDough_O k) laws_eqDough_v Tryd.f50 (k + 1) (laws_eqDough_A a b) (fun r => laws_eqDough_d (r.fin 0 [])) = laws_eqDough k a b := by kernel_rfl
noncomputable def laws_eqDough_x (k : Nat) : Ent1 := fun A R Q => match A with
 | ⟨[(.ag [(.v (.int .i64 a1)), (.v (.int .i64 a2)), (.v (.int .i64 a3))]), (.ag [(.v (.int .i64 a4)), (.v (.int .i64 a5)), (.v (.int .i64 a6))])], []⟩ => (laws_eqDough k (⟨a1, a2, a3⟩ : Dough) (⟨a4, a5, a6⟩ : Dough)).bind fun y => Q ⟨(.a (.sc (.v (.bool y)))), []⟩
 | _ => none
theorem laws_eqDough_ok (k : Nat) : OkE Tryd.prog 50 (laws_eqDough_x k) := by
 intro A R Q x h
 unfold laws_eqDough_x at h
 split at h
 · obtain ⟨y, hy, hK⟩ := Option.bind_eq_some_iff.1 h
   obtain ⟨r, hr, hd⟩ := callF_ok envOk (laws_eqDough_Ok k) follows Tryd.func50 (by kernel_rfl) ((laws_eqDough_e k _ _).trans hy)
   exact ⟨_, laws_eqDough_i hd ▸ hr.fin [], hK⟩
 · cases h
/-! ### laws.eqLoaf: function 51 -/
noncomputable def laws_eqLoaf (k : Nat)  (a : Loaf) (b : Loaf) : Option (Bool) :=
 cond (!(decide ((a.Weight : Int) = b.Weight)))
 (some false)
 (cond (!(decide ((a.Loss : Int) = b.Loss)))
  (some false)
  (some true))
noncomputable def laws_eqLoaf_v : Nat → List Nat := fun t => match t with | _ => []
noncomputable def laws_eqLoaf_O (k : Nat) : Oracle := ofL []
theorem laws_eqLoaf_Ok (k : Nat) : OkO (Ct Tryd.prog) (laws_eqLoaf_O k) := okO_nil
noncomputable def laws_eqLoaf_A (a : Loaf) (b : Loaf) : Pk := ⟨[(.ag [(.v (.int .i64 a.Weight)), (.v (.int .i64 a.Loss))]), (.ag [(.v (.int .i64 b.Weight)), (.v (.int .i64 b.Loss))])], []⟩
noncomputable def laws_eqLoaf_d : Rs → Option (Bool)
 | ⟨(.a (.sc (.v (.bool r1)))), []⟩ => some r1
 | _ => none
theorem laws_eqLoaf_i {r : Rs} {y : Bool} (h : laws_eqLoaf_d r = some y) : r = ⟨(.a (.sc (.v (.bool y)))), []⟩ := by
 unfold laws_eqLoaf_d at h; split at h
 · cases h; rfl
 · cases h
theorem laws_eqLoaf_e (k : Nat) (a : Loaf) (b : Loaf) : callF env (laws_eqLoaf_O k) laws_eqLoaf_v Tryd.f51 (k + 1) (laws_eqLoaf_A a b) (fun r => laws_eqLoaf_d (r.fin 0 [])) = laws_eqLoaf k a b := by kernel_rfl
noncomputable def laws_eqLoaf_x (k : Nat) : Ent1 := fun A R Q => match A with
 | ⟨[(.ag [(.v (.int .i64 a1)), (.v (.int .i64 a2))]), (.ag [(.v (.int .i64 a3)), (.v (.int .i64 a4))])], []⟩ => (laws_eqLoaf k (⟨a1, a2⟩ : Loaf) (⟨a3, a4⟩ : Loaf)).bind fun y => Q ⟨(.a (.sc (.v (.bool y)))), []⟩
 | _ => none
theorem laws_eqLoaf_ok (k : Nat) : OkE Tryd.prog 51 (laws_eqLoaf_x k) := by
 intro A R Q x h
 unfold laws_eqLoaf_x at h
 split at h
 · obtain ⟨y, hy, hK⟩ := Option.bind_eq_some_iff.1 h
   obtain ⟨r, hr, hd⟩ := callF_ok envOk (laws_eqLoaf_Ok k) follows Tryd.func51 (by kernel_rfl) ((laws_eqLoaf_e k _ _).trans hy)
   exact ⟨_, laws_eqLoaf_i hd ▸ hr.fin [], hK⟩
 · cases h
/-! ### laws.eqEvent: function 98 -/
noncomputable def laws_eqEvent (k : Nat)  (a : Event) (b : Event) : Option (Bool) :=
 cond (!(decide ((a.Kind : Int) = b.Kind)))
 (some false)
 (cond (!(decide ((a.Loaves : Int) = b.Loaves)))
  (some false)
  (some true))
noncomputable def laws_eqEvent_v : Nat → List Nat := fun t => match t with | _ => []
noncomputable def laws_eqEvent_O (k : Nat) : Oracle := ofL []
theorem laws_eqEvent_Ok (k : Nat) : OkO (Ct Tryd.prog) (laws_eqEvent_O k) := okO_nil
noncomputable def laws_eqEvent_A (a : Event) (b : Event) : Pk := ⟨[(.ag [(.v (.int .i64 a.Kind)), (.v (.int .i64 a.Loaves))]), (.ag [(.v (.int .i64 b.Kind)), (.v (.int .i64 b.Loaves))])], []⟩
noncomputable def laws_eqEvent_d : Rs → Option (Bool)
 | ⟨(.a (.sc (.v (.bool r1)))), []⟩ => some r1
 | _ => none
theorem laws_eqEvent_i {r : Rs} {y : Bool} (h : laws_eqEvent_d r = some y) : r = ⟨(.a (.sc (.v (.bool y)))), []⟩ := by
 unfold laws_eqEvent_d at h; split at h
 · cases h; rfl
 · cases h
theorem laws_eqEvent_e (k : Nat) (a : Event) (b : Event) : callF env (laws_eqEvent_O k) laws_eqEvent_v Tryd.f98 (k + 1) (laws_eqEvent_A a b) (fun r => laws_eqEvent_d (r.fin 0 [])) = laws_eqEvent k a b := by kernel_rfl
noncomputable def laws_eqEvent_x (k : Nat) : Ent1 := fun A R Q => match A with
 | ⟨[(.ag [(.v (.int .i64 a1)), (.v (.int .i64 a2))]), (.ag [(.v (.int .i64 a3)), (.v (.int .i64 a4))])], []⟩ => (laws_eqEvent k (⟨a1, a2⟩ : Event) (⟨a3, a4⟩ : Event)).bind fun y => Q ⟨(.a (.sc (.v (.bool y)))), []⟩
 | _ => none
theorem laws_eqEvent_ok (k : Nat) : OkE Tryd.prog 98 (laws_eqEvent_x k) := by
 intro A R Q x h
 unfold laws_eqEvent_x at h
 split at h
 · obtain ⟨y, hy, hK⟩ := Option.bind_eq_some_iff.1 h
   obtain ⟨r, hr, hd⟩ := callF_ok envOk (laws_eqEvent_Ok k) follows Tryd.func98 (by kernel_rfl) ((laws_eqEvent_e k _ _).trans hy)
   exact ⟨_, laws_eqEvent_i hd ▸ hr.fin [], hK⟩
 · cases h
/-! ### laws.eqEventS: function 81 -/
noncomputable def laws_eqEventS_s0 (k : Nat)  (a : (List Event)) (b : (List Event)) (J : Int → Option (Bool)) (x0_0 : Int) : Option (Bool) :=
 cond (decide ((x0_0 : Int) < ((a).length : Int)))
 (if 0 ≤ (x0_0 : Int) ∧ (x0_0 : Int) < ((a).length : Int) then
  if 0 ≤ (x0_0 : Int) ∧ (x0_0 : Int) < ((b).length : Int) then
   (laws_eqEvent k (a.getD (Int.toNat x0_0) dk_impl_Event) (b.getD (Int.toNat x0_0) dk_impl_Event)).bind fun y2 =>
    cond (!y2)
     (some false)
     (J (wr (x0_0 + 1))) else none else none)
 (some true)
noncomputable def laws_eqEventS_l0 (k : Nat) : Nat → (List Event) → (List Event) → Int → Option (Bool)
 | 0, a, b, x0_0 => laws_eqEventS_s0 k a b (fun _ => none) x0_0
 | m + 1, a, b, x0_0 => laws_eqEventS_s0 k a b (laws_eqEventS_l0 k m a b) x0_0
noncomputable def laws_eqEventS_m (k : Nat) (J0 : (List Event) → (List Event) → Int → Option (Bool)) (a : (List Event)) (b : (List Event)) : Option (Bool) :=
 cond (!(decide ((((a).length : Int) : Int) = ((b).length : Int))))
 (some false)
 (J0 a b 0)
noncomputable def laws_eqEventS (k : Nat) (a : (List Event)) (b : (List Event)) : Option (Bool) := laws_eqEventS_m k (laws_eqEventS_l0 k k) a b
noncomputable def laws_eqEventS_v : Nat → List Nat := fun t => match t with | 4 => [0, 1, 4, 5] | _ => []
noncomputable def laws_eqEventS_O (k : Nat) : Oracle := ofL [(98, laws_eqEvent_x k)]
theorem laws_eqEventS_Ok (k : Nat) : OkO (Ct Tryd.prog) (laws_eqEventS_O k) := okO_cons (laws_eqEvent_ok k) (okO_nil)
noncomputable def laws_eqEventS_A (a : (List Event)) (b : (List Event)) : Pk := ⟨[(.sc (.sl 0)), (.sc (.sl 1))], [(.row false K.k_impl_Event a), (.row false K.k_impl_Event b)]⟩
noncomputable def laws_eqEventS_d : Rs → Option (Bool)
 | ⟨(.a (.sc (.v (.bool r1)))), [.dead, .dead]⟩ => some r1
 | _ => none
theorem laws_eqEventS_i {r : Rs} {y : Bool} (h : laws_eqEventS_d r = some y) : r = ⟨(.a (.sc (.v (.bool y)))), [.dead, .dead]⟩ := by
 unfold laws_eqEventS_d at h; split at h
 · cases h; rfl
 · cases h
noncomputable def laws_eqEventS_h0 (k m : Nat) (a : (List Event)) (b : (List Event)) (x0_0 : Int) : Option (Bool) := hdAt env (laws_eqEventS_O k) laws_eqEventS_v Tryd.f81 2 (fun r => laws_eqEventS_d (r.fin 2 [])) [1, 1, 0, 1, 0] k m ⟨tmF [0, 1, 4, 5] [(.a (.sc (.sl 0))), (.a (.sc (.sl 1))), (.a (.sc (.v (.bool false)))), (.a (.sc (.v (.int .i64 x0_0))))], blF [(.row false K.k_impl_Event a), (.row false K.k_impl_Event b)]⟩
theorem laws_eqEventS_z0 (k : Nat) (a : (List Event)) (b : (List Event)) (x0_0 : Int) : laws_eqEventS_h0 k 0 a b x0_0 = laws_eqEventS_s0 k a b (fun _ => none) x0_0 := by kernel_rfl
theorem laws_eqEventS_g0 (k : Nat) (H : St → Option (Bool)) (a : (List Event)) (b : (List Event)) (x0_0 : Int) : rnd env (laws_eqEventS_O k) laws_eqEventS_v Tryd.f81 2 (fun r => laws_eqEventS_d (r.fin 2 [])) [1, 1, 0, 1, 0] k H ⟨tmF [0, 1, 4, 5] [(.a (.sc (.sl 0))), (.a (.sc (.sl 1))), (.a (.sc (.v (.bool false)))), (.a (.sc (.v (.int .i64 x0_0))))], blF [(.row false K.k_impl_Event a), (.row false K.k_impl_Event b)]⟩ = laws_eqEventS_s0 k a b (fun x0_0 => H ⟨tmF [0, 1, 4, 5] [(.a (.sc (.sl 0))), (.a (.sc (.sl 1))), (.a (.sc (.v (.bool false)))), (.a (.sc (.v (.int .i64 x0_0))))], blF [(.row false K.k_impl_Event a), (.row false K.k_impl_Event b)]⟩) x0_0 := by kernel_rfl
theorem laws_eqEventS_n0 (k m : Nat) (a : (List Event)) (b : (List Event)) (x0_0 : Int) : laws_eqEventS_h0 k (m + 1) a b x0_0 = laws_eqEventS_s0 k a b (laws_eqEventS_h0 k m a b) x0_0 := (hdAt_succ _ _ _ _ _ _ _ _ _ _).trans (laws_eqEventS_g0 k _ a b x0_0)
theorem laws_eqEventS_q0 (k : Nat) : ∀ m, laws_eqEventS_h0 k m = laws_eqEventS_l0 k m := by
 intro m
 induction m with
 | zero => funext a b x0_0; rw [laws_eqEventS_z0]; rfl
 | succ m ih => funext a b x0_0; rw [laws_eqEventS_n0, ih]; rfl
theorem laws_eqEventS_e (k : Nat) (a : (List Event)) (b : (List Event)) : callF env (laws_eqEventS_O k) laws_eqEventS_v Tryd.f81 (k + 1) (laws_eqEventS_A a b) (fun r => laws_eqEventS_d (r.fin 2 [])) = laws_eqEventS k a b := by
 have e : callF env (laws_eqEventS_O k) laws_eqEventS_v Tryd.f81 (k + 1) (laws_eqEventS_A a b) (fun r => laws_eqEventS_d (r.fin 2 [])) = laws_eqEventS_m k (laws_eqEventS_h0 k k) a b := by kernel_rfl
 rw [e, laws_eqEventS_q0]; rfl
noncomputable def laws_eqEventS_x (k : Nat) : Ent1 := fun A R Q => match A with
 | ⟨[(.sc (.sl 0)), (.sc (.sl 1))], [(.row false K.k_impl_Event a1), (.row false K.k_impl_Event a2)]⟩ => (laws_eqEventS k a1 a2).bind fun y => Q ⟨(.a (.sc (.v (.bool y)))), [.dead, .dead]⟩
 | _ => none
theorem laws_eqEventS_ok (k : Nat) : OkE Tryd.prog 81 (laws_eqEventS_x k) := by
 intro A R Q x h
 unfold laws_eqEventS_x at h
 split at h
 · obtain ⟨y, hy, hK⟩ := Option.bind_eq_some_iff.1 h
   obtain ⟨r, hr, hd⟩ := callF_ok envOk (laws_eqEventS_Ok k) follows Tryd.func81 (by kernel_rfl) ((laws_eqEventS_e k _ _).trans hy)
   exact ⟨_, laws_eqEventS_i hd ▸ hr.fin [], hK⟩
 · cases h
end Go.Proofs.YtfbnbdcjnbgibaaDoorX
