/- What functions of the program compute, as functions of numbers and lists, and that they do. (The file is written by wip/x/vxp.py of this repository.) -/
import Derived.Test.YtonaabffckkdlaaF1
namespace Go.Proofs.YtonaabffckkdlaaX
open Go Go.Proofs
set_option linter.unusedVariables false
set_option maxRecDepth 100000
/-! ### impl.RackOk: function 115 -/
noncomputable def impl_RackOk (k : Nat)  (r : Rack) : Option (Bool) :=
 (impl_allIn k ([r.Fresh, r.Day, r.Old]) 0 10000).bind fun y1 =>
 some y1
noncomputable def impl_RackOk_v : Nat → List Nat := fun t => match t with | _ => []
noncomputable def impl_RackOk_O (k : Nat) : Oracle := ofL [(99, impl_allIn_x k)]
theorem impl_RackOk_Ok (k : Nat) : OkO (Ct Try.prog) (impl_RackOk_O k) := okO_cons (impl_allIn_ok k) (okO_nil)
noncomputable def impl_RackOk_A (r : Rack) : Pk := ⟨[(.ag [(.v (.int .i64 r.Fresh)), (.v (.int .i64 r.Day)), (.v (.int .i64 r.Old))])], []⟩
noncomputable def impl_RackOk_d : Rs → Option (Bool)
 | ⟨(.a (.sc (.v (.bool r1)))), []⟩ => some r1
 | _ => none
theorem impl_RackOk_i {r : Rs} {y : Bool} (h : impl_RackOk_d r = some y) : r = ⟨(.a (.sc (.v (.bool y)))), []⟩ := by
 unfold impl_RackOk_d at h; split at h
 · cases h; rfl
 · cases h
theorem impl_RackOk_e (k : Nat) (r : Rack) : callF env (impl_RackOk_O k) impl_RackOk_v Try.f115 (k + 1) (impl_RackOk_A r) (fun r => impl_RackOk_d (r.fin 0 [])) = impl_RackOk k r := by kernel_rfl
noncomputable def impl_RackOk_x (k : Nat) : Ent1 := fun A R Q => match A with
 | ⟨[(.ag [(.v (.int .i64 a1)), (.v (.int .i64 a2)), (.v (.int .i64 a3))])], []⟩ => (impl_RackOk k (⟨a1, a2, a3⟩ : Rack)).bind fun y => Q ⟨(.a (.sc (.v (.bool y)))), []⟩
 | _ => none
theorem impl_RackOk_ok (k : Nat) : OkE Try.prog 115 (impl_RackOk_x k) := by
 intro A R Q x h
 unfold impl_RackOk_x at h
 split at h
 · obtain ⟨y, hy, hK⟩ := Option.bind_eq_some_iff.1 h
   obtain ⟨r, hr, hd⟩ := callF_ok envOk (impl_RackOk_Ok k) follows Try.func115 (by kernel_rfl) ((impl_RackOk_e k _).trans hy)
   exact ⟨_, impl_RackOk_i hd ▸ hr.fin [], hK⟩
 · cases h
/-! ### impl.taken: function 123 -/
noncomputable def impl_taken (k : Nat)  (first : Int) (second : Int) (n : Int) : Option (Int × Int × Int) :=
 some ((wr (first - (mn first n))), (wr (second - (mn second (wr (n - (mn first n)))))), (wr ((mn first n) + (mn second (wr (n - (mn first n)))))))
noncomputable def impl_taken_v : Nat → List Nat := fun t => match t with | _ => []
noncomputable def impl_taken_O (k : Nat) : Oracle := ofL []
theorem impl_taken_Ok (k : Nat) : OkO (Ct Try.prog) (impl_taken_O k) := okO_nil
noncomputable def impl_taken_A (first : Int) (second : Int) (n : Int) : Pk := ⟨[(.sc (.v (.int .i64 first))), (.sc (.v (.int .i64 second))), (.sc (.v (.int .i64 n)))], []⟩
noncomputable def impl_taken_d : Rs → Option (Int × Int × Int)
 | ⟨(.tp [(.sc (.v (.int .i64 r1))), (.sc (.v (.int .i64 r2))), (.sc (.v (.int .i64 r3)))]), []⟩ => some (r1, r2, r3)
 | _ => none
theorem impl_taken_i {r : Rs} {y : Int × Int × Int} (h : impl_taken_d r = some y) : r = ⟨(.tp [(.sc (.v (.int .i64 y.1))), (.sc (.v (.int .i64 y.2.1))), (.sc (.v (.int .i64 y.2.2)))]), []⟩ := by
 unfold impl_taken_d at h; split at h
 · cases h; rfl
 · cases h
theorem impl_taken_e (k : Nat) (first : Int) (second : Int) (n : Int) : callF env (impl_taken_O k) impl_taken_v Try.f123 (k + 1) (impl_taken_A first second n) (fun r => impl_taken_d (r.fin 0 [])) = impl_taken k first second n := by kernel_rfl
noncomputable def impl_taken_x (k : Nat) : Ent1 := fun A R Q => match A with
 | ⟨[(.sc (.v (.int .i64 a1))), (.sc (.v (.int .i64 a2))), (.sc (.v (.int .i64 a3)))], []⟩ => (impl_taken k a1 a2 a3).bind fun y => Q ⟨(.tp [(.sc (.v (.int .i64 y.1))), (.sc (.v (.int .i64 y.2.1))), (.sc (.v (.int .i64 y.2.2)))]), []⟩
 | _ => none
theorem impl_taken_ok (k : Nat) : OkE Try.prog 123 (impl_taken_x k) := by
 intro A R Q x h
 unfold impl_taken_x at h
 split at h
 · obtain ⟨y, hy, hK⟩ := Option.bind_eq_some_iff.1 h
   obtain ⟨r, hr, hd⟩ := callF_ok envOk (impl_taken_Ok k) follows Try.func123 (by kernel_rfl) ((impl_taken_e k _ _ _).trans hy)
   exact ⟨_, impl_taken_i hd ▸ hr.fin [], hK⟩
 · cases h
/-! ### impl.SellFresh: function 116 -/
noncomputable def impl_SellFresh (k : Nat)  (r : Rack) (n : Int) : Option (Rack × Int) :=
 (impl_RackOk k r).bind fun y1 =>
 cond (!y1)
  (some (r, (-1)))
  ((impl_in k n 0 10000).bind fun y2 =>
   cond (!y2)
    (some (r, (-1)))
    ((impl_taken k r.Fresh r.Day n).bind fun y3 =>
     some ((⟨y3.1, y3.2.1, r.Old⟩ : Rack), y3.2.2)))
noncomputable def impl_SellFresh_v : Nat → List Nat := fun t => match t with | _ => []
noncomputable def impl_SellFresh_O (k : Nat) : Oracle := ofL [(115, impl_RackOk_x k), (123, impl_taken_x k), (71, impl_in_x k)]
theorem impl_SellFresh_Ok (k : Nat) : OkO (Ct Try.prog) (impl_SellFresh_O k) := okO_cons (impl_RackOk_ok k) (okO_cons (impl_taken_ok k) (okO_cons (impl_in_ok k) (okO_nil)))
noncomputable def impl_SellFresh_A (r : Rack) (n : Int) : Pk := ⟨[(.ag [(.v (.int .i64 r.Fresh)), (.v (.int .i64 r.Day)), (.v (.int .i64 r.Old))]), (.sc (.v (.int .i64 n)))], []⟩
noncomputable def impl_SellFresh_d : Rs → Option (Rack × Int)
 | ⟨(.tp [(.ag [(.v (.int .i64 r1)), (.v (.int .i64 r2)), (.v (.int .i64 r3))]), (.sc (.v (.int .i64 r4)))]), []⟩ => some ((⟨r1, r2, r3⟩ : Rack), r4)
 | _ => none
theorem impl_SellFresh_i {r : Rs} {y : Rack × Int} (h : impl_SellFresh_d r = some y) : r = ⟨(.tp [(.ag [(.v (.int .i64 y.1.Fresh)), (.v (.int .i64 y.1.Day)), (.v (.int .i64 y.1.Old))]), (.sc (.v (.int .i64 y.2)))]), []⟩ := by
 unfold impl_SellFresh_d at h; split at h
 · cases h; rfl
 · cases h
theorem impl_SellFresh_e (k : Nat) (r : Rack) (n : Int) : callF env (impl_SellFresh_O k) impl_SellFresh_v Try.f116 (k + 1) (impl_SellFresh_A r n) (fun r => impl_SellFresh_d (r.fin 0 [])) = impl_SellFresh k r n := by kernel_rfl
noncomputable def impl_SellFresh_x (k : Nat) : Ent1 := fun A R Q => match A with
 | ⟨[(.ag [(.v (.int .i64 a1)), (.v (.int .i64 a2)), (.v (.int .i64 a3))]), (.sc (.v (.int .i64 a4)))], []⟩ => (impl_SellFresh k (⟨a1, a2, a3⟩ : Rack) a4).bind fun y => Q ⟨(.tp [(.ag [(.v (.int .i64 y.1.Fresh)), (.v (.int .i64 y.1.Day)), (.v (.int .i64 y.1.Old))]), (.sc (.v (.int .i64 y.2)))]), []⟩
 | _ => none
theorem impl_SellFresh_ok (k : Nat) : OkE Try.prog 116 (impl_SellFresh_x k) := by
 intro A R Q x h
 unfold impl_SellFresh_x at h
 split at h
 · obtain ⟨y, hy, hK⟩ := Option.bind_eq_some_iff.1 h
   obtain ⟨r, hr, hd⟩ := callF_ok envOk (impl_SellFresh_Ok k) follows Try.func116 (by kernel_rfl) ((impl_SellFresh_e k _ _).trans hy)
   exact ⟨_, impl_SellFresh_i hd ▸ hr.fin [], hK⟩
 · cases h
/-! ### impl.SellCheap: function 117 -/
noncomputable def impl_SellCheap (k : Nat)  (r : Rack) (n : Int) : Option (Rack × Int) :=
 (impl_RackOk k r).bind fun y1 =>
 cond (!y1)
  (some (r, (-1)))
  ((impl_in k n 0 10000).bind fun y2 =>
   cond (!y2)
    (some (r, (-1)))
    ((impl_taken k r.Old r.Day n).bind fun y3 =>
     some ((⟨r.Fresh, y3.2.1, y3.1⟩ : Rack), y3.2.2)))
noncomputable def impl_SellCheap_v : Nat → List Nat := fun t => match t with | _ => []
noncomputable def impl_SellCheap_O (k : Nat) : Oracle := ofL [(115, impl_RackOk_x k), (123, impl_taken_x k), (71, impl_in_x k)]
theorem impl_SellCheap_Ok (k : Nat) : OkO (Ct Try.prog) (impl_SellCheap_O k) := okO_cons (impl_RackOk_ok k) (okO_cons (impl_taken_ok k) (okO_cons (impl_in_ok k) (okO_nil)))
noncomputable def impl_SellCheap_A (r : Rack) (n : Int) : Pk := ⟨[(.ag [(.v (.int .i64 r.Fresh)), (.v (.int .i64 r.Day)), (.v (.int .i64 r.Old))]), (.sc (.v (.int .i64 n)))], []⟩
noncomputable def impl_SellCheap_d : Rs → Option (Rack × Int)
 | ⟨(.tp [(.ag [(.v (.int .i64 r1)), (.v (.int .i64 r2)), (.v (.int .i64 r3))]), (.sc (.v (.int .i64 r4)))]), []⟩ => some ((⟨r1, r2, r3⟩ : Rack), r4)
 | _ => none
theorem impl_SellCheap_i {r : Rs} {y : Rack × Int} (h : impl_SellCheap_d r = some y) : r = ⟨(.tp [(.ag [(.v (.int .i64 y.1.Fresh)), (.v (.int .i64 y.1.Day)), (.v (.int .i64 y.1.Old))]), (.sc (.v (.int .i64 y.2)))]), []⟩ := by
 unfold impl_SellCheap_d at h; split at h
 · cases h; rfl
 · cases h
theorem impl_SellCheap_e (k : Nat) (r : Rack) (n : Int) : callF env (impl_SellCheap_O k) impl_SellCheap_v Try.f117 (k + 1) (impl_SellCheap_A r n) (fun r => impl_SellCheap_d (r.fin 0 [])) = impl_SellCheap k r n := by kernel_rfl
noncomputable def impl_SellCheap_x (k : Nat) : Ent1 := fun A R Q => match A with
 | ⟨[(.ag [(.v (.int .i64 a1)), (.v (.int .i64 a2)), (.v (.int .i64 a3))]), (.sc (.v (.int .i64 a4)))], []⟩ => (impl_SellCheap k (⟨a1, a2, a3⟩ : Rack) a4).bind fun y => Q ⟨(.tp [(.ag [(.v (.int .i64 y.1.Fresh)), (.v (.int .i64 y.1.Day)), (.v (.int .i64 y.1.Old))]), (.sc (.v (.int .i64 y.2)))]), []⟩
 | _ => none
theorem impl_SellCheap_ok (k : Nat) : OkE Try.prog 117 (impl_SellCheap_x k) := by
 intro A R Q x h
 unfold impl_SellCheap_x at h
 split at h
 · obtain ⟨y, hy, hK⟩ := Option.bind_eq_some_iff.1 h
   obtain ⟨r, hr, hd⟩ := callF_ok envOk (impl_SellCheap_Ok k) follows Try.func117 (by kernel_rfl) ((impl_SellCheap_e k _ _).trans hy)
   exact ⟨_, impl_SellCheap_i hd ▸ hr.fin [], hK⟩
 · cases h
/-! ### impl.NextMorning: function 118 -/
noncomputable def impl_NextMorning (k : Nat)  (r : Rack) (baked : Int) : Option (Rack × Int) :=
 (impl_RackOk k r).bind fun y1 =>
 cond (!y1)
  (some (r, (-1)))
  ((impl_in k baked 0 10000).bind fun y2 =>
   cond (!y2)
    (some (r, (-1)))
    (some ((⟨baked, r.Fresh, r.Day⟩ : Rack), r.Old)))
noncomputable def impl_NextMorning_v : Nat → List Nat := fun t => match t with | _ => []
noncomputable def impl_NextMorning_O (k : Nat) : Oracle := ofL [(115, impl_RackOk_x k), (71, impl_in_x k)]
theorem impl_NextMorning_Ok (k : Nat) : OkO (Ct Try.prog) (impl_NextMorning_O k) := okO_cons (impl_RackOk_ok k) (okO_cons (impl_in_ok k) (okO_nil))
noncomputable def impl_NextMorning_A (r : Rack) (baked : Int) : Pk := ⟨[(.ag [(.v (.int .i64 r.Fresh)), (.v (.int .i64 r.Day)), (.v (.int .i64 r.Old))]), (.sc (.v (.int .i64 baked)))], []⟩
noncomputable def impl_NextMorning_d : Rs → Option (Rack × Int)
 | ⟨(.tp [(.ag [(.v (.int .i64 r1)), (.v (.int .i64 r2)), (.v (.int .i64 r3))]), (.sc (.v (.int .i64 r4)))]), []⟩ => some ((⟨r1, r2, r3⟩ : Rack), r4)
 | _ => none
theorem impl_NextMorning_i {r : Rs} {y : Rack × Int} (h : impl_NextMorning_d r = some y) : r = ⟨(.tp [(.ag [(.v (.int .i64 y.1.Fresh)), (.v (.int .i64 y.1.Day)), (.v (.int .i64 y.1.Old))]), (.sc (.v (.int .i64 y.2)))]), []⟩ := by
 unfold impl_NextMorning_d at h; split at h
 · cases h; rfl
 · cases h
theorem impl_NextMorning_e (k : Nat) (r : Rack) (baked : Int) : callF env (impl_NextMorning_O k) impl_NextMorning_v Try.f118 (k + 1) (impl_NextMorning_A r baked) (fun r => impl_NextMorning_d (r.fin 0 [])) = impl_NextMorning k r baked := by kernel_rfl
noncomputable def impl_NextMorning_x (k : Nat) : Ent1 := fun A R Q => match A with
 | ⟨[(.ag [(.v (.int .i64 a1)), (.v (.int .i64 a2)), (.v (.int .i64 a3))]), (.sc (.v (.int .i64 a4)))], []⟩ => (impl_NextMorning k (⟨a1, a2, a3⟩ : Rack) a4).bind fun y => Q ⟨(.tp [(.ag [(.v (.int .i64 y.1.Fresh)), (.v (.int .i64 y.1.Day)), (.v (.int .i64 y.1.Old))]), (.sc (.v (.int .i64 y.2)))]), []⟩
 | _ => none
theorem impl_NextMorning_ok (k : Nat) : OkE Try.prog 118 (impl_NextMorning_x k) := by
 intro A R Q x h
 unfold impl_NextMorning_x at h
 split at h
 · obtain ⟨y, hy, hK⟩ := Option.bind_eq_some_iff.1 h
   obtain ⟨r, hr, hd⟩ := callF_ok envOk (impl_NextMorning_Ok k) follows Try.func118 (by kernel_rfl) ((impl_NextMorning_e k _ _).trans hy)
   exact ⟨_, impl_NextMorning_i hd ▸ hr.fin [], hK⟩
 · cases h
/-! ### impl.EventOn: function 96 -/
noncomputable def impl_EventOn (k : Nat)  (p0 : Rack) (p1 : Event) : Option (Rack × Int × Int × Int × Bool) :=
 (impl_RackOk k p0).bind fun y1 =>
 cond (!y1)
  (some (p0, 0, 0, 0, false))
  ((impl_in k p1.Loaves 0 1000).bind fun y2 =>
   cond (!y2)
    (some (p0, 0, 0, 0, false))
    (cond (decide ((p1.Kind : Int) = 1))
     ((impl_RackOk k (⟨(wr (p0.Fresh + p1.Loaves)), p0.Day, p0.Old⟩ : Rack)).bind fun y3 =>
      cond (!y3)
       (some (p0, 0, 0, 0, false))
       (some ((⟨(wr (p0.Fresh + p1.Loaves)), p0.Day, p0.Old⟩ : Rack), p1.Loaves, 0, 0, true)))
     (cond (decide ((p1.Kind : Int) = 2))
      ((impl_SellFresh k p0 p1.Loaves).bind fun y4 =>
       cond (!(decide ((y4.2 : Int) = p1.Loaves)))
        (some (p0, 0, 0, 0, false))
        ((impl_RackOk k y4.1).bind fun y5 =>
        cond (!y5)
        (some (p0, 0, 0, 0, false))
        (some (y4.1, 0, y4.2, 0, true))))
      (cond (decide ((p1.Kind : Int) = 3))
       ((impl_SellCheap k p0 p1.Loaves).bind fun y6 =>
        cond (!(decide ((y6.2 : Int) = p1.Loaves)))
        (some (p0, 0, 0, 0, false))
        ((impl_RackOk k y6.1).bind fun y7 =>
        cond (!y7)
        (some (p0, 0, 0, 0, false))
        (some (y6.1, 0, y6.2, 0, true))))
       (cond (decide ((p1.Kind : Int) = 4))
        ((impl_NextMorning k p0 0).bind fun y8 =>
        cond (!(decide ((p1.Loaves : Int) = 0)))
        (some (p0, 0, 0, 0, false))
        ((impl_RackOk k y8.1).bind fun y9 =>
        cond (!y9)
        (some (p0, 0, 0, 0, false))
        (some (y8.1, 0, 0, y8.2, true))))
        (some (p0, 0, 0, 0, false)))))))
noncomputable def impl_EventOn_v : Nat → List Nat := fun t => match t with | _ => []
noncomputable def impl_EventOn_O (k : Nat) : Oracle := ofL [(115, impl_RackOk_x k), (116, impl_SellFresh_x k), (117, impl_SellCheap_x k), (118, impl_NextMorning_x k), (71, impl_in_x k)]
theorem impl_EventOn_Ok (k : Nat) : OkO (Ct Try.prog) (impl_EventOn_O k) := okO_cons (impl_RackOk_ok k) (okO_cons (impl_SellFresh_ok k) (okO_cons (impl_SellCheap_ok k) (okO_cons (impl_NextMorning_ok k) (okO_cons (impl_in_ok k) (okO_nil)))))
noncomputable def impl_EventOn_A (p0 : Rack) (p1 : Event) : Pk := ⟨[(.ag [(.v (.int .i64 p0.Fresh)), (.v (.int .i64 p0.Day)), (.v (.int .i64 p0.Old))]), (.ag [(.v (.int .i64 p1.Kind)), (.v (.int .i64 p1.Loaves))])], []⟩
noncomputable def impl_EventOn_d : Rs → Option (Rack × Int × Int × Int × Bool)
 | ⟨(.tp [(.ag [(.v (.int .i64 r1)), (.v (.int .i64 r2)), (.v (.int .i64 r3))]), (.sc (.v (.int .i64 r4))), (.sc (.v (.int .i64 r5))), (.sc (.v (.int .i64 r6))), (.sc (.v (.bool r7)))]), []⟩ => some ((⟨r1, r2, r3⟩ : Rack), r4, r5, r6, r7)
 | _ => none
theorem impl_EventOn_i {r : Rs} {y : Rack × Int × Int × Int × Bool} (h : impl_EventOn_d r = some y) : r = ⟨(.tp [(.ag [(.v (.int .i64 y.1.Fresh)), (.v (.int .i64 y.1.Day)), (.v (.int .i64 y.1.Old))]), (.sc (.v (.int .i64 y.2.1))), (.sc (.v (.int .i64 y.2.2.1))), (.sc (.v (.int .i64 y.2.2.2.1))), (.sc (.v (.bool y.2.2.2.2)))]), []⟩ := by
 unfold impl_EventOn_d at h; split at h
 · cases h; rfl
 · cases h
theorem impl_EventOn_e (k : Nat) (p0 : Rack) (p1 : Event) : callF env (impl_EventOn_O k) impl_EventOn_v Try.f96 (k + 1) (impl_EventOn_A p0 p1) (fun r => impl_EventOn_d (r.fin 0 [])) = impl_EventOn k p0 p1 := by kernel_rfl
noncomputable def impl_EventOn_x (k : Nat) : Ent1 := fun A R Q => match A with
 | ⟨[(.ag [(.v (.int .i64 a1)), (.v (.int .i64 a2)), (.v (.int .i64 a3))]), (.ag [(.v (.int .i64 a4)), (.v (.int .i64 a5))])], []⟩ => (impl_EventOn k (⟨a1, a2, a3⟩ : Rack) (⟨a4, a5⟩ : Event)).bind fun y => Q ⟨(.tp [(.ag [(.v (.int .i64 y.1.Fresh)), (.v (.int .i64 y.1.Day)), (.v (.int .i64 y.1.Old))]), (.sc (.v (.int .i64 y.2.1))), (.sc (.v (.int .i64 y.2.2.1))), (.sc (.v (.int .i64 y.2.2.2.1))), (.sc (.v (.bool y.2.2.2.2)))]), []⟩
 | _ => none
theorem impl_EventOn_ok (k : Nat) : OkE Try.prog 96 (impl_EventOn_x k) := by
 intro A R Q x h
 unfold impl_EventOn_x at h
 split at h
 · obtain ⟨y, hy, hK⟩ := Option.bind_eq_some_iff.1 h
   obtain ⟨r, hr, hd⟩ := callF_ok envOk (impl_EventOn_Ok k) follows Try.func96 (by kernel_rfl) ((impl_EventOn_e k _ _).trans hy)
   exact ⟨_, impl_EventOn_i hd ▸ hr.fin [], hK⟩
 · cases h
/-! ### impl.counted: function 57 -/
noncomputable def impl_counted_s0 (k : Nat)  (events : (List Event)) (J : Int → Int → Int → Int → Int → Int → Int → Option (Book × Bool)) (x0_0 : Int) (x0_1 : Int) (x0_2 : Int) (x0_3 : Int) (x0_4 : Int) (x0_5 : Int) (x0_6 : Int) : Option (Book × Bool) :=
 cond (decide ((x0_0 : Int) < ((events).length : Int)))
 (if 0 ≤ (x0_0 : Int) ∧ (x0_0 : Int) < ((events).length : Int) then
  (impl_EventOn k (⟨x0_1, x0_2, x0_3⟩ : Rack) (events.getD (Int.toNat x0_0) dk_impl_Event)).bind fun y2 =>
   cond (!y2.2.2.2.2)
    (some ((⟨[], (⟨0, 0, 0⟩ : Rack), 0, 0, 0⟩ : Book), false))
    (J (wr (x0_0 + 1)) y2.1.Fresh y2.1.Day y2.1.Old (wr (x0_4 + y2.2.1)) (wr (x0_5 + y2.2.2.1)) (wr (x0_6 + y2.2.2.2.1))) else none)
 (some ((⟨([] ++ events), (⟨x0_1, x0_2, x0_3⟩ : Rack), x0_4, x0_5, x0_6⟩ : Book), (decide ((((events).length : Int) : Int) ≤ 40))))
noncomputable def impl_counted_l0 (k : Nat) : Nat → (List Event) → Int → Int → Int → Int → Int → Int → Int → Option (Book × Bool)
 | 0, events, x0_0, x0_1, x0_2, x0_3, x0_4, x0_5, x0_6 => impl_counted_s0 k events (fun _ _ _ _ _ _ _ => none) x0_0 x0_1 x0_2 x0_3 x0_4 x0_5 x0_6
 | m + 1, events, x0_0, x0_1, x0_2, x0_3, x0_4, x0_5, x0_6 => impl_counted_s0 k events (impl_counted_l0 k m events) x0_0 x0_1 x0_2 x0_3 x0_4 x0_5 x0_6
noncomputable def impl_counted_m (k : Nat) (J0 : (List Event) → Int → Int → Int → Int → Int → Int → Int → Option (Book × Bool)) (events : (List Event)) : Option (Book × Bool) :=
 if ([] : List Event).length + (events : List Event).length ≤ maxRow then
 J0 events 0 0 0 0 0 0 0 else none
noncomputable def impl_counted (k : Nat) (events : (List Event)) : Option (Book × Bool) := impl_counted_m k (impl_counted_l0 k k) events
noncomputable def impl_counted_v : Nat → List Nat := fun t => match t with | 3 => [0, 2, 3, 4, 16, 17, 18] | _ => []
noncomputable def impl_counted_O (k : Nat) : Oracle := ofL [(96, impl_EventOn_x k)]
theorem impl_counted_Ok (k : Nat) : OkO (Ct Try.prog) (impl_counted_O k) := okO_cons (impl_EventOn_ok k) (okO_nil)
noncomputable def impl_counted_A (events : (List Event)) : Pk := ⟨[(.sc (.sl 0))], [(.row false K.k_impl_Event events)]⟩
noncomputable def impl_counted_d : Rs → Option (Book × Bool)
 | ⟨(.tp [(.ag [(.sl 1), (.v (.int .i64 r2)), (.v (.int .i64 r3)), (.v (.int .i64 r4)), (.v (.int .i64 r5)), (.v (.int .i64 r6)), (.v (.int .i64 r7))]), (.sc (.v (.bool r8)))]), [.dead, (.row true K.k_impl_Event r1)]⟩ => some ((⟨r1, (⟨r2, r3, r4⟩ : Rack), r5, r6, r7⟩ : Book), r8)
 | _ => none
theorem impl_counted_i {r : Rs} {y : Book × Bool} (h : impl_counted_d r = some y) : r = ⟨(.tp [(.ag [(.sl 1), (.v (.int .i64 y.1.Rack.Fresh)), (.v (.int .i64 y.1.Rack.Day)), (.v (.int .i64 y.1.Rack.Old)), (.v (.int .i64 y.1.Baked)), (.v (.int .i64 y.1.Sold)), (.v (.int .i64 y.1.Thrown))]), (.sc (.v (.bool y.2)))]), [.dead, (.row true K.k_impl_Event y.1.Events)]⟩ := by
 unfold impl_counted_d at h; split at h
 · cases h; rfl
 · cases h
noncomputable def impl_counted_h0 (k m : Nat) (events : (List Event)) (x0_0 : Int) (x0_1 : Int) (x0_2 : Int) (x0_3 : Int) (x0_4 : Int) (x0_5 : Int) (x0_6 : Int) : Option (Book × Bool) := hdAt env (impl_counted_O k) impl_counted_v Try.f57 1 (fun r => impl_counted_d (r.fin 1 [])) [1, 1, 0, 1, 0] k m ⟨tmF [0, 2, 3, 4, 16, 17, 18] [(.a (.sc (.sl 0))), (.a (.sc (.bp 2 0))), (.a (.sc (.v (.bool false)))), (.a (.sc (.bp 4 0))), (.a (.sc (.sl 0))), (.a (.sc (.v (.int .i64 ((events).length : Int))))), (.a (.sc (.v (.int .i64 x0_0))))], blF [(.row false K.k_impl_Event events), (.row true K.k_impl_Event []), (.box true [(.sl 1), (.v (.int .i64 0)), (.v (.int .i64 0)), (.v (.int .i64 0)), (.v (.int .i64 0)), (.v (.int .i64 0)), (.v (.int .i64 0))]), (.row true K.k_impl_Event ([] ++ events)), (.box true [(.sl 3), (.v (.int .i64 x0_1)), (.v (.int .i64 x0_2)), (.v (.int .i64 x0_3)), (.v (.int .i64 x0_4)), (.v (.int .i64 x0_5)), (.v (.int .i64 x0_6))])]⟩
theorem impl_counted_z0 (k : Nat) (events : (List Event)) (x0_0 : Int) (x0_1 : Int) (x0_2 : Int) (x0_3 : Int) (x0_4 : Int) (x0_5 : Int) (x0_6 : Int) : impl_counted_h0 k 0 events x0_0 x0_1 x0_2 x0_3 x0_4 x0_5 x0_6 = impl_counted_s0 k events (fun _ _ _ _ _ _ _ => none) x0_0 x0_1 x0_2 x0_3 x0_4 x0_5 x0_6 := by kernel_rfl
theorem impl_counted_g0 (k : Nat) (H : St → Option (Book × Bool)) (events : (List Event)) (x0_0 : Int) (x0_1 : Int) (x0_2 : Int) (x0_3 : Int) (x0_4 : Int) (x0_5 : Int) (x0_6 : Int) : rnd env (impl_counted_O k) impl_counted_v Try.f57 1 (fun r => impl_counted_d (r.fin 1 [])) [1, 1, 0, 1, 0] k H ⟨tmF [0, 2, 3, 4, 16, 17, 18] [(.a (.sc (.sl 0))), (.a (.sc (.bp 2 0))), (.a (.sc (.v (.bool false)))), (.a (.sc (.bp 4 0))), (.a (.sc (.sl 0))), (.a (.sc (.v (.int .i64 ((events).length : Int))))), (.a (.sc (.v (.int .i64 x0_0))))], blF [(.row false K.k_impl_Event events), (.row true K.k_impl_Event []), (.box true [(.sl 1), (.v (.int .i64 0)), (.v (.int .i64 0)), (.v (.int .i64 0)), (.v (.int .i64 0)), (.v (.int .i64 0)), (.v (.int .i64 0))]), (.row true K.k_impl_Event ([] ++ events)), (.box true [(.sl 3), (.v (.int .i64 x0_1)), (.v (.int .i64 x0_2)), (.v (.int .i64 x0_3)), (.v (.int .i64 x0_4)), (.v (.int .i64 x0_5)), (.v (.int .i64 x0_6))])]⟩ = impl_counted_s0 k events (fun x0_0 x0_1 x0_2 x0_3 x0_4 x0_5 x0_6 => H ⟨tmF [0, 2, 3, 4, 16, 17, 18] [(.a (.sc (.sl 0))), (.a (.sc (.bp 2 0))), (.a (.sc (.v (.bool false)))), (.a (.sc (.bp 4 0))), (.a (.sc (.sl 0))), (.a (.sc (.v (.int .i64 ((events).length : Int))))), (.a (.sc (.v (.int .i64 x0_0))))], blF [(.row false K.k_impl_Event events), (.row true K.k_impl_Event []), (.box true [(.sl 1), (.v (.int .i64 0)), (.v (.int .i64 0)), (.v (.int .i64 0)), (.v (.int .i64 0)), (.v (.int .i64 0)), (.v (.int .i64 0))]), (.row true K.k_impl_Event ([] ++ events)), (.box true [(.sl 3), (.v (.int .i64 x0_1)), (.v (.int .i64 x0_2)), (.v (.int .i64 x0_3)), (.v (.int .i64 x0_4)), (.v (.int .i64 x0_5)), (.v (.int .i64 x0_6))])]⟩) x0_0 x0_1 x0_2 x0_3 x0_4 x0_5 x0_6 := by kernel_rfl
theorem impl_counted_n0 (k m : Nat) (events : (List Event)) (x0_0 : Int) (x0_1 : Int) (x0_2 : Int) (x0_3 : Int) (x0_4 : Int) (x0_5 : Int) (x0_6 : Int) : impl_counted_h0 k (m + 1) events x0_0 x0_1 x0_2 x0_3 x0_4 x0_5 x0_6 = impl_counted_s0 k events (impl_counted_h0 k m events) x0_0 x0_1 x0_2 x0_3 x0_4 x0_5 x0_6 := (hdAt_succ _ _ _ _ _ _ _ _ _ _).trans (impl_counted_g0 k _ events x0_0 x0_1 x0_2 x0_3 x0_4 x0_5 x0_6)
theorem impl_counted_q0 (k : Nat) : ∀ m, impl_counted_h0 k m = impl_counted_l0 k m := by
 intro m
 induction m with
 | zero => funext events x0_0 x0_1 x0_2 x0_3 x0_4 x0_5 x0_6; rw [impl_counted_z0]; rfl
 | succ m ih => funext events x0_0 x0_1 x0_2 x0_3 x0_4 x0_5 x0_6; rw [impl_counted_n0, ih]; rfl
theorem impl_counted_e (k : Nat) (events : (List Event)) : callF env (impl_counted_O k) impl_counted_v Try.f57 (k + 1) (impl_counted_A events) (fun r => impl_counted_d (r.fin 1 [])) = impl_counted k events := by
 have e : callF env (impl_counted_O k) impl_counted_v Try.f57 (k + 1) (impl_counted_A events) (fun r => impl_counted_d (r.fin 1 [])) = impl_counted_m k (impl_counted_h0 k k) events := by kernel_rfl
 rw [e, impl_counted_q0]; rfl
noncomputable def impl_counted_x (k : Nat) : Ent1 := fun A R Q => match A with
 | ⟨[(.sc (.sl 0))], [(.row false K.k_impl_Event a1)]⟩ => (impl_counted k a1).bind fun y => Q ⟨(.tp [(.ag [(.sl 1), (.v (.int .i64 y.1.Rack.Fresh)), (.v (.int .i64 y.1.Rack.Day)), (.v (.int .i64 y.1.Rack.Old)), (.v (.int .i64 y.1.Baked)), (.v (.int .i64 y.1.Sold)), (.v (.int .i64 y.1.Thrown))]), (.sc (.v (.bool y.2)))]), [.dead, (.row true K.k_impl_Event y.1.Events)]⟩
 | _ => none
theorem impl_counted_ok (k : Nat) : OkE Try.prog 57 (impl_counted_x k) := by
 intro A R Q x h
 unfold impl_counted_x at h
 split at h
 · obtain ⟨y, hy, hK⟩ := Option.bind_eq_some_iff.1 h
   obtain ⟨r, hr, hd⟩ := callF_ok envOk (impl_counted_Ok k) follows Try.func57 (by kernel_rfl) ((impl_counted_e k _).trans hy)
   exact ⟨_, impl_counted_i hd ▸ hr.fin [], hK⟩
 · cases h
/-! ### impl.BookOk: function 55 -/
noncomputable def impl_BookOk (k : Nat)  (b : Book) : Option (Bool) :=
 (impl_counted k b.Events).bind fun y1 =>
 cond y1.2
  (cond (decide ((y1.1.Rack.Fresh : Int) = b.Rack.Fresh) && (decide ((y1.1.Rack.Day : Int) = b.Rack.Day) && decide ((y1.1.Rack.Old : Int) = b.Rack.Old)))
   (cond (decide ((y1.1.Baked : Int) = b.Baked))
    (cond (decide ((y1.1.Sold : Int) = b.Sold))
     (some (decide ((y1.1.Thrown : Int) = b.Thrown)))
     (some false))
    (some false))
   (some false))
  (some false)
noncomputable def impl_BookOk_v : Nat → List Nat := fun t => match t with | _ => []
noncomputable def impl_BookOk_O (k : Nat) : Oracle := ofL [(57, impl_counted_x k)]
theorem impl_BookOk_Ok (k : Nat) : OkO (Ct Try.prog) (impl_BookOk_O k) := okO_cons (impl_counted_ok k) (okO_nil)
noncomputable def impl_BookOk_A (b : Book) : Pk := ⟨[(.ag [(.sl 0), (.v (.int .i64 b.Rack.Fresh)), (.v (.int .i64 b.Rack.Day)), (.v (.int .i64 b.Rack.Old)), (.v (.int .i64 b.Baked)), (.v (.int .i64 b.Sold)), (.v (.int .i64 b.Thrown))])], [(.row false K.k_impl_Event b.Events)]⟩
noncomputable def impl_BookOk_d : Rs → Option (Bool)
 | ⟨(.a (.sc (.v (.bool r1)))), [.dead]⟩ => some r1
 | _ => none
theorem impl_BookOk_i {r : Rs} {y : Bool} (h : impl_BookOk_d r = some y) : r = ⟨(.a (.sc (.v (.bool y)))), [.dead]⟩ := by
 unfold impl_BookOk_d at h; split at h
 · cases h; rfl
 · cases h
theorem impl_BookOk_e (k : Nat) (b : Book) : callF env (impl_BookOk_O k) impl_BookOk_v Try.f55 (k + 1) (impl_BookOk_A b) (fun r => impl_BookOk_d (r.fin 1 [])) = impl_BookOk k b := by kernel_rfl
noncomputable def impl_BookOk_x (k : Nat) : Ent1 := fun A R Q => match A with
 | ⟨[(.ag [(.sl 0), (.v (.int .i64 a2)), (.v (.int .i64 a3)), (.v (.int .i64 a4)), (.v (.int .i64 a5)), (.v (.int .i64 a6)), (.v (.int .i64 a7))])], [(.row false K.k_impl_Event a1)]⟩ => (impl_BookOk k (⟨a1, (⟨a2, a3, a4⟩ : Rack), a5, a6, a7⟩ : Book)).bind fun y => Q ⟨(.a (.sc (.v (.bool y)))), [.dead]⟩
 | _ => none
theorem impl_BookOk_ok (k : Nat) : OkE Try.prog 55 (impl_BookOk_x k) := by
 intro A R Q x h
 unfold impl_BookOk_x at h
 split at h
 · obtain ⟨y, hy, hK⟩ := Option.bind_eq_some_iff.1 h
   obtain ⟨r, hr, hd⟩ := callF_ok envOk (impl_BookOk_Ok k) follows Try.func55 (by kernel_rfl) ((impl_BookOk_e k _).trans hy)
   exact ⟨_, impl_BookOk_i hd ▸ hr.fin [], hK⟩
 · cases h
/-! ### impl.BakeryOk: function 26 -/
noncomputable def impl_BakeryOk (k : Nat)  (b : Bakery) : Option (Bool) :=
 (impl_StoreOk k b.Stock).bind fun y1 =>
 cond y1
  ((impl_DoughOk k b.Dough).bind fun y2 =>
   cond y2
    ((impl_LoafOk k b.Loaf).bind fun y3 =>
     cond y3
      ((impl_BookOk k b.Book).bind fun y4 =>
       cond y4
        ((impl_in k b.Money 0 1000000).bind fun y5 =>
        some y5)
        (some false))
      (some false))
    (some false))
  (some false)
noncomputable def impl_BakeryOk_v : Nat → List Nat := fun t => match t with | _ => []
noncomputable def impl_BakeryOk_O (k : Nat) : Oracle := ofL [(55, impl_BookOk_x k), (68, impl_StoreOk_x k), (69, impl_DoughOk_x k), (70, impl_LoafOk_x k), (71, impl_in_x k)]
theorem impl_BakeryOk_Ok (k : Nat) : OkO (Ct Try.prog) (impl_BakeryOk_O k) := okO_cons (impl_BookOk_ok k) (okO_cons (impl_StoreOk_ok k) (okO_cons (impl_DoughOk_ok k) (okO_cons (impl_LoafOk_ok k) (okO_cons (impl_in_ok k) (okO_nil)))))
noncomputable def impl_BakeryOk_A (b : Bakery) : Pk := ⟨[(.ag [(.sl 0), (.v (.int .i64 b.Dough.Water)), (.v (.int .i64 b.Dough.Salt)), (.v (.int .i64 b.Dough.Leaven)), (.v (.int .i64 b.Loaf.Weight)), (.v (.int .i64 b.Loaf.Loss)), (.sl 1), (.v (.int .i64 b.Book.Rack.Fresh)), (.v (.int .i64 b.Book.Rack.Day)), (.v (.int .i64 b.Book.Rack.Old)), (.v (.int .i64 b.Book.Baked)), (.v (.int .i64 b.Book.Sold)), (.v (.int .i64 b.Book.Thrown)), (.v (.int .i64 b.Money))])], [(.row false K.ki64 b.Stock.Grams), (.row false K.k_impl_Event b.Book.Events)]⟩
noncomputable def impl_BakeryOk_d : Rs → Option (Bool)
 | ⟨(.a (.sc (.v (.bool r1)))), [.dead, .dead]⟩ => some r1
 | _ => none
theorem impl_BakeryOk_i {r : Rs} {y : Bool} (h : impl_BakeryOk_d r = some y) : r = ⟨(.a (.sc (.v (.bool y)))), [.dead, .dead]⟩ := by
 unfold impl_BakeryOk_d at h; split at h
 · cases h; rfl
 · cases h
theorem impl_BakeryOk_e (k : Nat) (b : Bakery) : callF env (impl_BakeryOk_O k) impl_BakeryOk_v Try.f26 (k + 1) (impl_BakeryOk_A b) (fun r => impl_BakeryOk_d (r.fin 2 [])) = impl_BakeryOk k b := by kernel_rfl
noncomputable def impl_BakeryOk_x (k : Nat) : Ent1 := fun A R Q => match A with
 | ⟨[(.ag [(.sl 0), (.v (.int .i64 a2)), (.v (.int .i64 a3)), (.v (.int .i64 a4)), (.v (.int .i64 a5)), (.v (.int .i64 a6)), (.sl 1), (.v (.int .i64 a8)), (.v (.int .i64 a9)), (.v (.int .i64 a10)), (.v (.int .i64 a11)), (.v (.int .i64 a12)), (.v (.int .i64 a13)), (.v (.int .i64 a14))])], [(.row false K.ki64 a1), (.row false K.k_impl_Event a7)]⟩ => (impl_BakeryOk k (⟨(⟨a1⟩ : Stock), (⟨a2, a3, a4⟩ : Dough), (⟨a5, a6⟩ : Loaf), (⟨a7, (⟨a8, a9, a10⟩ : Rack), a11, a12, a13⟩ : Book), a14⟩ : Bakery)).bind fun y => Q ⟨(.a (.sc (.v (.bool y)))), [.dead, .dead]⟩
 | _ => none
theorem impl_BakeryOk_ok (k : Nat) : OkE Try.prog 26 (impl_BakeryOk_x k) := by
 intro A R Q x h
 unfold impl_BakeryOk_x at h
 split at h
 · obtain ⟨y, hy, hK⟩ := Option.bind_eq_some_iff.1 h
   obtain ⟨r, hr, hd⟩ := callF_ok envOk (impl_BakeryOk_Ok k) follows Try.func26 (by kernel_rfl) ((impl_BakeryOk_e k _).trans hy)
   exact ⟨_, impl_BakeryOk_i hd ▸ hr.fin [], hK⟩
 · cases h
/-! ### impl.Enter: function 22 -/
noncomputable def impl_Enter (k : Nat)  (b : Book) (e : Event) : Option (Book × Bool) :=
 (impl_BookOk k b).bind fun y1 =>
 cond (!y1)
  ((impl_bookCopy k b).bind fun y2 =>
   some (y2, false))
  ((impl_bookCopy k b).bind fun y3 =>
   if (y3.Events : List Event).length + ([e] : List Event).length ≤ maxRow then
    (impl_counted k (y3.Events ++ [e])).bind fun y4 =>
     cond (!y4.2)
      ((impl_bookCopy k b).bind fun y5 =>
       some (y5, false))
      (some (y4.1, true)) else none)
noncomputable def impl_Enter_v : Nat → List Nat := fun t => match t with | _ => []
noncomputable def impl_Enter_O (k : Nat) : Oracle := ofL [(55, impl_BookOk_x k), (56, impl_bookCopy_x k), (57, impl_counted_x k)]
theorem impl_Enter_Ok (k : Nat) : OkO (Ct Try.prog) (impl_Enter_O k) := okO_cons (impl_BookOk_ok k) (okO_cons (impl_bookCopy_ok k) (okO_cons (impl_counted_ok k) (okO_nil)))
noncomputable def impl_Enter_A (b : Book) (e : Event) : Pk := ⟨[(.ag [(.sl 0), (.v (.int .i64 b.Rack.Fresh)), (.v (.int .i64 b.Rack.Day)), (.v (.int .i64 b.Rack.Old)), (.v (.int .i64 b.Baked)), (.v (.int .i64 b.Sold)), (.v (.int .i64 b.Thrown))]), (.ag [(.v (.int .i64 e.Kind)), (.v (.int .i64 e.Loaves))])], [(.row false K.k_impl_Event b.Events)]⟩
noncomputable def impl_Enter_d : Rs → Option (Book × Bool)
 | ⟨(.tp [(.ag [(.sl 1), (.v (.int .i64 r2)), (.v (.int .i64 r3)), (.v (.int .i64 r4)), (.v (.int .i64 r5)), (.v (.int .i64 r6)), (.v (.int .i64 r7))]), (.sc (.v (.bool r8)))]), [.dead, (.row true K.k_impl_Event r1)]⟩ => some ((⟨r1, (⟨r2, r3, r4⟩ : Rack), r5, r6, r7⟩ : Book), r8)
 | _ => none
theorem impl_Enter_i {r : Rs} {y : Book × Bool} (h : impl_Enter_d r = some y) : r = ⟨(.tp [(.ag [(.sl 1), (.v (.int .i64 y.1.Rack.Fresh)), (.v (.int .i64 y.1.Rack.Day)), (.v (.int .i64 y.1.Rack.Old)), (.v (.int .i64 y.1.Baked)), (.v (.int .i64 y.1.Sold)), (.v (.int .i64 y.1.Thrown))]), (.sc (.v (.bool y.2)))]), [.dead, (.row true K.k_impl_Event y.1.Events)]⟩ := by
 unfold impl_Enter_d at h; split at h
 · cases h; rfl
 · cases h
theorem impl_Enter_e (k : Nat) (b : Book) (e : Event) : callF env (impl_Enter_O k) impl_Enter_v Try.f22 (k + 1) (impl_Enter_A b e) (fun r => impl_Enter_d (r.fin 1 [])) = impl_Enter k b e := by kernel_rfl
noncomputable def impl_Enter_x (k : Nat) : Ent1 := fun A R Q => match A with
 | ⟨[(.ag [(.sl 0), (.v (.int .i64 a2)), (.v (.int .i64 a3)), (.v (.int .i64 a4)), (.v (.int .i64 a5)), (.v (.int .i64 a6)), (.v (.int .i64 a7))]), (.ag [(.v (.int .i64 a8)), (.v (.int .i64 a9))])], [(.row false K.k_impl_Event a1)]⟩ => (impl_Enter k (⟨a1, (⟨a2, a3, a4⟩ : Rack), a5, a6, a7⟩ : Book) (⟨a8, a9⟩ : Event)).bind fun y => Q ⟨(.tp [(.ag [(.sl 1), (.v (.int .i64 y.1.Rack.Fresh)), (.v (.int .i64 y.1.Rack.Day)), (.v (.int .i64 y.1.Rack.Old)), (.v (.int .i64 y.1.Baked)), (.v (.int .i64 y.1.Sold)), (.v (.int .i64 y.1.Thrown))]), (.sc (.v (.bool y.2)))]), [.dead, (.row true K.k_impl_Event y.1.Events)]⟩
 | _ => none
theorem impl_Enter_ok (k : Nat) : OkE Try.prog 22 (impl_Enter_x k) := by
 intro A R Q x h
 unfold impl_Enter_x at h
 split at h
 · obtain ⟨y, hy, hK⟩ := Option.bind_eq_some_iff.1 h
   obtain ⟨r, hr, hd⟩ := callF_ok envOk (impl_Enter_Ok k) follows Try.func22 (by kernel_rfl) ((impl_Enter_e k _ _).trans hy)
   exact ⟨_, impl_Enter_i hd ▸ hr.fin [], hK⟩
 · cases h
/-! ### impl.Bakery).enter: function 85 -/
noncomputable def impl_Bakery_enter (k : Nat)  (b : Bakery) (e : Event) : Option (Bool × (List Int) × (List Event) × Bakery) :=
 (impl_Enter k b.Book e).bind fun y1 =>
 some (y1.2, b.Stock.Grams, b.Book.Events, (⟨b.Stock, b.Dough, b.Loaf, y1.1, b.Money⟩ : Bakery))
noncomputable def impl_Bakery_enter_v : Nat → List Nat := fun t => match t with | _ => []
noncomputable def impl_Bakery_enter_O (k : Nat) : Oracle := ofL [(22, impl_Enter_x k)]
theorem impl_Bakery_enter_Ok (k : Nat) : OkO (Ct Try.prog) (impl_Bakery_enter_O k) := okO_cons (impl_Enter_ok k) (okO_nil)
noncomputable def impl_Bakery_enter_A (b : Bakery) (e : Event) : Pk := ⟨[(.sc (.bp 2 0)), (.ag [(.v (.int .i64 e.Kind)), (.v (.int .i64 e.Loaves))])], [(.row true K.ki64 b.Stock.Grams), (.row true K.k_impl_Event b.Book.Events), (.box true [(.sl 0), (.v (.int .i64 b.Dough.Water)), (.v (.int .i64 b.Dough.Salt)), (.v (.int .i64 b.Dough.Leaven)), (.v (.int .i64 b.Loaf.Weight)), (.v (.int .i64 b.Loaf.Loss)), (.sl 1), (.v (.int .i64 b.Book.Rack.Fresh)), (.v (.int .i64 b.Book.Rack.Day)), (.v (.int .i64 b.Book.Rack.Old)), (.v (.int .i64 b.Book.Baked)), (.v (.int .i64 b.Book.Sold)), (.v (.int .i64 b.Book.Thrown)), (.v (.int .i64 b.Money))])]⟩
noncomputable def impl_Bakery_enter_d : Rs → Option (Bool × (List Int) × (List Event) × Bakery)
 | ⟨(.a (.sc (.v (.bool r1)))), [(.row true K.ki64 r2), (.row true K.k_impl_Event r3), (.box true [(.sl 0), (.v (.int .i64 r4)), (.v (.int .i64 r5)), (.v (.int .i64 r6)), (.v (.int .i64 r7)), (.v (.int .i64 r8)), (.sl 3), (.v (.int .i64 r10)), (.v (.int .i64 r11)), (.v (.int .i64 r12)), (.v (.int .i64 r13)), (.v (.int .i64 r14)), (.v (.int .i64 r15)), (.v (.int .i64 r16))]), (.row true K.k_impl_Event r9)]⟩ => some (r1, r2, r3, (⟨(⟨r2⟩ : Stock), (⟨r4, r5, r6⟩ : Dough), (⟨r7, r8⟩ : Loaf), (⟨r9, (⟨r10, r11, r12⟩ : Rack), r13, r14, r15⟩ : Book), r16⟩ : Bakery))
 | _ => none
theorem impl_Bakery_enter_i {r : Rs} {y : Bool × (List Int) × (List Event) × Bakery} (h : impl_Bakery_enter_d r = some y) : r = ⟨(.a (.sc (.v (.bool y.1)))), [(.row true K.ki64 y.2.1), (.row true K.k_impl_Event y.2.2.1), (.box true [(.sl 0), (.v (.int .i64 y.2.2.2.Dough.Water)), (.v (.int .i64 y.2.2.2.Dough.Salt)), (.v (.int .i64 y.2.2.2.Dough.Leaven)), (.v (.int .i64 y.2.2.2.Loaf.Weight)), (.v (.int .i64 y.2.2.2.Loaf.Loss)), (.sl 3), (.v (.int .i64 y.2.2.2.Book.Rack.Fresh)), (.v (.int .i64 y.2.2.2.Book.Rack.Day)), (.v (.int .i64 y.2.2.2.Book.Rack.Old)), (.v (.int .i64 y.2.2.2.Book.Baked)), (.v (.int .i64 y.2.2.2.Book.Sold)), (.v (.int .i64 y.2.2.2.Book.Thrown)), (.v (.int .i64 y.2.2.2.Money))]), (.row true K.k_impl_Event y.2.2.2.Book.Events)]⟩ := by
 unfold impl_Bakery_enter_d at h; split at h
 · cases h; rfl
 · cases h
theorem impl_Bakery_enter_e (k : Nat) (b : Bakery) (e : Event) : callF env (impl_Bakery_enter_O k) impl_Bakery_enter_v Try.f85 (k + 1) (impl_Bakery_enter_A b e) (fun r => impl_Bakery_enter_d (r.fin 3 [])) = impl_Bakery_enter k b e := by kernel_rfl
noncomputable def impl_Bakery_enter_x (k : Nat) : Ent1 := fun A R Q => match A with
 | ⟨[(.sc (.bp 2 0)), (.ag [(.v (.int .i64 a15)), (.v (.int .i64 a16))])], [(.row true K.ki64 a1), (.row true K.k_impl_Event a7), (.box true [(.sl 0), (.v (.int .i64 a2)), (.v (.int .i64 a3)), (.v (.int .i64 a4)), (.v (.int .i64 a5)), (.v (.int .i64 a6)), (.sl 1), (.v (.int .i64 a8)), (.v (.int .i64 a9)), (.v (.int .i64 a10)), (.v (.int .i64 a11)), (.v (.int .i64 a12)), (.v (.int .i64 a13)), (.v (.int .i64 a14))])]⟩ => (impl_Bakery_enter k (⟨(⟨a1⟩ : Stock), (⟨a2, a3, a4⟩ : Dough), (⟨a5, a6⟩ : Loaf), (⟨a7, (⟨a8, a9, a10⟩ : Rack), a11, a12, a13⟩ : Book), a14⟩ : Bakery) (⟨a15, a16⟩ : Event)).bind fun y => Q ⟨(.a (.sc (.v (.bool y.1)))), [(.row true K.ki64 y.2.1), (.row true K.k_impl_Event y.2.2.1), (.box true [(.sl 0), (.v (.int .i64 y.2.2.2.Dough.Water)), (.v (.int .i64 y.2.2.2.Dough.Salt)), (.v (.int .i64 y.2.2.2.Dough.Leaven)), (.v (.int .i64 y.2.2.2.Loaf.Weight)), (.v (.int .i64 y.2.2.2.Loaf.Loss)), (.sl 3), (.v (.int .i64 y.2.2.2.Book.Rack.Fresh)), (.v (.int .i64 y.2.2.2.Book.Rack.Day)), (.v (.int .i64 y.2.2.2.Book.Rack.Old)), (.v (.int .i64 y.2.2.2.Book.Baked)), (.v (.int .i64 y.2.2.2.Book.Sold)), (.v (.int .i64 y.2.2.2.Book.Thrown)), (.v (.int .i64 y.2.2.2.Money))]), (.row true K.k_impl_Event y.2.2.2.Book.Events)]⟩
 | _ => none
theorem impl_Bakery_enter_ok (k : Nat) : OkE Try.prog 85 (impl_Bakery_enter_x k) := by
 intro A R Q x h
 unfold impl_Bakery_enter_x at h
 split at h
 · obtain ⟨y, hy, hK⟩ := Option.bind_eq_some_iff.1 h
   obtain ⟨r, hr, hd⟩ := callF_ok envOk (impl_Bakery_enter_Ok k) follows Try.func85 (by kernel_rfl) ((impl_Bakery_enter_e k _ _).trans hy)
   exact ⟨_, impl_Bakery_enter_i hd ▸ hr.fin [], hK⟩
 · cases h
/-! ### impl.NightOver$1: function 84 -/
noncomputable def impl_NightOver_1 (k : Nat)  (own : Bakery) : Option (Bool × (List Int) × (List Event) × Bakery) :=
 (impl_Bakery_enter k own (⟨4, 0⟩ : Event)).bind fun y1 =>
 some (y1.1, y1.2.1, y1.2.2.1, (⟨(⟨y1.2.1⟩ : Stock), y1.2.2.2.Dough, y1.2.2.2.Loaf, y1.2.2.2.Book, y1.2.2.2.Money⟩ : Bakery))
noncomputable def impl_NightOver_1_v : Nat → List Nat := fun t => match t with | _ => []
noncomputable def impl_NightOver_1_O (k : Nat) : Oracle := ofL [(85, impl_Bakery_enter_x k)]
theorem impl_NightOver_1_Ok (k : Nat) : OkO (Ct Try.prog) (impl_NightOver_1_O k) := okO_cons (impl_Bakery_enter_ok k) (okO_nil)
noncomputable def impl_NightOver_1_A (own : Bakery) : Pk := ⟨[(.sc (.bp 2 0))], [(.row true K.ki64 own.Stock.Grams), (.row true K.k_impl_Event own.Book.Events), (.box true [(.sl 0), (.v (.int .i64 own.Dough.Water)), (.v (.int .i64 own.Dough.Salt)), (.v (.int .i64 own.Dough.Leaven)), (.v (.int .i64 own.Loaf.Weight)), (.v (.int .i64 own.Loaf.Loss)), (.sl 1), (.v (.int .i64 own.Book.Rack.Fresh)), (.v (.int .i64 own.Book.Rack.Day)), (.v (.int .i64 own.Book.Rack.Old)), (.v (.int .i64 own.Book.Baked)), (.v (.int .i64 own.Book.Sold)), (.v (.int .i64 own.Book.Thrown)), (.v (.int .i64 own.Money))])]⟩
noncomputable def impl_NightOver_1_d : Rs → Option (Bool × (List Int) × (List Event) × Bakery)
 | ⟨(.a (.sc (.v (.bool r1)))), [(.row true K.ki64 r2), (.row true K.k_impl_Event r3), (.box true [(.sl 0), (.v (.int .i64 r4)), (.v (.int .i64 r5)), (.v (.int .i64 r6)), (.v (.int .i64 r7)), (.v (.int .i64 r8)), (.sl 3), (.v (.int .i64 r10)), (.v (.int .i64 r11)), (.v (.int .i64 r12)), (.v (.int .i64 r13)), (.v (.int .i64 r14)), (.v (.int .i64 r15)), (.v (.int .i64 r16))]), (.row true K.k_impl_Event r9)]⟩ => some (r1, r2, r3, (⟨(⟨r2⟩ : Stock), (⟨r4, r5, r6⟩ : Dough), (⟨r7, r8⟩ : Loaf), (⟨r9, (⟨r10, r11, r12⟩ : Rack), r13, r14, r15⟩ : Book), r16⟩ : Bakery))
 | _ => none
theorem impl_NightOver_1_i {r : Rs} {y : Bool × (List Int) × (List Event) × Bakery} (h : impl_NightOver_1_d r = some y) : r = ⟨(.a (.sc (.v (.bool y.1)))), [(.row true K.ki64 y.2.1), (.row true K.k_impl_Event y.2.2.1), (.box true [(.sl 0), (.v (.int .i64 y.2.2.2.Dough.Water)), (.v (.int .i64 y.2.2.2.Dough.Salt)), (.v (.int .i64 y.2.2.2.Dough.Leaven)), (.v (.int .i64 y.2.2.2.Loaf.Weight)), (.v (.int .i64 y.2.2.2.Loaf.Loss)), (.sl 3), (.v (.int .i64 y.2.2.2.Book.Rack.Fresh)), (.v (.int .i64 y.2.2.2.Book.Rack.Day)), (.v (.int .i64 y.2.2.2.Book.Rack.Old)), (.v (.int .i64 y.2.2.2.Book.Baked)), (.v (.int .i64 y.2.2.2.Book.Sold)), (.v (.int .i64 y.2.2.2.Book.Thrown)), (.v (.int .i64 y.2.2.2.Money))]), (.row true K.k_impl_Event y.2.2.2.Book.Events)]⟩ := by
 unfold impl_NightOver_1_d at h; split at h
 · cases h; rfl
 · cases h
theorem impl_NightOver_1_e (k : Nat) (own : Bakery) : callF env (impl_NightOver_1_O k) impl_NightOver_1_v Try.f84 (k + 1) (impl_NightOver_1_A own) (fun r => impl_NightOver_1_d (r.fin 3 [])) = impl_NightOver_1 k own := by kernel_rfl
noncomputable def impl_NightOver_1_x (k : Nat) : Ent1 := fun A R Q => match A with
 | ⟨[(.sc (.bp 2 0))], [(.row true K.ki64 a1), (.row true K.k_impl_Event a7), (.box true [(.sl 0), (.v (.int .i64 a2)), (.v (.int .i64 a3)), (.v (.int .i64 a4)), (.v (.int .i64 a5)), (.v (.int .i64 a6)), (.sl 1), (.v (.int .i64 a8)), (.v (.int .i64 a9)), (.v (.int .i64 a10)), (.v (.int .i64 a11)), (.v (.int .i64 a12)), (.v (.int .i64 a13)), (.v (.int .i64 a14))])]⟩ => (impl_NightOver_1 k (⟨(⟨a1⟩ : Stock), (⟨a2, a3, a4⟩ : Dough), (⟨a5, a6⟩ : Loaf), (⟨a7, (⟨a8, a9, a10⟩ : Rack), a11, a12, a13⟩ : Book), a14⟩ : Bakery)).bind fun y => Q ⟨(.a (.sc (.v (.bool y.1)))), [(.row true K.ki64 y.2.1), (.row true K.k_impl_Event y.2.2.1), (.box true [(.sl 0), (.v (.int .i64 y.2.2.2.Dough.Water)), (.v (.int .i64 y.2.2.2.Dough.Salt)), (.v (.int .i64 y.2.2.2.Dough.Leaven)), (.v (.int .i64 y.2.2.2.Loaf.Weight)), (.v (.int .i64 y.2.2.2.Loaf.Loss)), (.sl 3), (.v (.int .i64 y.2.2.2.Book.Rack.Fresh)), (.v (.int .i64 y.2.2.2.Book.Rack.Day)), (.v (.int .i64 y.2.2.2.Book.Rack.Old)), (.v (.int .i64 y.2.2.2.Book.Baked)), (.v (.int .i64 y.2.2.2.Book.Sold)), (.v (.int .i64 y.2.2.2.Book.Thrown)), (.v (.int .i64 y.2.2.2.Money))]), (.row true K.k_impl_Event y.2.2.2.Book.Events)]⟩
 | _ => none
theorem impl_NightOver_1_ok (k : Nat) : OkE Try.prog 84 (impl_NightOver_1_x k) := by
 intro A R Q x h
 unfold impl_NightOver_1_x at h
 split at h
 · obtain ⟨y, hy, hK⟩ := Option.bind_eq_some_iff.1 h
   obtain ⟨r, hr, hd⟩ := callF_ok envOk (impl_NightOver_1_Ok k) follows Try.func84 (by kernel_rfl) ((impl_NightOver_1_e k _).trans hy)
   exact ⟨_, impl_NightOver_1_i hd ▸ hr.fin [], hK⟩
 · cases h
/-! ### impl.changed: function 83 -/
noncomputable def impl_changed_84 (k : Nat)  (b : Bakery) : Option (Bakery × Bool) :=
 (impl_bakeryCopy k b).bind fun y1 =>
 (impl_BakeryOk k b).bind fun y2 =>
  cond (!y2)
   ((impl_bakeryCopy k b).bind fun y3 =>
    some (y3, false))
   ((impl_NightOver_1 k y1).bind fun y4 =>
    cond (!y4.1)
     ((impl_bakeryCopy k b).bind fun y5 =>
      some (y5, false))
     ((impl_BakeryOk k (⟨(⟨y4.2.1⟩ : Stock), y4.2.2.2.Dough, y4.2.2.2.Loaf, y4.2.2.2.Book, y4.2.2.2.Money⟩ : Bakery)).bind fun y6 =>
      cond (!y6)
       ((impl_bakeryCopy k b).bind fun y7 =>
        some (y7, false))
       (some ((⟨(⟨y4.2.1⟩ : Stock), y4.2.2.2.Dough, y4.2.2.2.Loaf, y4.2.2.2.Book, y4.2.2.2.Money⟩ : Bakery), true))))
noncomputable def impl_changed_84_v : Nat → List Nat := fun t => match t with | _ => []
noncomputable def impl_changed_84_O (k : Nat) : Oracle := ofL [(26, impl_BakeryOk_x k), (77, impl_bakeryCopy_x k), (84, impl_NightOver_1_x k)]
theorem impl_changed_84_Ok (k : Nat) : OkO (Ct Try.prog) (impl_changed_84_O k) := okO_cons (impl_BakeryOk_ok k) (okO_cons (impl_bakeryCopy_ok k) (okO_cons (impl_NightOver_1_ok k) (okO_nil)))
noncomputable def impl_changed_84_A (b : Bakery) : Pk := ⟨[(.ag [(.sl 0), (.v (.int .i64 b.Dough.Water)), (.v (.int .i64 b.Dough.Salt)), (.v (.int .i64 b.Dough.Leaven)), (.v (.int .i64 b.Loaf.Weight)), (.v (.int .i64 b.Loaf.Loss)), (.sl 1), (.v (.int .i64 b.Book.Rack.Fresh)), (.v (.int .i64 b.Book.Rack.Day)), (.v (.int .i64 b.Book.Rack.Old)), (.v (.int .i64 b.Book.Baked)), (.v (.int .i64 b.Book.Sold)), (.v (.int .i64 b.Book.Thrown)), (.v (.int .i64 b.Money))]), (.sc (.fn 84 []))], [(.row false K.ki64 b.Stock.Grams), (.row false K.k_impl_Event b.Book.Events)]⟩
noncomputable def impl_changed_84_d : Rs → Option (Bakery × Bool)
 | ⟨(.tp [(.ag [(.sl 2), (.v (.int .i64 r2)), (.v (.int .i64 r3)), (.v (.int .i64 r4)), (.v (.int .i64 r5)), (.v (.int .i64 r6)), (.sl 3), (.v (.int .i64 r8)), (.v (.int .i64 r9)), (.v (.int .i64 r10)), (.v (.int .i64 r11)), (.v (.int .i64 r12)), (.v (.int .i64 r13)), (.v (.int .i64 r14))]), (.sc (.v (.bool r15)))]), [.dead, .dead, (.row true K.ki64 r1), (.row true K.k_impl_Event r7)]⟩ => some ((⟨(⟨r1⟩ : Stock), (⟨r2, r3, r4⟩ : Dough), (⟨r5, r6⟩ : Loaf), (⟨r7, (⟨r8, r9, r10⟩ : Rack), r11, r12, r13⟩ : Book), r14⟩ : Bakery), r15)
 | _ => none
theorem impl_changed_84_i {r : Rs} {y : Bakery × Bool} (h : impl_changed_84_d r = some y) : r = ⟨(.tp [(.ag [(.sl 2), (.v (.int .i64 y.1.Dough.Water)), (.v (.int .i64 y.1.Dough.Salt)), (.v (.int .i64 y.1.Dough.Leaven)), (.v (.int .i64 y.1.Loaf.Weight)), (.v (.int .i64 y.1.Loaf.Loss)), (.sl 3), (.v (.int .i64 y.1.Book.Rack.Fresh)), (.v (.int .i64 y.1.Book.Rack.Day)), (.v (.int .i64 y.1.Book.Rack.Old)), (.v (.int .i64 y.1.Book.Baked)), (.v (.int .i64 y.1.Book.Sold)), (.v (.int .i64 y.1.Book.Thrown)), (.v (.int .i64 y.1.Money))]), (.sc (.v (.bool y.2)))]), [.dead, .dead, (.row true K.ki64 y.1.Stock.Grams), (.row true K.k_impl_Event y.1.Book.Events)]⟩ := by
 unfold impl_changed_84_d at h; split at h
 · cases h; rfl
 · cases h
theorem impl_changed_84_e (k : Nat) (b : Bakery) : callF env (impl_changed_84_O k) impl_changed_84_v Try.f83 (k + 1) (impl_changed_84_A b) (fun r => impl_changed_84_d (r.fin 2 [])) = impl_changed_84 k b := by kernel_rfl
noncomputable def impl_changed_84_x (k : Nat) : Ent1 := fun A R Q => match A with
 | ⟨[(.ag [(.sl 0), (.v (.int .i64 a2)), (.v (.int .i64 a3)), (.v (.int .i64 a4)), (.v (.int .i64 a5)), (.v (.int .i64 a6)), (.sl 1), (.v (.int .i64 a8)), (.v (.int .i64 a9)), (.v (.int .i64 a10)), (.v (.int .i64 a11)), (.v (.int .i64 a12)), (.v (.int .i64 a13)), (.v (.int .i64 a14))]), (.sc (.fn 84 []))], [(.row false K.ki64 a1), (.row false K.k_impl_Event a7)]⟩ => (impl_changed_84 k (⟨(⟨a1⟩ : Stock), (⟨a2, a3, a4⟩ : Dough), (⟨a5, a6⟩ : Loaf), (⟨a7, (⟨a8, a9, a10⟩ : Rack), a11, a12, a13⟩ : Book), a14⟩ : Bakery)).bind fun y => Q ⟨(.tp [(.ag [(.sl 2), (.v (.int .i64 y.1.Dough.Water)), (.v (.int .i64 y.1.Dough.Salt)), (.v (.int .i64 y.1.Dough.Leaven)), (.v (.int .i64 y.1.Loaf.Weight)), (.v (.int .i64 y.1.Loaf.Loss)), (.sl 3), (.v (.int .i64 y.1.Book.Rack.Fresh)), (.v (.int .i64 y.1.Book.Rack.Day)), (.v (.int .i64 y.1.Book.Rack.Old)), (.v (.int .i64 y.1.Book.Baked)), (.v (.int .i64 y.1.Book.Sold)), (.v (.int .i64 y.1.Book.Thrown)), (.v (.int .i64 y.1.Money))]), (.sc (.v (.bool y.2)))]), [.dead, .dead, (.row true K.ki64 y.1.Stock.Grams), (.row true K.k_impl_Event y.1.Book.Events)]⟩
 | _ => none
theorem impl_changed_84_ok (k : Nat) : OkE Try.prog 83 (impl_changed_84_x k) := by
 intro A R Q x h
 unfold impl_changed_84_x at h
 split at h
 · obtain ⟨y, hy, hK⟩ := Option.bind_eq_some_iff.1 h
   obtain ⟨r, hr, hd⟩ := callF_ok envOk (impl_changed_84_Ok k) follows Try.func83 (by kernel_rfl) ((impl_changed_84_e k _).trans hy)
   exact ⟨_, impl_changed_84_i hd ▸ hr.fin [], hK⟩
 · cases h
/-! ### impl.NightOver: function 42 -/
noncomputable def impl_NightOver (k : Nat)  (b : Bakery) : Option (Bakery × Bool) :=
 (impl_changed_84 k b).bind fun y1 =>
 some (y1.1, y1.2)
noncomputable def impl_NightOver_v : Nat → List Nat := fun t => match t with | _ => []
noncomputable def impl_NightOver_O (k : Nat) : Oracle := ofL [(83, impl_changed_84_x k)]
theorem impl_NightOver_Ok (k : Nat) : OkO (Ct Try.prog) (impl_NightOver_O k) := okO_cons (impl_changed_84_ok k) (okO_nil)
noncomputable def impl_NightOver_A (b : Bakery) : Pk := ⟨[(.ag [(.sl 0), (.v (.int .i64 b.Dough.Water)), (.v (.int .i64 b.Dough.Salt)), (.v (.int .i64 b.Dough.Leaven)), (.v (.int .i64 b.Loaf.Weight)), (.v (.int .i64 b.Loaf.Loss)), (.sl 1), (.v (.int .i64 b.Book.Rack.Fresh)), (.v (.int .i64 b.Book.Rack.Day)), (.v (.int .i64 b.Book.Rack.Old)), (.v (.int .i64 b.Book.Baked)), (.v (.int .i64 b.Book.Sold)), (.v (.int .i64 b.Book.Thrown)), (.v (.int .i64 b.Money))])], [(.row false K.ki64 b.Stock.Grams), (.row false K.k_impl_Event b.Book.Events)]⟩
noncomputable def impl_NightOver_d : Rs → Option (Bakery × Bool)
 | ⟨(.tp [(.ag [(.sl 2), (.v (.int .i64 r2)), (.v (.int .i64 r3)), (.v (.int .i64 r4)), (.v (.int .i64 r5)), (.v (.int .i64 r6)), (.sl 3), (.v (.int .i64 r8)), (.v (.int .i64 r9)), (.v (.int .i64 r10)), (.v (.int .i64 r11)), (.v (.int .i64 r12)), (.v (.int .i64 r13)), (.v (.int .i64 r14))]), (.sc (.v (.bool r15)))]), [.dead, .dead, (.row true K.ki64 r1), (.row true K.k_impl_Event r7)]⟩ => some ((⟨(⟨r1⟩ : Stock), (⟨r2, r3, r4⟩ : Dough), (⟨r5, r6⟩ : Loaf), (⟨r7, (⟨r8, r9, r10⟩ : Rack), r11, r12, r13⟩ : Book), r14⟩ : Bakery), r15)
 | _ => none
theorem impl_NightOver_i {r : Rs} {y : Bakery × Bool} (h : impl_NightOver_d r = some y) : r = ⟨(.tp [(.ag [(.sl 2), (.v (.int .i64 y.1.Dough.Water)), (.v (.int .i64 y.1.Dough.Salt)), (.v (.int .i64 y.1.Dough.Leaven)), (.v (.int .i64 y.1.Loaf.Weight)), (.v (.int .i64 y.1.Loaf.Loss)), (.sl 3), (.v (.int .i64 y.1.Book.Rack.Fresh)), (.v (.int .i64 y.1.Book.Rack.Day)), (.v (.int .i64 y.1.Book.Rack.Old)), (.v (.int .i64 y.1.Book.Baked)), (.v (.int .i64 y.1.Book.Sold)), (.v (.int .i64 y.1.Book.Thrown)), (.v (.int .i64 y.1.Money))]), (.sc (.v (.bool y.2)))]), [.dead, .dead, (.row true K.ki64 y.1.Stock.Grams), (.row true K.k_impl_Event y.1.Book.Events)]⟩ := by
 unfold impl_NightOver_d at h; split at h
 · cases h; rfl
 · cases h
theorem impl_NightOver_e (k : Nat) (b : Bakery) : callF env (impl_NightOver_O k) impl_NightOver_v Try.f42 (k + 1) (impl_NightOver_A b) (fun r => impl_NightOver_d (r.fin 2 [])) = impl_NightOver k b := by kernel_rfl
noncomputable def impl_NightOver_x (k : Nat) : Ent1 := fun A R Q => match A with
 | ⟨[(.ag [(.sl 0), (.v (.int .i64 a2)), (.v (.int .i64 a3)), (.v (.int .i64 a4)), (.v (.int .i64 a5)), (.v (.int .i64 a6)), (.sl 1), (.v (.int .i64 a8)), (.v (.int .i64 a9)), (.v (.int .i64 a10)), (.v (.int .i64 a11)), (.v (.int .i64 a12)), (.v (.int .i64 a13)), (.v (.int .i64 a14))])], [(.row false K.ki64 a1), (.row false K.k_impl_Event a7)]⟩ => (impl_NightOver k (⟨(⟨a1⟩ : Stock), (⟨a2, a3, a4⟩ : Dough), (⟨a5, a6⟩ : Loaf), (⟨a7, (⟨a8, a9, a10⟩ : Rack), a11, a12, a13⟩ : Book), a14⟩ : Bakery)).bind fun y => Q ⟨(.tp [(.ag [(.sl 2), (.v (.int .i64 y.1.Dough.Water)), (.v (.int .i64 y.1.Dough.Salt)), (.v (.int .i64 y.1.Dough.Leaven)), (.v (.int .i64 y.1.Loaf.Weight)), (.v (.int .i64 y.1.Loaf.Loss)), (.sl 3), (.v (.int .i64 y.1.Book.Rack.Fresh)), (.v (.int .i64 y.1.Book.Rack.Day)), (.v (.int .i64 y.1.Book.Rack.Old)), (.v (.int .i64 y.1.Book.Baked)), (.v (.int .i64 y.1.Book.Sold)), (.v (.int .i64 y.1.Book.Thrown)), (.v (.int .i64 y.1.Money))]), (.sc (.v (.bool y.2)))]), [.dead, .dead, (.row true K.ki64 y.1.Stock.Grams), (.row true K.k_impl_Event y.1.Book.Events)]⟩
 | _ => none
theorem impl_NightOver_ok (k : Nat) : OkE Try.prog 42 (impl_NightOver_x k) := by
 intro A R Q x h
 unfold impl_NightOver_x at h
 split at h
 · obtain ⟨y, hy, hK⟩ := Option.bind_eq_some_iff.1 h
   obtain ⟨r, hr, hd⟩ := callF_ok envOk (impl_NightOver_Ok k) follows Try.func42 (by kernel_rfl) ((impl_NightOver_e k _).trans hy)
   exact ⟨_, impl_NightOver_i hd ▸ hr.fin [], hK⟩
 · cases h
/-! ### laws.eqIntS: function 37 -/
noncomputable def laws_eqIntS_s0 (k : Nat)  (a : (List Int)) (b : (List Int)) (J : Int → Option (Bool)) (x0_0 : Int) : Option (Bool) :=
 cond (decide ((x0_0 : Int) < ((a).length : Int)))
 (if 0 ≤ (x0_0 : Int) ∧ (x0_0 : Int) < ((a).length : Int) then
  if 0 ≤ (x0_0 : Int) ∧ (x0_0 : Int) < ((b).length : Int) then
   cond (!(decide (((a.getD (Int.toNat x0_0) 0) : Int) = (b.getD (Int.toNat x0_0) 0))))
    (some false)
    (J (wr (x0_0 + 1))) else none else none)
 (some true)
noncomputable def laws_eqIntS_l0 (k : Nat) : Nat → (List Int) → (List Int) → Int → Option (Bool)
 | 0, a, b, x0_0 => laws_eqIntS_s0 k a b (fun _ => none) x0_0
 | m + 1, a, b, x0_0 => laws_eqIntS_s0 k a b (laws_eqIntS_l0 k m a b) x0_0
noncomputable def laws_eqIntS_m (k : Nat) (J0 : (List Int) → (List Int) → Int → Option (Bool)) (a : (List Int)) (b : (List Int)) : Option (Bool) :=
 cond (!(decide ((((a).length : Int) : Int) = ((b).length : Int))))
 (some false)
 (J0 a b 0)
noncomputable def laws_eqIntS (k : Nat) (a : (List Int)) (b : (List Int)) : Option (Bool) := laws_eqIntS_m k (laws_eqIntS_l0 k k) a b
noncomputable def laws_eqIntS_v : Nat → List Nat := fun t => match t with | 4 => [0, 1, 4, 5] | _ => []
noncomputable def laws_eqIntS_O (k : Nat) : Oracle := ofL []
theorem laws_eqIntS_Ok (k : Nat) : OkO (Ct Try.prog) (laws_eqIntS_O k) := okO_nil
noncomputable def laws_eqIntS_A (a : (List Int)) (b : (List Int)) : Pk := ⟨[(.sc (.sl 0)), (.sc (.sl 1))], [(.row false K.ki64 a), (.row false K.ki64 b)]⟩
noncomputable def laws_eqIntS_d : Rs → Option (Bool)
 | ⟨(.a (.sc (.v (.bool r1)))), [.dead, .dead]⟩ => some r1
 | _ => none
theorem laws_eqIntS_i {r : Rs} {y : Bool} (h : laws_eqIntS_d r = some y) : r = ⟨(.a (.sc (.v (.bool y)))), [.dead, .dead]⟩ := by
 unfold laws_eqIntS_d at h; split at h
 · cases h; rfl
 · cases h
noncomputable def laws_eqIntS_h0 (k m : Nat) (a : (List Int)) (b : (List Int)) (x0_0 : Int) : Option (Bool) := hdAt env (laws_eqIntS_O k) laws_eqIntS_v Try.f37 2 (fun r => laws_eqIntS_d (r.fin 2 [])) [1, 1, 0, 1, 0] k m ⟨tmF [0, 1, 4, 5] [(.a (.sc (.sl 0))), (.a (.sc (.sl 1))), (.a (.sc (.v (.bool false)))), (.a (.sc (.v (.int .i64 x0_0))))], blF [(.row false K.ki64 a), (.row false K.ki64 b)]⟩
theorem laws_eqIntS_z0 (k : Nat) (a : (List Int)) (b : (List Int)) (x0_0 : Int) : laws_eqIntS_h0 k 0 a b x0_0 = laws_eqIntS_s0 k a b (fun _ => none) x0_0 := by kernel_rfl
theorem laws_eqIntS_g0 (k : Nat) (H : St → Option (Bool)) (a : (List Int)) (b : (List Int)) (x0_0 : Int) : rnd env (laws_eqIntS_O k) laws_eqIntS_v Try.f37 2 (fun r => laws_eqIntS_d (r.fin 2 [])) [1, 1, 0, 1, 0] k H ⟨tmF [0, 1, 4, 5] [(.a (.sc (.sl 0))), (.a (.sc (.sl 1))), (.a (.sc (.v (.bool false)))), (.a (.sc (.v (.int .i64 x0_0))))], blF [(.row false K.ki64 a), (.row false K.ki64 b)]⟩ = laws_eqIntS_s0 k a b (fun x0_0 => H ⟨tmF [0, 1, 4, 5] [(.a (.sc (.sl 0))), (.a (.sc (.sl 1))), (.a (.sc (.v (.bool false)))), (.a (.sc (.v (.int .i64 x0_0))))], blF [(.row false K.ki64 a), (.row false K.ki64 b)]⟩) x0_0 := by kernel_rfl
theorem laws_eqIntS_n0 (k m : Nat) (a : (List Int)) (b : (List Int)) (x0_0 : Int) : laws_eqIntS_h0 k (m + 1) a b x0_0 = laws_eqIntS_s0 k a b (laws_eqIntS_h0 k m a b) x0_0 := (hdAt_succ _ _ _ _ _ _ _ _ _ _).trans (laws_eqIntS_g0 k _ a b x0_0)
theorem laws_eqIntS_q0 (k : Nat) : ∀ m, laws_eqIntS_h0 k m = laws_eqIntS_l0 k m := by
 intro m
 induction m with
 | zero => funext a b x0_0; rw [laws_eqIntS_z0]; rfl
 | succ m ih => funext a b x0_0; rw [laws_eqIntS_n0, ih]; rfl
theorem laws_eqIntS_e (k : Nat) (a : (List Int)) (b : (List Int)) : callF env (laws_eqIntS_O k) laws_eqIntS_v Try.f37 (k + 1) (laws_eqIntS_A a b) (fun r => laws_eqIntS_d (r.fin 2 [])) = laws_eqIntS k a b := by
 have e : callF env (laws_eqIntS_O k) laws_eqIntS_v Try.f37 (k + 1) (laws_eqIntS_A a b) (fun r => laws_eqIntS_d (r.fin 2 [])) = laws_eqIntS_m k (laws_eqIntS_h0 k k) a b := by kernel_rfl
 rw [e, laws_eqIntS_q0]; rfl
noncomputable def laws_eqIntS_x (k : Nat) : Ent1 := fun A R Q => match A with
 | ⟨[(.sc (.sl 0)), (.sc (.sl 1))], [(.row false K.ki64 a1), (.row false K.ki64 a2)]⟩ => (laws_eqIntS k a1 a2).bind fun y => Q ⟨(.a (.sc (.v (.bool y)))), [.dead, .dead]⟩
 | _ => none
theorem laws_eqIntS_ok (k : Nat) : OkE Try.prog 37 (laws_eqIntS_x k) := by
 intro A R Q x h
 unfold laws_eqIntS_x at h
 split at h
 · obtain ⟨y, hy, hK⟩ := Option.bind_eq_some_iff.1 h
   obtain ⟨r, hr, hd⟩ := callF_ok envOk (laws_eqIntS_Ok k) follows Try.func37 (by kernel_rfl) ((laws_eqIntS_e k _ _).trans hy)
   exact ⟨_, laws_eqIntS_i hd ▸ hr.fin [], hK⟩
 · cases h
/-! ### laws.eqStock: function 72 -/
noncomputable def laws_eqStock (k : Nat)  (a : Stock) (b : Stock) : Option (Bool) :=
 (laws_eqIntS k a.Grams b.Grams).bind fun y1 =>
 cond (!y1)
  (some false)
  (some true)
noncomputable def laws_eqStock_v : Nat → List Nat := fun t => match t with | _ => []
noncomputable def laws_eqStock_O (k : Nat) : Oracle := ofL [(37, laws_eqIntS_x k)]
theorem laws_eqStock_Ok (k : Nat) : OkO (Ct Try.prog) (laws_eqStock_O k) := okO_cons (laws_eqIntS_ok k) (okO_nil)
noncomputable def laws_eqStock_A (a : Stock) (b : Stock) : Pk := ⟨[(.ag [(.sl 0)]), (.ag [(.sl 1)])], [(.row false K.ki64 a.Grams), (.row false K.ki64 b.Grams)]⟩
noncomputable def laws_eqStock_d : Rs → Option (Bool)
 | ⟨(.a (.sc (.v (.bool r1)))), [.dead, .dead]⟩ => some r1
 | _ => none
theorem laws_eqStock_i {r : Rs} {y : Bool} (h : laws_eqStock_d r = some y) : r = ⟨(.a (.sc (.v (.bool y)))), [.dead, .dead]⟩ := by
 unfold laws_eqStock_d at h; split at h
 · cases h; rfl
 · cases h
theorem laws_eqStock_e (k : Nat) (a : Stock) (b : Stock) : callF env (laws_eqStock_O k) laws_eqStock_v Try.f72 (k + 1) (laws_eqStock_A a b) (fun r => laws_eqStock_d (r.fin 2 [])) = laws_eqStock k a b := by kernel_rfl
noncomputable def laws_eqStock_x (k : Nat) : Ent1 := fun A R Q => match A with
 | ⟨[(.ag [(.sl 0)]), (.ag [(.sl 1)])], [(.row false K.ki64 a1), (.row false K.ki64 a2)]⟩ => (laws_eqStock k (⟨a1⟩ : Stock) (⟨a2⟩ : Stock)).bind fun y => Q ⟨(.a (.sc (.v (.bool y)))), [.dead, .dead]⟩
 | _ => none
theorem laws_eqStock_ok (k : Nat) : OkE Try.prog 72 (laws_eqStock_x k) := by
 intro A R Q x h
 unfold laws_eqStock_x at h
 split at h
 · obtain ⟨y, hy, hK⟩ := Option.bind_eq_some_iff.1 h
   obtain ⟨r, hr, hd⟩ := callF_ok envOk (laws_eqStock_Ok k) follows Try.func72 (by kernel_rfl) ((laws_eqStock_e k _ _).trans hy)
   exact ⟨_, laws_eqStock_i hd ▸ hr.fin [], hK⟩
 · cases h
/-! ### laws.eqDough: function 73 -/
noncomputable def laws_eqDough (k : Nat)  (a : Dough) (b : Dough) : Option (Bool) :=
 cond (!(decide ((a.Water : Int) = b.Water)))
 (some false)
 (cond (!(decide ((a.Salt : Int) = b.Salt)))
  (some false)
  (cond (!(decide ((a.Leaven : Int) = b.Leaven)))
   (some false)
   (some true)))
noncomputable def laws_eqDough_v : Nat → List Nat := fun t => match t with | _ => []
noncomputable def laws_eqDough_O (k : Nat) : Oracle := ofL []
theorem laws_eqDough_Ok (k : Nat) : OkO (Ct Try.prog) (laws_eqDough_O k) := okO_nil
noncomputable def laws_eqDough_A (a : Dough) (b : Dough) : Pk := ⟨[(.ag [(.v (.int .i64 a.Water)), (.v (.int .i64 a.Salt)), (.v (.int .i64 a.Leaven))]), (.ag [(.v (.int .i64 b.Water)), (.v (.int .i64 b.Salt)), (.v (.int .i64 b.Leaven))])], []⟩
noncomputable def laws_eqDough_d : Rs → Option (Bool)
 | ⟨(.a (.sc (.v (.bool r1)))), []⟩ => some r1
 | _ => none
theorem laws_eqDough_i {r : Rs} {y : Bool} (h : laws_eqDough_d r = some y) : r = ⟨(.a (.sc (.v (.bool y)))), []⟩ := by
 unfold laws_eqDough_d at h; split at h
 · cases h; rfl
 · cases h
theorem laws_eqDough_e (k : Nat) (a : Dough) (b : Dough) : callF env (laws_eqDough_O k) laws_eqDough_v Try.f73 (k + 1) (laws_eqDough_A a b) (fun r => laws_eqDough_d (r.fin 0 [])) = laws_eqDough k a b := by kernel_rfl
noncomputable def laws_eqDough_x (k : Nat) : Ent1 := fun A R Q => match A with
 | ⟨[(.ag [(.v (.int .i64 a1)), (.v (.int .i64 a2)), (.v (.int .i64 a3))]), (.ag [(.v (.int .i64 a4)), (.v (.int .i64 a5)), (.v (.int .i64 a6))])], []⟩ => (laws_eqDough k (⟨a1, a2, a3⟩ : Dough) (⟨a4, a5, a6⟩ : Dough)).bind fun y => Q ⟨(.a (.sc (.v (.bool y)))), []⟩
 | _ => none
theorem laws_eqDough_ok (k : Nat) : OkE Try.prog 73 (laws_eqDough_x k) := by
 intro A R Q x h
 unfold laws_eqDough_x at h
 split at h
 · obtain ⟨y, hy, hK⟩ := Option.bind_eq_some_iff.1 h
   obtain ⟨r, hr, hd⟩ := callF_ok envOk (laws_eqDough_Ok k) follows Try.func73 (by kernel_rfl) ((laws_eqDough_e k _ _).trans hy)
   exact ⟨_, laws_eqDough_i hd ▸ hr.fin [], hK⟩
 · cases h
/-! ### laws.eqLoaf: function 74 -/
noncomputable def laws_eqLoaf (k : Nat)  (a : Loaf) (b : Loaf) : Option (Bool) :=
 cond (!(decide ((a.Weight : Int) = b.Weight)))
 (some false)
 (cond (!(decide ((a.Loss : Int) = b.Loss)))
  (some false)
  (some true))
noncomputable def laws_eqLoaf_v : Nat → List Nat := fun t => match t with | _ => []
noncomputable def laws_eqLoaf_O (k : Nat) : Oracle := ofL []
theorem laws_eqLoaf_Ok (k : Nat) : OkO (Ct Try.prog) (laws_eqLoaf_O k) := okO_nil
noncomputable def laws_eqLoaf_A (a : Loaf) (b : Loaf) : Pk := ⟨[(.ag [(.v (.int .i64 a.Weight)), (.v (.int .i64 a.Loss))]), (.ag [(.v (.int .i64 b.Weight)), (.v (.int .i64 b.Loss))])], []⟩
noncomputable def laws_eqLoaf_d : Rs → Option (Bool)
 | ⟨(.a (.sc (.v (.bool r1)))), []⟩ => some r1
 | _ => none
theorem laws_eqLoaf_i {r : Rs} {y : Bool} (h : laws_eqLoaf_d r = some y) : r = ⟨(.a (.sc (.v (.bool y)))), []⟩ := by
 unfold laws_eqLoaf_d at h; split at h
 · cases h; rfl
 · cases h
theorem laws_eqLoaf_e (k : Nat) (a : Loaf) (b : Loaf) : callF env (laws_eqLoaf_O k) laws_eqLoaf_v Try.f74 (k + 1) (laws_eqLoaf_A a b) (fun r => laws_eqLoaf_d (r.fin 0 [])) = laws_eqLoaf k a b := by kernel_rfl
noncomputable def laws_eqLoaf_x (k : Nat) : Ent1 := fun A R Q => match A with
 | ⟨[(.ag [(.v (.int .i64 a1)), (.v (.int .i64 a2))]), (.ag [(.v (.int .i64 a3)), (.v (.int .i64 a4))])], []⟩ => (laws_eqLoaf k (⟨a1, a2⟩ : Loaf) (⟨a3, a4⟩ : Loaf)).bind fun y => Q ⟨(.a (.sc (.v (.bool y)))), []⟩
 | _ => none
theorem laws_eqLoaf_ok (k : Nat) : OkE Try.prog 74 (laws_eqLoaf_x k) := by
 intro A R Q x h
 unfold laws_eqLoaf_x at h
 split at h
 · obtain ⟨y, hy, hK⟩ := Option.bind_eq_some_iff.1 h
   obtain ⟨r, hr, hd⟩ := callF_ok envOk (laws_eqLoaf_Ok k) follows Try.func74 (by kernel_rfl) ((laws_eqLoaf_e k _ _).trans hy)
   exact ⟨_, laws_eqLoaf_i hd ▸ hr.fin [], hK⟩
 · cases h
end Go.Proofs.YtonaabffckkdlaaX
