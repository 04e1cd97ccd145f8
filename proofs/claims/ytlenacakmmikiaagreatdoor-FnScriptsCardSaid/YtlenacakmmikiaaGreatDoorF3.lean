/- What functions of the program compute, as functions of numbers and lists, and that they do. (The file is written by wip/x/vxp.py of this repository.) -/
import Derived.Test.YtlenacakmmikiaaGreatDoorF2
import Derived.Test.YtlenacakmmikiaaGreatDoorX20
import Derived.WalkKit
import Derived.BigCall
import Derived.Lib.UnsafeStr
import Derived.Test.YtlenacakmmikiaaGreatDoorX18
namespace Go.Proofs.YtlenacakmmikiaaGreatDoorX
open Go Go.Proofs Go.RowKit
set_option linter.unusedVariables false
set_option maxRecDepth 100000
/-! ### impl.SellFresh: function 159 -/
noncomputable def impl_SellFresh (k : Nat)  (r : Rack) (n : Int) : Option (Rack × Int) :=
 (impl_RackOk k r).bind fun y1 =>
 cond (!y1)
  (some (r, (-1)))
  ((impl_in k n 0 10000).bind fun y2 =>
   cond (!y2)
    (some (r, (-1)))
    ((impl_taken k r.Fresh r.Day n).bind fun y3 =>
     some ((⟨y3.1, y3.2.1, r.Old⟩ : Rack), y3.2.2)))
noncomputable def impl_SellFresh_v : Nat → List Nat := fun t => match t with | _ => []
noncomputable def impl_SellFresh_O (k : Nat) : Oracle := ofL [(158, impl_RackOk_x k), (179, impl_taken_x k), (68, impl_in_x k)]
theorem impl_SellFresh_Ok (k : Nat) : OkO (Ct Tryz.prog) (impl_SellFresh_O k) := okO_cons (impl_RackOk_ok k) (okO_cons (impl_taken_ok k) (okO_cons (impl_in_ok k) (okO_nil)))
noncomputable def impl_SellFresh_A (r : Rack) (n : Int) : Pk := ⟨[(.ag [(.v (.int .i64 r.Fresh)), (.v (.int .i64 r.Day)), (.v (.int .i64 r.Old))]), (.sc (.v (.int .i64 n)))], []⟩
noncomputable def impl_SellFresh_d : Rs → Option (Rack × Int)
 | ⟨(.tp [(.ag [(.v (.int .i64 r1)), (.v (.int .i64 r2)), (.v (.int .i64 r3))]), (.sc (.v (.int .i64 r4)))]), []⟩ => some ((⟨r1, r2, r3⟩ : Rack), r4)
 | _ => none
theorem impl_SellFresh_i {r : Rs} {y : Rack × Int} (h : impl_SellFresh_d r = some y) : r = ⟨(.tp [(.ag [(.v (.int .i64 y.1.Fresh)), (.v (.int .i64 y.1.Day)), (.v (.int .i64 y.1.Old))]), (.sc (.v (.int .i64 y.2)))]), []⟩ := by
 unfold impl_SellFresh_d at h; split at h
 · cases h; rfl
 · cases h
theorem impl_SellFresh_e (k : Nat) (r : Rack) (n : Int) : callF env (impl_SellFresh_O k) impl_SellFresh_v Tryz.f159 (k + 1) (impl_SellFresh_A r n) (fun r => impl_SellFresh_d (r.fin 0 [])) = impl_SellFresh k r n := by kernel_rfl
noncomputable def impl_SellFresh_x (k : Nat) : Ent1 := fun A R Q => match A with
 | ⟨[(.ag [(.v (.int .i64 a1)), (.v (.int .i64 a2)), (.v (.int .i64 a3))]), (.sc (.v (.int .i64 a4)))], []⟩ => (impl_SellFresh k (⟨a1, a2, a3⟩ : Rack) a4).bind fun y => Q ⟨(.tp [(.ag [(.v (.int .i64 y.1.Fresh)), (.v (.int .i64 y.1.Day)), (.v (.int .i64 y.1.Old))]), (.sc (.v (.int .i64 y.2)))]), []⟩
 | _ => none
theorem impl_SellFresh_ok (k : Nat) : OkE Tryz.prog 159 (impl_SellFresh_x k) := by
 intro A R Q x h
 unfold impl_SellFresh_x at h
 split at h
 · obtain ⟨y, hy, hK⟩ := Option.bind_eq_some_iff.1 h
   obtain ⟨r, hr, hd⟩ := callF_ok envOk (impl_SellFresh_Ok k) follows Tryz.func159 (by kernel_rfl) ((impl_SellFresh_e k _ _).trans hy)
   exact ⟨_, impl_SellFresh_i hd ▸ hr.fin [], hK⟩
 · cases h
/-! ### impl.SellCheap: function 160 -/
noncomputable def impl_SellCheap (k : Nat)  (r : Rack) (n : Int) : Option (Rack × Int) :=
 (impl_RackOk k r).bind fun y1 =>
 cond (!y1)
  (some (r, (-1)))
  ((impl_in k n 0 10000).bind fun y2 =>
   cond (!y2)
    (some (r, (-1)))
    ((impl_taken k r.Old r.Day n).bind fun y3 =>
     some ((⟨r.Fresh, y3.2.1, y3.1⟩ : Rack), y3.2.2)))
noncomputable def impl_SellCheap_v : Nat → List Nat := fun t => match t with | _ => []
noncomputable def impl_SellCheap_O (k : Nat) : Oracle := ofL [(158, impl_RackOk_x k), (179, impl_taken_x k), (68, impl_in_x k)]
theorem impl_SellCheap_Ok (k : Nat) : OkO (Ct Tryz.prog) (impl_SellCheap_O k) := okO_cons (impl_RackOk_ok k) (okO_cons (impl_taken_ok k) (okO_cons (impl_in_ok k) (okO_nil)))
noncomputable def impl_SellCheap_A (r : Rack) (n : Int) : Pk := ⟨[(.ag [(.v (.int .i64 r.Fresh)), (.v (.int .i64 r.Day)), (.v (.int .i64 r.Old))]), (.sc (.v (.int .i64 n)))], []⟩
noncomputable def impl_SellCheap_d : Rs → Option (Rack × Int)
 | ⟨(.tp [(.ag [(.v (.int .i64 r1)), (.v (.int .i64 r2)), (.v (.int .i64 r3))]), (.sc (.v (.int .i64 r4)))]), []⟩ => some ((⟨r1, r2, r3⟩ : Rack), r4)
 | _ => none
theorem impl_SellCheap_i {r : Rs} {y : Rack × Int} (h : impl_SellCheap_d r = some y) : r = ⟨(.tp [(.ag [(.v (.int .i64 y.1.Fresh)), (.v (.int .i64 y.1.Day)), (.v (.int .i64 y.1.Old))]), (.sc (.v (.int .i64 y.2)))]), []⟩ := by
 unfold impl_SellCheap_d at h; split at h
 · cases h; rfl
 · cases h
theorem impl_SellCheap_e (k : Nat) (r : Rack) (n : Int) : callF env (impl_SellCheap_O k) impl_SellCheap_v Tryz.f160 (k + 1) (impl_SellCheap_A r n) (fun r => impl_SellCheap_d (r.fin 0 [])) = impl_SellCheap k r n := by kernel_rfl
noncomputable def impl_SellCheap_x (k : Nat) : Ent1 := fun A R Q => match A with
 | ⟨[(.ag [(.v (.int .i64 a1)), (.v (.int .i64 a2)), (.v (.int .i64 a3))]), (.sc (.v (.int .i64 a4)))], []⟩ => (impl_SellCheap k (⟨a1, a2, a3⟩ : Rack) a4).bind fun y => Q ⟨(.tp [(.ag [(.v (.int .i64 y.1.Fresh)), (.v (.int .i64 y.1.Day)), (.v (.int .i64 y.1.Old))]), (.sc (.v (.int .i64 y.2)))]), []⟩
 | _ => none
theorem impl_SellCheap_ok (k : Nat) : OkE Tryz.prog 160 (impl_SellCheap_x k) := by
 intro A R Q x h
 unfold impl_SellCheap_x at h
 split at h
 · obtain ⟨y, hy, hK⟩ := Option.bind_eq_some_iff.1 h
   obtain ⟨r, hr, hd⟩ := callF_ok envOk (impl_SellCheap_Ok k) follows Tryz.func160 (by kernel_rfl) ((impl_SellCheap_e k _ _).trans hy)
   exact ⟨_, impl_SellCheap_i hd ▸ hr.fin [], hK⟩
 · cases h
/-! ### impl.NextMorning: function 161 -/
noncomputable def impl_NextMorning (k : Nat)  (r : Rack) (baked : Int) : Option (Rack × Int) :=
 (impl_RackOk k r).bind fun y1 =>
 cond (!y1)
  (some (r, (-1)))
  ((impl_in k baked 0 10000).bind fun y2 =>
   cond (!y2)
    (some (r, (-1)))
    (some ((⟨baked, r.Fresh, r.Day⟩ : Rack), r.Old)))
noncomputable def impl_NextMorning_v : Nat → List Nat := fun t => match t with | _ => []
noncomputable def impl_NextMorning_O (k : Nat) : Oracle := ofL [(158, impl_RackOk_x k), (68, impl_in_x k)]
theorem impl_NextMorning_Ok (k : Nat) : OkO (Ct Tryz.prog) (impl_NextMorning_O k) := okO_cons (impl_RackOk_ok k) (okO_cons (impl_in_ok k) (okO_nil))
noncomputable def impl_NextMorning_A (r : Rack) (baked : Int) : Pk := ⟨[(.ag [(.v (.int .i64 r.Fresh)), (.v (.int .i64 r.Day)), (.v (.int .i64 r.Old))]), (.sc (.v (.int .i64 baked)))], []⟩
noncomputable def impl_NextMorning_d : Rs → Option (Rack × Int)
 | ⟨(.tp [(.ag [(.v (.int .i64 r1)), (.v (.int .i64 r2)), (.v (.int .i64 r3))]), (.sc (.v (.int .i64 r4)))]), []⟩ => some ((⟨r1, r2, r3⟩ : Rack), r4)
 | _ => none
theorem impl_NextMorning_i {r : Rs} {y : Rack × Int} (h : impl_NextMorning_d r = some y) : r = ⟨(.tp [(.ag [(.v (.int .i64 y.1.Fresh)), (.v (.int .i64 y.1.Day)), (.v (.int .i64 y.1.Old))]), (.sc (.v (.int .i64 y.2)))]), []⟩ := by
 unfold impl_NextMorning_d at h; split at h
 · cases h; rfl
 · cases h
theorem impl_NextMorning_e (k : Nat) (r : Rack) (baked : Int) : callF env (impl_NextMorning_O k) impl_NextMorning_v Tryz.f161 (k + 1) (impl_NextMorning_A r baked) (fun r => impl_NextMorning_d (r.fin 0 [])) = impl_NextMorning k r baked := by kernel_rfl
noncomputable def impl_NextMorning_x (k : Nat) : Ent1 := fun A R Q => match A with
 | ⟨[(.ag [(.v (.int .i64 a1)), (.v (.int .i64 a2)), (.v (.int .i64 a3))]), (.sc (.v (.int .i64 a4)))], []⟩ => (impl_NextMorning k (⟨a1, a2, a3⟩ : Rack) a4).bind fun y => Q ⟨(.tp [(.ag [(.v (.int .i64 y.1.Fresh)), (.v (.int .i64 y.1.Day)), (.v (.int .i64 y.1.Old))]), (.sc (.v (.int .i64 y.2)))]), []⟩
 | _ => none
theorem impl_NextMorning_ok (k : Nat) : OkE Tryz.prog 161 (impl_NextMorning_x k) := by
 intro A R Q x h
 unfold impl_NextMorning_x at h
 split at h
 · obtain ⟨y, hy, hK⟩ := Option.bind_eq_some_iff.1 h
   obtain ⟨r, hr, hd⟩ := callF_ok envOk (impl_NextMorning_Ok k) follows Tryz.func161 (by kernel_rfl) ((impl_NextMorning_e k _ _).trans hy)
   exact ⟨_, impl_NextMorning_i hd ▸ hr.fin [], hK⟩
 · cases h
/-! ### impl.EventOn: function 131 -/
noncomputable def impl_EventOn (k : Nat)  (r : Rack) (e : Event) : Option (Rack × Int × Int × Int × Bool) :=
 (impl_RackOk k r).bind fun y1 =>
 cond (!y1)
  (some (r, 0, 0, 0, false))
  ((impl_in k e.Loaves 0 1000).bind fun y2 =>
   cond (!y2)
    (some (r, 0, 0, 0, false))
    (cond (decide ((e.Kind : Int) = 1))
     ((impl_RackOk k (⟨(wr (r.Fresh + e.Loaves)), r.Day, r.Old⟩ : Rack)).bind fun y3 =>
      cond (!y3)
       (some (r, 0, 0, 0, false))
       (some ((⟨(wr (r.Fresh + e.Loaves)), r.Day, r.Old⟩ : Rack), e.Loaves, 0, 0, true)))
     (cond (decide ((e.Kind : Int) = 2))
      ((impl_SellFresh k r e.Loaves).bind fun y4 =>
       cond (!(decide ((y4.2 : Int) = e.Loaves)))
        (some (r, 0, 0, 0, false))
        ((impl_RackOk k y4.1).bind fun y5 =>
        cond (!y5)
        (some (r, 0, 0, 0, false))
        (some (y4.1, 0, y4.2, 0, true))))
      (cond (decide ((e.Kind : Int) = 3))
       ((impl_SellCheap k r e.Loaves).bind fun y6 =>
        cond (!(decide ((y6.2 : Int) = e.Loaves)))
        (some (r, 0, 0, 0, false))
        ((impl_RackOk k y6.1).bind fun y7 =>
        cond (!y7)
        (some (r, 0, 0, 0, false))
        (some (y6.1, 0, y6.2, 0, true))))
       (cond (decide ((e.Kind : Int) = 4))
        ((impl_NextMorning k r 0).bind fun y8 =>
        cond (!(decide ((e.Loaves : Int) = 0)))
        (some (r, 0, 0, 0, false))
        ((impl_RackOk k y8.1).bind fun y9 =>
        cond (!y9)
        (some (r, 0, 0, 0, false))
        (some (y8.1, 0, 0, y8.2, true))))
        (some (r, 0, 0, 0, false)))))))
noncomputable def impl_EventOn_v : Nat → List Nat := fun t => match t with | _ => []
noncomputable def impl_EventOn_O (k : Nat) : Oracle := ofL [(158, impl_RackOk_x k), (159, impl_SellFresh_x k), (160, impl_SellCheap_x k), (161, impl_NextMorning_x k), (68, impl_in_x k)]
theorem impl_EventOn_Ok (k : Nat) : OkO (Ct Tryz.prog) (impl_EventOn_O k) := okO_cons (impl_RackOk_ok k) (okO_cons (impl_SellFresh_ok k) (okO_cons (impl_SellCheap_ok k) (okO_cons (impl_NextMorning_ok k) (okO_cons (impl_in_ok k) (okO_nil)))))
noncomputable def impl_EventOn_A (r : Rack) (e : Event) : Pk := ⟨[(.ag [(.v (.int .i64 r.Fresh)), (.v (.int .i64 r.Day)), (.v (.int .i64 r.Old))]), (.ag [(.v (.int .i64 e.Kind)), (.v (.int .i64 e.Loaves))])], []⟩
noncomputable def impl_EventOn_d : Rs → Option (Rack × Int × Int × Int × Bool)
 | ⟨(.tp [(.ag [(.v (.int .i64 r1)), (.v (.int .i64 r2)), (.v (.int .i64 r3))]), (.sc (.v (.int .i64 r4))), (.sc (.v (.int .i64 r5))), (.sc (.v (.int .i64 r6))), (.sc (.v (.bool r7)))]), []⟩ => some ((⟨r1, r2, r3⟩ : Rack), r4, r5, r6, r7)
 | _ => none
theorem impl_EventOn_i {r : Rs} {y : Rack × Int × Int × Int × Bool} (h : impl_EventOn_d r = some y) : r = ⟨(.tp [(.ag [(.v (.int .i64 y.1.Fresh)), (.v (.int .i64 y.1.Day)), (.v (.int .i64 y.1.Old))]), (.sc (.v (.int .i64 y.2.1))), (.sc (.v (.int .i64 y.2.2.1))), (.sc (.v (.int .i64 y.2.2.2.1))), (.sc (.v (.bool y.2.2.2.2)))]), []⟩ := by
 unfold impl_EventOn_d at h; split at h
 · cases h; rfl
 · cases h
theorem impl_EventOn_e (k : Nat) (r : Rack) (e : Event) : callF env (impl_EventOn_O k) impl_EventOn_v Tryz.f131 (k + 1) (impl_EventOn_A r e) (fun r => impl_EventOn_d (r.fin 0 [])) = impl_EventOn k r e := by kernel_rfl
noncomputable def impl_EventOn_x (k : Nat) : Ent1 := fun A R Q => match A with
 | ⟨[(.ag [(.v (.int .i64 a1)), (.v (.int .i64 a2)), (.v (.int .i64 a3))]), (.ag [(.v (.int .i64 a4)), (.v (.int .i64 a5))])], []⟩ => (impl_EventOn k (⟨a1, a2, a3⟩ : Rack) (⟨a4, a5⟩ : Event)).bind fun y => Q ⟨(.tp [(.ag [(.v (.int .i64 y.1.Fresh)), (.v (.int .i64 y.1.Day)), (.v (.int .i64 y.1.Old))]), (.sc (.v (.int .i64 y.2.1))), (.sc (.v (.int .i64 y.2.2.1))), (.sc (.v (.int .i64 y.2.2.2.1))), (.sc (.v (.bool y.2.2.2.2)))]), []⟩
 | _ => none
theorem impl_EventOn_ok (k : Nat) : OkE Tryz.prog 131 (impl_EventOn_x k) := by
 intro A R Q x h
 unfold impl_EventOn_x at h
 split at h
 · obtain ⟨y, hy, hK⟩ := Option.bind_eq_some_iff.1 h
   obtain ⟨r, hr, hd⟩ := callF_ok envOk (impl_EventOn_Ok k) follows Tryz.func131 (by kernel_rfl) ((impl_EventOn_e k _ _).trans hy)
   exact ⟨_, impl_EventOn_i hd ▸ hr.fin [], hK⟩
 · cases h
/-! ### impl.counted: function 101 -/
noncomputable def impl_counted_s0 (k : Nat)  (events : (List Event)) (J : Int → Int → Int → Int → Int → Int → Int → Option (Book × Bool)) (x0_0 : Int) (x0_1 : Int) (x0_2 : Int) (x0_3 : Int) (x0_4 : Int) (x0_5 : Int) (x0_6 : Int) : Option (Book × Bool) :=
 cond (decide ((x0_0 : Int) < ((events).length : Int)))
 (if 0 ≤ (x0_0 : Int) ∧ (x0_0 : Int) < ((events).length : Int) then
  (impl_EventOn k (⟨x0_1, x0_2, x0_3⟩ : Rack) (events.getD (Int.toNat x0_0) dk_impl_Event)).bind fun y2 =>
   cond (!y2.2.2.2.2)
    (some ((⟨[], (⟨0, 0, 0⟩ : Rack), 0, 0, 0⟩ : Book), false))
    (J (wr (x0_0 + 1)) y2.1.Fresh y2.1.Day y2.1.Old (wr (x0_4 + y2.2.1)) (wr (x0_5 + y2.2.2.1)) (wr (x0_6 + y2.2.2.2.1))) else none)
 (some ((⟨([] ++ events), (⟨x0_1, x0_2, x0_3⟩ : Rack), x0_4, x0_5, x0_6⟩ : Book), (decide ((((events).length : Int) : Int) ≤ 40))))
noncomputable def impl_counted_l0 (k : Nat) : Nat → (List Event) → Int → Int → Int → Int → Int → Int → Int → Option (Book × Bool)
 | 0, events, x0_0, x0_1, x0_2, x0_3, x0_4, x0_5, x0_6 => impl_counted_s0 k events (fun _ _ _ _ _ _ _ => none) x0_0 x0_1 x0_2 x0_3 x0_4 x0_5 x0_6
 | m + 1, events, x0_0, x0_1, x0_2, x0_3, x0_4, x0_5, x0_6 => impl_counted_s0 k events (impl_counted_l0 k m events) x0_0 x0_1 x0_2 x0_3 x0_4 x0_5 x0_6
noncomputable def impl_counted_m (k : Nat) (J0 : (List Event) → Int → Int → Int → Int → Int → Int → Int → Option (Book × Bool)) (events : (List Event)) : Option (Book × Bool) :=
 if ([] : List Event).length + (events : List Event).length ≤ maxRow then
 J0 events 0 0 0 0 0 0 0 else none
noncomputable def impl_counted (k : Nat) (events : (List Event)) : Option (Book × Bool) := impl_counted_m k (impl_counted_l0 k k) events
noncomputable def impl_counted_v : Nat → List Nat := fun t => match t with | 3 => [0, 2, 3, 4, 16, 17, 18] | _ => []
noncomputable def impl_counted_O (k : Nat) : Oracle := ofL [(131, impl_EventOn_x k)]
theorem impl_counted_Ok (k : Nat) : OkO (Ct Tryz.prog) (impl_counted_O k) := okO_cons (impl_EventOn_ok k) (okO_nil)
noncomputable def impl_counted_A (events : (List Event)) : Pk := ⟨[(.sc (.sl 0))], [(.row false K.k_impl_Event events)]⟩
noncomputable def impl_counted_d : Rs → Option (Book × Bool)
 | ⟨(.tp [(.ag [(.sl 1), (.v (.int .i64 r2)), (.v (.int .i64 r3)), (.v (.int .i64 r4)), (.v (.int .i64 r5)), (.v (.int .i64 r6)), (.v (.int .i64 r7))]), (.sc (.v (.bool r8)))]), [.dead, (.row true K.k_impl_Event r1)]⟩ => some ((⟨r1, (⟨r2, r3, r4⟩ : Rack), r5, r6, r7⟩ : Book), r8)
 | _ => none
theorem impl_counted_i {r : Rs} {y : Book × Bool} (h : impl_counted_d r = some y) : r = ⟨(.tp [(.ag [(.sl 1), (.v (.int .i64 y.1.Rack.Fresh)), (.v (.int .i64 y.1.Rack.Day)), (.v (.int .i64 y.1.Rack.Old)), (.v (.int .i64 y.1.Baked)), (.v (.int .i64 y.1.Sold)), (.v (.int .i64 y.1.Thrown))]), (.sc (.v (.bool y.2)))]), [.dead, (.row true K.k_impl_Event y.1.Events)]⟩ := by
 unfold impl_counted_d at h; split at h
 · cases h; rfl
 · cases h
noncomputable def impl_counted_h0 (k m : Nat) (events : (List Event)) (x0_0 : Int) (x0_1 : Int) (x0_2 : Int) (x0_3 : Int) (x0_4 : Int) (x0_5 : Int) (x0_6 : Int) : Option (Book × Bool) := hdAt env (impl_counted_O k) impl_counted_v Tryz.f101 1 (fun r => impl_counted_d (r.fin 1 [])) [1, 1, 0, 1, 0] k m ⟨tmF [0, 2, 3, 4, 16, 17, 18] [(.a (.sc (.sl 0))), (.a (.sc (.bp 2 0))), (.a (.sc (.v (.bool false)))), (.a (.sc (.bp 4 0))), (.a (.sc (.sl 0))), (.a (.sc (.v (.int .i64 ((events).length : Int))))), (.a (.sc (.v (.int .i64 x0_0))))], blF [(.row false K.k_impl_Event events), (.row true K.k_impl_Event []), (.box true [(.sl 1), (.v (.int .i64 0)), (.v (.int .i64 0)), (.v (.int .i64 0)), (.v (.int .i64 0)), (.v (.int .i64 0)), (.v (.int .i64 0))]), (.row true K.k_impl_Event ([] ++ events)), (.box true [(.sl 3), (.v (.int .i64 x0_1)), (.v (.int .i64 x0_2)), (.v (.int .i64 x0_3)), (.v (.int .i64 x0_4)), (.v (.int .i64 x0_5)), (.v (.int .i64 x0_6))])]⟩
theorem impl_counted_z0 (k : Nat) (events : (List Event)) (x0_0 : Int) (x0_1 : Int) (x0_2 : Int) (x0_3 : Int) (x0_4 : Int) (x0_5 : Int) (x0_6 : Int) : impl_counted_h0 k 0 events x0_0 x0_1 x0_2 x0_3 x0_4 x0_5 x0_6 = impl_counted_s0 k events (fun _ _ _ _ _ _ _ => none) x0_0 x0_1 x0_2 x0_3 x0_4 x0_5 x0_6 := by kernel_rfl
theorem impl_counted_g0 (k : Nat) (H : St → Option (Book × Bool)) (events : (List Event)) (x0_0 : Int) (x0_1 : Int) (x0_2 : Int) (x0_3 : Int) (x0_4 : Int) (x0_5 : Int) (x0_6 : Int) : rnd env (impl_counted_O k) impl_counted_v Tryz.f101 1 (fun r => impl_counted_d (r.fin 1 [])) [1, 1, 0, 1, 0] k H ⟨tmF [0, 2, 3, 4, 16, 17, 18] [(.a (.sc (.sl 0))), (.a (.sc (.bp 2 0))), (.a (.sc (.v (.bool false)))), (.a (.sc (.bp 4 0))), (.a (.sc (.sl 0))), (.a (.sc (.v (.int .i64 ((events).length : Int))))), (.a (.sc (.v (.int .i64 x0_0))))], blF [(.row false K.k_impl_Event events), (.row true K.k_impl_Event []), (.box true [(.sl 1), (.v (.int .i64 0)), (.v (.int .i64 0)), (.v (.int .i64 0)), (.v (.int .i64 0)), (.v (.int .i64 0)), (.v (.int .i64 0))]), (.row true K.k_impl_Event ([] ++ events)), (.box true [(.sl 3), (.v (.int .i64 x0_1)), (.v (.int .i64 x0_2)), (.v (.int .i64 x0_3)), (.v (.int .i64 x0_4)), (.v (.int .i64 x0_5)), (.v (.int .i64 x0_6))])]⟩ = impl_counted_s0 k events (fun x0_0 x0_1 x0_2 x0_3 x0_4 x0_5 x0_6 => H ⟨tmF [0, 2, 3, 4, 16, 17, 18] [(.a (.sc (.sl 0))), (.a (.sc (.bp 2 0))), (.a (.sc (.v (.bool false)))), (.a (.sc (.bp 4 0))), (.a (.sc (.sl 0))), (.a (.sc (.v (.int .i64 ((events).length : Int))))), (.a (.sc (.v (.int .i64 x0_0))))], blF [(.row false K.k_impl_Event events), (.row true K.k_impl_Event []), (.box true [(.sl 1), (.v (.int .i64 0)), (.v (.int .i64 0)), (.v (.int .i64 0)), (.v (.int .i64 0)), (.v (.int .i64 0)), (.v (.int .i64 0))]), (.row true K.k_impl_Event ([] ++ events)), (.box true [(.sl 3), (.v (.int .i64 x0_1)), (.v (.int .i64 x0_2)), (.v (.int .i64 x0_3)), (.v (.int .i64 x0_4)), (.v (.int .i64 x0_5)), (.v (.int .i64 x0_6))])]⟩) x0_0 x0_1 x0_2 x0_3 x0_4 x0_5 x0_6 := by kernel_rfl
theorem impl_counted_n0 (k m : Nat) (events : (List Event)) (x0_0 : Int) (x0_1 : Int) (x0_2 : Int) (x0_3 : Int) (x0_4 : Int) (x0_5 : Int) (x0_6 : Int) : impl_counted_h0 k (m + 1) events x0_0 x0_1 x0_2 x0_3 x0_4 x0_5 x0_6 = impl_counted_s0 k events (impl_counted_h0 k m events) x0_0 x0_1 x0_2 x0_3 x0_4 x0_5 x0_6 := (hdAt_succ _ _ _ _ _ _ _ _ _ _).trans (impl_counted_g0 k _ events x0_0 x0_1 x0_2 x0_3 x0_4 x0_5 x0_6)
theorem impl_counted_q0 (k : Nat) : ∀ m, impl_counted_h0 k m = impl_counted_l0 k m := by
 intro m
 induction m with
 | zero => funext events x0_0 x0_1 x0_2 x0_3 x0_4 x0_5 x0_6; rw [impl_counted_z0]; rfl
 | succ m ih => funext events x0_0 x0_1 x0_2 x0_3 x0_4 x0_5 x0_6; rw [impl_counted_n0, ih]; rfl
theorem impl_counted_e (k : Nat) (events : (List Event)) : callF env (impl_counted_O k) impl_counted_v Tryz.f101 (k + 1) (impl_counted_A events) (fun r => impl_counted_d (r.fin 1 [])) = impl_counted k events := by
 have e : ∀ H : St → Option (Book × Bool), callE env (impl_counted_O k) impl_counted_v Tryz.f101 (k + 1) (impl_counted_A events) [1, 1, 0, 1, 0] (fun r => impl_counted_d (r.fin 1 [])) H = impl_counted_m k (fun events x0_0 x0_1 x0_2 x0_3 x0_4 x0_5 x0_6 => H ⟨tmF [0, 2, 3, 4, 16, 17, 18] [(.a (.sc (.sl 0))), (.a (.sc (.bp 2 0))), (.a (.sc (.v (.bool false)))), (.a (.sc (.bp 4 0))), (.a (.sc (.sl 0))), (.a (.sc (.v (.int .i64 ((events).length : Int))))), (.a (.sc (.v (.int .i64 x0_0))))], blF [(.row false K.k_impl_Event events), (.row true K.k_impl_Event []), (.box true [(.sl 1), (.v (.int .i64 0)), (.v (.int .i64 0)), (.v (.int .i64 0)), (.v (.int .i64 0)), (.v (.int .i64 0)), (.v (.int .i64 0))]), (.row true K.k_impl_Event ([] ++ events)), (.box true [(.sl 3), (.v (.int .i64 x0_1)), (.v (.int .i64 x0_2)), (.v (.int .i64 x0_3)), (.v (.int .i64 x0_4)), (.v (.int .i64 x0_5)), (.v (.int .i64 x0_6))])]⟩) events := fun H => by kernel_rfl
 exact (callE_eq env (impl_counted_O k) impl_counted_v Tryz.f101 k (impl_counted_A events) [1, 1, 0, 1, 0] 1 (fun r => impl_counted_d (r.fin 1 [])) rfl (by kernel_rfl)).trans ((e (hdAt env (impl_counted_O k) impl_counted_v Tryz.f101 1 (fun r => impl_counted_d (r.fin 1 [])) [1, 1, 0, 1, 0] k k)).trans (by
  show impl_counted_m k (impl_counted_h0 k k) events = _
  rw [impl_counted_q0]; rfl))
noncomputable def impl_counted_x (k : Nat) : Ent1 := fun A R Q => match A with
 | ⟨[(.sc (.sl 0))], [(.row false K.k_impl_Event a1)]⟩ => (impl_counted k a1).bind fun y => Q ⟨(.tp [(.ag [(.sl 1), (.v (.int .i64 y.1.Rack.Fresh)), (.v (.int .i64 y.1.Rack.Day)), (.v (.int .i64 y.1.Rack.Old)), (.v (.int .i64 y.1.Baked)), (.v (.int .i64 y.1.Sold)), (.v (.int .i64 y.1.Thrown))]), (.sc (.v (.bool y.2)))]), [.dead, (.row true K.k_impl_Event y.1.Events)]⟩
 | _ => none
theorem impl_counted_ok (k : Nat) : OkE Tryz.prog 101 (impl_counted_x k) := by
 intro A R Q x h
 unfold impl_counted_x at h
 split at h
 · obtain ⟨y, hy, hK⟩ := Option.bind_eq_some_iff.1 h
   obtain ⟨r, hr, hd⟩ := callF_ok envOk (impl_counted_Ok k) follows Tryz.func101 (by kernel_rfl) ((impl_counted_e k _).trans hy)
   exact ⟨_, impl_counted_i hd ▸ hr.fin [], hK⟩
 · cases h
/-! ### impl.BookOk: function 67 -/
noncomputable def impl_BookOk (k : Nat)  (b : Book) : Option (Bool) :=
 (impl_counted k b.Events).bind fun y1 =>
 cond y1.2
  (cond (decide ((y1.1.Rack.Fresh : Int) = b.Rack.Fresh) && (decide ((y1.1.Rack.Day : Int) = b.Rack.Day) && decide ((y1.1.Rack.Old : Int) = b.Rack.Old)))
   (cond (decide ((y1.1.Baked : Int) = b.Baked))
    (cond (decide ((y1.1.Sold : Int) = b.Sold))
     (some (decide ((y1.1.Thrown : Int) = b.Thrown)))
     (some false))
    (some false))
   (some false))
  (some false)
noncomputable def impl_BookOk_v : Nat → List Nat := fun t => match t with | _ => []
noncomputable def impl_BookOk_O (k : Nat) : Oracle := ofL [(101, impl_counted_x k)]
theorem impl_BookOk_Ok (k : Nat) : OkO (Ct Tryz.prog) (impl_BookOk_O k) := okO_cons (impl_counted_ok k) (okO_nil)
noncomputable def impl_BookOk_A (b : Book) : Pk := ⟨[(.ag [(.sl 0), (.v (.int .i64 b.Rack.Fresh)), (.v (.int .i64 b.Rack.Day)), (.v (.int .i64 b.Rack.Old)), (.v (.int .i64 b.Baked)), (.v (.int .i64 b.Sold)), (.v (.int .i64 b.Thrown))])], [(.row false K.k_impl_Event b.Events)]⟩
noncomputable def impl_BookOk_d : Rs → Option (Bool)
 | ⟨(.a (.sc (.v (.bool r1)))), [.dead]⟩ => some r1
 | _ => none
theorem impl_BookOk_i {r : Rs} {y : Bool} (h : impl_BookOk_d r = some y) : r = ⟨(.a (.sc (.v (.bool y)))), [.dead]⟩ := by
 unfold impl_BookOk_d at h; split at h
 · cases h; rfl
 · cases h
theorem impl_BookOk_e (k : Nat) (b : Book) : callF env (impl_BookOk_O k) impl_BookOk_v Tryz.f67 (k + 1) (impl_BookOk_A b) (fun r => impl_BookOk_d (r.fin 1 [])) = impl_BookOk k b := by kernel_rfl
noncomputable def impl_BookOk_x (k : Nat) : Ent1 := fun A R Q => match A with
 | ⟨[(.ag [(.sl 0), (.v (.int .i64 a2)), (.v (.int .i64 a3)), (.v (.int .i64 a4)), (.v (.int .i64 a5)), (.v (.int .i64 a6)), (.v (.int .i64 a7))])], [(.row false K.k_impl_Event a1)]⟩ => (impl_BookOk k (⟨a1, (⟨a2, a3, a4⟩ : Rack), a5, a6, a7⟩ : Book)).bind fun y => Q ⟨(.a (.sc (.v (.bool y)))), [.dead]⟩
 | _ => none
theorem impl_BookOk_ok (k : Nat) : OkE Tryz.prog 67 (impl_BookOk_x k) := by
 intro A R Q x h
 unfold impl_BookOk_x at h
 split at h
 · obtain ⟨y, hy, hK⟩ := Option.bind_eq_some_iff.1 h
   obtain ⟨r, hr, hd⟩ := callF_ok envOk (impl_BookOk_Ok k) follows Tryz.func67 (by kernel_rfl) ((impl_BookOk_e k _).trans hy)
   exact ⟨_, impl_BookOk_i hd ▸ hr.fin [], hK⟩
 · cases h
/-! ### impl.BakeryOk: function 35 -/
noncomputable def impl_BakeryOk (k : Nat)  (b : Bakery) : Option (Bool) :=
 (impl_StoreOk k b.Stock).bind fun y1 =>
 cond y1
  ((impl_DoughOk k b.Dough).bind fun y2 =>
   cond y2
    ((impl_LoafOk k b.Loaf).bind fun y3 =>
     cond y3
      ((impl_BookOk k b.Book).bind fun y4 =>
       cond y4
        ((impl_in k b.Money 0 1000000).bind fun y5 =>
        some y5)
        (some false))
      (some false))
    (some false))
  (some false)
noncomputable def impl_BakeryOk_v : Nat → List Nat := fun t => match t with | _ => []
noncomputable def impl_BakeryOk_O (k : Nat) : Oracle := ofL [(64, impl_StoreOk_x k), (65, impl_DoughOk_x k), (66, impl_LoafOk_x k), (67, impl_BookOk_x k), (68, impl_in_x k)]
theorem impl_BakeryOk_Ok (k : Nat) : OkO (Ct Tryz.prog) (impl_BakeryOk_O k) := okO_cons (impl_StoreOk_ok k) (okO_cons (impl_DoughOk_ok k) (okO_cons (impl_LoafOk_ok k) (okO_cons (impl_BookOk_ok k) (okO_cons (impl_in_ok k) (okO_nil)))))
noncomputable def impl_BakeryOk_A (b : Bakery) : Pk := ⟨[(.ag [(.sl 0), (.v (.int .i64 b.Dough.Water)), (.v (.int .i64 b.Dough.Salt)), (.v (.int .i64 b.Dough.Leaven)), (.v (.int .i64 b.Loaf.Weight)), (.v (.int .i64 b.Loaf.Loss)), (.sl 1), (.v (.int .i64 b.Book.Rack.Fresh)), (.v (.int .i64 b.Book.Rack.Day)), (.v (.int .i64 b.Book.Rack.Old)), (.v (.int .i64 b.Book.Baked)), (.v (.int .i64 b.Book.Sold)), (.v (.int .i64 b.Book.Thrown)), (.v (.int .i64 b.Money))])], [(.row false K.ki64 b.Stock.Grams), (.row false K.k_impl_Event b.Book.Events)]⟩
noncomputable def impl_BakeryOk_d : Rs → Option (Bool)
 | ⟨(.a (.sc (.v (.bool r1)))), [.dead, .dead]⟩ => some r1
 | _ => none
theorem impl_BakeryOk_i {r : Rs} {y : Bool} (h : impl_BakeryOk_d r = some y) : r = ⟨(.a (.sc (.v (.bool y)))), [.dead, .dead]⟩ := by
 unfold impl_BakeryOk_d at h; split at h
 · cases h; rfl
 · cases h
theorem impl_BakeryOk_e (k : Nat) (b : Bakery) : callF env (impl_BakeryOk_O k) impl_BakeryOk_v Tryz.f35 (k + 1) (impl_BakeryOk_A b) (fun r => impl_BakeryOk_d (r.fin 2 [])) = impl_BakeryOk k b := by kernel_rfl
noncomputable def impl_BakeryOk_x (k : Nat) : Ent1 := fun A R Q => match A with
 | ⟨[(.ag [(.sl 0), (.v (.int .i64 a2)), (.v (.int .i64 a3)), (.v (.int .i64 a4)), (.v (.int .i64 a5)), (.v (.int .i64 a6)), (.sl 1), (.v (.int .i64 a8)), (.v (.int .i64 a9)), (.v (.int .i64 a10)), (.v (.int .i64 a11)), (.v (.int .i64 a12)), (.v (.int .i64 a13)), (.v (.int .i64 a14))])], [(.row false K.ki64 a1), (.row false K.k_impl_Event a7)]⟩ => (impl_BakeryOk k (⟨(⟨a1⟩ : Stock), (⟨a2, a3, a4⟩ : Dough), (⟨a5, a6⟩ : Loaf), (⟨a7, (⟨a8, a9, a10⟩ : Rack), a11, a12, a13⟩ : Book), a14⟩ : Bakery)).bind fun y => Q ⟨(.a (.sc (.v (.bool y)))), [.dead, .dead]⟩
 | _ => none
theorem impl_BakeryOk_ok (k : Nat) : OkE Tryz.prog 35 (impl_BakeryOk_x k) := by
 intro A R Q x h
 unfold impl_BakeryOk_x at h
 split at h
 · obtain ⟨y, hy, hK⟩ := Option.bind_eq_some_iff.1 h
   obtain ⟨r, hr, hd⟩ := callF_ok envOk (impl_BakeryOk_Ok k) follows Tryz.func35 (by kernel_rfl) ((impl_BakeryOk_e k _).trans hy)
   exact ⟨_, impl_BakeryOk_i hd ▸ hr.fin [], hK⟩
 · cases h
/-! ### impl.OpenBakery: function 37 -/
noncomputable def impl_OpenBakery (k : Nat)  (grams : (List Int)) (d : Dough) (l : Loaf) (money : Int) : Option (Bakery × Bool) :=
 (impl_bakeryCopy k (⟨(⟨grams⟩ : Stock), d, l, (⟨[], (⟨0, 0, 0⟩ : Rack), 0, 0, 0⟩ : Book), money⟩ : Bakery)).bind fun y1 =>
 (impl_BakeryOk k y1).bind fun y2 =>
  cond (!y2)
   (some ((⟨(⟨[]⟩ : Stock), (⟨0, 0, 0⟩ : Dough), (⟨0, 0⟩ : Loaf), (⟨[], (⟨0, 0, 0⟩ : Rack), 0, 0, 0⟩ : Book), 0⟩ : Bakery), false))
   (some (y1, true))
noncomputable def impl_OpenBakery_v : Nat → List Nat := fun t => match t with | _ => []
noncomputable def impl_OpenBakery_O (k : Nat) : Oracle := ofL [(34, impl_bakeryCopy_x k), (35, impl_BakeryOk_x k)]
theorem impl_OpenBakery_Ok (k : Nat) : OkO (Ct Tryz.prog) (impl_OpenBakery_O k) := okO_cons (impl_bakeryCopy_ok k) (okO_cons (impl_BakeryOk_ok k) (okO_nil))
noncomputable def impl_OpenBakery_A (grams : (List Int)) (d : Dough) (l : Loaf) (money : Int) : Pk := ⟨[(.sc (.sl 0)), (.ag [(.v (.int .i64 d.Water)), (.v (.int .i64 d.Salt)), (.v (.int .i64 d.Leaven))]), (.ag [(.v (.int .i64 l.Weight)), (.v (.int .i64 l.Loss))]), (.sc (.v (.int .i64 money)))], [(.row false K.ki64 grams)]⟩
noncomputable def impl_OpenBakery_d : Rs → Option (Bakery × Bool)
 | ⟨(.tp [(.ag [(.sl 1), (.v (.int .i64 r2)), (.v (.int .i64 r3)), (.v (.int .i64 r4)), (.v (.int .i64 r5)), (.v (.int .i64 r6)), (.sl 2), (.v (.int .i64 r8)), (.v (.int .i64 r9)), (.v (.int .i64 r10)), (.v (.int .i64 r11)), (.v (.int .i64 r12)), (.v (.int .i64 r13)), (.v (.int .i64 r14))]), (.sc (.v (.bool r15)))]), [.dead, (.row true K.ki64 r1), (.row true K.k_impl_Event r7)]⟩ => some ((⟨(⟨r1⟩ : Stock), (⟨r2, r3, r4⟩ : Dough), (⟨r5, r6⟩ : Loaf), (⟨r7, (⟨r8, r9, r10⟩ : Rack), r11, r12, r13⟩ : Book), r14⟩ : Bakery), r15)
 | _ => none
theorem impl_OpenBakery_i {r : Rs} {y : Bakery × Bool} (h : impl_OpenBakery_d r = some y) : r = ⟨(.tp [(.ag [(.sl 1), (.v (.int .i64 y.1.Dough.Water)), (.v (.int .i64 y.1.Dough.Salt)), (.v (.int .i64 y.1.Dough.Leaven)), (.v (.int .i64 y.1.Loaf.Weight)), (.v (.int .i64 y.1.Loaf.Loss)), (.sl 2), (.v (.int .i64 y.1.Book.Rack.Fresh)), (.v (.int .i64 y.1.Book.Rack.Day)), (.v (.int .i64 y.1.Book.Rack.Old)), (.v (.int .i64 y.1.Book.Baked)), (.v (.int .i64 y.1.Book.Sold)), (.v (.int .i64 y.1.Book.Thrown)), (.v (.int .i64 y.1.Money))]), (.sc (.v (.bool y.2)))]), [.dead, (.row true K.ki64 y.1.Stock.Grams), (.row true K.k_impl_Event y.1.Book.Events)]⟩ := by
 unfold impl_OpenBakery_d at h; split at h
 · cases h; rfl
 · cases h
theorem impl_OpenBakery_e (k : Nat) (grams : (List Int)) (d : Dough) (l : Loaf) (money : Int) : callF env (impl_OpenBakery_O k) impl_OpenBakery_v Tryz.f37 (k + 1) (impl_OpenBakery_A grams d l money) (fun r => impl_OpenBakery_d (r.fin 1 [])) = impl_OpenBakery k grams d l money := by kernel_rfl
noncomputable def impl_OpenBakery_x (k : Nat) : Ent1 := fun A R Q => match A with
 | ⟨[(.sc (.sl 0)), (.ag [(.v (.int .i64 a2)), (.v (.int .i64 a3)), (.v (.int .i64 a4))]), (.ag [(.v (.int .i64 a5)), (.v (.int .i64 a6))]), (.sc (.v (.int .i64 a7)))], [(.row false K.ki64 a1)]⟩ => (impl_OpenBakery k a1 (⟨a2, a3, a4⟩ : Dough) (⟨a5, a6⟩ : Loaf) a7).bind fun y => Q ⟨(.tp [(.ag [(.sl 1), (.v (.int .i64 y.1.Dough.Water)), (.v (.int .i64 y.1.Dough.Salt)), (.v (.int .i64 y.1.Dough.Leaven)), (.v (.int .i64 y.1.Loaf.Weight)), (.v (.int .i64 y.1.Loaf.Loss)), (.sl 2), (.v (.int .i64 y.1.Book.Rack.Fresh)), (.v (.int .i64 y.1.Book.Rack.Day)), (.v (.int .i64 y.1.Book.Rack.Old)), (.v (.int .i64 y.1.Book.Baked)), (.v (.int .i64 y.1.Book.Sold)), (.v (.int .i64 y.1.Book.Thrown)), (.v (.int .i64 y.1.Money))]), (.sc (.v (.bool y.2)))]), [.dead, (.row true K.ki64 y.1.Stock.Grams), (.row true K.k_impl_Event y.1.Book.Events)]⟩
 | _ => none
theorem impl_OpenBakery_ok (k : Nat) : OkE Tryz.prog 37 (impl_OpenBakery_x k) := by
 intro A R Q x h
 unfold impl_OpenBakery_x at h
 split at h
 · obtain ⟨y, hy, hK⟩ := Option.bind_eq_some_iff.1 h
   obtain ⟨r, hr, hd⟩ := callF_ok envOk (impl_OpenBakery_Ok k) follows Tryz.func37 (by kernel_rfl) ((impl_OpenBakery_e k _ _ _ _).trans hy)
   exact ⟨_, impl_OpenBakery_i hd ▸ hr.fin [], hK⟩
 · cases h
/-! ### impl.SampleBakery: function 14 -/
noncomputable def impl_SampleBakery (k : Nat)  : Option (Bakery) :=
 (impl_OpenBakery k ([4000, 3000, 100, 800]) (⟨650, 20, 200⟩ : Dough) (⟨500, 15⟩ : Loaf) 50).bind fun y1 =>
 some y1.1
noncomputable def impl_SampleBakery_v : Nat → List Nat := fun t => match t with | _ => []
noncomputable def impl_SampleBakery_O (k : Nat) : Oracle := ofL [(37, impl_OpenBakery_x k)]
theorem impl_SampleBakery_Ok (k : Nat) : OkO (Ct Tryz.prog) (impl_SampleBakery_O k) := okO_cons (impl_OpenBakery_ok k) (okO_nil)
noncomputable def impl_SampleBakery_A : Pk := ⟨[], []⟩
noncomputable def impl_SampleBakery_d : Rs → Option (Bakery)
 | ⟨(.a (.ag [(.sl 0), (.v (.int .i64 r2)), (.v (.int .i64 r3)), (.v (.int .i64 r4)), (.v (.int .i64 r5)), (.v (.int .i64 r6)), (.sl 1), (.v (.int .i64 r8)), (.v (.int .i64 r9)), (.v (.int .i64 r10)), (.v (.int .i64 r11)), (.v (.int .i64 r12)), (.v (.int .i64 r13)), (.v (.int .i64 r14))])), [(.row true K.ki64 r1), (.row true K.k_impl_Event r7)]⟩ => some (⟨(⟨r1⟩ : Stock), (⟨r2, r3, r4⟩ : Dough), (⟨r5, r6⟩ : Loaf), (⟨r7, (⟨r8, r9, r10⟩ : Rack), r11, r12, r13⟩ : Book), r14⟩ : Bakery)
 | _ => none
theorem impl_SampleBakery_i {r : Rs} {y : Bakery} (h : impl_SampleBakery_d r = some y) : r = ⟨(.a (.ag [(.sl 0), (.v (.int .i64 y.Dough.Water)), (.v (.int .i64 y.Dough.Salt)), (.v (.int .i64 y.Dough.Leaven)), (.v (.int .i64 y.Loaf.Weight)), (.v (.int .i64 y.Loaf.Loss)), (.sl 1), (.v (.int .i64 y.Book.Rack.Fresh)), (.v (.int .i64 y.Book.Rack.Day)), (.v (.int .i64 y.Book.Rack.Old)), (.v (.int .i64 y.Book.Baked)), (.v (.int .i64 y.Book.Sold)), (.v (.int .i64 y.Book.Thrown)), (.v (.int .i64 y.Money))])), [(.row true K.ki64 y.Stock.Grams), (.row true K.k_impl_Event y.Book.Events)]⟩ := by
 unfold impl_SampleBakery_d at h; split at h
 · cases h; rfl
 · cases h
theorem impl_SampleBakery_e (k : Nat) : callF env (impl_SampleBakery_O k) impl_SampleBakery_v Tryz.f14 (k + 1) (impl_SampleBakery_A) (fun r => impl_SampleBakery_d (r.fin 0 [])) = impl_SampleBakery k := by kernel_rfl
noncomputable def impl_SampleBakery_x (k : Nat) : Ent1 := fun A R Q => match A with
 | ⟨[], []⟩ => (impl_SampleBakery k).bind fun y => Q ⟨(.a (.ag [(.sl 0), (.v (.int .i64 y.Dough.Water)), (.v (.int .i64 y.Dough.Salt)), (.v (.int .i64 y.Dough.Leaven)), (.v (.int .i64 y.Loaf.Weight)), (.v (.int .i64 y.Loaf.Loss)), (.sl 1), (.v (.int .i64 y.Book.Rack.Fresh)), (.v (.int .i64 y.Book.Rack.Day)), (.v (.int .i64 y.Book.Rack.Old)), (.v (.int .i64 y.Book.Baked)), (.v (.int .i64 y.Book.Sold)), (.v (.int .i64 y.Book.Thrown)), (.v (.int .i64 y.Money))])), [(.row true K.ki64 y.Stock.Grams), (.row true K.k_impl_Event y.Book.Events)]⟩
 | _ => none
theorem impl_SampleBakery_ok (k : Nat) : OkE Tryz.prog 14 (impl_SampleBakery_x k) := by
 intro A R Q x h
 unfold impl_SampleBakery_x at h
 split at h
 · obtain ⟨y, hy, hK⟩ := Option.bind_eq_some_iff.1 h
   obtain ⟨r, hr, hd⟩ := callF_ok envOk (impl_SampleBakery_Ok k) follows Tryz.func14 (by kernel_rfl) ((impl_SampleBakery_e k).trans hy)
   exact ⟨_, impl_SampleBakery_i hd ▸ hr.fin [], hK⟩
 · cases h
/-! ### impl.up: function 110 -/
noncomputable def impl_up (k : Nat)  (a : Int) (b : Int) : Option (Int) :=
 if (b : Int) ≠ 0 then
 some (wr (Int.tdiv (wr ((wr (a + b)) - 1)) b)) else none
noncomputable def impl_up_v : Nat → List Nat := fun t => match t with | _ => []
noncomputable def impl_up_O (k : Nat) : Oracle := ofL []
theorem impl_up_Ok (k : Nat) : OkO (Ct Tryz.prog) (impl_up_O k) := okO_nil
noncomputable def impl_up_A (a : Int) (b : Int) : Pk := ⟨[(.sc (.v (.int .i64 a))), (.sc (.v (.int .i64 b)))], []⟩
noncomputable def impl_up_d : Rs → Option (Int)
 | ⟨(.a (.sc (.v (.int .i64 r1)))), []⟩ => some r1
 | _ => none
theorem impl_up_i {r : Rs} {y : Int} (h : impl_up_d r = some y) : r = ⟨(.a (.sc (.v (.int .i64 y)))), []⟩ := by
 unfold impl_up_d at h; split at h
 · cases h; rfl
 · cases h
theorem impl_up_e (k : Nat) (a : Int) (b : Int) : callF env (impl_up_O k) impl_up_v Tryz.f110 (k + 1) (impl_up_A a b) (fun r => impl_up_d (r.fin 0 [])) = impl_up k a b := by kernel_rfl
noncomputable def impl_up_x (k : Nat) : Ent1 := fun A R Q => match A with
 | ⟨[(.sc (.v (.int .i64 a1))), (.sc (.v (.int .i64 a2)))], []⟩ => (impl_up k a1 a2).bind fun y => Q ⟨(.a (.sc (.v (.int .i64 y)))), []⟩
 | _ => none
theorem impl_up_ok (k : Nat) : OkE Tryz.prog 110 (impl_up_x k) := by
 intro A R Q x h
 unfold impl_up_x at h
 split at h
 · obtain ⟨y, hy, hK⟩ := Option.bind_eq_some_iff.1 h
   obtain ⟨r, hr, hd⟩ := callF_ok envOk (impl_up_Ok k) follows Tryz.func110 (by kernel_rfl) ((impl_up_e k _ _).trans hy)
   exact ⟨_, impl_up_i hd ▸ hr.fin [], hK⟩
 · cases h
/-! ### impl.Loaf).baked: function 136 -/
noncomputable def impl_Loaf_baked (k : Nat)  (l : Loaf) (dough : Int) : Option (Int) :=
 (impl_up k (wr (dough * l.Loss)) 100).bind fun y1 =>
 some (wr (dough - y1))
noncomputable def impl_Loaf_baked_v : Nat → List Nat := fun t => match t with | _ => []
noncomputable def impl_Loaf_baked_O (k : Nat) : Oracle := ofL [(110, impl_up_x k)]
theorem impl_Loaf_baked_Ok (k : Nat) : OkO (Ct Tryz.prog) (impl_Loaf_baked_O k) := okO_cons (impl_up_ok k) (okO_nil)
noncomputable def impl_Loaf_baked_A (l : Loaf) (dough : Int) : Pk := ⟨[(.ag [(.v (.int .i64 l.Weight)), (.v (.int .i64 l.Loss))]), (.sc (.v (.int .i64 dough)))], []⟩
noncomputable def impl_Loaf_baked_d : Rs → Option (Int)
 | ⟨(.a (.sc (.v (.int .i64 r1)))), []⟩ => some r1
 | _ => none
theorem impl_Loaf_baked_i {r : Rs} {y : Int} (h : impl_Loaf_baked_d r = some y) : r = ⟨(.a (.sc (.v (.int .i64 y)))), []⟩ := by
 unfold impl_Loaf_baked_d at h; split at h
 · cases h; rfl
 · cases h
theorem impl_Loaf_baked_e (k : Nat) (l : Loaf) (dough : Int) : callF env (impl_Loaf_baked_O k) impl_Loaf_baked_v Tryz.f136 (k + 1) (impl_Loaf_baked_A l dough) (fun r => impl_Loaf_baked_d (r.fin 0 [])) = impl_Loaf_baked k l dough := by kernel_rfl
noncomputable def impl_Loaf_baked_x (k : Nat) : Ent1 := fun A R Q => match A with
 | ⟨[(.ag [(.v (.int .i64 a1)), (.v (.int .i64 a2))]), (.sc (.v (.int .i64 a3)))], []⟩ => (impl_Loaf_baked k (⟨a1, a2⟩ : Loaf) a3).bind fun y => Q ⟨(.a (.sc (.v (.int .i64 y)))), []⟩
 | _ => none
theorem impl_Loaf_baked_ok (k : Nat) : OkE Tryz.prog 136 (impl_Loaf_baked_x k) := by
 intro A R Q x h
 unfold impl_Loaf_baked_x at h
 split at h
 · obtain ⟨y, hy, hK⟩ := Option.bind_eq_some_iff.1 h
   obtain ⟨r, hr, hd⟩ := callF_ok envOk (impl_Loaf_baked_Ok k) follows Tryz.func136 (by kernel_rfl) ((impl_Loaf_baked_e k _ _).trans hy)
   exact ⟨_, impl_Loaf_baked_i hd ▸ hr.fin [], hK⟩
 · cases h
/-! ### impl.DoughFor: function 112 -/
noncomputable def impl_DoughFor_s0 (k : Nat)  (l : Loaf) (J : Int → Option (Int)) (x0_0 : Int) : Option (Int) :=
 (impl_Loaf_baked k l x0_0).bind fun y3 =>
 cond (decide ((y3 : Int) < l.Weight))
  (J (wr (x0_0 + 1)))
  (some x0_0)
noncomputable def impl_DoughFor_l0 (k : Nat) : Nat → Loaf → Int → Option (Int)
 | 0, l, x0_0 => impl_DoughFor_s0 k l (fun _ => none) x0_0
 | m + 1, l, x0_0 => impl_DoughFor_s0 k l (impl_DoughFor_l0 k m l) x0_0
noncomputable def impl_DoughFor_m (k : Nat) (J0 : Loaf → Int → Option (Int)) (l : Loaf) : Option (Int) :=
 (impl_LoafOk k l).bind fun y1 =>
 cond (!y1)
  (some (-1))
  (J0 l l.Weight)
noncomputable def impl_DoughFor (k : Nat) (l : Loaf) : Option (Int) := impl_DoughFor_m k (impl_DoughFor_l0 k k) l
noncomputable def impl_DoughFor_v : Nat → List Nat := fun t => match t with | 4 => [1, 2, 3] | _ => []
noncomputable def impl_DoughFor_O (k : Nat) : Oracle := ofL [(136, impl_Loaf_baked_x k), (66, impl_LoafOk_x k)]
theorem impl_DoughFor_Ok (k : Nat) : OkO (Ct Tryz.prog) (impl_DoughFor_O k) := okO_cons (impl_Loaf_baked_ok k) (okO_cons (impl_LoafOk_ok k) (okO_nil))
noncomputable def impl_DoughFor_A (l : Loaf) : Pk := ⟨[(.ag [(.v (.int .i64 l.Weight)), (.v (.int .i64 l.Loss))])], []⟩
noncomputable def impl_DoughFor_d : Rs → Option (Int)
 | ⟨(.a (.sc (.v (.int .i64 r1)))), []⟩ => some r1
 | _ => none
theorem impl_DoughFor_i {r : Rs} {y : Int} (h : impl_DoughFor_d r = some y) : r = ⟨(.a (.sc (.v (.int .i64 y)))), []⟩ := by
 unfold impl_DoughFor_d at h; split at h
 · cases h; rfl
 · cases h
noncomputable def impl_DoughFor_h0 (k m : Nat) (l : Loaf) (x0_0 : Int) : Option (Int) := hdAt env (impl_DoughFor_O k) impl_DoughFor_v Tryz.f112 0 (fun r => impl_DoughFor_d (r.fin 0 [])) [1, 1, 1, 0, 0] k m ⟨tmF [1, 2, 3] [(.a (.sc (.bp 0 0))), (.a (.sc (.v (.int .i64 0)))), (.a (.sc (.v (.int .i64 x0_0))))], blF [(.box true [(.v (.int .i64 l.Weight)), (.v (.int .i64 l.Loss))])]⟩
theorem impl_DoughFor_z0 (k : Nat) (l : Loaf) (x0_0 : Int) : impl_DoughFor_h0 k 0 l x0_0 = impl_DoughFor_s0 k l (fun _ => none) x0_0 := by kernel_rfl
theorem impl_DoughFor_g0 (k : Nat) (H : St → Option (Int)) (l : Loaf) (x0_0 : Int) : rnd env (impl_DoughFor_O k) impl_DoughFor_v Tryz.f112 0 (fun r => impl_DoughFor_d (r.fin 0 [])) [1, 1, 1, 0, 0] k H ⟨tmF [1, 2, 3] [(.a (.sc (.bp 0 0))), (.a (.sc (.v (.int .i64 0)))), (.a (.sc (.v (.int .i64 x0_0))))], blF [(.box true [(.v (.int .i64 l.Weight)), (.v (.int .i64 l.Loss))])]⟩ = impl_DoughFor_s0 k l (fun x0_0 => H ⟨tmF [1, 2, 3] [(.a (.sc (.bp 0 0))), (.a (.sc (.v (.int .i64 0)))), (.a (.sc (.v (.int .i64 x0_0))))], blF [(.box true [(.v (.int .i64 l.Weight)), (.v (.int .i64 l.Loss))])]⟩) x0_0 := by kernel_rfl
theorem impl_DoughFor_n0 (k m : Nat) (l : Loaf) (x0_0 : Int) : impl_DoughFor_h0 k (m + 1) l x0_0 = impl_DoughFor_s0 k l (impl_DoughFor_h0 k m l) x0_0 := (hdAt_succ _ _ _ _ _ _ _ _ _ _).trans (impl_DoughFor_g0 k _ l x0_0)
theorem impl_DoughFor_q0 (k : Nat) : ∀ m, impl_DoughFor_h0 k m = impl_DoughFor_l0 k m := by
 intro m
 induction m with
 | zero => funext l x0_0; rw [impl_DoughFor_z0]; rfl
 | succ m ih => funext l x0_0; rw [impl_DoughFor_n0, ih]; rfl
theorem impl_DoughFor_e (k : Nat) (l : Loaf) : callF env (impl_DoughFor_O k) impl_DoughFor_v Tryz.f112 (k + 1) (impl_DoughFor_A l) (fun r => impl_DoughFor_d (r.fin 0 [])) = impl_DoughFor k l := by
 have e : ∀ H : St → Option (Int), callE env (impl_DoughFor_O k) impl_DoughFor_v Tryz.f112 (k + 1) (impl_DoughFor_A l) [1, 1, 1, 0, 0] (fun r => impl_DoughFor_d (r.fin 0 [])) H = impl_DoughFor_m k (fun l x0_0 => H ⟨tmF [1, 2, 3] [(.a (.sc (.bp 0 0))), (.a (.sc (.v (.int .i64 0)))), (.a (.sc (.v (.int .i64 x0_0))))], blF [(.box true [(.v (.int .i64 l.Weight)), (.v (.int .i64 l.Loss))])]⟩) l := fun H => by kernel_rfl
 exact (callE_eq env (impl_DoughFor_O k) impl_DoughFor_v Tryz.f112 k (impl_DoughFor_A l) [1, 1, 1, 0, 0] 0 (fun r => impl_DoughFor_d (r.fin 0 [])) rfl (by kernel_rfl)).trans ((e (hdAt env (impl_DoughFor_O k) impl_DoughFor_v Tryz.f112 0 (fun r => impl_DoughFor_d (r.fin 0 [])) [1, 1, 1, 0, 0] k k)).trans (by
  show impl_DoughFor_m k (impl_DoughFor_h0 k k) l = _
  rw [impl_DoughFor_q0]; rfl))
noncomputable def impl_DoughFor_x (k : Nat) : Ent1 := fun A R Q => match A with
 | ⟨[(.ag [(.v (.int .i64 a1)), (.v (.int .i64 a2))])], []⟩ => (impl_DoughFor k (⟨a1, a2⟩ : Loaf)).bind fun y => Q ⟨(.a (.sc (.v (.int .i64 y)))), []⟩
 | _ => none
theorem impl_DoughFor_ok (k : Nat) : OkE Tryz.prog 112 (impl_DoughFor_x k) := by
 intro A R Q x h
 unfold impl_DoughFor_x at h
 split at h
 · obtain ⟨y, hy, hK⟩ := Option.bind_eq_some_iff.1 h
   obtain ⟨r, hr, hd⟩ := callF_ok envOk (impl_DoughFor_Ok k) follows Tryz.func112 (by kernel_rfl) ((impl_DoughFor_e k _).trans hy)
   exact ⟨_, impl_DoughFor_i hd ▸ hr.fin [], hK⟩
 · cases h
/-! ### impl.WholeParts: function 135 -/
noncomputable def impl_WholeParts (k : Nat)  (d : Dough) : Option (Int) :=
 (impl_DoughOk k d).bind fun y1 =>
 cond (!y1)
  (some (-1))
  (some (wr ((wr ((wr ((1000 : Int) + d.Water)) + d.Salt)) + d.Leaven)))
noncomputable def impl_WholeParts_v : Nat → List Nat := fun t => match t with | _ => []
noncomputable def impl_WholeParts_O (k : Nat) : Oracle := ofL [(65, impl_DoughOk_x k)]
theorem impl_WholeParts_Ok (k : Nat) : OkO (Ct Tryz.prog) (impl_WholeParts_O k) := okO_cons (impl_DoughOk_ok k) (okO_nil)
noncomputable def impl_WholeParts_A (d : Dough) : Pk := ⟨[(.ag [(.v (.int .i64 d.Water)), (.v (.int .i64 d.Salt)), (.v (.int .i64 d.Leaven))])], []⟩
noncomputable def impl_WholeParts_d : Rs → Option (Int)
 | ⟨(.a (.sc (.v (.int .i64 r1)))), []⟩ => some r1
 | _ => none
theorem impl_WholeParts_i {r : Rs} {y : Int} (h : impl_WholeParts_d r = some y) : r = ⟨(.a (.sc (.v (.int .i64 y)))), []⟩ := by
 unfold impl_WholeParts_d at h; split at h
 · cases h; rfl
 · cases h
theorem impl_WholeParts_e (k : Nat) (d : Dough) : callF env (impl_WholeParts_O k) impl_WholeParts_v Tryz.f135 (k + 1) (impl_WholeParts_A d) (fun r => impl_WholeParts_d (r.fin 0 [])) = impl_WholeParts k d := by kernel_rfl
noncomputable def impl_WholeParts_x (k : Nat) : Ent1 := fun A R Q => match A with
 | ⟨[(.ag [(.v (.int .i64 a1)), (.v (.int .i64 a2)), (.v (.int .i64 a3))])], []⟩ => (impl_WholeParts k (⟨a1, a2, a3⟩ : Dough)).bind fun y => Q ⟨(.a (.sc (.v (.int .i64 y)))), []⟩
 | _ => none
theorem impl_WholeParts_ok (k : Nat) : OkE Tryz.prog 135 (impl_WholeParts_x k) := by
 intro A R Q x h
 unfold impl_WholeParts_x at h
 split at h
 · obtain ⟨y, hy, hK⟩ := Option.bind_eq_some_iff.1 h
   obtain ⟨r, hr, hd⟩ := callF_ok envOk (impl_WholeParts_Ok k) follows Tryz.func135 (by kernel_rfl) ((impl_WholeParts_e k _).trans hy)
   exact ⟨_, impl_WholeParts_i hd ▸ hr.fin [], hK⟩
 · cases h
/-! ### impl.FlourFor: function 111 -/
noncomputable def impl_FlourFor (k : Nat)  (d : Dough) (weight : Int) : Option (Int) :=
 (impl_DoughOk k d).bind fun y1 =>
 cond (!y1)
  (some (-1))
  ((impl_in k weight 0 1000000).bind fun y2 =>
   cond (!y2)
    (some (-1))
    ((impl_WholeParts k d).bind fun y3 =>
     (impl_up k (wr ((1000 : Int) * weight)) y3).bind fun y4 =>
      some y4))
noncomputable def impl_FlourFor_v : Nat → List Nat := fun t => match t with | _ => []
noncomputable def impl_FlourFor_O (k : Nat) : Oracle := ofL [(110, impl_up_x k), (135, impl_WholeParts_x k), (65, impl_DoughOk_x k), (68, impl_in_x k)]
theorem impl_FlourFor_Ok (k : Nat) : OkO (Ct Tryz.prog) (impl_FlourFor_O k) := okO_cons (impl_up_ok k) (okO_cons (impl_WholeParts_ok k) (okO_cons (impl_DoughOk_ok k) (okO_cons (impl_in_ok k) (okO_nil))))
noncomputable def impl_FlourFor_A (d : Dough) (weight : Int) : Pk := ⟨[(.ag [(.v (.int .i64 d.Water)), (.v (.int .i64 d.Salt)), (.v (.int .i64 d.Leaven))]), (.sc (.v (.int .i64 weight)))], []⟩
noncomputable def impl_FlourFor_d : Rs → Option (Int)
 | ⟨(.a (.sc (.v (.int .i64 r1)))), []⟩ => some r1
 | _ => none
theorem impl_FlourFor_i {r : Rs} {y : Int} (h : impl_FlourFor_d r = some y) : r = ⟨(.a (.sc (.v (.int .i64 y)))), []⟩ := by
 unfold impl_FlourFor_d at h; split at h
 · cases h; rfl
 · cases h
theorem impl_FlourFor_e (k : Nat) (d : Dough) (weight : Int) : callF env (impl_FlourFor_O k) impl_FlourFor_v Tryz.f111 (k + 1) (impl_FlourFor_A d weight) (fun r => impl_FlourFor_d (r.fin 0 [])) = impl_FlourFor k d weight := by kernel_rfl
noncomputable def impl_FlourFor_x (k : Nat) : Ent1 := fun A R Q => match A with
 | ⟨[(.ag [(.v (.int .i64 a1)), (.v (.int .i64 a2)), (.v (.int .i64 a3))]), (.sc (.v (.int .i64 a4)))], []⟩ => (impl_FlourFor k (⟨a1, a2, a3⟩ : Dough) a4).bind fun y => Q ⟨(.a (.sc (.v (.int .i64 y)))), []⟩
 | _ => none
theorem impl_FlourFor_ok (k : Nat) : OkE Tryz.prog 111 (impl_FlourFor_x k) := by
 intro A R Q x h
 unfold impl_FlourFor_x at h
 split at h
 · obtain ⟨y, hy, hK⟩ := Option.bind_eq_some_iff.1 h
   obtain ⟨r, hr, hd⟩ := callF_ok envOk (impl_FlourFor_Ok k) follows Tryz.func111 (by kernel_rfl) ((impl_FlourFor_e k _ _).trans hy)
   exact ⟨_, impl_FlourFor_i hd ▸ hr.fin [], hK⟩
 · cases h
/-! ### impl.FlourNeeded: function 73 -/
noncomputable def impl_FlourNeeded (k : Nat)  (b : Bakery) (loaves : Int) : Option (Int) :=
 (impl_BakeryOk k b).bind fun y1 =>
 cond (!y1)
  (some (-1))
  ((impl_in k loaves 0 1000).bind fun y2 =>
   cond (!y2)
    (some (-1))
    ((impl_DoughFor k b.Loaf).bind fun y3 =>
     (impl_FlourFor k b.Dough (wr (y3 * loaves))).bind fun y4 =>
      some y4))
noncomputable def impl_FlourNeeded_v : Nat → List Nat := fun t => match t with | _ => []
noncomputable def impl_FlourNeeded_O (k : Nat) : Oracle := ofL [(111, impl_FlourFor_x k), (112, impl_DoughFor_x k), (35, impl_BakeryOk_x k), (68, impl_in_x k)]
theorem impl_FlourNeeded_Ok (k : Nat) : OkO (Ct Tryz.prog) (impl_FlourNeeded_O k) := okO_cons (impl_FlourFor_ok k) (okO_cons (impl_DoughFor_ok k) (okO_cons (impl_BakeryOk_ok k) (okO_cons (impl_in_ok k) (okO_nil))))
noncomputable def impl_FlourNeeded_A (b : Bakery) (loaves : Int) : Pk := ⟨[(.ag [(.sl 0), (.v (.int .i64 b.Dough.Water)), (.v (.int .i64 b.Dough.Salt)), (.v (.int .i64 b.Dough.Leaven)), (.v (.int .i64 b.Loaf.Weight)), (.v (.int .i64 b.Loaf.Loss)), (.sl 1), (.v (.int .i64 b.Book.Rack.Fresh)), (.v (.int .i64 b.Book.Rack.Day)), (.v (.int .i64 b.Book.Rack.Old)), (.v (.int .i64 b.Book.Baked)), (.v (.int .i64 b.Book.Sold)), (.v (.int .i64 b.Book.Thrown)), (.v (.int .i64 b.Money))]), (.sc (.v (.int .i64 loaves)))], [(.row false K.ki64 b.Stock.Grams), (.row false K.k_impl_Event b.Book.Events)]⟩
noncomputable def impl_FlourNeeded_d : Rs → Option (Int)
 | ⟨(.a (.sc (.v (.int .i64 r1)))), [.dead, .dead]⟩ => some r1
 | _ => none
theorem impl_FlourNeeded_i {r : Rs} {y : Int} (h : impl_FlourNeeded_d r = some y) : r = ⟨(.a (.sc (.v (.int .i64 y)))), [.dead, .dead]⟩ := by
 unfold impl_FlourNeeded_d at h; split at h
 · cases h; rfl
 · cases h
theorem impl_FlourNeeded_e (k : Nat) (b : Bakery) (loaves : Int) : callF env (impl_FlourNeeded_O k) impl_FlourNeeded_v Tryz.f73 (k + 1) (impl_FlourNeeded_A b loaves) (fun r => impl_FlourNeeded_d (r.fin 2 [])) = impl_FlourNeeded k b loaves := by kernel_rfl
noncomputable def impl_FlourNeeded_x (k : Nat) : Ent1 := fun A R Q => match A with
 | ⟨[(.ag [(.sl 0), (.v (.int .i64 a2)), (.v (.int .i64 a3)), (.v (.int .i64 a4)), (.v (.int .i64 a5)), (.v (.int .i64 a6)), (.sl 1), (.v (.int .i64 a8)), (.v (.int .i64 a9)), (.v (.int .i64 a10)), (.v (.int .i64 a11)), (.v (.int .i64 a12)), (.v (.int .i64 a13)), (.v (.int .i64 a14))]), (.sc (.v (.int .i64 a15)))], [(.row false K.ki64 a1), (.row false K.k_impl_Event a7)]⟩ => (impl_FlourNeeded k (⟨(⟨a1⟩ : Stock), (⟨a2, a3, a4⟩ : Dough), (⟨a5, a6⟩ : Loaf), (⟨a7, (⟨a8, a9, a10⟩ : Rack), a11, a12, a13⟩ : Book), a14⟩ : Bakery) a15).bind fun y => Q ⟨(.a (.sc (.v (.int .i64 y)))), [.dead, .dead]⟩
 | _ => none
theorem impl_FlourNeeded_ok (k : Nat) : OkE Tryz.prog 73 (impl_FlourNeeded_x k) := by
 intro A R Q x h
 unfold impl_FlourNeeded_x at h
 split at h
 · obtain ⟨y, hy, hK⟩ := Option.bind_eq_some_iff.1 h
   obtain ⟨r, hr, hd⟩ := callF_ok envOk (impl_FlourNeeded_Ok k) follows Tryz.func73 (by kernel_rfl) ((impl_FlourNeeded_e k _ _).trans hy)
   exact ⟨_, impl_FlourNeeded_i hd ▸ hr.fin [], hK⟩
 · cases h
/-! ### impl.PartOf: function 162 -/
noncomputable def impl_PartOf (k : Nat)  (flour : Int) (part : Int) : Option (Int) :=
 (impl_in k flour 0 1000000).bind fun y1 =>
 cond (!y1)
  (some (-1))
  ((impl_in k part 0 2000).bind fun y2 =>
   cond (!y2)
    (some (-1))
    (if (1000 : Int) ≠ 0 then
     some (wr (Int.tdiv (wr ((wr (flour * part)) + 500)) 1000)) else none))
noncomputable def impl_PartOf_v : Nat → List Nat := fun t => match t with | _ => []
noncomputable def impl_PartOf_O (k : Nat) : Oracle := ofL [(68, impl_in_x k)]
theorem impl_PartOf_Ok (k : Nat) : OkO (Ct Tryz.prog) (impl_PartOf_O k) := okO_cons (impl_in_ok k) (okO_nil)
noncomputable def impl_PartOf_A (flour : Int) (part : Int) : Pk := ⟨[(.sc (.v (.int .i64 flour))), (.sc (.v (.int .i64 part)))], []⟩
noncomputable def impl_PartOf_d : Rs → Option (Int)
 | ⟨(.a (.sc (.v (.int .i64 r1)))), []⟩ => some r1
 | _ => none
theorem impl_PartOf_i {r : Rs} {y : Int} (h : impl_PartOf_d r = some y) : r = ⟨(.a (.sc (.v (.int .i64 y)))), []⟩ := by
 unfold impl_PartOf_d at h; split at h
 · cases h; rfl
 · cases h
theorem impl_PartOf_e (k : Nat) (flour : Int) (part : Int) : callF env (impl_PartOf_O k) impl_PartOf_v Tryz.f162 (k + 1) (impl_PartOf_A flour part) (fun r => impl_PartOf_d (r.fin 0 [])) = impl_PartOf k flour part := by kernel_rfl
noncomputable def impl_PartOf_x (k : Nat) : Ent1 := fun A R Q => match A with
 | ⟨[(.sc (.v (.int .i64 a1))), (.sc (.v (.int .i64 a2)))], []⟩ => (impl_PartOf k a1 a2).bind fun y => Q ⟨(.a (.sc (.v (.int .i64 y)))), []⟩
 | _ => none
theorem impl_PartOf_ok (k : Nat) : OkE Tryz.prog 162 (impl_PartOf_x k) := by
 intro A R Q x h
 unfold impl_PartOf_x at h
 split at h
 · obtain ⟨y, hy, hK⟩ := Option.bind_eq_some_iff.1 h
   obtain ⟨r, hr, hd⟩ := callF_ok envOk (impl_PartOf_Ok k) follows Tryz.func162 (by kernel_rfl) ((impl_PartOf_e k _ _).trans hy)
   exact ⟨_, impl_PartOf_i hd ▸ hr.fin [], hK⟩
 · cases h
/-! ### impl.Amounts: function 132 -/
noncomputable def impl_Amounts (k : Nat)  (d : Dough) (flour : Int) : Option ((Unit) ⊕ ((List Int))) :=
 (impl_DoughOk k d).bind fun y1 =>
 cond (!y1)
  (some (.inl ()))
  ((impl_in k flour 0 1000000).bind fun y2 =>
   cond (!y2)
    (some (.inl ()))
    ((impl_PartOf k flour d.Water).bind fun y3 =>
     (impl_PartOf k flour d.Salt).bind fun y4 =>
      (impl_PartOf k flour d.Leaven).bind fun y5 =>
       some (.inr ([flour, y3, y4, y5]))))
noncomputable def impl_Amounts_v : Nat → List Nat := fun t => match t with | _ => []
noncomputable def impl_Amounts_O (k : Nat) : Oracle := ofL [(162, impl_PartOf_x k), (65, impl_DoughOk_x k), (68, impl_in_x k)]
theorem impl_Amounts_Ok (k : Nat) : OkO (Ct Tryz.prog) (impl_Amounts_O k) := okO_cons (impl_PartOf_ok k) (okO_cons (impl_DoughOk_ok k) (okO_cons (impl_in_ok k) (okO_nil)))
noncomputable def impl_Amounts_A (d : Dough) (flour : Int) : Pk := ⟨[(.ag [(.v (.int .i64 d.Water)), (.v (.int .i64 d.Salt)), (.v (.int .i64 d.Leaven))]), (.sc (.v (.int .i64 flour)))], []⟩
noncomputable def impl_Amounts_d : Rs → Option ((Unit) ⊕ ((List Int)))
 | ⟨(.a (.sc .nl)), []⟩ => some (.inl ())
 | ⟨(.a (.sc (.sl 0))), [(.row true K.ki64 r1)]⟩ => some (.inr r1)
 | _ => none
theorem impl_Amounts_i {r : Rs} {y : (Unit) ⊕ ((List Int))} (h : impl_Amounts_d r = some y) : r = (y.elim (fun y => (⟨(.a (.sc .nl)), []⟩ : Rs)) (fun y => (⟨(.a (.sc (.sl 0))), [(.row true K.ki64 y)]⟩ : Rs)) : Rs) := by
 unfold impl_Amounts_d at h; split at h
 · cases h; rfl
 · cases h; rfl
 · cases h
theorem impl_Amounts_e (k : Nat) (d : Dough) (flour : Int) : callF env (impl_Amounts_O k) impl_Amounts_v Tryz.f132 (k + 1) (impl_Amounts_A d flour) (fun r => impl_Amounts_d (r.fin 0 [])) = impl_Amounts k d flour := by kernel_rfl
noncomputable def impl_Amounts_x (k : Nat) : Ent1 := fun A R Q => match A with
 | ⟨[(.ag [(.v (.int .i64 a1)), (.v (.int .i64 a2)), (.v (.int .i64 a3))]), (.sc (.v (.int .i64 a4)))], []⟩ => (impl_Amounts k (⟨a1, a2, a3⟩ : Dough) a4).bind fun y => y.elim (fun y => Q ⟨(.a (.sc .nl)), []⟩) (fun y => Q ⟨(.a (.sc (.sl 0))), [(.row true K.ki64 y)]⟩)
 | _ => none
theorem impl_Amounts_ok (k : Nat) : OkE Tryz.prog 132 (impl_Amounts_x k) := by
 intro A R Q x h
 unfold impl_Amounts_x at h
 split at h
 · obtain ⟨y, hy, hK⟩ := Option.bind_eq_some_iff.1 h
   obtain ⟨r, hr, hd⟩ := callF_ok envOk (impl_Amounts_Ok k) follows Tryz.func132 (by kernel_rfl) ((impl_Amounts_e k _ _).trans hy)
   refine ⟨_, impl_Amounts_i hd ▸ hr.fin [], ?_⟩
   cases y <;> exact hK
 · cases h
/-! ### impl.missing: function 133 -/
noncomputable def impl_missing_s0 (k : Nat)  (s : Stock) (amounts : (List Int)) (J : Int → Option (Int)) (x0_0 : Int) : Option (Int) :=
 cond (decide ((x0_0 : Int) < ((amounts).length : Int)))
 (if 0 ≤ (x0_0 : Int) ∧ (x0_0 : Int) < ((amounts).length : Int) then
  if 0 ≤ (x0_0 : Int) ∧ (x0_0 : Int) < ((s.Grams).length : Int) then
   cond (decide (((s.Grams.getD (Int.toNat x0_0) 0) : Int) < (amounts.getD (Int.toNat x0_0) 0)))
    (some x0_0)
    (J (wr (x0_0 + 1))) else none else none)
 (some (-1))
noncomputable def impl_missing_l0 (k : Nat) : Nat → Stock → (List Int) → Int → Option (Int)
 | 0, s, amounts, x0_0 => impl_missing_s0 k s amounts (fun _ => none) x0_0
 | m + 1, s, amounts, x0_0 => impl_missing_s0 k s amounts (impl_missing_l0 k m s amounts) x0_0
noncomputable def impl_missing_m (k : Nat) (J0 : Stock → (List Int) → Int → Option (Int)) (s : Stock) (amounts : (List Int)) : Option (Int) :=
 J0 s amounts 0
noncomputable def impl_missing (k : Nat) (s : Stock) (amounts : (List Int)) : Option (Int) := impl_missing_m k (impl_missing_l0 k k) s amounts
noncomputable def impl_missing_v : Nat → List Nat := fun t => match t with | 2 => [2, 4, 7, 8, 9] | _ => []
noncomputable def impl_missing_O (k : Nat) : Oracle := ofL []
theorem impl_missing_Ok (k : Nat) : OkO (Ct Tryz.prog) (impl_missing_O k) := okO_nil
noncomputable def impl_missing_A (s : Stock) (amounts : (List Int)) : Pk := ⟨[(.ag [(.sl 0)]), (.sc (.sl 1))], [(.row false K.ki64 s.Grams), (.row false K.ki64 amounts)]⟩
noncomputable def impl_missing_d : Rs → Option (Int)
 | ⟨(.a (.sc (.v (.int .i64 r1)))), [.dead, .dead]⟩ => some r1
 | _ => none
theorem impl_missing_i {r : Rs} {y : Int} (h : impl_missing_d r = some y) : r = ⟨(.a (.sc (.v (.int .i64 y)))), [.dead, .dead]⟩ := by
 unfold impl_missing_d at h; split at h
 · cases h; rfl
 · cases h
noncomputable def impl_missing_h0 (k m : Nat) (s : Stock) (amounts : (List Int)) (x0_0 : Int) : Option (Int) := hdAt env (impl_missing_O k) impl_missing_v Tryz.f133 2 (fun r => impl_missing_d (r.fin 2 [])) [1, 0, 1, 0] k m ⟨tmF [2, 4, 7, 8, 9] [(.a (.sc (.bp 2 0))), (.a (.sc (.v (.int .i64 0)))), (.a (.sc (.sl 1))), (.a (.sc (.v (.int .i64 ((amounts).length : Int))))), (.a (.sc (.v (.int .i64 x0_0))))], blF [(.row false K.ki64 s.Grams), (.row false K.ki64 amounts), (.box true [(.sl 0)])]⟩
theorem impl_missing_z0 (k : Nat) (s : Stock) (amounts : (List Int)) (x0_0 : Int) : impl_missing_h0 k 0 s amounts x0_0 = impl_missing_s0 k s amounts (fun _ => none) x0_0 := by kernel_rfl
theorem impl_missing_g0 (k : Nat) (H : St → Option (Int)) (s : Stock) (amounts : (List Int)) (x0_0 : Int) : rnd env (impl_missing_O k) impl_missing_v Tryz.f133 2 (fun r => impl_missing_d (r.fin 2 [])) [1, 0, 1, 0] k H ⟨tmF [2, 4, 7, 8, 9] [(.a (.sc (.bp 2 0))), (.a (.sc (.v (.int .i64 0)))), (.a (.sc (.sl 1))), (.a (.sc (.v (.int .i64 ((amounts).length : Int))))), (.a (.sc (.v (.int .i64 x0_0))))], blF [(.row false K.ki64 s.Grams), (.row false K.ki64 amounts), (.box true [(.sl 0)])]⟩ = impl_missing_s0 k s amounts (fun x0_0 => H ⟨tmF [2, 4, 7, 8, 9] [(.a (.sc (.bp 2 0))), (.a (.sc (.v (.int .i64 0)))), (.a (.sc (.sl 1))), (.a (.sc (.v (.int .i64 ((amounts).length : Int))))), (.a (.sc (.v (.int .i64 x0_0))))], blF [(.row false K.ki64 s.Grams), (.row false K.ki64 amounts), (.box true [(.sl 0)])]⟩) x0_0 := by kernel_rfl
theorem impl_missing_n0 (k m : Nat) (s : Stock) (amounts : (List Int)) (x0_0 : Int) : impl_missing_h0 k (m + 1) s amounts x0_0 = impl_missing_s0 k s amounts (impl_missing_h0 k m s amounts) x0_0 := (hdAt_succ _ _ _ _ _ _ _ _ _ _).trans (impl_missing_g0 k _ s amounts x0_0)
theorem impl_missing_q0 (k : Nat) : ∀ m, impl_missing_h0 k m = impl_missing_l0 k m := by
 intro m
 induction m with
 | zero => funext s amounts x0_0; rw [impl_missing_z0]; rfl
 | succ m ih => funext s amounts x0_0; rw [impl_missing_n0, ih]; rfl
theorem impl_missing_e (k : Nat) (s : Stock) (amounts : (List Int)) : callF env (impl_missing_O k) impl_missing_v Tryz.f133 (k + 1) (impl_missing_A s amounts) (fun r => impl_missing_d (r.fin 2 [])) = impl_missing k s amounts := by
 have e : ∀ H : St → Option (Int), callE env (impl_missing_O k) impl_missing_v Tryz.f133 (k + 1) (impl_missing_A s amounts) [1, 0, 1, 0] (fun r => impl_missing_d (r.fin 2 [])) H = impl_missing_m k (fun s amounts x0_0 => H ⟨tmF [2, 4, 7, 8, 9] [(.a (.sc (.bp 2 0))), (.a (.sc (.v (.int .i64 0)))), (.a (.sc (.sl 1))), (.a (.sc (.v (.int .i64 ((amounts).length : Int))))), (.a (.sc (.v (.int .i64 x0_0))))], blF [(.row false K.ki64 s.Grams), (.row false K.ki64 amounts), (.box true [(.sl 0)])]⟩) s amounts := fun H => by kernel_rfl
 exact (callE_eq env (impl_missing_O k) impl_missing_v Tryz.f133 k (impl_missing_A s amounts) [1, 0, 1, 0] 2 (fun r => impl_missing_d (r.fin 2 [])) rfl (by kernel_rfl)).trans ((e (hdAt env (impl_missing_O k) impl_missing_v Tryz.f133 2 (fun r => impl_missing_d (r.fin 2 [])) [1, 0, 1, 0] k k)).trans (by
  show impl_missing_m k (impl_missing_h0 k k) s amounts = _
  rw [impl_missing_q0]; rfl))
noncomputable def impl_missing_x (k : Nat) : Ent1 := fun A R Q => match A with
 | ⟨[(.ag [(.sl 0)]), (.sc (.sl 1))], [(.row false K.ki64 a1), (.row false K.ki64 a2)]⟩ => (impl_missing k (⟨a1⟩ : Stock) a2).bind fun y => Q ⟨(.a (.sc (.v (.int .i64 y)))), [.dead, .dead]⟩
 | _ => none
theorem impl_missing_ok (k : Nat) : OkE Tryz.prog 133 (impl_missing_x k) := by
 intro A R Q x h
 unfold impl_missing_x at h
 split at h
 · obtain ⟨y, hy, hK⟩ := Option.bind_eq_some_iff.1 h
   obtain ⟨r, hr, hd⟩ := callF_ok envOk (impl_missing_Ok k) follows Tryz.func133 (by kernel_rfl) ((impl_missing_e k _ _).trans hy)
   exact ⟨_, impl_missing_i hd ▸ hr.fin [], hK⟩
 · cases h
/-! ### impl.TakeFor: function 104 -/
noncomputable def impl_TakeFor_s0 (k : Nat)  (s : Stock) (y3 : (List Int)) (J : Int → (List Int) → Option (Stock × Bool)) (x0_0 : Int) (x0_1 : (List Int)) : Option (Stock × Bool) :=
 cond (decide ((x0_0 : Int) < ((y3).length : Int)))
 (if 0 ≤ (x0_0 : Int) ∧ (x0_0 : Int) < ((y3).length : Int) then
  if 0 ≤ (x0_0 : Int) ∧ (x0_0 : Int) < ((x0_1).length : Int) then
   if 0 ≤ (x0_0 : Int) ∧ (x0_0 : Int) < ((x0_1).length : Int) then
    J (wr (x0_0 + 1)) (x0_1.set (Int.toNat x0_0) (wr ((x0_1.getD (Int.toNat x0_0) 0) - (y3.getD (Int.toNat x0_0) 0)))) else none else none else none)
 (some ((⟨x0_1⟩ : Stock), true))
noncomputable def impl_TakeFor_l0 (k : Nat) : Nat → Stock → (List Int) → Int → (List Int) → Option (Stock × Bool)
 | 0, s, y3, x0_0, x0_1 => impl_TakeFor_s0 k s y3 (fun _ _ => none) x0_0 x0_1
 | m + 1, s, y3, x0_0, x0_1 => impl_TakeFor_s0 k s y3 (impl_TakeFor_l0 k m s y3) x0_0 x0_1
noncomputable def impl_TakeFor_m (k : Nat) (J0 : Stock → (List Int) → Int → (List Int) → Option (Stock × Bool)) (s : Stock) (d : Dough) (flour : Int) : Option (Stock × Bool) :=
 (impl_Amounts k d flour).bind fun y1 =>
 y1.elim (fun y2 =>
  (impl_stockCopy k s).bind fun y4 =>
  (impl_StoreOk k s).bind fun y6 =>
   cond (!y6)
    (some (y4, false))
    (some (y4, false))) (fun y3 =>
  (impl_stockCopy k s).bind fun y5 =>
  (impl_StoreOk k s).bind fun y7 =>
   cond (!y7)
    (some (y5, false))
    ((@ite _ (y3 ≠ []) (neNil y3)
     ((impl_missing k s y3).bind fun y8 =>
      cond (decide ((0 : Int) ≤ y8))
       (some (y5, false))
       (J0 s y3 0 y5.Grams)) none)))
noncomputable def impl_TakeFor (k : Nat) (s : Stock) (d : Dough) (flour : Int) : Option (Stock × Bool) := impl_TakeFor_m k (impl_TakeFor_l0 k k) s d flour
noncomputable def impl_TakeFor_v : Nat → List Nat := fun t => match t with | 5 => [6, 7, 9, 31, 32, 33] | _ => []
noncomputable def impl_TakeFor_O (k : Nat) : Oracle := ofL [(132, impl_Amounts_x k), (133, impl_missing_x k), (62, impl_stockCopy_x k), (64, impl_StoreOk_x k)]
theorem impl_TakeFor_Ok (k : Nat) : OkO (Ct Tryz.prog) (impl_TakeFor_O k) := okO_cons (impl_Amounts_ok k) (okO_cons (impl_missing_ok k) (okO_cons (impl_stockCopy_ok k) (okO_cons (impl_StoreOk_ok k) (okO_nil))))
noncomputable def impl_TakeFor_A (s : Stock) (d : Dough) (flour : Int) : Pk := ⟨[(.ag [(.sl 0)]), (.ag [(.v (.int .i64 d.Water)), (.v (.int .i64 d.Salt)), (.v (.int .i64 d.Leaven))]), (.sc (.v (.int .i64 flour)))], [(.row false K.ki64 s.Grams)]⟩
noncomputable def impl_TakeFor_d : Rs → Option (Stock × Bool)
 | ⟨(.tp [(.ag [(.sl 1)]), (.sc (.v (.bool r2)))]), [.dead, (.row true K.ki64 r1)]⟩ => some ((⟨r1⟩ : Stock), r2)
 | _ => none
theorem impl_TakeFor_i {r : Rs} {y : Stock × Bool} (h : impl_TakeFor_d r = some y) : r = ⟨(.tp [(.ag [(.sl 1)]), (.sc (.v (.bool y.2)))]), [.dead, (.row true K.ki64 y.1.Grams)]⟩ := by
 unfold impl_TakeFor_d at h; split at h
 · cases h; rfl
 · cases h
noncomputable def impl_TakeFor_h0 (k m : Nat) (s : Stock) (y3 : (List Int)) (x0_0 : Int) (x0_1 : (List Int)) : Option (Stock × Bool) := hdAt env (impl_TakeFor_O k) impl_TakeFor_v Tryz.f104 1 (fun r => impl_TakeFor_d (r.fin 1 [])) [1, 1, 1, 0, 1, 0] k m ⟨tmF [6, 7, 9, 31, 32, 33] [(.a (.sc (.bp 2 0))), (.a (.sc (.v (.bool false)))), (.a (.sc (.bp 4 0))), (.a (.sc (.sl 5))), (.a (.sc (.v (.int .i64 ((y3).length : Int))))), (.a (.sc (.v (.int .i64 x0_0))))], blF [(.row false K.ki64 s.Grams), (.row true K.ki64 []), (.box true [(.sl 1)]), (.row true K.ki64 x0_1), (.box true [(.sl 3)]), (.row true K.ki64 y3)]⟩
theorem impl_TakeFor_z0 (k : Nat) (s : Stock) (y3 : (List Int)) (x0_0 : Int) (x0_1 : (List Int)) : impl_TakeFor_h0 k 0 s y3 x0_0 x0_1 = impl_TakeFor_s0 k s y3 (fun _ _ => none) x0_0 x0_1 := by kernel_rfl
theorem impl_TakeFor_g0 (k : Nat) (H : St → Option (Stock × Bool)) (s : Stock) (y3 : (List Int)) (x0_0 : Int) (x0_1 : (List Int)) : rnd env (impl_TakeFor_O k) impl_TakeFor_v Tryz.f104 1 (fun r => impl_TakeFor_d (r.fin 1 [])) [1, 1, 1, 0, 1, 0] k H ⟨tmF [6, 7, 9, 31, 32, 33] [(.a (.sc (.bp 2 0))), (.a (.sc (.v (.bool false)))), (.a (.sc (.bp 4 0))), (.a (.sc (.sl 5))), (.a (.sc (.v (.int .i64 ((y3).length : Int))))), (.a (.sc (.v (.int .i64 x0_0))))], blF [(.row false K.ki64 s.Grams), (.row true K.ki64 []), (.box true [(.sl 1)]), (.row true K.ki64 x0_1), (.box true [(.sl 3)]), (.row true K.ki64 y3)]⟩ = impl_TakeFor_s0 k s y3 (fun x0_0 x0_1 => H ⟨tmF [6, 7, 9, 31, 32, 33] [(.a (.sc (.bp 2 0))), (.a (.sc (.v (.bool false)))), (.a (.sc (.bp 4 0))), (.a (.sc (.sl 5))), (.a (.sc (.v (.int .i64 ((y3).length : Int))))), (.a (.sc (.v (.int .i64 x0_0))))], blF [(.row false K.ki64 s.Grams), (.row true K.ki64 []), (.box true [(.sl 1)]), (.row true K.ki64 x0_1), (.box true [(.sl 3)]), (.row true K.ki64 y3)]⟩) x0_0 x0_1 := by kernel_rfl
theorem impl_TakeFor_n0 (k m : Nat) (s : Stock) (y3 : (List Int)) (x0_0 : Int) (x0_1 : (List Int)) : impl_TakeFor_h0 k (m + 1) s y3 x0_0 x0_1 = impl_TakeFor_s0 k s y3 (impl_TakeFor_h0 k m s y3) x0_0 x0_1 := (hdAt_succ _ _ _ _ _ _ _ _ _ _).trans (impl_TakeFor_g0 k _ s y3 x0_0 x0_1)
theorem impl_TakeFor_q0 (k : Nat) : ∀ m, impl_TakeFor_h0 k m = impl_TakeFor_l0 k m := by
 intro m
 induction m with
 | zero => funext s y3 x0_0 x0_1; rw [impl_TakeFor_z0]; rfl
 | succ m ih => funext s y3 x0_0 x0_1; rw [impl_TakeFor_n0, ih]; rfl
theorem impl_TakeFor_e (k : Nat) (s : Stock) (d : Dough) (flour : Int) : callF env (impl_TakeFor_O k) impl_TakeFor_v Tryz.f104 (k + 1) (impl_TakeFor_A s d flour) (fun r => impl_TakeFor_d (r.fin 1 [])) = impl_TakeFor k s d flour := by
 have e : ∀ H : St → Option (Stock × Bool), callE env (impl_TakeFor_O k) impl_TakeFor_v Tryz.f104 (k + 1) (impl_TakeFor_A s d flour) [1, 1, 1, 0, 1, 0] (fun r => impl_TakeFor_d (r.fin 1 [])) H = impl_TakeFor_m k (fun s y3 x0_0 x0_1 => H ⟨tmF [6, 7, 9, 31, 32, 33] [(.a (.sc (.bp 2 0))), (.a (.sc (.v (.bool false)))), (.a (.sc (.bp 4 0))), (.a (.sc (.sl 5))), (.a (.sc (.v (.int .i64 ((y3).length : Int))))), (.a (.sc (.v (.int .i64 x0_0))))], blF [(.row false K.ki64 s.Grams), (.row true K.ki64 []), (.box true [(.sl 1)]), (.row true K.ki64 x0_1), (.box true [(.sl 3)]), (.row true K.ki64 y3)]⟩) s d flour := fun H => by kernel_rfl
 exact (callE_eq env (impl_TakeFor_O k) impl_TakeFor_v Tryz.f104 k (impl_TakeFor_A s d flour) [1, 1, 1, 0, 1, 0] 1 (fun r => impl_TakeFor_d (r.fin 1 [])) rfl (by kernel_rfl)).trans ((e (hdAt env (impl_TakeFor_O k) impl_TakeFor_v Tryz.f104 1 (fun r => impl_TakeFor_d (r.fin 1 [])) [1, 1, 1, 0, 1, 0] k k)).trans (by
  show impl_TakeFor_m k (impl_TakeFor_h0 k k) s d flour = _
  rw [impl_TakeFor_q0]; rfl))
noncomputable def impl_TakeFor_x (k : Nat) : Ent1 := fun A R Q => match A with
 | ⟨[(.ag [(.sl 0)]), (.ag [(.v (.int .i64 a2)), (.v (.int .i64 a3)), (.v (.int .i64 a4))]), (.sc (.v (.int .i64 a5)))], [(.row false K.ki64 a1)]⟩ => (impl_TakeFor k (⟨a1⟩ : Stock) (⟨a2, a3, a4⟩ : Dough) a5).bind fun y => Q ⟨(.tp [(.ag [(.sl 1)]), (.sc (.v (.bool y.2)))]), [.dead, (.row true K.ki64 y.1.Grams)]⟩
 | _ => none
theorem impl_TakeFor_ok (k : Nat) : OkE Tryz.prog 104 (impl_TakeFor_x k) := by
 intro A R Q x h
 unfold impl_TakeFor_x at h
 split at h
 · obtain ⟨y, hy, hK⟩ := Option.bind_eq_some_iff.1 h
   obtain ⟨r, hr, hd⟩ := callF_ok envOk (impl_TakeFor_Ok k) follows Tryz.func104 (by kernel_rfl) ((impl_TakeFor_e k _ _ _).trans hy)
   exact ⟨_, impl_TakeFor_i hd ▸ hr.fin [], hK⟩
 · cases h
end Go.Proofs.YtlenacakmmikiaaGreatDoorX
