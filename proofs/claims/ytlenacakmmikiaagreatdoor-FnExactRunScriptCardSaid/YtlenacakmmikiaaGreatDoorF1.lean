/- What functions of the program compute, as functions of numbers and lists, and that they do. (The file is written by wip/x/vxp.py of this repository.) -/
import Derived.Test.YtlenacakmmikiaaGreatDoorF0
import Derived.Test.YtlenacakmmikiaaGreatDoorX18
namespace Go.Proofs.YtlenacakmmikiaaGreatDoorX
open Go Go.Proofs
set_option linter.unusedVariables false
set_option maxRecDepth 100000
/-! ### spec.SellCheap: function 171 -/
noncomputable def spec_SellCheap (k : Nat)  (r : Rack) (n : Int) : Option (Rack × Int) :=
 (spec_RackOk k r).bind fun y1 =>
 cond (!y1)
  (some (r, (-1)))
  ((spec_l01In k n 0 10000).bind fun y2 =>
   cond (!y2)
    (some (r, (-1)))
    (some ((⟨r.Fresh, (wr (r.Day - (mn (wr (n - (mn n r.Old))) r.Day))), (wr (r.Old - (mn n r.Old)))⟩ : Rack), (wr ((mn n r.Old) + (mn (wr (n - (mn n r.Old))) r.Day))))))
noncomputable def spec_SellCheap_v : Nat → List Nat := fun t => match t with | _ => []
noncomputable def spec_SellCheap_O (k : Nat) : Oracle := ofL [(169, spec_RackOk_x k), (40, spec_l01In_x k)]
theorem spec_SellCheap_Ok (k : Nat) : OkO (Ct Tryz.prog) (spec_SellCheap_O k) := okO_cons (spec_RackOk_ok k) (okO_cons (spec_l01In_ok k) (okO_nil))
noncomputable def spec_SellCheap_A (r : Rack) (n : Int) : Pk := ⟨[(.ag [(.v (.int .i64 r.Fresh)), (.v (.int .i64 r.Day)), (.v (.int .i64 r.Old))]), (.sc (.v (.int .i64 n)))], []⟩
noncomputable def spec_SellCheap_d : Rs → Option (Rack × Int)
 | ⟨(.tp [(.ag [(.v (.int .i64 r1)), (.v (.int .i64 r2)), (.v (.int .i64 r3))]), (.sc (.v (.int .i64 r4)))]), []⟩ => some ((⟨r1, r2, r3⟩ : Rack), r4)
 | _ => none
theorem spec_SellCheap_i {r : Rs} {y : Rack × Int} (h : spec_SellCheap_d r = some y) : r = ⟨(.tp [(.ag [(.v (.int .i64 y.1.Fresh)), (.v (.int .i64 y.1.Day)), (.v (.int .i64 y.1.Old))]), (.sc (.v (.int .i64 y.2)))]), []⟩ := by
 unfold spec_SellCheap_d at h; split at h
 · cases h; rfl
 · cases h
theorem spec_SellCheap_e (k : Nat) (r : Rack) (n : Int) : callF env (spec_SellCheap_O k) spec_SellCheap_v Tryz.f171 (k + 1) (spec_SellCheap_A r n) (fun r => spec_SellCheap_d (r.fin 0 [])) = spec_SellCheap k r n := by kernel_rfl
noncomputable def spec_SellCheap_x (k : Nat) : Ent1 := fun A R Q => match A with
 | ⟨[(.ag [(.v (.int .i64 a1)), (.v (.int .i64 a2)), (.v (.int .i64 a3))]), (.sc (.v (.int .i64 a4)))], []⟩ => (spec_SellCheap k (⟨a1, a2, a3⟩ : Rack) a4).bind fun y => Q ⟨(.tp [(.ag [(.v (.int .i64 y.1.Fresh)), (.v (.int .i64 y.1.Day)), (.v (.int .i64 y.1.Old))]), (.sc (.v (.int .i64 y.2)))]), []⟩
 | _ => none
theorem spec_SellCheap_ok (k : Nat) : OkE Tryz.prog 171 (spec_SellCheap_x k) := by
 intro A R Q x h
 unfold spec_SellCheap_x at h
 split at h
 · obtain ⟨y, hy, hK⟩ := Option.bind_eq_some_iff.1 h
   obtain ⟨r, hr, hd⟩ := callF_ok envOk (spec_SellCheap_Ok k) follows Tryz.func171 (by kernel_rfl) ((spec_SellCheap_e k _ _).trans hy)
   exact ⟨_, spec_SellCheap_i hd ▸ hr.fin [], hK⟩
 · cases h
/-! ### spec.NextMorning: function 172 -/
noncomputable def spec_NextMorning (k : Nat)  (r : Rack) (baked : Int) : Option (Rack × Int) :=
 (spec_RackOk k r).bind fun y1 =>
 cond (!y1)
  (some (r, (-1)))
  ((spec_l01In k baked 0 10000).bind fun y2 =>
   cond (!y2)
    (some (r, (-1)))
    (some ((⟨baked, r.Fresh, r.Day⟩ : Rack), r.Old)))
noncomputable def spec_NextMorning_v : Nat → List Nat := fun t => match t with | _ => []
noncomputable def spec_NextMorning_O (k : Nat) : Oracle := ofL [(169, spec_RackOk_x k), (40, spec_l01In_x k)]
theorem spec_NextMorning_Ok (k : Nat) : OkO (Ct Tryz.prog) (spec_NextMorning_O k) := okO_cons (spec_RackOk_ok k) (okO_cons (spec_l01In_ok k) (okO_nil))
noncomputable def spec_NextMorning_A (r : Rack) (baked : Int) : Pk := ⟨[(.ag [(.v (.int .i64 r.Fresh)), (.v (.int .i64 r.Day)), (.v (.int .i64 r.Old))]), (.sc (.v (.int .i64 baked)))], []⟩
noncomputable def spec_NextMorning_d : Rs → Option (Rack × Int)
 | ⟨(.tp [(.ag [(.v (.int .i64 r1)), (.v (.int .i64 r2)), (.v (.int .i64 r3))]), (.sc (.v (.int .i64 r4)))]), []⟩ => some ((⟨r1, r2, r3⟩ : Rack), r4)
 | _ => none
theorem spec_NextMorning_i {r : Rs} {y : Rack × Int} (h : spec_NextMorning_d r = some y) : r = ⟨(.tp [(.ag [(.v (.int .i64 y.1.Fresh)), (.v (.int .i64 y.1.Day)), (.v (.int .i64 y.1.Old))]), (.sc (.v (.int .i64 y.2)))]), []⟩ := by
 unfold spec_NextMorning_d at h; split at h
 · cases h; rfl
 · cases h
theorem spec_NextMorning_e (k : Nat) (r : Rack) (baked : Int) : callF env (spec_NextMorning_O k) spec_NextMorning_v Tryz.f172 (k + 1) (spec_NextMorning_A r baked) (fun r => spec_NextMorning_d (r.fin 0 [])) = spec_NextMorning k r baked := by kernel_rfl
noncomputable def spec_NextMorning_x (k : Nat) : Ent1 := fun A R Q => match A with
 | ⟨[(.ag [(.v (.int .i64 a1)), (.v (.int .i64 a2)), (.v (.int .i64 a3))]), (.sc (.v (.int .i64 a4)))], []⟩ => (spec_NextMorning k (⟨a1, a2, a3⟩ : Rack) a4).bind fun y => Q ⟨(.tp [(.ag [(.v (.int .i64 y.1.Fresh)), (.v (.int .i64 y.1.Day)), (.v (.int .i64 y.1.Old))]), (.sc (.v (.int .i64 y.2)))]), []⟩
 | _ => none
theorem spec_NextMorning_ok (k : Nat) : OkE Tryz.prog 172 (spec_NextMorning_x k) := by
 intro A R Q x h
 unfold spec_NextMorning_x at h
 split at h
 · obtain ⟨y, hy, hK⟩ := Option.bind_eq_some_iff.1 h
   obtain ⟨r, hr, hd⟩ := callF_ok envOk (spec_NextMorning_Ok k) follows Tryz.func172 (by kernel_rfl) ((spec_NextMorning_e k _ _).trans hy)
   exact ⟨_, spec_NextMorning_i hd ▸ hr.fin [], hK⟩
 · cases h
/-! ### spec.EventOn: function 142 -/
noncomputable def spec_EventOn (k : Nat)  (r : Rack) (e : Event) : Option (Rack × Int × Int × Int × Bool) :=
 (spec_RackOk k r).bind fun y1 =>
 cond (!y1)
  (some (r, 0, 0, 0, false))
  ((spec_l01In k e.Loaves 0 1000).bind fun y2 =>
   cond (!y2)
    (some (r, 0, 0, 0, false))
    (cond (decide ((e.Kind : Int) = 1))
     ((spec_RackOk k (⟨(wr (r.Fresh + e.Loaves)), r.Day, r.Old⟩ : Rack)).bind fun y3 =>
      cond y3
       (some ((⟨(wr (r.Fresh + e.Loaves)), r.Day, r.Old⟩ : Rack), e.Loaves, 0, 0, true))
       (some (r, 0, 0, 0, false)))
     (cond (decide ((e.Kind : Int) = 2))
      ((spec_SellFresh k r e.Loaves).bind fun y4 =>
       cond (decide ((y4.2 : Int) = e.Loaves))
        (some (y4.1, 0, y4.2, 0, true))
        (some (r, 0, 0, 0, false)))
      (cond (decide ((e.Kind : Int) = 3))
       ((spec_SellCheap k r e.Loaves).bind fun y5 =>
        cond (decide ((y5.2 : Int) = e.Loaves))
        (some (y5.1, 0, y5.2, 0, true))
        (some (r, 0, 0, 0, false)))
       (cond (decide ((e.Kind : Int) = 4))
        ((spec_NextMorning k r 0).bind fun y6 =>
        cond (decide ((e.Loaves : Int) = 0))
        (some (y6.1, 0, 0, y6.2, true))
        (some (r, 0, 0, 0, false)))
        (some (r, 0, 0, 0, false)))))))
noncomputable def spec_EventOn_v : Nat → List Nat := fun t => match t with | _ => []
noncomputable def spec_EventOn_O (k : Nat) : Oracle := ofL [(169, spec_RackOk_x k), (170, spec_SellFresh_x k), (171, spec_SellCheap_x k), (172, spec_NextMorning_x k), (40, spec_l01In_x k)]
theorem spec_EventOn_Ok (k : Nat) : OkO (Ct Tryz.prog) (spec_EventOn_O k) := okO_cons (spec_RackOk_ok k) (okO_cons (spec_SellFresh_ok k) (okO_cons (spec_SellCheap_ok k) (okO_cons (spec_NextMorning_ok k) (okO_cons (spec_l01In_ok k) (okO_nil)))))
noncomputable def spec_EventOn_A (r : Rack) (e : Event) : Pk := ⟨[(.ag [(.v (.int .i64 r.Fresh)), (.v (.int .i64 r.Day)), (.v (.int .i64 r.Old))]), (.ag [(.v (.int .i64 e.Kind)), (.v (.int .i64 e.Loaves))])], []⟩
noncomputable def spec_EventOn_d : Rs → Option (Rack × Int × Int × Int × Bool)
 | ⟨(.tp [(.ag [(.v (.int .i64 r1)), (.v (.int .i64 r2)), (.v (.int .i64 r3))]), (.sc (.v (.int .i64 r4))), (.sc (.v (.int .i64 r5))), (.sc (.v (.int .i64 r6))), (.sc (.v (.bool r7)))]), []⟩ => some ((⟨r1, r2, r3⟩ : Rack), r4, r5, r6, r7)
 | _ => none
theorem spec_EventOn_i {r : Rs} {y : Rack × Int × Int × Int × Bool} (h : spec_EventOn_d r = some y) : r = ⟨(.tp [(.ag [(.v (.int .i64 y.1.Fresh)), (.v (.int .i64 y.1.Day)), (.v (.int .i64 y.1.Old))]), (.sc (.v (.int .i64 y.2.1))), (.sc (.v (.int .i64 y.2.2.1))), (.sc (.v (.int .i64 y.2.2.2.1))), (.sc (.v (.bool y.2.2.2.2)))]), []⟩ := by
 unfold spec_EventOn_d at h; split at h
 · cases h; rfl
 · cases h
theorem spec_EventOn_e (k : Nat) (r : Rack) (e : Event) : callF env (spec_EventOn_O k) spec_EventOn_v Tryz.f142 (k + 1) (spec_EventOn_A r e) (fun r => spec_EventOn_d (r.fin 0 [])) = spec_EventOn k r e := by kernel_rfl
noncomputable def spec_EventOn_x (k : Nat) : Ent1 := fun A R Q => match A with
 | ⟨[(.ag [(.v (.int .i64 a1)), (.v (.int .i64 a2)), (.v (.int .i64 a3))]), (.ag [(.v (.int .i64 a4)), (.v (.int .i64 a5))])], []⟩ => (spec_EventOn k (⟨a1, a2, a3⟩ : Rack) (⟨a4, a5⟩ : Event)).bind fun y => Q ⟨(.tp [(.ag [(.v (.int .i64 y.1.Fresh)), (.v (.int .i64 y.1.Day)), (.v (.int .i64 y.1.Old))]), (.sc (.v (.int .i64 y.2.1))), (.sc (.v (.int .i64 y.2.2.1))), (.sc (.v (.int .i64 y.2.2.2.1))), (.sc (.v (.bool y.2.2.2.2)))]), []⟩
 | _ => none
theorem spec_EventOn_ok (k : Nat) : OkE Tryz.prog 142 (spec_EventOn_x k) := by
 intro A R Q x h
 unfold spec_EventOn_x at h
 split at h
 · obtain ⟨y, hy, hK⟩ := Option.bind_eq_some_iff.1 h
   obtain ⟨r, hr, hd⟩ := callF_ok envOk (spec_EventOn_Ok k) follows Tryz.func142 (by kernel_rfl) ((spec_EventOn_e k _ _).trans hy)
   exact ⟨_, spec_EventOn_i hd ▸ hr.fin [], hK⟩
 · cases h
/-! ### spec.l37Count: function 115 -/
noncomputable def spec_l37Count_s0 (k : Nat)  (events : (List Event)) (J : Int → Int → Int → Int → Int → Int → Int → Option (Book × Bool)) (x0_0 : Int) (x0_1 : Int) (x0_2 : Int) (x0_3 : Int) (x0_4 : Int) (x0_5 : Int) (x0_6 : Int) : Option (Book × Bool) :=
 cond (decide ((x0_0 : Int) < ((events).length : Int)))
 (if 0 ≤ (x0_0 : Int) ∧ (x0_0 : Int) < ((events).length : Int) then
  (spec_EventOn k (⟨x0_1, x0_2, x0_3⟩ : Rack) (events.getD (Int.toNat x0_0) dk_impl_Event)).bind fun y2 =>
   cond (!y2.2.2.2.2)
    (some ((⟨([] ++ events), (⟨x0_1, x0_2, x0_3⟩ : Rack), x0_4, x0_5, x0_6⟩ : Book), false))
    (J (wr (x0_0 + 1)) y2.1.Fresh y2.1.Day y2.1.Old (wr (x0_4 + y2.2.1)) (wr (x0_5 + y2.2.2.1)) (wr (x0_6 + y2.2.2.2.1))) else none)
 (some ((⟨([] ++ events), (⟨x0_1, x0_2, x0_3⟩ : Rack), x0_4, x0_5, x0_6⟩ : Book), true))
noncomputable def spec_l37Count_l0 (k : Nat) : Nat → (List Event) → Int → Int → Int → Int → Int → Int → Int → Option (Book × Bool)
 | 0, events, x0_0, x0_1, x0_2, x0_3, x0_4, x0_5, x0_6 => spec_l37Count_s0 k events (fun _ _ _ _ _ _ _ => none) x0_0 x0_1 x0_2 x0_3 x0_4 x0_5 x0_6
 | m + 1, events, x0_0, x0_1, x0_2, x0_3, x0_4, x0_5, x0_6 => spec_l37Count_s0 k events (spec_l37Count_l0 k m events) x0_0 x0_1 x0_2 x0_3 x0_4 x0_5 x0_6
noncomputable def spec_l37Count_m (k : Nat) (J0 : (List Event) → Int → Int → Int → Int → Int → Int → Int → Option (Book × Bool)) (events : (List Event)) : Option (Book × Bool) :=
 if ([] : List Event).length + (events : List Event).length ≤ maxRow then
 cond (decide ((40 : Int) < ((events).length : Int)))
  (some ((⟨([] ++ events), (⟨0, 0, 0⟩ : Rack), 0, 0, 0⟩ : Book), false))
  (J0 events 0 0 0 0 0 0 0) else none
noncomputable def spec_l37Count (k : Nat) (events : (List Event)) : Option (Book × Bool) := spec_l37Count_m k (spec_l37Count_l0 k k) events
noncomputable def spec_l37Count_v : Nat → List Nat := fun t => match t with | 5 => [0, 2, 3, 4, 5] | _ => []
noncomputable def spec_l37Count_O (k : Nat) : Oracle := ofL [(142, spec_EventOn_x k)]
theorem spec_l37Count_Ok (k : Nat) : OkO (Ct Tryz.prog) (spec_l37Count_O k) := okO_cons (spec_EventOn_ok k) (okO_nil)
noncomputable def spec_l37Count_A (events : (List Event)) : Pk := ⟨[(.sc (.sl 0))], [(.row false K.k_impl_Event events)]⟩
noncomputable def spec_l37Count_d : Rs → Option (Book × Bool)
 | ⟨(.tp [(.ag [(.sl 1), (.v (.int .i64 r2)), (.v (.int .i64 r3)), (.v (.int .i64 r4)), (.v (.int .i64 r5)), (.v (.int .i64 r6)), (.v (.int .i64 r7))]), (.sc (.v (.bool r8)))]), [.dead, (.row true K.k_impl_Event r1)]⟩ => some ((⟨r1, (⟨r2, r3, r4⟩ : Rack), r5, r6, r7⟩ : Book), r8)
 | _ => none
theorem spec_l37Count_i {r : Rs} {y : Book × Bool} (h : spec_l37Count_d r = some y) : r = ⟨(.tp [(.ag [(.sl 1), (.v (.int .i64 y.1.Rack.Fresh)), (.v (.int .i64 y.1.Rack.Day)), (.v (.int .i64 y.1.Rack.Old)), (.v (.int .i64 y.1.Baked)), (.v (.int .i64 y.1.Sold)), (.v (.int .i64 y.1.Thrown))]), (.sc (.v (.bool y.2)))]), [.dead, (.row true K.k_impl_Event y.1.Events)]⟩ := by
 unfold spec_l37Count_d at h; split at h
 · cases h; rfl
 · cases h
noncomputable def spec_l37Count_h0 (k m : Nat) (events : (List Event)) (x0_0 : Int) (x0_1 : Int) (x0_2 : Int) (x0_3 : Int) (x0_4 : Int) (x0_5 : Int) (x0_6 : Int) : Option (Book × Bool) := hdAt env (spec_l37Count_O k) spec_l37Count_v Tryz.f115 1 (fun r => spec_l37Count_d (r.fin 1 [])) [1, 1, 1, 0, 1, 0] k m ⟨tmF [0, 2, 3, 4, 5] [(.a (.sc (.sl 0))), (.a (.sc (.bp 2 0))), (.a (.sc (.v (.bool false)))), (.a (.sc (.bp 4 0))), (.a (.sc (.v (.int .i64 x0_0))))], blF [(.row false K.k_impl_Event events), (.row true K.k_impl_Event []), (.box true [(.sl 1), (.v (.int .i64 0)), (.v (.int .i64 0)), (.v (.int .i64 0)), (.v (.int .i64 0)), (.v (.int .i64 0)), (.v (.int .i64 0))]), (.row true K.k_impl_Event ([] ++ events)), (.box true [(.sl 3), (.v (.int .i64 x0_1)), (.v (.int .i64 x0_2)), (.v (.int .i64 x0_3)), (.v (.int .i64 x0_4)), (.v (.int .i64 x0_5)), (.v (.int .i64 x0_6))])]⟩
theorem spec_l37Count_z0 (k : Nat) (events : (List Event)) (x0_0 : Int) (x0_1 : Int) (x0_2 : Int) (x0_3 : Int) (x0_4 : Int) (x0_5 : Int) (x0_6 : Int) : spec_l37Count_h0 k 0 events x0_0 x0_1 x0_2 x0_3 x0_4 x0_5 x0_6 = spec_l37Count_s0 k events (fun _ _ _ _ _ _ _ => none) x0_0 x0_1 x0_2 x0_3 x0_4 x0_5 x0_6 := by kernel_rfl
theorem spec_l37Count_g0 (k : Nat) (H : St → Option (Book × Bool)) (events : (List Event)) (x0_0 : Int) (x0_1 : Int) (x0_2 : Int) (x0_3 : Int) (x0_4 : Int) (x0_5 : Int) (x0_6 : Int) : rnd env (spec_l37Count_O k) spec_l37Count_v Tryz.f115 1 (fun r => spec_l37Count_d (r.fin 1 [])) [1, 1, 1, 0, 1, 0] k H ⟨tmF [0, 2, 3, 4, 5] [(.a (.sc (.sl 0))), (.a (.sc (.bp 2 0))), (.a (.sc (.v (.bool false)))), (.a (.sc (.bp 4 0))), (.a (.sc (.v (.int .i64 x0_0))))], blF [(.row false K.k_impl_Event events), (.row true K.k_impl_Event []), (.box true [(.sl 1), (.v (.int .i64 0)), (.v (.int .i64 0)), (.v (.int .i64 0)), (.v (.int .i64 0)), (.v (.int .i64 0)), (.v (.int .i64 0))]), (.row true K.k_impl_Event ([] ++ events)), (.box true [(.sl 3), (.v (.int .i64 x0_1)), (.v (.int .i64 x0_2)), (.v (.int .i64 x0_3)), (.v (.int .i64 x0_4)), (.v (.int .i64 x0_5)), (.v (.int .i64 x0_6))])]⟩ = spec_l37Count_s0 k events (fun x0_0 x0_1 x0_2 x0_3 x0_4 x0_5 x0_6 => H ⟨tmF [0, 2, 3, 4, 5] [(.a (.sc (.sl 0))), (.a (.sc (.bp 2 0))), (.a (.sc (.v (.bool false)))), (.a (.sc (.bp 4 0))), (.a (.sc (.v (.int .i64 x0_0))))], blF [(.row false K.k_impl_Event events), (.row true K.k_impl_Event []), (.box true [(.sl 1), (.v (.int .i64 0)), (.v (.int .i64 0)), (.v (.int .i64 0)), (.v (.int .i64 0)), (.v (.int .i64 0)), (.v (.int .i64 0))]), (.row true K.k_impl_Event ([] ++ events)), (.box true [(.sl 3), (.v (.int .i64 x0_1)), (.v (.int .i64 x0_2)), (.v (.int .i64 x0_3)), (.v (.int .i64 x0_4)), (.v (.int .i64 x0_5)), (.v (.int .i64 x0_6))])]⟩) x0_0 x0_1 x0_2 x0_3 x0_4 x0_5 x0_6 := by kernel_rfl
theorem spec_l37Count_n0 (k m : Nat) (events : (List Event)) (x0_0 : Int) (x0_1 : Int) (x0_2 : Int) (x0_3 : Int) (x0_4 : Int) (x0_5 : Int) (x0_6 : Int) : spec_l37Count_h0 k (m + 1) events x0_0 x0_1 x0_2 x0_3 x0_4 x0_5 x0_6 = spec_l37Count_s0 k events (spec_l37Count_h0 k m events) x0_0 x0_1 x0_2 x0_3 x0_4 x0_5 x0_6 := (hdAt_succ _ _ _ _ _ _ _ _ _ _).trans (spec_l37Count_g0 k _ events x0_0 x0_1 x0_2 x0_3 x0_4 x0_5 x0_6)
theorem spec_l37Count_q0 (k : Nat) : ∀ m, spec_l37Count_h0 k m = spec_l37Count_l0 k m := by
 intro m
 induction m with
 | zero => funext events x0_0 x0_1 x0_2 x0_3 x0_4 x0_5 x0_6; rw [spec_l37Count_z0]; rfl
 | succ m ih => funext events x0_0 x0_1 x0_2 x0_3 x0_4 x0_5 x0_6; rw [spec_l37Count_n0, ih]; rfl
theorem spec_l37Count_e (k : Nat) (events : (List Event)) : callF env (spec_l37Count_O k) spec_l37Count_v Tryz.f115 (k + 1) (spec_l37Count_A events) (fun r => spec_l37Count_d (r.fin 1 [])) = spec_l37Count k events := by
 have e : ∀ H : St → Option (Book × Bool), callE env (spec_l37Count_O k) spec_l37Count_v Tryz.f115 (k + 1) (spec_l37Count_A events) [1, 1, 1, 0, 1, 0] (fun r => spec_l37Count_d (r.fin 1 [])) H = spec_l37Count_m k (fun events x0_0 x0_1 x0_2 x0_3 x0_4 x0_5 x0_6 => H ⟨tmF [0, 2, 3, 4, 5] [(.a (.sc (.sl 0))), (.a (.sc (.bp 2 0))), (.a (.sc (.v (.bool false)))), (.a (.sc (.bp 4 0))), (.a (.sc (.v (.int .i64 x0_0))))], blF [(.row false K.k_impl_Event events), (.row true K.k_impl_Event []), (.box true [(.sl 1), (.v (.int .i64 0)), (.v (.int .i64 0)), (.v (.int .i64 0)), (.v (.int .i64 0)), (.v (.int .i64 0)), (.v (.int .i64 0))]), (.row true K.k_impl_Event ([] ++ events)), (.box true [(.sl 3), (.v (.int .i64 x0_1)), (.v (.int .i64 x0_2)), (.v (.int .i64 x0_3)), (.v (.int .i64 x0_4)), (.v (.int .i64 x0_5)), (.v (.int .i64 x0_6))])]⟩) events := fun H => by kernel_rfl
 exact (callE_eq env (spec_l37Count_O k) spec_l37Count_v Tryz.f115 k (spec_l37Count_A events) [1, 1, 1, 0, 1, 0] 1 (fun r => spec_l37Count_d (r.fin 1 [])) rfl (by kernel_rfl)).trans ((e (hdAt env (spec_l37Count_O k) spec_l37Count_v Tryz.f115 1 (fun r => spec_l37Count_d (r.fin 1 [])) [1, 1, 1, 0, 1, 0] k k)).trans (by
  show spec_l37Count_m k (spec_l37Count_h0 k k) events = _
  rw [spec_l37Count_q0]; rfl))
noncomputable def spec_l37Count_x (k : Nat) : Ent1 := fun A R Q => match A with
 | ⟨[(.sc (.sl 0))], [(.row false K.k_impl_Event a1)]⟩ => (spec_l37Count k a1).bind fun y => Q ⟨(.tp [(.ag [(.sl 1), (.v (.int .i64 y.1.Rack.Fresh)), (.v (.int .i64 y.1.Rack.Day)), (.v (.int .i64 y.1.Rack.Old)), (.v (.int .i64 y.1.Baked)), (.v (.int .i64 y.1.Sold)), (.v (.int .i64 y.1.Thrown))]), (.sc (.v (.bool y.2)))]), [.dead, (.row true K.k_impl_Event y.1.Events)]⟩
 | _ => none
theorem spec_l37Count_ok (k : Nat) : OkE Tryz.prog 115 (spec_l37Count_x k) := by
 intro A R Q x h
 unfold spec_l37Count_x at h
 split at h
 · obtain ⟨y, hy, hK⟩ := Option.bind_eq_some_iff.1 h
   obtain ⟨r, hr, hd⟩ := callF_ok envOk (spec_l37Count_Ok k) follows Tryz.func115 (by kernel_rfl) ((spec_l37Count_e k _).trans hy)
   exact ⟨_, spec_l37Count_i hd ▸ hr.fin [], hK⟩
 · cases h
/-! ### spec.BookOk: function 83 -/
noncomputable def spec_BookOk (k : Nat)  (b : Book) : Option (Bool) :=
 (spec_l37Count k b.Events).bind fun y1 =>
 cond y1.2
  (cond (decide ((y1.1.Rack.Fresh : Int) = b.Rack.Fresh) && (decide ((y1.1.Rack.Day : Int) = b.Rack.Day) && decide ((y1.1.Rack.Old : Int) = b.Rack.Old)))
   (cond (decide ((y1.1.Baked : Int) = b.Baked))
    (cond (decide ((y1.1.Sold : Int) = b.Sold))
     (some (decide ((y1.1.Thrown : Int) = b.Thrown)))
     (some false))
    (some false))
   (some false))
  (some false)
noncomputable def spec_BookOk_v : Nat → List Nat := fun t => match t with | _ => []
noncomputable def spec_BookOk_O (k : Nat) : Oracle := ofL [(115, spec_l37Count_x k)]
theorem spec_BookOk_Ok (k : Nat) : OkO (Ct Tryz.prog) (spec_BookOk_O k) := okO_cons (spec_l37Count_ok k) (okO_nil)
noncomputable def spec_BookOk_A (b : Book) : Pk := ⟨[(.ag [(.sl 0), (.v (.int .i64 b.Rack.Fresh)), (.v (.int .i64 b.Rack.Day)), (.v (.int .i64 b.Rack.Old)), (.v (.int .i64 b.Baked)), (.v (.int .i64 b.Sold)), (.v (.int .i64 b.Thrown))])], [(.row false K.k_impl_Event b.Events)]⟩
noncomputable def spec_BookOk_d : Rs → Option (Bool)
 | ⟨(.a (.sc (.v (.bool r1)))), [.dead]⟩ => some r1
 | _ => none
theorem spec_BookOk_i {r : Rs} {y : Bool} (h : spec_BookOk_d r = some y) : r = ⟨(.a (.sc (.v (.bool y)))), [.dead]⟩ := by
 unfold spec_BookOk_d at h; split at h
 · cases h; rfl
 · cases h
theorem spec_BookOk_e (k : Nat) (b : Book) : callF env (spec_BookOk_O k) spec_BookOk_v Tryz.f83 (k + 1) (spec_BookOk_A b) (fun r => spec_BookOk_d (r.fin 1 [])) = spec_BookOk k b := by kernel_rfl
noncomputable def spec_BookOk_x (k : Nat) : Ent1 := fun A R Q => match A with
 | ⟨[(.ag [(.sl 0), (.v (.int .i64 a2)), (.v (.int .i64 a3)), (.v (.int .i64 a4)), (.v (.int .i64 a5)), (.v (.int .i64 a6)), (.v (.int .i64 a7))])], [(.row false K.k_impl_Event a1)]⟩ => (spec_BookOk k (⟨a1, (⟨a2, a3, a4⟩ : Rack), a5, a6, a7⟩ : Book)).bind fun y => Q ⟨(.a (.sc (.v (.bool y)))), [.dead]⟩
 | _ => none
theorem spec_BookOk_ok (k : Nat) : OkE Tryz.prog 83 (spec_BookOk_x k) := by
 intro A R Q x h
 unfold spec_BookOk_x at h
 split at h
 · obtain ⟨y, hy, hK⟩ := Option.bind_eq_some_iff.1 h
   obtain ⟨r, hr, hd⟩ := callF_ok envOk (spec_BookOk_Ok k) follows Tryz.func83 (by kernel_rfl) ((spec_BookOk_e k _).trans hy)
   exact ⟨_, spec_BookOk_i hd ▸ hr.fin [], hK⟩
 · cases h
/-! ### spec.BakeryOk: function 44 -/
noncomputable def spec_BakeryOk (k : Nat)  (b : Bakery) : Option (Bool) :=
 (spec_StoreOk k b.Stock).bind fun y1 =>
 cond y1
  ((spec_DoughOk k b.Dough).bind fun y2 =>
   cond y2
    ((spec_LoafOk k b.Loaf).bind fun y3 =>
     cond y3
      ((spec_BookOk k b.Book).bind fun y4 =>
       cond y4
        ((spec_l01In k b.Money 0 1000000).bind fun y5 =>
        some y5)
        (some false))
      (some false))
    (some false))
  (some false)
noncomputable def spec_BakeryOk_v : Nat → List Nat := fun t => match t with | _ => []
noncomputable def spec_BakeryOk_O (k : Nat) : Oracle := ofL [(40, spec_l01In_x k), (80, spec_StoreOk_x k), (81, spec_DoughOk_x k), (82, spec_LoafOk_x k), (83, spec_BookOk_x k)]
theorem spec_BakeryOk_Ok (k : Nat) : OkO (Ct Tryz.prog) (spec_BakeryOk_O k) := okO_cons (spec_l01In_ok k) (okO_cons (spec_StoreOk_ok k) (okO_cons (spec_DoughOk_ok k) (okO_cons (spec_LoafOk_ok k) (okO_cons (spec_BookOk_ok k) (okO_nil)))))
noncomputable def spec_BakeryOk_A (b : Bakery) : Pk := ⟨[(.ag [(.sl 0), (.v (.int .i64 b.Dough.Water)), (.v (.int .i64 b.Dough.Salt)), (.v (.int .i64 b.Dough.Leaven)), (.v (.int .i64 b.Loaf.Weight)), (.v (.int .i64 b.Loaf.Loss)), (.sl 1), (.v (.int .i64 b.Book.Rack.Fresh)), (.v (.int .i64 b.Book.Rack.Day)), (.v (.int .i64 b.Book.Rack.Old)), (.v (.int .i64 b.Book.Baked)), (.v (.int .i64 b.Book.Sold)), (.v (.int .i64 b.Book.Thrown)), (.v (.int .i64 b.Money))])], [(.row false K.ki64 b.Stock.Grams), (.row false K.k_impl_Event b.Book.Events)]⟩
noncomputable def spec_BakeryOk_d : Rs → Option (Bool)
 | ⟨(.a (.sc (.v (.bool r1)))), [.dead, .dead]⟩ => some r1
 | _ => none
theorem spec_BakeryOk_i {r : Rs} {y : Bool} (h : spec_BakeryOk_d r = some y) : r = ⟨(.a (.sc (.v (.bool y)))), [.dead, .dead]⟩ := by
 unfold spec_BakeryOk_d at h; split at h
 · cases h; rfl
 · cases h
theorem spec_BakeryOk_e (k : Nat) (b : Bakery) : callF env (spec_BakeryOk_O k) spec_BakeryOk_v Tryz.f44 (k + 1) (spec_BakeryOk_A b) (fun r => spec_BakeryOk_d (r.fin 2 [])) = spec_BakeryOk k b := by kernel_rfl
noncomputable def spec_BakeryOk_x (k : Nat) : Ent1 := fun A R Q => match A with
 | ⟨[(.ag [(.sl 0), (.v (.int .i64 a2)), (.v (.int .i64 a3)), (.v (.int .i64 a4)), (.v (.int .i64 a5)), (.v (.int .i64 a6)), (.sl 1), (.v (.int .i64 a8)), (.v (.int .i64 a9)), (.v (.int .i64 a10)), (.v (.int .i64 a11)), (.v (.int .i64 a12)), (.v (.int .i64 a13)), (.v (.int .i64 a14))])], [(.row false K.ki64 a1), (.row false K.k_impl_Event a7)]⟩ => (spec_BakeryOk k (⟨(⟨a1⟩ : Stock), (⟨a2, a3, a4⟩ : Dough), (⟨a5, a6⟩ : Loaf), (⟨a7, (⟨a8, a9, a10⟩ : Rack), a11, a12, a13⟩ : Book), a14⟩ : Bakery)).bind fun y => Q ⟨(.a (.sc (.v (.bool y)))), [.dead, .dead]⟩
 | _ => none
theorem spec_BakeryOk_ok (k : Nat) : OkE Tryz.prog 44 (spec_BakeryOk_x k) := by
 intro A R Q x h
 unfold spec_BakeryOk_x at h
 split at h
 · obtain ⟨y, hy, hK⟩ := Option.bind_eq_some_iff.1 h
   obtain ⟨r, hr, hd⟩ := callF_ok envOk (spec_BakeryOk_Ok k) follows Tryz.func44 (by kernel_rfl) ((spec_BakeryOk_e k _).trans hy)
   exact ⟨_, spec_BakeryOk_i hd ▸ hr.fin [], hK⟩
 · cases h
/-! ### spec.OpenBakery: function 46 -/
noncomputable def spec_OpenBakery (k : Nat)  (grams : (List Int)) (d : Dough) (l : Loaf) (money : Int) : Option (Bakery × Bool) :=
 if ([] : List Int).length + (grams : List Int).length ≤ maxRow then
 (spec_BakeryOk k (⟨(⟨([] ++ grams)⟩ : Stock), d, l, (⟨[], (⟨0, 0, 0⟩ : Rack), 0, 0, 0⟩ : Book), money⟩ : Bakery)).bind fun y1 =>
  cond (!y1)
   (some ((⟨(⟨[]⟩ : Stock), (⟨0, 0, 0⟩ : Dough), (⟨0, 0⟩ : Loaf), (⟨[], (⟨0, 0, 0⟩ : Rack), 0, 0, 0⟩ : Book), 0⟩ : Bakery), false))
   (some ((⟨(⟨([] ++ grams)⟩ : Stock), d, l, (⟨[], (⟨0, 0, 0⟩ : Rack), 0, 0, 0⟩ : Book), money⟩ : Bakery), true)) else none
noncomputable def spec_OpenBakery_v : Nat → List Nat := fun t => match t with | _ => []
noncomputable def spec_OpenBakery_O (k : Nat) : Oracle := ofL [(44, spec_BakeryOk_x k)]
theorem spec_OpenBakery_Ok (k : Nat) : OkO (Ct Tryz.prog) (spec_OpenBakery_O k) := okO_cons (spec_BakeryOk_ok k) (okO_nil)
noncomputable def spec_OpenBakery_A (grams : (List Int)) (d : Dough) (l : Loaf) (money : Int) : Pk := ⟨[(.sc (.sl 0)), (.ag [(.v (.int .i64 d.Water)), (.v (.int .i64 d.Salt)), (.v (.int .i64 d.Leaven))]), (.ag [(.v (.int .i64 l.Weight)), (.v (.int .i64 l.Loss))]), (.sc (.v (.int .i64 money)))], [(.row false K.ki64 grams)]⟩
noncomputable def spec_OpenBakery_d : Rs → Option (Bakery × Bool)
 | ⟨(.tp [(.ag [(.sl 1), (.v (.int .i64 r2)), (.v (.int .i64 r3)), (.v (.int .i64 r4)), (.v (.int .i64 r5)), (.v (.int .i64 r6)), (.sl 2), (.v (.int .i64 r8)), (.v (.int .i64 r9)), (.v (.int .i64 r10)), (.v (.int .i64 r11)), (.v (.int .i64 r12)), (.v (.int .i64 r13)), (.v (.int .i64 r14))]), (.sc (.v (.bool r15)))]), [.dead, (.row true K.ki64 r1), (.row true K.k_impl_Event r7)]⟩ => some ((⟨(⟨r1⟩ : Stock), (⟨r2, r3, r4⟩ : Dough), (⟨r5, r6⟩ : Loaf), (⟨r7, (⟨r8, r9, r10⟩ : Rack), r11, r12, r13⟩ : Book), r14⟩ : Bakery), r15)
 | _ => none
theorem spec_OpenBakery_i {r : Rs} {y : Bakery × Bool} (h : spec_OpenBakery_d r = some y) : r = ⟨(.tp [(.ag [(.sl 1), (.v (.int .i64 y.1.Dough.Water)), (.v (.int .i64 y.1.Dough.Salt)), (.v (.int .i64 y.1.Dough.Leaven)), (.v (.int .i64 y.1.Loaf.Weight)), (.v (.int .i64 y.1.Loaf.Loss)), (.sl 2), (.v (.int .i64 y.1.Book.Rack.Fresh)), (.v (.int .i64 y.1.Book.Rack.Day)), (.v (.int .i64 y.1.Book.Rack.Old)), (.v (.int .i64 y.1.Book.Baked)), (.v (.int .i64 y.1.Book.Sold)), (.v (.int .i64 y.1.Book.Thrown)), (.v (.int .i64 y.1.Money))]), (.sc (.v (.bool y.2)))]), [.dead, (.row true K.ki64 y.1.Stock.Grams), (.row true K.k_impl_Event y.1.Book.Events)]⟩ := by
 unfold spec_OpenBakery_d at h; split at h
 · cases h; rfl
 · cases h
theorem spec_OpenBakery_e (k : Nat) (grams : (List Int)) (d : Dough) (l : Loaf) (money : Int) : callF env (spec_OpenBakery_O k) spec_OpenBakery_v Tryz.f46 (k + 1) (spec_OpenBakery_A grams d l money) (fun r => spec_OpenBakery_d (r.fin 1 [])) = spec_OpenBakery k grams d l money := by kernel_rfl
noncomputable def spec_OpenBakery_x (k : Nat) : Ent1 := fun A R Q => match A with
 | ⟨[(.sc (.sl 0)), (.ag [(.v (.int .i64 a2)), (.v (.int .i64 a3)), (.v (.int .i64 a4))]), (.ag [(.v (.int .i64 a5)), (.v (.int .i64 a6))]), (.sc (.v (.int .i64 a7)))], [(.row false K.ki64 a1)]⟩ => (spec_OpenBakery k a1 (⟨a2, a3, a4⟩ : Dough) (⟨a5, a6⟩ : Loaf) a7).bind fun y => Q ⟨(.tp [(.ag [(.sl 1), (.v (.int .i64 y.1.Dough.Water)), (.v (.int .i64 y.1.Dough.Salt)), (.v (.int .i64 y.1.Dough.Leaven)), (.v (.int .i64 y.1.Loaf.Weight)), (.v (.int .i64 y.1.Loaf.Loss)), (.sl 2), (.v (.int .i64 y.1.Book.Rack.Fresh)), (.v (.int .i64 y.1.Book.Rack.Day)), (.v (.int .i64 y.1.Book.Rack.Old)), (.v (.int .i64 y.1.Book.Baked)), (.v (.int .i64 y.1.Book.Sold)), (.v (.int .i64 y.1.Book.Thrown)), (.v (.int .i64 y.1.Money))]), (.sc (.v (.bool y.2)))]), [.dead, (.row true K.ki64 y.1.Stock.Grams), (.row true K.k_impl_Event y.1.Book.Events)]⟩
 | _ => none
theorem spec_OpenBakery_ok (k : Nat) : OkE Tryz.prog 46 (spec_OpenBakery_x k) := by
 intro A R Q x h
 unfold spec_OpenBakery_x at h
 split at h
 · obtain ⟨y, hy, hK⟩ := Option.bind_eq_some_iff.1 h
   obtain ⟨r, hr, hd⟩ := callF_ok envOk (spec_OpenBakery_Ok k) follows Tryz.func46 (by kernel_rfl) ((spec_OpenBakery_e k _ _ _ _).trans hy)
   exact ⟨_, spec_OpenBakery_i hd ▸ hr.fin [], hK⟩
 · cases h
/-! ### spec.SampleBakery: function 21 -/
noncomputable def spec_SampleBakery (k : Nat)  : Option (Bakery) :=
 (spec_OpenBakery k ([4000, 3000, 100, 800]) (⟨650, 20, 200⟩ : Dough) (⟨500, 15⟩ : Loaf) 50).bind fun y1 =>
 some y1.1
noncomputable def spec_SampleBakery_v : Nat → List Nat := fun t => match t with | _ => []
noncomputable def spec_SampleBakery_O (k : Nat) : Oracle := ofL [(46, spec_OpenBakery_x k)]
theorem spec_SampleBakery_Ok (k : Nat) : OkO (Ct Tryz.prog) (spec_SampleBakery_O k) := okO_cons (spec_OpenBakery_ok k) (okO_nil)
noncomputable def spec_SampleBakery_A : Pk := ⟨[], []⟩
noncomputable def spec_SampleBakery_d : Rs → Option (Bakery)
 | ⟨(.a (.ag [(.sl 0), (.v (.int .i64 r2)), (.v (.int .i64 r3)), (.v (.int .i64 r4)), (.v (.int .i64 r5)), (.v (.int .i64 r6)), (.sl 1), (.v (.int .i64 r8)), (.v (.int .i64 r9)), (.v (.int .i64 r10)), (.v (.int .i64 r11)), (.v (.int .i64 r12)), (.v (.int .i64 r13)), (.v (.int .i64 r14))])), [(.row true K.ki64 r1), (.row true K.k_impl_Event r7)]⟩ => some (⟨(⟨r1⟩ : Stock), (⟨r2, r3, r4⟩ : Dough), (⟨r5, r6⟩ : Loaf), (⟨r7, (⟨r8, r9, r10⟩ : Rack), r11, r12, r13⟩ : Book), r14⟩ : Bakery)
 | _ => none
theorem spec_SampleBakery_i {r : Rs} {y : Bakery} (h : spec_SampleBakery_d r = some y) : r = ⟨(.a (.ag [(.sl 0), (.v (.int .i64 y.Dough.Water)), (.v (.int .i64 y.Dough.Salt)), (.v (.int .i64 y.Dough.Leaven)), (.v (.int .i64 y.Loaf.Weight)), (.v (.int .i64 y.Loaf.Loss)), (.sl 1), (.v (.int .i64 y.Book.Rack.Fresh)), (.v (.int .i64 y.Book.Rack.Day)), (.v (.int .i64 y.Book.Rack.Old)), (.v (.int .i64 y.Book.Baked)), (.v (.int .i64 y.Book.Sold)), (.v (.int .i64 y.Book.Thrown)), (.v (.int .i64 y.Money))])), [(.row true K.ki64 y.Stock.Grams), (.row true K.k_impl_Event y.Book.Events)]⟩ := by
 unfold spec_SampleBakery_d at h; split at h
 · cases h; rfl
 · cases h
theorem spec_SampleBakery_e (k : Nat) : callF env (spec_SampleBakery_O k) spec_SampleBakery_v Tryz.f21 (k + 1) (spec_SampleBakery_A) (fun r => spec_SampleBakery_d (r.fin 0 [])) = spec_SampleBakery k := by kernel_rfl
noncomputable def spec_SampleBakery_x (k : Nat) : Ent1 := fun A R Q => match A with
 | ⟨[], []⟩ => (spec_SampleBakery k).bind fun y => Q ⟨(.a (.ag [(.sl 0), (.v (.int .i64 y.Dough.Water)), (.v (.int .i64 y.Dough.Salt)), (.v (.int .i64 y.Dough.Leaven)), (.v (.int .i64 y.Loaf.Weight)), (.v (.int .i64 y.Loaf.Loss)), (.sl 1), (.v (.int .i64 y.Book.Rack.Fresh)), (.v (.int .i64 y.Book.Rack.Day)), (.v (.int .i64 y.Book.Rack.Old)), (.v (.int .i64 y.Book.Baked)), (.v (.int .i64 y.Book.Sold)), (.v (.int .i64 y.Book.Thrown)), (.v (.int .i64 y.Money))])), [(.row true K.ki64 y.Stock.Grams), (.row true K.k_impl_Event y.Book.Events)]⟩
 | _ => none
theorem spec_SampleBakery_ok (k : Nat) : OkE Tryz.prog 21 (spec_SampleBakery_x k) := by
 intro A R Q x h
 unfold spec_SampleBakery_x at h
 split at h
 · obtain ⟨y, hy, hK⟩ := Option.bind_eq_some_iff.1 h
   obtain ⟨r, hr, hd⟩ := callF_ok envOk (spec_SampleBakery_Ok k) follows Tryz.func21 (by kernel_rfl) ((spec_SampleBakery_e k).trans hy)
   exact ⟨_, spec_SampleBakery_i hd ▸ hr.fin [], hK⟩
 · cases h
/-! ### spec.l36Copy: function 78 -/
noncomputable def spec_l36Copy (k : Nat)  (s : Stock) : Option (Stock) :=
 if ([] : List Int).length + (s.Grams : List Int).length ≤ maxRow then
 some (⟨([] ++ s.Grams)⟩ : Stock) else none
noncomputable def spec_l36Copy_v : Nat → List Nat := fun t => match t with | _ => []
noncomputable def spec_l36Copy_O (k : Nat) : Oracle := ofL []
theorem spec_l36Copy_Ok (k : Nat) : OkO (Ct Tryz.prog) (spec_l36Copy_O k) := okO_nil
noncomputable def spec_l36Copy_A (s : Stock) : Pk := ⟨[(.ag [(.sl 0)])], [(.row false K.ki64 s.Grams)]⟩
noncomputable def spec_l36Copy_d : Rs → Option (Stock)
 | ⟨(.a (.ag [(.sl 1)])), [.dead, (.row true K.ki64 r1)]⟩ => some (⟨r1⟩ : Stock)
 | _ => none
theorem spec_l36Copy_i {r : Rs} {y : Stock} (h : spec_l36Copy_d r = some y) : r = ⟨(.a (.ag [(.sl 1)])), [.dead, (.row true K.ki64 y.Grams)]⟩ := by
 unfold spec_l36Copy_d at h; split at h
 · cases h; rfl
 · cases h
theorem spec_l36Copy_e (k : Nat) (s : Stock) : callF env (spec_l36Copy_O k) spec_l36Copy_v Tryz.f78 (k + 1) (spec_l36Copy_A s) (fun r => spec_l36Copy_d (r.fin 1 [])) = spec_l36Copy k s := by kernel_rfl
noncomputable def spec_l36Copy_x (k : Nat) : Ent1 := fun A R Q => match A with
 | ⟨[(.ag [(.sl 0)])], [(.row false K.ki64 a1)]⟩ => (spec_l36Copy k (⟨a1⟩ : Stock)).bind fun y => Q ⟨(.a (.ag [(.sl 1)])), [.dead, (.row true K.ki64 y.Grams)]⟩
 | _ => none
theorem spec_l36Copy_ok (k : Nat) : OkE Tryz.prog 78 (spec_l36Copy_x k) := by
 intro A R Q x h
 unfold spec_l36Copy_x at h
 split at h
 · obtain ⟨y, hy, hK⟩ := Option.bind_eq_some_iff.1 h
   obtain ⟨r, hr, hd⟩ := callF_ok envOk (spec_l36Copy_Ok k) follows Tryz.func78 (by kernel_rfl) ((spec_l36Copy_e k _).trans hy)
   exact ⟨_, spec_l36Copy_i hd ▸ hr.fin [], hK⟩
 · cases h
/-! ### spec.l37Copy: function 79 -/
noncomputable def spec_l37Copy (k : Nat)  (b : Book) : Option (Book) :=
 if ([] : List Event).length + (b.Events : List Event).length ≤ maxRow then
 some (⟨([] ++ b.Events), b.Rack, b.Baked, b.Sold, b.Thrown⟩ : Book) else none
noncomputable def spec_l37Copy_v : Nat → List Nat := fun t => match t with | _ => []
noncomputable def spec_l37Copy_O (k : Nat) : Oracle := ofL []
theorem spec_l37Copy_Ok (k : Nat) : OkO (Ct Tryz.prog) (spec_l37Copy_O k) := okO_nil
noncomputable def spec_l37Copy_A (b : Book) : Pk := ⟨[(.ag [(.sl 0), (.v (.int .i64 b.Rack.Fresh)), (.v (.int .i64 b.Rack.Day)), (.v (.int .i64 b.Rack.Old)), (.v (.int .i64 b.Baked)), (.v (.int .i64 b.Sold)), (.v (.int .i64 b.Thrown))])], [(.row false K.k_impl_Event b.Events)]⟩
noncomputable def spec_l37Copy_d : Rs → Option (Book)
 | ⟨(.a (.ag [(.sl 1), (.v (.int .i64 r2)), (.v (.int .i64 r3)), (.v (.int .i64 r4)), (.v (.int .i64 r5)), (.v (.int .i64 r6)), (.v (.int .i64 r7))])), [.dead, (.row true K.k_impl_Event r1)]⟩ => some (⟨r1, (⟨r2, r3, r4⟩ : Rack), r5, r6, r7⟩ : Book)
 | _ => none
theorem spec_l37Copy_i {r : Rs} {y : Book} (h : spec_l37Copy_d r = some y) : r = ⟨(.a (.ag [(.sl 1), (.v (.int .i64 y.Rack.Fresh)), (.v (.int .i64 y.Rack.Day)), (.v (.int .i64 y.Rack.Old)), (.v (.int .i64 y.Baked)), (.v (.int .i64 y.Sold)), (.v (.int .i64 y.Thrown))])), [.dead, (.row true K.k_impl_Event y.Events)]⟩ := by
 unfold spec_l37Copy_d at h; split at h
 · cases h; rfl
 · cases h
theorem spec_l37Copy_e (k : Nat) (b : Book) : callF env (spec_l37Copy_O k) spec_l37Copy_v Tryz.f79 (k + 1) (spec_l37Copy_A b) (fun r => spec_l37Copy_d (r.fin 1 [])) = spec_l37Copy k b := by kernel_rfl
noncomputable def spec_l37Copy_x (k : Nat) : Ent1 := fun A R Q => match A with
 | ⟨[(.ag [(.sl 0), (.v (.int .i64 a2)), (.v (.int .i64 a3)), (.v (.int .i64 a4)), (.v (.int .i64 a5)), (.v (.int .i64 a6)), (.v (.int .i64 a7))])], [(.row false K.k_impl_Event a1)]⟩ => (spec_l37Copy k (⟨a1, (⟨a2, a3, a4⟩ : Rack), a5, a6, a7⟩ : Book)).bind fun y => Q ⟨(.a (.ag [(.sl 1), (.v (.int .i64 y.Rack.Fresh)), (.v (.int .i64 y.Rack.Day)), (.v (.int .i64 y.Rack.Old)), (.v (.int .i64 y.Baked)), (.v (.int .i64 y.Sold)), (.v (.int .i64 y.Thrown))])), [.dead, (.row true K.k_impl_Event y.Events)]⟩
 | _ => none
theorem spec_l37Copy_ok (k : Nat) : OkE Tryz.prog 79 (spec_l37Copy_x k) := by
 intro A R Q x h
 unfold spec_l37Copy_x at h
 split at h
 · obtain ⟨y, hy, hK⟩ := Option.bind_eq_some_iff.1 h
   obtain ⟨r, hr, hd⟩ := callF_ok envOk (spec_l37Copy_Ok k) follows Tryz.func79 (by kernel_rfl) ((spec_l37Copy_e k _).trans hy)
   exact ⟨_, spec_l37Copy_i hd ▸ hr.fin [], hK⟩
 · cases h
/-! ### spec.l38Copy: function 43 -/
noncomputable def spec_l38Copy (k : Nat)  (b : Bakery) : Option (Bakery) :=
 (spec_l36Copy k b.Stock).bind fun y1 =>
 (spec_l37Copy k b.Book).bind fun y2 =>
  some (⟨y1, b.Dough, b.Loaf, y2, b.Money⟩ : Bakery)
noncomputable def spec_l38Copy_v : Nat → List Nat := fun t => match t with | _ => []
noncomputable def spec_l38Copy_O (k : Nat) : Oracle := ofL [(78, spec_l36Copy_x k), (79, spec_l37Copy_x k)]
theorem spec_l38Copy_Ok (k : Nat) : OkO (Ct Tryz.prog) (spec_l38Copy_O k) := okO_cons (spec_l36Copy_ok k) (okO_cons (spec_l37Copy_ok k) (okO_nil))
noncomputable def spec_l38Copy_A (b : Bakery) : Pk := ⟨[(.ag [(.sl 0), (.v (.int .i64 b.Dough.Water)), (.v (.int .i64 b.Dough.Salt)), (.v (.int .i64 b.Dough.Leaven)), (.v (.int .i64 b.Loaf.Weight)), (.v (.int .i64 b.Loaf.Loss)), (.sl 1), (.v (.int .i64 b.Book.Rack.Fresh)), (.v (.int .i64 b.Book.Rack.Day)), (.v (.int .i64 b.Book.Rack.Old)), (.v (.int .i64 b.Book.Baked)), (.v (.int .i64 b.Book.Sold)), (.v (.int .i64 b.Book.Thrown)), (.v (.int .i64 b.Money))])], [(.row false K.ki64 b.Stock.Grams), (.row false K.k_impl_Event b.Book.Events)]⟩
noncomputable def spec_l38Copy_d : Rs → Option (Bakery)
 | ⟨(.a (.ag [(.sl 2), (.v (.int .i64 r2)), (.v (.int .i64 r3)), (.v (.int .i64 r4)), (.v (.int .i64 r5)), (.v (.int .i64 r6)), (.sl 3), (.v (.int .i64 r8)), (.v (.int .i64 r9)), (.v (.int .i64 r10)), (.v (.int .i64 r11)), (.v (.int .i64 r12)), (.v (.int .i64 r13)), (.v (.int .i64 r14))])), [.dead, .dead, (.row true K.ki64 r1), (.row true K.k_impl_Event r7)]⟩ => some (⟨(⟨r1⟩ : Stock), (⟨r2, r3, r4⟩ : Dough), (⟨r5, r6⟩ : Loaf), (⟨r7, (⟨r8, r9, r10⟩ : Rack), r11, r12, r13⟩ : Book), r14⟩ : Bakery)
 | _ => none
theorem spec_l38Copy_i {r : Rs} {y : Bakery} (h : spec_l38Copy_d r = some y) : r = ⟨(.a (.ag [(.sl 2), (.v (.int .i64 y.Dough.Water)), (.v (.int .i64 y.Dough.Salt)), (.v (.int .i64 y.Dough.Leaven)), (.v (.int .i64 y.Loaf.Weight)), (.v (.int .i64 y.Loaf.Loss)), (.sl 3), (.v (.int .i64 y.Book.Rack.Fresh)), (.v (.int .i64 y.Book.Rack.Day)), (.v (.int .i64 y.Book.Rack.Old)), (.v (.int .i64 y.Book.Baked)), (.v (.int .i64 y.Book.Sold)), (.v (.int .i64 y.Book.Thrown)), (.v (.int .i64 y.Money))])), [.dead, .dead, (.row true K.ki64 y.Stock.Grams), (.row true K.k_impl_Event y.Book.Events)]⟩ := by
 unfold spec_l38Copy_d at h; split at h
 · cases h; rfl
 · cases h
theorem spec_l38Copy_e (k : Nat) (b : Bakery) : callF env (spec_l38Copy_O k) spec_l38Copy_v Tryz.f43 (k + 1) (spec_l38Copy_A b) (fun r => spec_l38Copy_d (r.fin 2 [])) = spec_l38Copy k b := by kernel_rfl
noncomputable def spec_l38Copy_x (k : Nat) : Ent1 := fun A R Q => match A with
 | ⟨[(.ag [(.sl 0), (.v (.int .i64 a2)), (.v (.int .i64 a3)), (.v (.int .i64 a4)), (.v (.int .i64 a5)), (.v (.int .i64 a6)), (.sl 1), (.v (.int .i64 a8)), (.v (.int .i64 a9)), (.v (.int .i64 a10)), (.v (.int .i64 a11)), (.v (.int .i64 a12)), (.v (.int .i64 a13)), (.v (.int .i64 a14))])], [(.row false K.ki64 a1), (.row false K.k_impl_Event a7)]⟩ => (spec_l38Copy k (⟨(⟨a1⟩ : Stock), (⟨a2, a3, a4⟩ : Dough), (⟨a5, a6⟩ : Loaf), (⟨a7, (⟨a8, a9, a10⟩ : Rack), a11, a12, a13⟩ : Book), a14⟩ : Bakery)).bind fun y => Q ⟨(.a (.ag [(.sl 2), (.v (.int .i64 y.Dough.Water)), (.v (.int .i64 y.Dough.Salt)), (.v (.int .i64 y.Dough.Leaven)), (.v (.int .i64 y.Loaf.Weight)), (.v (.int .i64 y.Loaf.Loss)), (.sl 3), (.v (.int .i64 y.Book.Rack.Fresh)), (.v (.int .i64 y.Book.Rack.Day)), (.v (.int .i64 y.Book.Rack.Old)), (.v (.int .i64 y.Book.Baked)), (.v (.int .i64 y.Book.Sold)), (.v (.int .i64 y.Book.Thrown)), (.v (.int .i64 y.Money))])), [.dead, .dead, (.row true K.ki64 y.Stock.Grams), (.row true K.k_impl_Event y.Book.Events)]⟩
 | _ => none
theorem spec_l38Copy_ok (k : Nat) : OkE Tryz.prog 43 (spec_l38Copy_x k) := by
 intro A R Q x h
 unfold spec_l38Copy_x at h
 split at h
 · obtain ⟨y, hy, hK⟩ := Option.bind_eq_some_iff.1 h
   obtain ⟨r, hr, hd⟩ := callF_ok envOk (spec_l38Copy_Ok k) follows Tryz.func43 (by kernel_rfl) ((spec_l38Copy_e k _).trans hy)
   exact ⟨_, spec_l38Copy_i hd ▸ hr.fin [], hK⟩
 · cases h
/-! ### spec.BakedWeight: function 146 -/
noncomputable def spec_BakedWeight (k : Nat)  (l : Loaf) (dough : Int) : Option (Int) :=
 (spec_LoafOk k l).bind fun y1 =>
 cond (!y1)
  (some (-1))
  ((spec_l01In k dough 0 10000).bind fun y2 =>
   cond (!y2)
    (some (-1))
    (if (100 : Int) ≠ 0 then
     some (wr (dough - (wr (Int.tdiv (wr ((wr (dough * l.Loss)) + 99)) 100)))) else none))
noncomputable def spec_BakedWeight_v : Nat → List Nat := fun t => match t with | _ => []
noncomputable def spec_BakedWeight_O (k : Nat) : Oracle := ofL [(40, spec_l01In_x k), (82, spec_LoafOk_x k)]
theorem spec_BakedWeight_Ok (k : Nat) : OkO (Ct Tryz.prog) (spec_BakedWeight_O k) := okO_cons (spec_l01In_ok k) (okO_cons (spec_LoafOk_ok k) (okO_nil))
noncomputable def spec_BakedWeight_A (l : Loaf) (dough : Int) : Pk := ⟨[(.ag [(.v (.int .i64 l.Weight)), (.v (.int .i64 l.Loss))]), (.sc (.v (.int .i64 dough)))], []⟩
noncomputable def spec_BakedWeight_d : Rs → Option (Int)
 | ⟨(.a (.sc (.v (.int .i64 r1)))), []⟩ => some r1
 | _ => none
theorem spec_BakedWeight_i {r : Rs} {y : Int} (h : spec_BakedWeight_d r = some y) : r = ⟨(.a (.sc (.v (.int .i64 y)))), []⟩ := by
 unfold spec_BakedWeight_d at h; split at h
 · cases h; rfl
 · cases h
theorem spec_BakedWeight_e (k : Nat) (l : Loaf) (dough : Int) : callF env (spec_BakedWeight_O k) spec_BakedWeight_v Tryz.f146 (k + 1) (spec_BakedWeight_A l dough) (fun r => spec_BakedWeight_d (r.fin 0 [])) = spec_BakedWeight k l dough := by kernel_rfl
noncomputable def spec_BakedWeight_x (k : Nat) : Ent1 := fun A R Q => match A with
 | ⟨[(.ag [(.v (.int .i64 a1)), (.v (.int .i64 a2))]), (.sc (.v (.int .i64 a3)))], []⟩ => (spec_BakedWeight k (⟨a1, a2⟩ : Loaf) a3).bind fun y => Q ⟨(.a (.sc (.v (.int .i64 y)))), []⟩
 | _ => none
theorem spec_BakedWeight_ok (k : Nat) : OkE Tryz.prog 146 (spec_BakedWeight_x k) := by
 intro A R Q x h
 unfold spec_BakedWeight_x at h
 split at h
 · obtain ⟨y, hy, hK⟩ := Option.bind_eq_some_iff.1 h
   obtain ⟨r, hr, hd⟩ := callF_ok envOk (spec_BakedWeight_Ok k) follows Tryz.func146 (by kernel_rfl) ((spec_BakedWeight_e k _ _).trans hy)
   exact ⟨_, spec_BakedWeight_i hd ▸ hr.fin [], hK⟩
 · cases h
/-! ### spec.DoughFor: function 120 -/
noncomputable def spec_DoughFor_s0 (k : Nat)  (l : Loaf) (J : Int → Option (Int)) (x0_0 : Int) : Option (Int) :=
 (spec_BakedWeight k l x0_0).bind fun y3 =>
 cond (decide ((y3 : Int) < l.Weight))
  (J (wr (x0_0 + 1)))
  (some x0_0)
noncomputable def spec_DoughFor_l0 (k : Nat) : Nat → Loaf → Int → Option (Int)
 | 0, l, x0_0 => spec_DoughFor_s0 k l (fun _ => none) x0_0
 | m + 1, l, x0_0 => spec_DoughFor_s0 k l (spec_DoughFor_l0 k m l) x0_0
noncomputable def spec_DoughFor_m (k : Nat) (J0 : Loaf → Int → Option (Int)) (l : Loaf) : Option (Int) :=
 (spec_LoafOk k l).bind fun y1 =>
 cond (!y1)
  (some (-1))
  (J0 l l.Weight)
noncomputable def spec_DoughFor (k : Nat) (l : Loaf) : Option (Int) := spec_DoughFor_m k (spec_DoughFor_l0 k k) l
noncomputable def spec_DoughFor_v : Nat → List Nat := fun t => match t with | 4 => [1, 2, 3] | _ => []
noncomputable def spec_DoughFor_O (k : Nat) : Oracle := ofL [(146, spec_BakedWeight_x k), (82, spec_LoafOk_x k)]
theorem spec_DoughFor_Ok (k : Nat) : OkO (Ct Tryz.prog) (spec_DoughFor_O k) := okO_cons (spec_BakedWeight_ok k) (okO_cons (spec_LoafOk_ok k) (okO_nil))
noncomputable def spec_DoughFor_A (l : Loaf) : Pk := ⟨[(.ag [(.v (.int .i64 l.Weight)), (.v (.int .i64 l.Loss))])], []⟩
noncomputable def spec_DoughFor_d : Rs → Option (Int)
 | ⟨(.a (.sc (.v (.int .i64 r1)))), []⟩ => some r1
 | _ => none
theorem spec_DoughFor_i {r : Rs} {y : Int} (h : spec_DoughFor_d r = some y) : r = ⟨(.a (.sc (.v (.int .i64 y)))), []⟩ := by
 unfold spec_DoughFor_d at h; split at h
 · cases h; rfl
 · cases h
noncomputable def spec_DoughFor_h0 (k m : Nat) (l : Loaf) (x0_0 : Int) : Option (Int) := hdAt env (spec_DoughFor_O k) spec_DoughFor_v Tryz.f120 0 (fun r => spec_DoughFor_d (r.fin 0 [])) [1, 1, 1, 0, 0] k m ⟨tmF [1, 2, 3] [(.a (.sc (.bp 0 0))), (.a (.sc (.v (.int .i64 0)))), (.a (.sc (.v (.int .i64 x0_0))))], blF [(.box true [(.v (.int .i64 l.Weight)), (.v (.int .i64 l.Loss))])]⟩
theorem spec_DoughFor_z0 (k : Nat) (l : Loaf) (x0_0 : Int) : spec_DoughFor_h0 k 0 l x0_0 = spec_DoughFor_s0 k l (fun _ => none) x0_0 := by kernel_rfl
theorem spec_DoughFor_g0 (k : Nat) (H : St → Option (Int)) (l : Loaf) (x0_0 : Int) : rnd env (spec_DoughFor_O k) spec_DoughFor_v Tryz.f120 0 (fun r => spec_DoughFor_d (r.fin 0 [])) [1, 1, 1, 0, 0] k H ⟨tmF [1, 2, 3] [(.a (.sc (.bp 0 0))), (.a (.sc (.v (.int .i64 0)))), (.a (.sc (.v (.int .i64 x0_0))))], blF [(.box true [(.v (.int .i64 l.Weight)), (.v (.int .i64 l.Loss))])]⟩ = spec_DoughFor_s0 k l (fun x0_0 => H ⟨tmF [1, 2, 3] [(.a (.sc (.bp 0 0))), (.a (.sc (.v (.int .i64 0)))), (.a (.sc (.v (.int .i64 x0_0))))], blF [(.box true [(.v (.int .i64 l.Weight)), (.v (.int .i64 l.Loss))])]⟩) x0_0 := by kernel_rfl
theorem spec_DoughFor_n0 (k m : Nat) (l : Loaf) (x0_0 : Int) : spec_DoughFor_h0 k (m + 1) l x0_0 = spec_DoughFor_s0 k l (spec_DoughFor_h0 k m l) x0_0 := (hdAt_succ _ _ _ _ _ _ _ _ _ _).trans (spec_DoughFor_g0 k _ l x0_0)
theorem spec_DoughFor_q0 (k : Nat) : ∀ m, spec_DoughFor_h0 k m = spec_DoughFor_l0 k m := by
 intro m
 induction m with
 | zero => funext l x0_0; rw [spec_DoughFor_z0]; rfl
 | succ m ih => funext l x0_0; rw [spec_DoughFor_n0, ih]; rfl
theorem spec_DoughFor_e (k : Nat) (l : Loaf) : callF env (spec_DoughFor_O k) spec_DoughFor_v Tryz.f120 (k + 1) (spec_DoughFor_A l) (fun r => spec_DoughFor_d (r.fin 0 [])) = spec_DoughFor k l := by
 have e : ∀ H : St → Option (Int), callE env (spec_DoughFor_O k) spec_DoughFor_v Tryz.f120 (k + 1) (spec_DoughFor_A l) [1, 1, 1, 0, 0] (fun r => spec_DoughFor_d (r.fin 0 [])) H = spec_DoughFor_m k (fun l x0_0 => H ⟨tmF [1, 2, 3] [(.a (.sc (.bp 0 0))), (.a (.sc (.v (.int .i64 0)))), (.a (.sc (.v (.int .i64 x0_0))))], blF [(.box true [(.v (.int .i64 l.Weight)), (.v (.int .i64 l.Loss))])]⟩) l := fun H => by kernel_rfl
 exact (callE_eq env (spec_DoughFor_O k) spec_DoughFor_v Tryz.f120 k (spec_DoughFor_A l) [1, 1, 1, 0, 0] 0 (fun r => spec_DoughFor_d (r.fin 0 [])) rfl (by kernel_rfl)).trans ((e (hdAt env (spec_DoughFor_O k) spec_DoughFor_v Tryz.f120 0 (fun r => spec_DoughFor_d (r.fin 0 [])) [1, 1, 1, 0, 0] k k)).trans (by
  show spec_DoughFor_m k (spec_DoughFor_h0 k k) l = _
  rw [spec_DoughFor_q0]; rfl))
noncomputable def spec_DoughFor_x (k : Nat) : Ent1 := fun A R Q => match A with
 | ⟨[(.ag [(.v (.int .i64 a1)), (.v (.int .i64 a2))])], []⟩ => (spec_DoughFor k (⟨a1, a2⟩ : Loaf)).bind fun y => Q ⟨(.a (.sc (.v (.int .i64 y)))), []⟩
 | _ => none
theorem spec_DoughFor_ok (k : Nat) : OkE Tryz.prog 120 (spec_DoughFor_x k) := by
 intro A R Q x h
 unfold spec_DoughFor_x at h
 split at h
 · obtain ⟨y, hy, hK⟩ := Option.bind_eq_some_iff.1 h
   obtain ⟨r, hr, hd⟩ := callF_ok envOk (spec_DoughFor_Ok k) follows Tryz.func120 (by kernel_rfl) ((spec_DoughFor_e k _).trans hy)
   exact ⟨_, spec_DoughFor_i hd ▸ hr.fin [], hK⟩
 · cases h
/-! ### spec.WholeParts: function 145 -/
noncomputable def spec_WholeParts (k : Nat)  (d : Dough) : Option (Int) :=
 (spec_DoughOk k d).bind fun y1 =>
 cond (!y1)
  (some (-1))
  (some (wr ((wr ((wr ((1000 : Int) + d.Water)) + d.Salt)) + d.Leaven)))
noncomputable def spec_WholeParts_v : Nat → List Nat := fun t => match t with | _ => []
noncomputable def spec_WholeParts_O (k : Nat) : Oracle := ofL [(81, spec_DoughOk_x k)]
theorem spec_WholeParts_Ok (k : Nat) : OkO (Ct Tryz.prog) (spec_WholeParts_O k) := okO_cons (spec_DoughOk_ok k) (okO_nil)
noncomputable def spec_WholeParts_A (d : Dough) : Pk := ⟨[(.ag [(.v (.int .i64 d.Water)), (.v (.int .i64 d.Salt)), (.v (.int .i64 d.Leaven))])], []⟩
noncomputable def spec_WholeParts_d : Rs → Option (Int)
 | ⟨(.a (.sc (.v (.int .i64 r1)))), []⟩ => some r1
 | _ => none
theorem spec_WholeParts_i {r : Rs} {y : Int} (h : spec_WholeParts_d r = some y) : r = ⟨(.a (.sc (.v (.int .i64 y)))), []⟩ := by
 unfold spec_WholeParts_d at h; split at h
 · cases h; rfl
 · cases h
theorem spec_WholeParts_e (k : Nat) (d : Dough) : callF env (spec_WholeParts_O k) spec_WholeParts_v Tryz.f145 (k + 1) (spec_WholeParts_A d) (fun r => spec_WholeParts_d (r.fin 0 [])) = spec_WholeParts k d := by kernel_rfl
noncomputable def spec_WholeParts_x (k : Nat) : Ent1 := fun A R Q => match A with
 | ⟨[(.ag [(.v (.int .i64 a1)), (.v (.int .i64 a2)), (.v (.int .i64 a3))])], []⟩ => (spec_WholeParts k (⟨a1, a2, a3⟩ : Dough)).bind fun y => Q ⟨(.a (.sc (.v (.int .i64 y)))), []⟩
 | _ => none
theorem spec_WholeParts_ok (k : Nat) : OkE Tryz.prog 145 (spec_WholeParts_x k) := by
 intro A R Q x h
 unfold spec_WholeParts_x at h
 split at h
 · obtain ⟨y, hy, hK⟩ := Option.bind_eq_some_iff.1 h
   obtain ⟨r, hr, hd⟩ := callF_ok envOk (spec_WholeParts_Ok k) follows Tryz.func145 (by kernel_rfl) ((spec_WholeParts_e k _).trans hy)
   exact ⟨_, spec_WholeParts_i hd ▸ hr.fin [], hK⟩
 · cases h
/-! ### spec.FlourFor: function 119 -/
noncomputable def spec_FlourFor (k : Nat)  (d : Dough) (weight : Int) : Option (Int) :=
 (spec_WholeParts k d).bind fun y1 =>
 cond (decide ((y1 : Int) < 0))
  (some (-1))
  ((spec_l01In k weight 0 1000000).bind fun y2 =>
   cond (!y2)
    (some (-1))
    (if (y1 : Int) ≠ 0 then
     some (wr (Int.tdiv (wr ((wr ((wr (weight * 1000)) + y1)) - 1)) y1)) else none))
noncomputable def spec_FlourFor_v : Nat → List Nat := fun t => match t with | _ => []
noncomputable def spec_FlourFor_O (k : Nat) : Oracle := ofL [(145, spec_WholeParts_x k), (40, spec_l01In_x k)]
theorem spec_FlourFor_Ok (k : Nat) : OkO (Ct Tryz.prog) (spec_FlourFor_O k) := okO_cons (spec_WholeParts_ok k) (okO_cons (spec_l01In_ok k) (okO_nil))
noncomputable def spec_FlourFor_A (d : Dough) (weight : Int) : Pk := ⟨[(.ag [(.v (.int .i64 d.Water)), (.v (.int .i64 d.Salt)), (.v (.int .i64 d.Leaven))]), (.sc (.v (.int .i64 weight)))], []⟩
noncomputable def spec_FlourFor_d : Rs → Option (Int)
 | ⟨(.a (.sc (.v (.int .i64 r1)))), []⟩ => some r1
 | _ => none
theorem spec_FlourFor_i {r : Rs} {y : Int} (h : spec_FlourFor_d r = some y) : r = ⟨(.a (.sc (.v (.int .i64 y)))), []⟩ := by
 unfold spec_FlourFor_d at h; split at h
 · cases h; rfl
 · cases h
theorem spec_FlourFor_e (k : Nat) (d : Dough) (weight : Int) : callF env (spec_FlourFor_O k) spec_FlourFor_v Tryz.f119 (k + 1) (spec_FlourFor_A d weight) (fun r => spec_FlourFor_d (r.fin 0 [])) = spec_FlourFor k d weight := by kernel_rfl
noncomputable def spec_FlourFor_x (k : Nat) : Ent1 := fun A R Q => match A with
 | ⟨[(.ag [(.v (.int .i64 a1)), (.v (.int .i64 a2)), (.v (.int .i64 a3))]), (.sc (.v (.int .i64 a4)))], []⟩ => (spec_FlourFor k (⟨a1, a2, a3⟩ : Dough) a4).bind fun y => Q ⟨(.a (.sc (.v (.int .i64 y)))), []⟩
 | _ => none
theorem spec_FlourFor_ok (k : Nat) : OkE Tryz.prog 119 (spec_FlourFor_x k) := by
 intro A R Q x h
 unfold spec_FlourFor_x at h
 split at h
 · obtain ⟨y, hy, hK⟩ := Option.bind_eq_some_iff.1 h
   obtain ⟨r, hr, hd⟩ := callF_ok envOk (spec_FlourFor_Ok k) follows Tryz.func119 (by kernel_rfl) ((spec_FlourFor_e k _ _).trans hy)
   exact ⟨_, spec_FlourFor_i hd ▸ hr.fin [], hK⟩
 · cases h
/-! ### spec.FlourNeeded: function 88 -/
noncomputable def spec_FlourNeeded (k : Nat)  (b : Bakery) (loaves : Int) : Option (Int) :=
 (spec_BakeryOk k b).bind fun y1 =>
 cond (!y1)
  (some (-1))
  ((spec_l01In k loaves 0 1000).bind fun y2 =>
   cond (!y2)
    (some (-1))
    ((spec_DoughFor k b.Loaf).bind fun y3 =>
     (spec_FlourFor k b.Dough (wr (y3 * loaves))).bind fun y4 =>
      some y4))
noncomputable def spec_FlourNeeded_v : Nat → List Nat := fun t => match t with | _ => []
noncomputable def spec_FlourNeeded_O (k : Nat) : Oracle := ofL [(119, spec_FlourFor_x k), (120, spec_DoughFor_x k), (40, spec_l01In_x k), (44, spec_BakeryOk_x k)]
theorem spec_FlourNeeded_Ok (k : Nat) : OkO (Ct Tryz.prog) (spec_FlourNeeded_O k) := okO_cons (spec_FlourFor_ok k) (okO_cons (spec_DoughFor_ok k) (okO_cons (spec_l01In_ok k) (okO_cons (spec_BakeryOk_ok k) (okO_nil))))
noncomputable def spec_FlourNeeded_A (b : Bakery) (loaves : Int) : Pk := ⟨[(.ag [(.sl 0), (.v (.int .i64 b.Dough.Water)), (.v (.int .i64 b.Dough.Salt)), (.v (.int .i64 b.Dough.Leaven)), (.v (.int .i64 b.Loaf.Weight)), (.v (.int .i64 b.Loaf.Loss)), (.sl 1), (.v (.int .i64 b.Book.Rack.Fresh)), (.v (.int .i64 b.Book.Rack.Day)), (.v (.int .i64 b.Book.Rack.Old)), (.v (.int .i64 b.Book.Baked)), (.v (.int .i64 b.Book.Sold)), (.v (.int .i64 b.Book.Thrown)), (.v (.int .i64 b.Money))]), (.sc (.v (.int .i64 loaves)))], [(.row false K.ki64 b.Stock.Grams), (.row false K.k_impl_Event b.Book.Events)]⟩
noncomputable def spec_FlourNeeded_d : Rs → Option (Int)
 | ⟨(.a (.sc (.v (.int .i64 r1)))), [.dead, .dead]⟩ => some r1
 | _ => none
theorem spec_FlourNeeded_i {r : Rs} {y : Int} (h : spec_FlourNeeded_d r = some y) : r = ⟨(.a (.sc (.v (.int .i64 y)))), [.dead, .dead]⟩ := by
 unfold spec_FlourNeeded_d at h; split at h
 · cases h; rfl
 · cases h
theorem spec_FlourNeeded_e (k : Nat) (b : Bakery) (loaves : Int) : callF env (spec_FlourNeeded_O k) spec_FlourNeeded_v Tryz.f88 (k + 1) (spec_FlourNeeded_A b loaves) (fun r => spec_FlourNeeded_d (r.fin 2 [])) = spec_FlourNeeded k b loaves := by kernel_rfl
noncomputable def spec_FlourNeeded_x (k : Nat) : Ent1 := fun A R Q => match A with
 | ⟨[(.ag [(.sl 0), (.v (.int .i64 a2)), (.v (.int .i64 a3)), (.v (.int .i64 a4)), (.v (.int .i64 a5)), (.v (.int .i64 a6)), (.sl 1), (.v (.int .i64 a8)), (.v (.int .i64 a9)), (.v (.int .i64 a10)), (.v (.int .i64 a11)), (.v (.int .i64 a12)), (.v (.int .i64 a13)), (.v (.int .i64 a14))]), (.sc (.v (.int .i64 a15)))], [(.row false K.ki64 a1), (.row false K.k_impl_Event a7)]⟩ => (spec_FlourNeeded k (⟨(⟨a1⟩ : Stock), (⟨a2, a3, a4⟩ : Dough), (⟨a5, a6⟩ : Loaf), (⟨a7, (⟨a8, a9, a10⟩ : Rack), a11, a12, a13⟩ : Book), a14⟩ : Bakery) a15).bind fun y => Q ⟨(.a (.sc (.v (.int .i64 y)))), [.dead, .dead]⟩
 | _ => none
theorem spec_FlourNeeded_ok (k : Nat) : OkE Tryz.prog 88 (spec_FlourNeeded_x k) := by
 intro A R Q x h
 unfold spec_FlourNeeded_x at h
 split at h
 · obtain ⟨y, hy, hK⟩ := Option.bind_eq_some_iff.1 h
   obtain ⟨r, hr, hd⟩ := callF_ok envOk (spec_FlourNeeded_Ok k) follows Tryz.func88 (by kernel_rfl) ((spec_FlourNeeded_e k _ _).trans hy)
   exact ⟨_, spec_FlourNeeded_i hd ▸ hr.fin [], hK⟩
 · cases h
/-! ### spec.PartOf: function 173 -/
noncomputable def spec_PartOf (k : Nat)  (flour : Int) (part : Int) : Option (Int) :=
 (spec_l01In k flour 0 1000000).bind fun y1 =>
 cond (!y1)
  (some (-1))
  ((spec_l01In k part 0 2000).bind fun y2 =>
   cond (!y2)
    (some (-1))
    (if (1000 : Int) ≠ 0 then
     some (wr (Int.tdiv (wr ((wr (flour * part)) + 500)) 1000)) else none))
noncomputable def spec_PartOf_v : Nat → List Nat := fun t => match t with | _ => []
noncomputable def spec_PartOf_O (k : Nat) : Oracle := ofL [(40, spec_l01In_x k)]
theorem spec_PartOf_Ok (k : Nat) : OkO (Ct Tryz.prog) (spec_PartOf_O k) := okO_cons (spec_l01In_ok k) (okO_nil)
noncomputable def spec_PartOf_A (flour : Int) (part : Int) : Pk := ⟨[(.sc (.v (.int .i64 flour))), (.sc (.v (.int .i64 part)))], []⟩
noncomputable def spec_PartOf_d : Rs → Option (Int)
 | ⟨(.a (.sc (.v (.int .i64 r1)))), []⟩ => some r1
 | _ => none
theorem spec_PartOf_i {r : Rs} {y : Int} (h : spec_PartOf_d r = some y) : r = ⟨(.a (.sc (.v (.int .i64 y)))), []⟩ := by
 unfold spec_PartOf_d at h; split at h
 · cases h; rfl
 · cases h
theorem spec_PartOf_e (k : Nat) (flour : Int) (part : Int) : callF env (spec_PartOf_O k) spec_PartOf_v Tryz.f173 (k + 1) (spec_PartOf_A flour part) (fun r => spec_PartOf_d (r.fin 0 [])) = spec_PartOf k flour part := by kernel_rfl
noncomputable def spec_PartOf_x (k : Nat) : Ent1 := fun A R Q => match A with
 | ⟨[(.sc (.v (.int .i64 a1))), (.sc (.v (.int .i64 a2)))], []⟩ => (spec_PartOf k a1 a2).bind fun y => Q ⟨(.a (.sc (.v (.int .i64 y)))), []⟩
 | _ => none
theorem spec_PartOf_ok (k : Nat) : OkE Tryz.prog 173 (spec_PartOf_x k) := by
 intro A R Q x h
 unfold spec_PartOf_x at h
 split at h
 · obtain ⟨y, hy, hK⟩ := Option.bind_eq_some_iff.1 h
   obtain ⟨r, hr, hd⟩ := callF_ok envOk (spec_PartOf_Ok k) follows Tryz.func173 (by kernel_rfl) ((spec_PartOf_e k _ _).trans hy)
   exact ⟨_, spec_PartOf_i hd ▸ hr.fin [], hK⟩
 · cases h
/-! ### spec.Amounts: function 143 -/
noncomputable def spec_Amounts (k : Nat)  (d : Dough) (flour : Int) : Option ((List Int)) :=
 (spec_DoughOk k d).bind fun y1 =>
 cond (!y1)
  (some ([]))
  ((spec_l01In k flour 0 1000000).bind fun y2 =>
   cond (!y2)
    (some ([]))
    ((spec_PartOf k flour d.Water).bind fun y3 =>
     (spec_PartOf k flour d.Salt).bind fun y4 =>
      (spec_PartOf k flour d.Leaven).bind fun y5 =>
       some ([flour, y3, y4, y5])))
noncomputable def spec_Amounts_v : Nat → List Nat := fun t => match t with | _ => []
noncomputable def spec_Amounts_O (k : Nat) : Oracle := ofL [(173, spec_PartOf_x k), (40, spec_l01In_x k), (81, spec_DoughOk_x k)]
theorem spec_Amounts_Ok (k : Nat) : OkO (Ct Tryz.prog) (spec_Amounts_O k) := okO_cons (spec_PartOf_ok k) (okO_cons (spec_l01In_ok k) (okO_cons (spec_DoughOk_ok k) (okO_nil)))
noncomputable def spec_Amounts_A (d : Dough) (flour : Int) : Pk := ⟨[(.ag [(.v (.int .i64 d.Water)), (.v (.int .i64 d.Salt)), (.v (.int .i64 d.Leaven))]), (.sc (.v (.int .i64 flour)))], []⟩
noncomputable def spec_Amounts_d : Rs → Option ((List Int))
 | ⟨(.a (.sc (.sl 0))), [(.row true K.ki64 r1)]⟩ => some r1
 | _ => none
theorem spec_Amounts_i {r : Rs} {y : (List Int)} (h : spec_Amounts_d r = some y) : r = ⟨(.a (.sc (.sl 0))), [(.row true K.ki64 y)]⟩ := by
 unfold spec_Amounts_d at h; split at h
 · cases h; rfl
 · cases h
theorem spec_Amounts_e (k : Nat) (d : Dough) (flour : Int) : callF env (spec_Amounts_O k) spec_Amounts_v Tryz.f143 (k + 1) (spec_Amounts_A d flour) (fun r => spec_Amounts_d (r.fin 0 [])) = spec_Amounts k d flour := by kernel_rfl
noncomputable def spec_Amounts_x (k : Nat) : Ent1 := fun A R Q => match A with
 | ⟨[(.ag [(.v (.int .i64 a1)), (.v (.int .i64 a2)), (.v (.int .i64 a3))]), (.sc (.v (.int .i64 a4)))], []⟩ => (spec_Amounts k (⟨a1, a2, a3⟩ : Dough) a4).bind fun y => Q ⟨(.a (.sc (.sl 0))), [(.row true K.ki64 y)]⟩
 | _ => none
theorem spec_Amounts_ok (k : Nat) : OkE Tryz.prog 143 (spec_Amounts_x k) := by
 intro A R Q x h
 unfold spec_Amounts_x at h
 split at h
 · obtain ⟨y, hy, hK⟩ := Option.bind_eq_some_iff.1 h
   obtain ⟨r, hr, hd⟩ := callF_ok envOk (spec_Amounts_Ok k) follows Tryz.func143 (by kernel_rfl) ((spec_Amounts_e k _ _).trans hy)
   exact ⟨_, spec_Amounts_i hd ▸ hr.fin [], hK⟩
 · cases h
/-! ### spec.FirstMissing: function 144 -/
noncomputable def spec_FirstMissing_s0 (k : Nat)  (s : Stock) (y1 : (List Int)) (J : Int → Option (Int)) (x0_0 : Int) : Option (Int) :=
 cond (decide ((x0_0 : Int) < ((y1).length : Int)))
 ((spec_StoreOk k s).bind fun y3 =>
  cond y3
   (if 0 ≤ (x0_0 : Int) ∧ (x0_0 : Int) < ((y1).length : Int) then
    if 0 ≤ (x0_0 : Int) ∧ (x0_0 : Int) < ((s.Grams).length : Int) then
     cond (decide (((s.Grams.getD (Int.toNat x0_0) 0) : Int) < (y1.getD (Int.toNat x0_0) 0)))
      (some x0_0)
      (J (wr (x0_0 + 1))) else none else none)
   (some (-1)))
 (some (-1))
noncomputable def spec_FirstMissing_l0 (k : Nat) : Nat → Stock → (List Int) → Int → Option (Int)
 | 0, s, y1, x0_0 => spec_FirstMissing_s0 k s y1 (fun _ => none) x0_0
 | m + 1, s, y1, x0_0 => spec_FirstMissing_s0 k s y1 (spec_FirstMissing_l0 k m s y1) x0_0
noncomputable def spec_FirstMissing_m (k : Nat) (J0 : Stock → (List Int) → Int → Option (Int)) (s : Stock) (d : Dough) (flour : Int) : Option (Int) :=
 (spec_Amounts k d flour).bind fun y1 =>
 J0 s y1 0
noncomputable def spec_FirstMissing (k : Nat) (s : Stock) (d : Dough) (flour : Int) : Option (Int) := spec_FirstMissing_m k (spec_FirstMissing_l0 k k) s d flour
noncomputable def spec_FirstMissing_v : Nat → List Nat := fun t => match t with | 3 => [3, 6, 7, 8] | _ => []
noncomputable def spec_FirstMissing_O (k : Nat) : Oracle := ofL [(143, spec_Amounts_x k), (80, spec_StoreOk_x k)]
theorem spec_FirstMissing_Ok (k : Nat) : OkO (Ct Tryz.prog) (spec_FirstMissing_O k) := okO_cons (spec_Amounts_ok k) (okO_cons (spec_StoreOk_ok k) (okO_nil))
noncomputable def spec_FirstMissing_A (s : Stock) (d : Dough) (flour : Int) : Pk := ⟨[(.ag [(.sl 0)]), (.ag [(.v (.int .i64 d.Water)), (.v (.int .i64 d.Salt)), (.v (.int .i64 d.Leaven))]), (.sc (.v (.int .i64 flour)))], [(.row false K.ki64 s.Grams)]⟩
noncomputable def spec_FirstMissing_d : Rs → Option (Int)
 | ⟨(.a (.sc (.v (.int .i64 r1)))), [.dead]⟩ => some r1
 | _ => none
theorem spec_FirstMissing_i {r : Rs} {y : Int} (h : spec_FirstMissing_d r = some y) : r = ⟨(.a (.sc (.v (.int .i64 y)))), [.dead]⟩ := by
 unfold spec_FirstMissing_d at h; split at h
 · cases h; rfl
 · cases h
noncomputable def spec_FirstMissing_h0 (k m : Nat) (s : Stock) (y1 : (List Int)) (x0_0 : Int) : Option (Int) := hdAt env (spec_FirstMissing_O k) spec_FirstMissing_v Tryz.f144 1 (fun r => spec_FirstMissing_d (r.fin 1 [])) [1, 1, 0, 1, 0] k m ⟨tmF [3, 6, 7, 8] [(.a (.sc (.bp 1 0))), (.a (.sc (.v (.int .i64 0)))), (.a (.sc (.sl 2))), (.a (.sc (.v (.int .i64 x0_0))))], blF [(.row false K.ki64 s.Grams), (.box true [(.sl 0)]), (.row true K.ki64 y1)]⟩
theorem spec_FirstMissing_z0 (k : Nat) (s : Stock) (y1 : (List Int)) (x0_0 : Int) : spec_FirstMissing_h0 k 0 s y1 x0_0 = spec_FirstMissing_s0 k s y1 (fun _ => none) x0_0 := by kernel_rfl
theorem spec_FirstMissing_g0 (k : Nat) (H : St → Option (Int)) (s : Stock) (y1 : (List Int)) (x0_0 : Int) : rnd env (spec_FirstMissing_O k) spec_FirstMissing_v Tryz.f144 1 (fun r => spec_FirstMissing_d (r.fin 1 [])) [1, 1, 0, 1, 0] k H ⟨tmF [3, 6, 7, 8] [(.a (.sc (.bp 1 0))), (.a (.sc (.v (.int .i64 0)))), (.a (.sc (.sl 2))), (.a (.sc (.v (.int .i64 x0_0))))], blF [(.row false K.ki64 s.Grams), (.box true [(.sl 0)]), (.row true K.ki64 y1)]⟩ = spec_FirstMissing_s0 k s y1 (fun x0_0 => H ⟨tmF [3, 6, 7, 8] [(.a (.sc (.bp 1 0))), (.a (.sc (.v (.int .i64 0)))), (.a (.sc (.sl 2))), (.a (.sc (.v (.int .i64 x0_0))))], blF [(.row false K.ki64 s.Grams), (.box true [(.sl 0)]), (.row true K.ki64 y1)]⟩) x0_0 := by kernel_rfl
theorem spec_FirstMissing_n0 (k m : Nat) (s : Stock) (y1 : (List Int)) (x0_0 : Int) : spec_FirstMissing_h0 k (m + 1) s y1 x0_0 = spec_FirstMissing_s0 k s y1 (spec_FirstMissing_h0 k m s y1) x0_0 := (hdAt_succ _ _ _ _ _ _ _ _ _ _).trans (spec_FirstMissing_g0 k _ s y1 x0_0)
theorem spec_FirstMissing_q0 (k : Nat) : ∀ m, spec_FirstMissing_h0 k m = spec_FirstMissing_l0 k m := by
 intro m
 induction m with
 | zero => funext s y1 x0_0; rw [spec_FirstMissing_z0]; rfl
 | succ m ih => funext s y1 x0_0; rw [spec_FirstMissing_n0, ih]; rfl
theorem spec_FirstMissing_e (k : Nat) (s : Stock) (d : Dough) (flour : Int) : callF env (spec_FirstMissing_O k) spec_FirstMissing_v Tryz.f144 (k + 1) (spec_FirstMissing_A s d flour) (fun r => spec_FirstMissing_d (r.fin 1 [])) = spec_FirstMissing k s d flour := by
 have e : ∀ H : St → Option (Int), callE env (spec_FirstMissing_O k) spec_FirstMissing_v Tryz.f144 (k + 1) (spec_FirstMissing_A s d flour) [1, 1, 0, 1, 0] (fun r => spec_FirstMissing_d (r.fin 1 [])) H = spec_FirstMissing_m k (fun s y1 x0_0 => H ⟨tmF [3, 6, 7, 8] [(.a (.sc (.bp 1 0))), (.a (.sc (.v (.int .i64 0)))), (.a (.sc (.sl 2))), (.a (.sc (.v (.int .i64 x0_0))))], blF [(.row false K.ki64 s.Grams), (.box true [(.sl 0)]), (.row true K.ki64 y1)]⟩) s d flour := fun H => by kernel_rfl
 exact (callE_eq env (spec_FirstMissing_O k) spec_FirstMissing_v Tryz.f144 k (spec_FirstMissing_A s d flour) [1, 1, 0, 1, 0] 1 (fun r => spec_FirstMissing_d (r.fin 1 [])) rfl (by kernel_rfl)).trans ((e (hdAt env (spec_FirstMissing_O k) spec_FirstMissing_v Tryz.f144 1 (fun r => spec_FirstMissing_d (r.fin 1 [])) [1, 1, 0, 1, 0] k k)).trans (by
  show spec_FirstMissing_m k (spec_FirstMissing_h0 k k) s d flour = _
  rw [spec_FirstMissing_q0]; rfl))
noncomputable def spec_FirstMissing_x (k : Nat) : Ent1 := fun A R Q => match A with
 | ⟨[(.ag [(.sl 0)]), (.ag [(.v (.int .i64 a2)), (.v (.int .i64 a3)), (.v (.int .i64 a4))]), (.sc (.v (.int .i64 a5)))], [(.row false K.ki64 a1)]⟩ => (spec_FirstMissing k (⟨a1⟩ : Stock) (⟨a2, a3, a4⟩ : Dough) a5).bind fun y => Q ⟨(.a (.sc (.v (.int .i64 y)))), [.dead]⟩
 | _ => none
theorem spec_FirstMissing_ok (k : Nat) : OkE Tryz.prog 144 (spec_FirstMissing_x k) := by
 intro A R Q x h
 unfold spec_FirstMissing_x at h
 split at h
 · obtain ⟨y, hy, hK⟩ := Option.bind_eq_some_iff.1 h
   obtain ⟨r, hr, hd⟩ := callF_ok envOk (spec_FirstMissing_Ok k) follows Tryz.func144 (by kernel_rfl) ((spec_FirstMissing_e k _ _ _).trans hy)
   exact ⟨_, spec_FirstMissing_i hd ▸ hr.fin [], hK⟩
 · cases h
end Go.Proofs.YtlenacakmmikiaaGreatDoorX
