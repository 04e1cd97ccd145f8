/- What functions of the program compute, as functions of numbers and lists, and that they do. (The file is written by wip/x/vxp.py of this repository.) -/
import Derived.Test.YtlhcphoojiemmaaGreatF0
namespace Go.Proofs.YtlhcphoojiemmaaGreatX
open Go Go.Proofs
set_option linter.unusedVariables false
set_option maxRecDepth 100000
/-! ### spec.NextMorning: function 122 -/
noncomputable def spec_NextMorning (k : Nat)  (r : Rack) (baked : Int) : Option (Rack × Int) :=
 (spec_RackOk k r).bind fun y1 =>
 cond (!y1)
  (some (r, (-1)))
  ((spec_l01In k baked 0 10000).bind fun y2 =>
   cond (!y2)
    (some (r, (-1)))
    (some ((⟨baked, r.Fresh, r.Day⟩ : Rack), r.Old)))
noncomputable def spec_NextMorning_v : Nat → List Nat := fun t => match t with | _ => []
noncomputable def spec_NextMorning_O (k : Nat) : Oracle := ofL [(119, spec_RackOk_x k), (68, spec_l01In_x k)]
theorem spec_NextMorning_Ok (k : Nat) : OkO (Ct Tryz.prog) (spec_NextMorning_O k) := okO_cons (spec_RackOk_ok k) (okO_cons (spec_l01In_ok k) (okO_nil))
noncomputable def spec_NextMorning_A (r : Rack) (baked : Int) : Pk := ⟨[(.ag [(.v (.int .i64 r.Fresh)), (.v (.int .i64 r.Day)), (.v (.int .i64 r.Old))]), (.sc (.v (.int .i64 baked)))], []⟩
noncomputable def spec_NextMorning_d : Rs → Option (Rack × Int)
 | ⟨(.tp [(.ag [(.v (.int .i64 r1)), (.v (.int .i64 r2)), (.v (.int .i64 r3))]), (.sc (.v (.int .i64 r4)))]), []⟩ => some ((⟨r1, r2, r3⟩ : Rack), r4)
 | _ => none
theorem spec_NextMorning_i {r : Rs} {y : Rack × Int} (h : spec_NextMorning_d r = some y) : r = ⟨(.tp [(.ag [(.v (.int .i64 y.1.Fresh)), (.v (.int .i64 y.1.Day)), (.v (.int .i64 y.1.Old))]), (.sc (.v (.int .i64 y.2)))]), []⟩ := by
 unfold spec_NextMorning_d at h; split at h
 · cases h; rfl
 · cases h
theorem spec_NextMorning_e (k : Nat) (r : Rack) (baked : Int) : callF env (spec_NextMorning_O k) spec_NextMorning_v Tryz.f122 (k + 1) (spec_NextMorning_A r baked) (fun r => spec_NextMorning_d (r.fin 0 [])) = spec_NextMorning k r baked := by kernel_rfl
noncomputable def spec_NextMorning_x (k : Nat) : Ent1 := fun A R Q => match A with
 | ⟨[(.ag [(.v (.int .i64 a1)), (.v (.int .i64 a2)), (.v (.int .i64 a3))]), (.sc (.v (.int .i64 a4)))], []⟩ => (spec_NextMorning k (⟨a1, a2, a3⟩ : Rack) a4).bind fun y => Q ⟨(.tp [(.ag [(.v (.int .i64 y.1.Fresh)), (.v (.int .i64 y.1.Day)), (.v (.int .i64 y.1.Old))]), (.sc (.v (.int .i64 y.2)))]), []⟩
 | _ => none
theorem spec_NextMorning_ok (k : Nat) : OkE Tryz.prog 122 (spec_NextMorning_x k) := by
 intro A R Q x h
 unfold spec_NextMorning_x at h
 split at h
 · obtain ⟨y, hy, hK⟩ := Option.bind_eq_some_iff.1 h
   obtain ⟨r, hr, hd⟩ := callF_ok envOk (spec_NextMorning_Ok k) follows Tryz.func122 (by kernel_rfl) ((spec_NextMorning_e k _ _).trans hy)
   exact ⟨_, spec_NextMorning_i hd ▸ hr.fin [], hK⟩
 · cases h
/-! ### spec.EventOn: function 113 -/
noncomputable def spec_EventOn (k : Nat)  (r : Rack) (e : Event) : Option (Rack × Int × Int × Int × Bool) :=
 (spec_RackOk k r).bind fun y1 =>
 cond (!y1)
  (some (r, 0, 0, 0, false))
  ((spec_l01In k e.Loaves 0 1000).bind fun y2 =>
   cond (!y2)
    (some (r, 0, 0, 0, false))
    (cond (decide ((e.Kind : Int) = 1))
     ((spec_RackOk k (⟨(wr (r.Fresh + e.Loaves)), r.Day, r.Old⟩ : Rack)).bind fun y3 =>
      cond y3
       (some ((⟨(wr (r.Fresh + e.Loaves)), r.Day, r.Old⟩ : Rack), e.Loaves, 0, 0, true))
       (some (r, 0, 0, 0, false)))
     (cond (decide ((e.Kind : Int) = 2))
      ((spec_SellFresh k r e.Loaves).bind fun y4 =>
       cond (decide ((y4.2 : Int) = e.Loaves))
        (some (y4.1, 0, y4.2, 0, true))
        (some (r, 0, 0, 0, false)))
      (cond (decide ((e.Kind : Int) = 3))
       ((spec_SellCheap k r e.Loaves).bind fun y5 =>
        cond (decide ((y5.2 : Int) = e.Loaves))
        (some (y5.1, 0, y5.2, 0, true))
        (some (r, 0, 0, 0, false)))
       (cond (decide ((e.Kind : Int) = 4))
        ((spec_NextMorning k r 0).bind fun y6 =>
        cond (decide ((e.Loaves : Int) = 0))
        (some (y6.1, 0, 0, y6.2, true))
        (some (r, 0, 0, 0, false)))
        (some (r, 0, 0, 0, false)))))))
noncomputable def spec_EventOn_v : Nat → List Nat := fun t => match t with | _ => []
noncomputable def spec_EventOn_O (k : Nat) : Oracle := ofL [(119, spec_RackOk_x k), (120, spec_SellFresh_x k), (121, spec_SellCheap_x k), (122, spec_NextMorning_x k), (68, spec_l01In_x k)]
theorem spec_EventOn_Ok (k : Nat) : OkO (Ct Tryz.prog) (spec_EventOn_O k) := okO_cons (spec_RackOk_ok k) (okO_cons (spec_SellFresh_ok k) (okO_cons (spec_SellCheap_ok k) (okO_cons (spec_NextMorning_ok k) (okO_cons (spec_l01In_ok k) (okO_nil)))))
noncomputable def spec_EventOn_A (r : Rack) (e : Event) : Pk := ⟨[(.ag [(.v (.int .i64 r.Fresh)), (.v (.int .i64 r.Day)), (.v (.int .i64 r.Old))]), (.ag [(.v (.int .i64 e.Kind)), (.v (.int .i64 e.Loaves))])], []⟩
noncomputable def spec_EventOn_d : Rs → Option (Rack × Int × Int × Int × Bool)
 | ⟨(.tp [(.ag [(.v (.int .i64 r1)), (.v (.int .i64 r2)), (.v (.int .i64 r3))]), (.sc (.v (.int .i64 r4))), (.sc (.v (.int .i64 r5))), (.sc (.v (.int .i64 r6))), (.sc (.v (.bool r7)))]), []⟩ => some ((⟨r1, r2, r3⟩ : Rack), r4, r5, r6, r7)
 | _ => none
theorem spec_EventOn_i {r : Rs} {y : Rack × Int × Int × Int × Bool} (h : spec_EventOn_d r = some y) : r = ⟨(.tp [(.ag [(.v (.int .i64 y.1.Fresh)), (.v (.int .i64 y.1.Day)), (.v (.int .i64 y.1.Old))]), (.sc (.v (.int .i64 y.2.1))), (.sc (.v (.int .i64 y.2.2.1))), (.sc (.v (.int .i64 y.2.2.2.1))), (.sc (.v (.bool y.2.2.2.2)))]), []⟩ := by
 unfold spec_EventOn_d at h; split at h
 · cases h; rfl
 · cases h
theorem spec_EventOn_e (k : Nat) (r : Rack) (e : Event) : callF env (spec_EventOn_O k) spec_EventOn_v Tryz.f113 (k + 1) (spec_EventOn_A r e) (fun r => spec_EventOn_d (r.fin 0 [])) = spec_EventOn k r e := by kernel_rfl
noncomputable def spec_EventOn_x (k : Nat) : Ent1 := fun A R Q => match A with
 | ⟨[(.ag [(.v (.int .i64 a1)), (.v (.int .i64 a2)), (.v (.int .i64 a3))]), (.ag [(.v (.int .i64 a4)), (.v (.int .i64 a5))])], []⟩ => (spec_EventOn k (⟨a1, a2, a3⟩ : Rack) (⟨a4, a5⟩ : Event)).bind fun y => Q ⟨(.tp [(.ag [(.v (.int .i64 y.1.Fresh)), (.v (.int .i64 y.1.Day)), (.v (.int .i64 y.1.Old))]), (.sc (.v (.int .i64 y.2.1))), (.sc (.v (.int .i64 y.2.2.1))), (.sc (.v (.int .i64 y.2.2.2.1))), (.sc (.v (.bool y.2.2.2.2)))]), []⟩
 | _ => none
theorem spec_EventOn_ok (k : Nat) : OkE Tryz.prog 113 (spec_EventOn_x k) := by
 intro A R Q x h
 unfold spec_EventOn_x at h
 split at h
 · obtain ⟨y, hy, hK⟩ := Option.bind_eq_some_iff.1 h
   obtain ⟨r, hr, hd⟩ := callF_ok envOk (spec_EventOn_Ok k) follows Tryz.func113 (by kernel_rfl) ((spec_EventOn_e k _ _).trans hy)
   exact ⟨_, spec_EventOn_i hd ▸ hr.fin [], hK⟩
 · cases h
/-! ### spec.l37Count: function 98 -/
noncomputable def spec_l37Count_s0 (k : Nat)  (events : (List Event)) (J : Int → Int → Int → Int → Int → Int → Int → Option (Book × Bool)) (x0_0 : Int) (x0_1 : Int) (x0_2 : Int) (x0_3 : Int) (x0_4 : Int) (x0_5 : Int) (x0_6 : Int) : Option (Book × Bool) :=
 cond (decide ((x0_0 : Int) < ((events).length : Int)))
 (if 0 ≤ (x0_0 : Int) ∧ (x0_0 : Int) < ((events).length : Int) then
  (spec_EventOn k (⟨x0_1, x0_2, x0_3⟩ : Rack) (events.getD (Int.toNat x0_0) dk_impl_Event)).bind fun y2 =>
   cond (!y2.2.2.2.2)
    (some ((⟨([] ++ events), (⟨x0_1, x0_2, x0_3⟩ : Rack), x0_4, x0_5, x0_6⟩ : Book), false))
    (J (wr (x0_0 + 1)) y2.1.Fresh y2.1.Day y2.1.Old (wr (x0_4 + y2.2.1)) (wr (x0_5 + y2.2.2.1)) (wr (x0_6 + y2.2.2.2.1))) else none)
 (some ((⟨([] ++ events), (⟨x0_1, x0_2, x0_3⟩ : Rack), x0_4, x0_5, x0_6⟩ : Book), true))
noncomputable def spec_l37Count_l0 (k : Nat) : Nat → (List Event) → Int → Int → Int → Int → Int → Int → Int → Option (Book × Bool)
 | 0, events, x0_0, x0_1, x0_2, x0_3, x0_4, x0_5, x0_6 => spec_l37Count_s0 k events (fun _ _ _ _ _ _ _ => none) x0_0 x0_1 x0_2 x0_3 x0_4 x0_5 x0_6
 | m + 1, events, x0_0, x0_1, x0_2, x0_3, x0_4, x0_5, x0_6 => spec_l37Count_s0 k events (spec_l37Count_l0 k m events) x0_0 x0_1 x0_2 x0_3 x0_4 x0_5 x0_6
noncomputable def spec_l37Count_m (k : Nat) (J0 : (List Event) → Int → Int → Int → Int → Int → Int → Int → Option (Book × Bool)) (events : (List Event)) : Option (Book × Bool) :=
 if ([] : List Event).length + (events : List Event).length ≤ maxRow then
 cond (decide ((40 : Int) < ((events).length : Int)))
  (some ((⟨([] ++ events), (⟨0, 0, 0⟩ : Rack), 0, 0, 0⟩ : Book), false))
  (J0 events 0 0 0 0 0 0 0) else none
noncomputable def spec_l37Count (k : Nat) (events : (List Event)) : Option (Book × Bool) := spec_l37Count_m k (spec_l37Count_l0 k k) events
noncomputable def spec_l37Count_v : Nat → List Nat := fun t => match t with | 5 => [0, 2, 3, 4, 5] | _ => []
noncomputable def spec_l37Count_O (k : Nat) : Oracle := ofL [(113, spec_EventOn_x k)]
theorem spec_l37Count_Ok (k : Nat) : OkO (Ct Tryz.prog) (spec_l37Count_O k) := okO_cons (spec_EventOn_ok k) (okO_nil)
noncomputable def spec_l37Count_A (events : (List Event)) : Pk := ⟨[(.sc (.sl 0))], [(.row false K.k_impl_Event events)]⟩
noncomputable def spec_l37Count_d : Rs → Option (Book × Bool)
 | ⟨(.tp [(.ag [(.sl 1), (.v (.int .i64 r2)), (.v (.int .i64 r3)), (.v (.int .i64 r4)), (.v (.int .i64 r5)), (.v (.int .i64 r6)), (.v (.int .i64 r7))]), (.sc (.v (.bool r8)))]), [.dead, (.row true K.k_impl_Event r1)]⟩ => some ((⟨r1, (⟨r2, r3, r4⟩ : Rack), r5, r6, r7⟩ : Book), r8)
 | _ => none
theorem spec_l37Count_i {r : Rs} {y : Book × Bool} (h : spec_l37Count_d r = some y) : r = ⟨(.tp [(.ag [(.sl 1), (.v (.int .i64 y.1.Rack.Fresh)), (.v (.int .i64 y.1.Rack.Day)), (.v (.int .i64 y.1.Rack.Old)), (.v (.int .i64 y.1.Baked)), (.v (.int .i64 y.1.Sold)), (.v (.int .i64 y.1.Thrown))]), (.sc (.v (.bool y.2)))]), [.dead, (.row true K.k_impl_Event y.1.Events)]⟩ := by
 unfold spec_l37Count_d at h; split at h
 · cases h; rfl
 · cases h
noncomputable def spec_l37Count_h0 (k m : Nat) (events : (List Event)) (x0_0 : Int) (x0_1 : Int) (x0_2 : Int) (x0_3 : Int) (x0_4 : Int) (x0_5 : Int) (x0_6 : Int) : Option (Book × Bool) := hdAt env (spec_l37Count_O k) spec_l37Count_v Tryz.f98 1 (fun r => spec_l37Count_d (r.fin 1 [])) [1, 1, 1, 0, 1, 0] k m ⟨tmF [0, 2, 3, 4, 5] [(.a (.sc (.sl 0))), (.a (.sc (.bp 2 0))), (.a (.sc (.v (.bool false)))), (.a (.sc (.bp 4 0))), (.a (.sc (.v (.int .i64 x0_0))))], blF [(.row false K.k_impl_Event events), (.row true K.k_impl_Event []), (.box true [(.sl 1), (.v (.int .i64 0)), (.v (.int .i64 0)), (.v (.int .i64 0)), (.v (.int .i64 0)), (.v (.int .i64 0)), (.v (.int .i64 0))]), (.row true K.k_impl_Event ([] ++ events)), (.box true [(.sl 3), (.v (.int .i64 x0_1)), (.v (.int .i64 x0_2)), (.v (.int .i64 x0_3)), (.v (.int .i64 x0_4)), (.v (.int .i64 x0_5)), (.v (.int .i64 x0_6))])]⟩
theorem spec_l37Count_z0 (k : Nat) (events : (List Event)) (x0_0 : Int) (x0_1 : Int) (x0_2 : Int) (x0_3 : Int) (x0_4 : Int) (x0_5 : Int) (x0_6 : Int) : spec_l37Count_h0 k 0 events x0_0 x0_1 x0_2 x0_3 x0_4 x0_5 x0_6 = spec_l37Count_s0 k events (fun _ _ _ _ _ _ _ => none) x0_0 x0_1 x0_2 x0_3 x0_4 x0_5 x0_6 := by kernel_rfl
theorem spec_l37Count_g0 (k : Nat) (H : St → Option (Book × Bool)) (events : (List Event)) (x0_0 : Int) (x0_1 : Int) (x0_2 : Int) (x0_3 : Int) (x0_4 : Int) (x0_5 : Int) (x0_6 : Int) : rnd env (spec_l37Count_O k) spec_l37Count_v Tryz.f98 1 (fun r => spec_l37Count_d (r.fin 1 [])) [1, 1, 1, 0, 1, 0] k H ⟨tmF [0, 2, 3, 4, 5] [(.a (.sc (.sl 0))), (.a (.sc (.bp 2 0))), (.a (.sc (.v (.bool false)))), (.a (.sc (.bp 4 0))), (.a (.sc (.v (.int .i64 x0_0))))], blF [(.row false K.k_impl_Event events), (.row true K.k_impl_Event []), (.box true [(.sl 1), (.v (.int .i64 0)), (.v (.int .i64 0)), (.v (.int .i64 0)), (.v (.int .i64 0)), (.v (.int .i64 0)), (.v (.int .i64 0))]), (.row true K.k_impl_Event ([] ++ events)), (.box true [(.sl 3), (.v (.int .i64 x0_1)), (.v (.int .i64 x0_2)), (.v (.int .i64 x0_3)), (.v (.int .i64 x0_4)), (.v (.int .i64 x0_5)), (.v (.int .i64 x0_6))])]⟩ = spec_l37Count_s0 k events (fun x0_0 x0_1 x0_2 x0_3 x0_4 x0_5 x0_6 => H ⟨tmF [0, 2, 3, 4, 5] [(.a (.sc (.sl 0))), (.a (.sc (.bp 2 0))), (.a (.sc (.v (.bool false)))), (.a (.sc (.bp 4 0))), (.a (.sc (.v (.int .i64 x0_0))))], blF [(.row false K.k_impl_Event events), (.row true K.k_impl_Event []), (.box true [(.sl 1), (.v (.int .i64 0)), (.v (.int .i64 0)), (.v (.int .i64 0)), (.v (.int .i64 0)), (.v (.int .i64 0)), (.v (.int .i64 0))]), (.row true K.k_impl_Event ([] ++ events)), (.box true [(.sl 3), (.v (.int .i64 x0_1)), (.v (.int .i64 x0_2)), (.v (.int .i64 x0_3)), (.v (.int .i64 x0_4)), (.v (.int .i64 x0_5)), (.v (.int .i64 x0_6))])]⟩) x0_0 x0_1 x0_2 x0_3 x0_4 x0_5 x0_6 := by kernel_rfl
theorem spec_l37Count_n0 (k m : Nat) (events : (List Event)) (x0_0 : Int) (x0_1 : Int) (x0_2 : Int) (x0_3 : Int) (x0_4 : Int) (x0_5 : Int) (x0_6 : Int) : spec_l37Count_h0 k (m + 1) events x0_0 x0_1 x0_2 x0_3 x0_4 x0_5 x0_6 = spec_l37Count_s0 k events (spec_l37Count_h0 k m events) x0_0 x0_1 x0_2 x0_3 x0_4 x0_5 x0_6 := (hdAt_succ _ _ _ _ _ _ _ _ _ _).trans (spec_l37Count_g0 k _ events x0_0 x0_1 x0_2 x0_3 x0_4 x0_5 x0_6)
theorem spec_l37Count_q0 (k : Nat) : ∀ m, spec_l37Count_h0 k m = spec_l37Count_l0 k m := by
 intro m
 induction m with
 | zero => funext events x0_0 x0_1 x0_2 x0_3 x0_4 x0_5 x0_6; rw [spec_l37Count_z0]; rfl
 | succ m ih => funext events x0_0 x0_1 x0_2 x0_3 x0_4 x0_5 x0_6; rw [spec_l37Count_n0, ih]; rfl
theorem spec_l37Count_e (k : Nat) (events : (List Event)) : callF env (spec_l37Count_O k) spec_l37Count_v Tryz.f98 (k + 1) (spec_l37Count_A events) (fun r => spec_l37Count_d (r.fin 1 [])) = spec_l37Count k events := by
 have e : callF env (spec_l37Count_O k) spec_l37Count_v Tryz.f98 (k + 1) (spec_l37Count_A events) (fun r => spec_l37Count_d (r.fin 1 [])) = spec_l37Count_m k (spec_l37Count_h0 k k) events := by kernel_rfl
 rw [e, spec_l37Count_q0]; rfl
noncomputable def spec_l37Count_x (k : Nat) : Ent1 := fun A R Q => match A with
 | ⟨[(.sc (.sl 0))], [(.row false K.k_impl_Event a1)]⟩ => (spec_l37Count k a1).bind fun y => Q ⟨(.tp [(.ag [(.sl 1), (.v (.int .i64 y.1.Rack.Fresh)), (.v (.int .i64 y.1.Rack.Day)), (.v (.int .i64 y.1.Rack.Old)), (.v (.int .i64 y.1.Baked)), (.v (.int .i64 y.1.Sold)), (.v (.int .i64 y.1.Thrown))]), (.sc (.v (.bool y.2)))]), [.dead, (.row true K.k_impl_Event y.1.Events)]⟩
 | _ => none
theorem spec_l37Count_ok (k : Nat) : OkE Tryz.prog 98 (spec_l37Count_x k) := by
 intro A R Q x h
 unfold spec_l37Count_x at h
 split at h
 · obtain ⟨y, hy, hK⟩ := Option.bind_eq_some_iff.1 h
   obtain ⟨r, hr, hd⟩ := callF_ok envOk (spec_l37Count_Ok k) follows Tryz.func98 (by kernel_rfl) ((spec_l37Count_e k _).trans hy)
   exact ⟨_, spec_l37Count_i hd ▸ hr.fin [], hK⟩
 · cases h
/-! ### spec.BookOk: function 67 -/
noncomputable def spec_BookOk (k : Nat)  (b : Book) : Option (Bool) :=
 (spec_l37Count k b.Events).bind fun y1 =>
 cond y1.2
  (cond (decide ((y1.1.Rack.Fresh : Int) = b.Rack.Fresh) && (decide ((y1.1.Rack.Day : Int) = b.Rack.Day) && decide ((y1.1.Rack.Old : Int) = b.Rack.Old)))
   (cond (decide ((y1.1.Baked : Int) = b.Baked))
    (cond (decide ((y1.1.Sold : Int) = b.Sold))
     (some (decide ((y1.1.Thrown : Int) = b.Thrown)))
     (some false))
    (some false))
   (some false))
  (some false)
noncomputable def spec_BookOk_v : Nat → List Nat := fun t => match t with | _ => []
noncomputable def spec_BookOk_O (k : Nat) : Oracle := ofL [(98, spec_l37Count_x k)]
theorem spec_BookOk_Ok (k : Nat) : OkO (Ct Tryz.prog) (spec_BookOk_O k) := okO_cons (spec_l37Count_ok k) (okO_nil)
noncomputable def spec_BookOk_A (b : Book) : Pk := ⟨[(.ag [(.sl 0), (.v (.int .i64 b.Rack.Fresh)), (.v (.int .i64 b.Rack.Day)), (.v (.int .i64 b.Rack.Old)), (.v (.int .i64 b.Baked)), (.v (.int .i64 b.Sold)), (.v (.int .i64 b.Thrown))])], [(.row false K.k_impl_Event b.Events)]⟩
noncomputable def spec_BookOk_d : Rs → Option (Bool)
 | ⟨(.a (.sc (.v (.bool r1)))), [.dead]⟩ => some r1
 | _ => none
theorem spec_BookOk_i {r : Rs} {y : Bool} (h : spec_BookOk_d r = some y) : r = ⟨(.a (.sc (.v (.bool y)))), [.dead]⟩ := by
 unfold spec_BookOk_d at h; split at h
 · cases h; rfl
 · cases h
theorem spec_BookOk_e (k : Nat) (b : Book) : callF env (spec_BookOk_O k) spec_BookOk_v Tryz.f67 (k + 1) (spec_BookOk_A b) (fun r => spec_BookOk_d (r.fin 1 [])) = spec_BookOk k b := by kernel_rfl
noncomputable def spec_BookOk_x (k : Nat) : Ent1 := fun A R Q => match A with
 | ⟨[(.ag [(.sl 0), (.v (.int .i64 a2)), (.v (.int .i64 a3)), (.v (.int .i64 a4)), (.v (.int .i64 a5)), (.v (.int .i64 a6)), (.v (.int .i64 a7))])], [(.row false K.k_impl_Event a1)]⟩ => (spec_BookOk k (⟨a1, (⟨a2, a3, a4⟩ : Rack), a5, a6, a7⟩ : Book)).bind fun y => Q ⟨(.a (.sc (.v (.bool y)))), [.dead]⟩
 | _ => none
theorem spec_BookOk_ok (k : Nat) : OkE Tryz.prog 67 (spec_BookOk_x k) := by
 intro A R Q x h
 unfold spec_BookOk_x at h
 split at h
 · obtain ⟨y, hy, hK⟩ := Option.bind_eq_some_iff.1 h
   obtain ⟨r, hr, hd⟩ := callF_ok envOk (spec_BookOk_Ok k) follows Tryz.func67 (by kernel_rfl) ((spec_BookOk_e k _).trans hy)
   exact ⟨_, spec_BookOk_i hd ▸ hr.fin [], hK⟩
 · cases h
/-! ### spec.BakeryOk: function 29 -/
noncomputable def spec_BakeryOk (k : Nat)  (b : Bakery) : Option (Bool) :=
 (spec_StoreOk k b.Stock).bind fun y1 =>
 cond y1
  ((spec_DoughOk k b.Dough).bind fun y2 =>
   cond y2
    ((spec_LoafOk k b.Loaf).bind fun y3 =>
     cond y3
      ((spec_BookOk k b.Book).bind fun y4 =>
       cond y4
        ((spec_l01In k b.Money 0 1000000).bind fun y5 =>
        some y5)
        (some false))
      (some false))
    (some false))
  (some false)
noncomputable def spec_BakeryOk_v : Nat → List Nat := fun t => match t with | _ => []
noncomputable def spec_BakeryOk_O (k : Nat) : Oracle := ofL [(64, spec_StoreOk_x k), (65, spec_DoughOk_x k), (66, spec_LoafOk_x k), (67, spec_BookOk_x k), (68, spec_l01In_x k)]
theorem spec_BakeryOk_Ok (k : Nat) : OkO (Ct Tryz.prog) (spec_BakeryOk_O k) := okO_cons (spec_StoreOk_ok k) (okO_cons (spec_DoughOk_ok k) (okO_cons (spec_LoafOk_ok k) (okO_cons (spec_BookOk_ok k) (okO_cons (spec_l01In_ok k) (okO_nil)))))
noncomputable def spec_BakeryOk_A (b : Bakery) : Pk := ⟨[(.ag [(.sl 0), (.v (.int .i64 b.Dough.Water)), (.v (.int .i64 b.Dough.Salt)), (.v (.int .i64 b.Dough.Leaven)), (.v (.int .i64 b.Loaf.Weight)), (.v (.int .i64 b.Loaf.Loss)), (.sl 1), (.v (.int .i64 b.Book.Rack.Fresh)), (.v (.int .i64 b.Book.Rack.Day)), (.v (.int .i64 b.Book.Rack.Old)), (.v (.int .i64 b.Book.Baked)), (.v (.int .i64 b.Book.Sold)), (.v (.int .i64 b.Book.Thrown)), (.v (.int .i64 b.Money))])], [(.row false K.ki64 b.Stock.Grams), (.row false K.k_impl_Event b.Book.Events)]⟩
noncomputable def spec_BakeryOk_d : Rs → Option (Bool)
 | ⟨(.a (.sc (.v (.bool r1)))), [.dead, .dead]⟩ => some r1
 | _ => none
theorem spec_BakeryOk_i {r : Rs} {y : Bool} (h : spec_BakeryOk_d r = some y) : r = ⟨(.a (.sc (.v (.bool y)))), [.dead, .dead]⟩ := by
 unfold spec_BakeryOk_d at h; split at h
 · cases h; rfl
 · cases h
theorem spec_BakeryOk_e (k : Nat) (b : Bakery) : callF env (spec_BakeryOk_O k) spec_BakeryOk_v Tryz.f29 (k + 1) (spec_BakeryOk_A b) (fun r => spec_BakeryOk_d (r.fin 2 [])) = spec_BakeryOk k b := by kernel_rfl
noncomputable def spec_BakeryOk_x (k : Nat) : Ent1 := fun A R Q => match A with
 | ⟨[(.ag [(.sl 0), (.v (.int .i64 a2)), (.v (.int .i64 a3)), (.v (.int .i64 a4)), (.v (.int .i64 a5)), (.v (.int .i64 a6)), (.sl 1), (.v (.int .i64 a8)), (.v (.int .i64 a9)), (.v (.int .i64 a10)), (.v (.int .i64 a11)), (.v (.int .i64 a12)), (.v (.int .i64 a13)), (.v (.int .i64 a14))])], [(.row false K.ki64 a1), (.row false K.k_impl_Event a7)]⟩ => (spec_BakeryOk k (⟨(⟨a1⟩ : Stock), (⟨a2, a3, a4⟩ : Dough), (⟨a5, a6⟩ : Loaf), (⟨a7, (⟨a8, a9, a10⟩ : Rack), a11, a12, a13⟩ : Book), a14⟩ : Bakery)).bind fun y => Q ⟨(.a (.sc (.v (.bool y)))), [.dead, .dead]⟩
 | _ => none
theorem spec_BakeryOk_ok (k : Nat) : OkE Tryz.prog 29 (spec_BakeryOk_x k) := by
 intro A R Q x h
 unfold spec_BakeryOk_x at h
 split at h
 · obtain ⟨y, hy, hK⟩ := Option.bind_eq_some_iff.1 h
   obtain ⟨r, hr, hd⟩ := callF_ok envOk (spec_BakeryOk_Ok k) follows Tryz.func29 (by kernel_rfl) ((spec_BakeryOk_e k _).trans hy)
   exact ⟨_, spec_BakeryOk_i hd ▸ hr.fin [], hK⟩
 · cases h
/-! ### spec.ActOk: function 30 -/
noncomputable def spec_ActOk (k : Nat)  (a : Deed) : Option (Bool) :=
 cond (decide ((a.Kind : Int) = 1))
 (cond (decide ((a.Kind : Int) = 1))
  ((spec_l01In k a.A 0 1000).bind fun y1 =>
   cond y1
    (some (decide ((a.B : Int) = 0)))
    (some false))
  (cond (decide ((a.Kind : Int) = 5))
   ((spec_l01In k a.A 0 3).bind fun y2 =>
    cond y2
     ((spec_l01In k a.B 0 100000).bind fun y3 =>
      some y3)
     (some false))
   (cond (decide ((a.Kind : Int) = 4))
    (cond (decide ((a.A : Int) = 0))
     (some (decide ((a.B : Int) = 0)))
     (some false))
    (some false))))
 (cond (decide ((a.Kind : Int) = 2))
  (cond (decide ((a.Kind : Int) = 2))
   ((spec_l01In k a.A 0 1000).bind fun y4 =>
    cond y4
     (some (decide ((a.B : Int) = 0)))
     (some false))
   (cond (decide ((a.Kind : Int) = 5))
    ((spec_l01In k a.A 0 3).bind fun y5 =>
     cond y5
      ((spec_l01In k a.B 0 100000).bind fun y6 =>
       some y6)
      (some false))
    (cond (decide ((a.Kind : Int) = 4))
     (cond (decide ((a.A : Int) = 0))
      (some (decide ((a.B : Int) = 0)))
      (some false))
     (some false))))
  (cond (decide ((a.Kind : Int) = 3))
   (cond (decide ((a.Kind : Int) = 3))
    ((spec_l01In k a.A 0 1000).bind fun y7 =>
     cond y7
      (some (decide ((a.B : Int) = 0)))
      (some false))
    (cond (decide ((a.Kind : Int) = 5))
     ((spec_l01In k a.A 0 3).bind fun y8 =>
      cond y8
       ((spec_l01In k a.B 0 100000).bind fun y9 =>
        some y9)
       (some false))
     (cond (decide ((a.Kind : Int) = 4))
      (cond (decide ((a.A : Int) = 0))
       (some (decide ((a.B : Int) = 0)))
       (some false))
      (some false))))
   (cond (decide ((a.Kind : Int) = 6))
    ((spec_l01In k a.A 0 1000).bind fun y10 =>
     cond y10
      (some (decide ((a.B : Int) = 0)))
      (some false))
    (cond (decide ((a.Kind : Int) = 5))
     ((spec_l01In k a.A 0 3).bind fun y11 =>
      cond y11
       ((spec_l01In k a.B 0 100000).bind fun y12 =>
        some y12)
       (some false))
     (cond (decide ((a.Kind : Int) = 4))
      (cond (decide ((a.A : Int) = 0))
       (some (decide ((a.B : Int) = 0)))
       (some false))
      (some false))))))
noncomputable def spec_ActOk_v : Nat → List Nat := fun t => match t with | _ => []
noncomputable def spec_ActOk_O (k : Nat) : Oracle := ofL [(68, spec_l01In_x k)]
theorem spec_ActOk_Ok (k : Nat) : OkO (Ct Tryz.prog) (spec_ActOk_O k) := okO_cons (spec_l01In_ok k) (okO_nil)
noncomputable def spec_ActOk_A (a : Deed) : Pk := ⟨[(.ag [(.v (.int .i64 a.Kind)), (.v (.int .i64 a.A)), (.v (.int .i64 a.B))])], []⟩
noncomputable def spec_ActOk_d : Rs → Option (Bool)
 | ⟨(.a (.sc (.v (.bool r1)))), []⟩ => some r1
 | _ => none
theorem spec_ActOk_i {r : Rs} {y : Bool} (h : spec_ActOk_d r = some y) : r = ⟨(.a (.sc (.v (.bool y)))), []⟩ := by
 unfold spec_ActOk_d at h; split at h
 · cases h; rfl
 · cases h
theorem spec_ActOk_e (k : Nat) (a : Deed) : callF env (spec_ActOk_O k) spec_ActOk_v Tryz.f30 (k + 1) (spec_ActOk_A a) (fun r => spec_ActOk_d (r.fin 0 [])) = spec_ActOk k a := by kernel_rfl
noncomputable def spec_ActOk_x (k : Nat) : Ent1 := fun A R Q => match A with
 | ⟨[(.ag [(.v (.int .i64 a1)), (.v (.int .i64 a2)), (.v (.int .i64 a3))])], []⟩ => (spec_ActOk k (⟨a1, a2, a3⟩ : Deed)).bind fun y => Q ⟨(.a (.sc (.v (.bool y)))), []⟩
 | _ => none
theorem spec_ActOk_ok (k : Nat) : OkE Tryz.prog 30 (spec_ActOk_x k) := by
 intro A R Q x h
 unfold spec_ActOk_x at h
 split at h
 · obtain ⟨y, hy, hK⟩ := Option.bind_eq_some_iff.1 h
   obtain ⟨r, hr, hd⟩ := callF_ok envOk (spec_ActOk_Ok k) follows Tryz.func30 (by kernel_rfl) ((spec_ActOk_e k _).trans hy)
   exact ⟨_, spec_ActOk_i hd ▸ hr.fin [], hK⟩
 · cases h
/-! ### spec.BakedWeight: function 103 -/
noncomputable def spec_BakedWeight (k : Nat)  (l : Loaf) (dough : Int) : Option (Int) :=
 (spec_LoafOk k l).bind fun y1 =>
 cond (!y1)
  (some (-1))
  ((spec_l01In k dough 0 10000).bind fun y2 =>
   cond (!y2)
    (some (-1))
    (if (100 : Int) ≠ 0 then
     some (wr (dough - (wr (Int.tdiv (wr ((wr (dough * l.Loss)) + 99)) 100)))) else none))
noncomputable def spec_BakedWeight_v : Nat → List Nat := fun t => match t with | _ => []
noncomputable def spec_BakedWeight_O (k : Nat) : Oracle := ofL [(66, spec_LoafOk_x k), (68, spec_l01In_x k)]
theorem spec_BakedWeight_Ok (k : Nat) : OkO (Ct Tryz.prog) (spec_BakedWeight_O k) := okO_cons (spec_LoafOk_ok k) (okO_cons (spec_l01In_ok k) (okO_nil))
noncomputable def spec_BakedWeight_A (l : Loaf) (dough : Int) : Pk := ⟨[(.ag [(.v (.int .i64 l.Weight)), (.v (.int .i64 l.Loss))]), (.sc (.v (.int .i64 dough)))], []⟩
noncomputable def spec_BakedWeight_d : Rs → Option (Int)
 | ⟨(.a (.sc (.v (.int .i64 r1)))), []⟩ => some r1
 | _ => none
theorem spec_BakedWeight_i {r : Rs} {y : Int} (h : spec_BakedWeight_d r = some y) : r = ⟨(.a (.sc (.v (.int .i64 y)))), []⟩ := by
 unfold spec_BakedWeight_d at h; split at h
 · cases h; rfl
 · cases h
theorem spec_BakedWeight_e (k : Nat) (l : Loaf) (dough : Int) : callF env (spec_BakedWeight_O k) spec_BakedWeight_v Tryz.f103 (k + 1) (spec_BakedWeight_A l dough) (fun r => spec_BakedWeight_d (r.fin 0 [])) = spec_BakedWeight k l dough := by kernel_rfl
noncomputable def spec_BakedWeight_x (k : Nat) : Ent1 := fun A R Q => match A with
 | ⟨[(.ag [(.v (.int .i64 a1)), (.v (.int .i64 a2))]), (.sc (.v (.int .i64 a3)))], []⟩ => (spec_BakedWeight k (⟨a1, a2⟩ : Loaf) a3).bind fun y => Q ⟨(.a (.sc (.v (.int .i64 y)))), []⟩
 | _ => none
theorem spec_BakedWeight_ok (k : Nat) : OkE Tryz.prog 103 (spec_BakedWeight_x k) := by
 intro A R Q x h
 unfold spec_BakedWeight_x at h
 split at h
 · obtain ⟨y, hy, hK⟩ := Option.bind_eq_some_iff.1 h
   obtain ⟨r, hr, hd⟩ := callF_ok envOk (spec_BakedWeight_Ok k) follows Tryz.func103 (by kernel_rfl) ((spec_BakedWeight_e k _ _).trans hy)
   exact ⟨_, spec_BakedWeight_i hd ▸ hr.fin [], hK⟩
 · cases h
/-! ### spec.DoughFor: function 73 -/
noncomputable def spec_DoughFor_s0 (k : Nat)  (l : Loaf) (J : Int → Option (Int)) (x0_0 : Int) : Option (Int) :=
 (spec_BakedWeight k l x0_0).bind fun y3 =>
 cond (decide ((y3 : Int) < l.Weight))
  (J (wr (x0_0 + 1)))
  (some x0_0)
noncomputable def spec_DoughFor_l0 (k : Nat) : Nat → Loaf → Int → Option (Int)
 | 0, l, x0_0 => spec_DoughFor_s0 k l (fun _ => none) x0_0
 | m + 1, l, x0_0 => spec_DoughFor_s0 k l (spec_DoughFor_l0 k m l) x0_0
noncomputable def spec_DoughFor_m (k : Nat) (J0 : Loaf → Int → Option (Int)) (l : Loaf) : Option (Int) :=
 (spec_LoafOk k l).bind fun y1 =>
 cond (!y1)
  (some (-1))
  (J0 l l.Weight)
noncomputable def spec_DoughFor (k : Nat) (l : Loaf) : Option (Int) := spec_DoughFor_m k (spec_DoughFor_l0 k k) l
noncomputable def spec_DoughFor_v : Nat → List Nat := fun t => match t with | 4 => [1, 2, 3] | _ => []
noncomputable def spec_DoughFor_O (k : Nat) : Oracle := ofL [(103, spec_BakedWeight_x k), (66, spec_LoafOk_x k)]
theorem spec_DoughFor_Ok (k : Nat) : OkO (Ct Tryz.prog) (spec_DoughFor_O k) := okO_cons (spec_BakedWeight_ok k) (okO_cons (spec_LoafOk_ok k) (okO_nil))
noncomputable def spec_DoughFor_A (l : Loaf) : Pk := ⟨[(.ag [(.v (.int .i64 l.Weight)), (.v (.int .i64 l.Loss))])], []⟩
noncomputable def spec_DoughFor_d : Rs → Option (Int)
 | ⟨(.a (.sc (.v (.int .i64 r1)))), []⟩ => some r1
 | _ => none
theorem spec_DoughFor_i {r : Rs} {y : Int} (h : spec_DoughFor_d r = some y) : r = ⟨(.a (.sc (.v (.int .i64 y)))), []⟩ := by
 unfold spec_DoughFor_d at h; split at h
 · cases h; rfl
 · cases h
noncomputable def spec_DoughFor_h0 (k m : Nat) (l : Loaf) (x0_0 : Int) : Option (Int) := hdAt env (spec_DoughFor_O k) spec_DoughFor_v Tryz.f73 0 (fun r => spec_DoughFor_d (r.fin 0 [])) [1, 1, 1, 0, 0] k m ⟨tmF [1, 2, 3] [(.a (.sc (.bp 0 0))), (.a (.sc (.v (.int .i64 0)))), (.a (.sc (.v (.int .i64 x0_0))))], blF [(.box true [(.v (.int .i64 l.Weight)), (.v (.int .i64 l.Loss))])]⟩
theorem spec_DoughFor_z0 (k : Nat) (l : Loaf) (x0_0 : Int) : spec_DoughFor_h0 k 0 l x0_0 = spec_DoughFor_s0 k l (fun _ => none) x0_0 := by kernel_rfl
theorem spec_DoughFor_g0 (k : Nat) (H : St → Option (Int)) (l : Loaf) (x0_0 : Int) : rnd env (spec_DoughFor_O k) spec_DoughFor_v Tryz.f73 0 (fun r => spec_DoughFor_d (r.fin 0 [])) [1, 1, 1, 0, 0] k H ⟨tmF [1, 2, 3] [(.a (.sc (.bp 0 0))), (.a (.sc (.v (.int .i64 0)))), (.a (.sc (.v (.int .i64 x0_0))))], blF [(.box true [(.v (.int .i64 l.Weight)), (.v (.int .i64 l.Loss))])]⟩ = spec_DoughFor_s0 k l (fun x0_0 => H ⟨tmF [1, 2, 3] [(.a (.sc (.bp 0 0))), (.a (.sc (.v (.int .i64 0)))), (.a (.sc (.v (.int .i64 x0_0))))], blF [(.box true [(.v (.int .i64 l.Weight)), (.v (.int .i64 l.Loss))])]⟩) x0_0 := by kernel_rfl
theorem spec_DoughFor_n0 (k m : Nat) (l : Loaf) (x0_0 : Int) : spec_DoughFor_h0 k (m + 1) l x0_0 = spec_DoughFor_s0 k l (spec_DoughFor_h0 k m l) x0_0 := (hdAt_succ _ _ _ _ _ _ _ _ _ _).trans (spec_DoughFor_g0 k _ l x0_0)
theorem spec_DoughFor_q0 (k : Nat) : ∀ m, spec_DoughFor_h0 k m = spec_DoughFor_l0 k m := by
 intro m
 induction m with
 | zero => funext l x0_0; rw [spec_DoughFor_z0]; rfl
 | succ m ih => funext l x0_0; rw [spec_DoughFor_n0, ih]; rfl
theorem spec_DoughFor_e (k : Nat) (l : Loaf) : callF env (spec_DoughFor_O k) spec_DoughFor_v Tryz.f73 (k + 1) (spec_DoughFor_A l) (fun r => spec_DoughFor_d (r.fin 0 [])) = spec_DoughFor k l := by
 have e : callF env (spec_DoughFor_O k) spec_DoughFor_v Tryz.f73 (k + 1) (spec_DoughFor_A l) (fun r => spec_DoughFor_d (r.fin 0 [])) = spec_DoughFor_m k (spec_DoughFor_h0 k k) l := by kernel_rfl
 rw [e, spec_DoughFor_q0]; rfl
noncomputable def spec_DoughFor_x (k : Nat) : Ent1 := fun A R Q => match A with
 | ⟨[(.ag [(.v (.int .i64 a1)), (.v (.int .i64 a2))])], []⟩ => (spec_DoughFor k (⟨a1, a2⟩ : Loaf)).bind fun y => Q ⟨(.a (.sc (.v (.int .i64 y)))), []⟩
 | _ => none
theorem spec_DoughFor_ok (k : Nat) : OkE Tryz.prog 73 (spec_DoughFor_x k) := by
 intro A R Q x h
 unfold spec_DoughFor_x at h
 split at h
 · obtain ⟨y, hy, hK⟩ := Option.bind_eq_some_iff.1 h
   obtain ⟨r, hr, hd⟩ := callF_ok envOk (spec_DoughFor_Ok k) follows Tryz.func73 (by kernel_rfl) ((spec_DoughFor_e k _).trans hy)
   exact ⟨_, spec_DoughFor_i hd ▸ hr.fin [], hK⟩
 · cases h
/-! ### spec.WholeParts: function 102 -/
noncomputable def spec_WholeParts (k : Nat)  (d : Dough) : Option (Int) :=
 (spec_DoughOk k d).bind fun y1 =>
 cond (!y1)
  (some (-1))
  (some (wr ((wr ((wr ((1000 : Int) + d.Water)) + d.Salt)) + d.Leaven)))
noncomputable def spec_WholeParts_v : Nat → List Nat := fun t => match t with | _ => []
noncomputable def spec_WholeParts_O (k : Nat) : Oracle := ofL [(65, spec_DoughOk_x k)]
theorem spec_WholeParts_Ok (k : Nat) : OkO (Ct Tryz.prog) (spec_WholeParts_O k) := okO_cons (spec_DoughOk_ok k) (okO_nil)
noncomputable def spec_WholeParts_A (d : Dough) : Pk := ⟨[(.ag [(.v (.int .i64 d.Water)), (.v (.int .i64 d.Salt)), (.v (.int .i64 d.Leaven))])], []⟩
noncomputable def spec_WholeParts_d : Rs → Option (Int)
 | ⟨(.a (.sc (.v (.int .i64 r1)))), []⟩ => some r1
 | _ => none
theorem spec_WholeParts_i {r : Rs} {y : Int} (h : spec_WholeParts_d r = some y) : r = ⟨(.a (.sc (.v (.int .i64 y)))), []⟩ := by
 unfold spec_WholeParts_d at h; split at h
 · cases h; rfl
 · cases h
theorem spec_WholeParts_e (k : Nat) (d : Dough) : callF env (spec_WholeParts_O k) spec_WholeParts_v Tryz.f102 (k + 1) (spec_WholeParts_A d) (fun r => spec_WholeParts_d (r.fin 0 [])) = spec_WholeParts k d := by kernel_rfl
noncomputable def spec_WholeParts_x (k : Nat) : Ent1 := fun A R Q => match A with
 | ⟨[(.ag [(.v (.int .i64 a1)), (.v (.int .i64 a2)), (.v (.int .i64 a3))])], []⟩ => (spec_WholeParts k (⟨a1, a2, a3⟩ : Dough)).bind fun y => Q ⟨(.a (.sc (.v (.int .i64 y)))), []⟩
 | _ => none
theorem spec_WholeParts_ok (k : Nat) : OkE Tryz.prog 102 (spec_WholeParts_x k) := by
 intro A R Q x h
 unfold spec_WholeParts_x at h
 split at h
 · obtain ⟨y, hy, hK⟩ := Option.bind_eq_some_iff.1 h
   obtain ⟨r, hr, hd⟩ := callF_ok envOk (spec_WholeParts_Ok k) follows Tryz.func102 (by kernel_rfl) ((spec_WholeParts_e k _).trans hy)
   exact ⟨_, spec_WholeParts_i hd ▸ hr.fin [], hK⟩
 · cases h
/-! ### spec.FlourFor: function 72 -/
noncomputable def spec_FlourFor (k : Nat)  (d : Dough) (weight : Int) : Option (Int) :=
 (spec_WholeParts k d).bind fun y1 =>
 cond (decide ((y1 : Int) < 0))
  (some (-1))
  ((spec_l01In k weight 0 1000000).bind fun y2 =>
   cond (!y2)
    (some (-1))
    (if (y1 : Int) ≠ 0 then
     some (wr (Int.tdiv (wr ((wr ((wr (weight * 1000)) + y1)) - 1)) y1)) else none))
noncomputable def spec_FlourFor_v : Nat → List Nat := fun t => match t with | _ => []
noncomputable def spec_FlourFor_O (k : Nat) : Oracle := ofL [(102, spec_WholeParts_x k), (68, spec_l01In_x k)]
theorem spec_FlourFor_Ok (k : Nat) : OkO (Ct Tryz.prog) (spec_FlourFor_O k) := okO_cons (spec_WholeParts_ok k) (okO_cons (spec_l01In_ok k) (okO_nil))
noncomputable def spec_FlourFor_A (d : Dough) (weight : Int) : Pk := ⟨[(.ag [(.v (.int .i64 d.Water)), (.v (.int .i64 d.Salt)), (.v (.int .i64 d.Leaven))]), (.sc (.v (.int .i64 weight)))], []⟩
noncomputable def spec_FlourFor_d : Rs → Option (Int)
 | ⟨(.a (.sc (.v (.int .i64 r1)))), []⟩ => some r1
 | _ => none
theorem spec_FlourFor_i {r : Rs} {y : Int} (h : spec_FlourFor_d r = some y) : r = ⟨(.a (.sc (.v (.int .i64 y)))), []⟩ := by
 unfold spec_FlourFor_d at h; split at h
 · cases h; rfl
 · cases h
theorem spec_FlourFor_e (k : Nat) (d : Dough) (weight : Int) : callF env (spec_FlourFor_O k) spec_FlourFor_v Tryz.f72 (k + 1) (spec_FlourFor_A d weight) (fun r => spec_FlourFor_d (r.fin 0 [])) = spec_FlourFor k d weight := by kernel_rfl
noncomputable def spec_FlourFor_x (k : Nat) : Ent1 := fun A R Q => match A with
 | ⟨[(.ag [(.v (.int .i64 a1)), (.v (.int .i64 a2)), (.v (.int .i64 a3))]), (.sc (.v (.int .i64 a4)))], []⟩ => (spec_FlourFor k (⟨a1, a2, a3⟩ : Dough) a4).bind fun y => Q ⟨(.a (.sc (.v (.int .i64 y)))), []⟩
 | _ => none
theorem spec_FlourFor_ok (k : Nat) : OkE Tryz.prog 72 (spec_FlourFor_x k) := by
 intro A R Q x h
 unfold spec_FlourFor_x at h
 split at h
 · obtain ⟨y, hy, hK⟩ := Option.bind_eq_some_iff.1 h
   obtain ⟨r, hr, hd⟩ := callF_ok envOk (spec_FlourFor_Ok k) follows Tryz.func72 (by kernel_rfl) ((spec_FlourFor_e k _ _).trans hy)
   exact ⟨_, spec_FlourFor_i hd ▸ hr.fin [], hK⟩
 · cases h
/-! ### spec.FlourNeeded: function 35 -/
noncomputable def spec_FlourNeeded (k : Nat)  (b : Bakery) (loaves : Int) : Option (Int) :=
 (spec_BakeryOk k b).bind fun y1 =>
 cond (!y1)
  (some (-1))
  ((spec_l01In k loaves 0 1000).bind fun y2 =>
   cond (!y2)
    (some (-1))
    ((spec_DoughFor k b.Loaf).bind fun y3 =>
     (spec_FlourFor k b.Dough (wr (y3 * loaves))).bind fun y4 =>
      some y4))
noncomputable def spec_FlourNeeded_v : Nat → List Nat := fun t => match t with | _ => []
noncomputable def spec_FlourNeeded_O (k : Nat) : Oracle := ofL [(29, spec_BakeryOk_x k), (68, spec_l01In_x k), (72, spec_FlourFor_x k), (73, spec_DoughFor_x k)]
theorem spec_FlourNeeded_Ok (k : Nat) : OkO (Ct Tryz.prog) (spec_FlourNeeded_O k) := okO_cons (spec_BakeryOk_ok k) (okO_cons (spec_l01In_ok k) (okO_cons (spec_FlourFor_ok k) (okO_cons (spec_DoughFor_ok k) (okO_nil))))
noncomputable def spec_FlourNeeded_A (b : Bakery) (loaves : Int) : Pk := ⟨[(.ag [(.sl 0), (.v (.int .i64 b.Dough.Water)), (.v (.int .i64 b.Dough.Salt)), (.v (.int .i64 b.Dough.Leaven)), (.v (.int .i64 b.Loaf.Weight)), (.v (.int .i64 b.Loaf.Loss)), (.sl 1), (.v (.int .i64 b.Book.Rack.Fresh)), (.v (.int .i64 b.Book.Rack.Day)), (.v (.int .i64 b.Book.Rack.Old)), (.v (.int .i64 b.Book.Baked)), (.v (.int .i64 b.Book.Sold)), (.v (.int .i64 b.Book.Thrown)), (.v (.int .i64 b.Money))]), (.sc (.v (.int .i64 loaves)))], [(.row false K.ki64 b.Stock.Grams), (.row false K.k_impl_Event b.Book.Events)]⟩
noncomputable def spec_FlourNeeded_d : Rs → Option (Int)
 | ⟨(.a (.sc (.v (.int .i64 r1)))), [.dead, .dead]⟩ => some r1
 | _ => none
theorem spec_FlourNeeded_i {r : Rs} {y : Int} (h : spec_FlourNeeded_d r = some y) : r = ⟨(.a (.sc (.v (.int .i64 y)))), [.dead, .dead]⟩ := by
 unfold spec_FlourNeeded_d at h; split at h
 · cases h; rfl
 · cases h
theorem spec_FlourNeeded_e (k : Nat) (b : Bakery) (loaves : Int) : callF env (spec_FlourNeeded_O k) spec_FlourNeeded_v Tryz.f35 (k + 1) (spec_FlourNeeded_A b loaves) (fun r => spec_FlourNeeded_d (r.fin 2 [])) = spec_FlourNeeded k b loaves := by kernel_rfl
noncomputable def spec_FlourNeeded_x (k : Nat) : Ent1 := fun A R Q => match A with
 | ⟨[(.ag [(.sl 0), (.v (.int .i64 a2)), (.v (.int .i64 a3)), (.v (.int .i64 a4)), (.v (.int .i64 a5)), (.v (.int .i64 a6)), (.sl 1), (.v (.int .i64 a8)), (.v (.int .i64 a9)), (.v (.int .i64 a10)), (.v (.int .i64 a11)), (.v (.int .i64 a12)), (.v (.int .i64 a13)), (.v (.int .i64 a14))]), (.sc (.v (.int .i64 a15)))], [(.row false K.ki64 a1), (.row false K.k_impl_Event a7)]⟩ => (spec_FlourNeeded k (⟨(⟨a1⟩ : Stock), (⟨a2, a3, a4⟩ : Dough), (⟨a5, a6⟩ : Loaf), (⟨a7, (⟨a8, a9, a10⟩ : Rack), a11, a12, a13⟩ : Book), a14⟩ : Bakery) a15).bind fun y => Q ⟨(.a (.sc (.v (.int .i64 y)))), [.dead, .dead]⟩
 | _ => none
theorem spec_FlourNeeded_ok (k : Nat) : OkE Tryz.prog 35 (spec_FlourNeeded_x k) := by
 intro A R Q x h
 unfold spec_FlourNeeded_x at h
 split at h
 · obtain ⟨y, hy, hK⟩ := Option.bind_eq_some_iff.1 h
   obtain ⟨r, hr, hd⟩ := callF_ok envOk (spec_FlourNeeded_Ok k) follows Tryz.func35 (by kernel_rfl) ((spec_FlourNeeded_e k _ _).trans hy)
   exact ⟨_, spec_FlourNeeded_i hd ▸ hr.fin [], hK⟩
 · cases h
/-! ### spec.PartOf: function 114 -/
noncomputable def spec_PartOf (k : Nat)  (flour : Int) (part : Int) : Option (Int) :=
 (spec_l01In k flour 0 1000000).bind fun y1 =>
 cond (!y1)
  (some (-1))
  ((spec_l01In k part 0 2000).bind fun y2 =>
   cond (!y2)
    (some (-1))
    (if (1000 : Int) ≠ 0 then
     some (wr (Int.tdiv (wr ((wr (flour * part)) + 500)) 1000)) else none))
noncomputable def spec_PartOf_v : Nat → List Nat := fun t => match t with | _ => []
noncomputable def spec_PartOf_O (k : Nat) : Oracle := ofL [(68, spec_l01In_x k)]
theorem spec_PartOf_Ok (k : Nat) : OkO (Ct Tryz.prog) (spec_PartOf_O k) := okO_cons (spec_l01In_ok k) (okO_nil)
noncomputable def spec_PartOf_A (flour : Int) (part : Int) : Pk := ⟨[(.sc (.v (.int .i64 flour))), (.sc (.v (.int .i64 part)))], []⟩
noncomputable def spec_PartOf_d : Rs → Option (Int)
 | ⟨(.a (.sc (.v (.int .i64 r1)))), []⟩ => some r1
 | _ => none
theorem spec_PartOf_i {r : Rs} {y : Int} (h : spec_PartOf_d r = some y) : r = ⟨(.a (.sc (.v (.int .i64 y)))), []⟩ := by
 unfold spec_PartOf_d at h; split at h
 · cases h; rfl
 · cases h
theorem spec_PartOf_e (k : Nat) (flour : Int) (part : Int) : callF env (spec_PartOf_O k) spec_PartOf_v Tryz.f114 (k + 1) (spec_PartOf_A flour part) (fun r => spec_PartOf_d (r.fin 0 [])) = spec_PartOf k flour part := by kernel_rfl
noncomputable def spec_PartOf_x (k : Nat) : Ent1 := fun A R Q => match A with
 | ⟨[(.sc (.v (.int .i64 a1))), (.sc (.v (.int .i64 a2)))], []⟩ => (spec_PartOf k a1 a2).bind fun y => Q ⟨(.a (.sc (.v (.int .i64 y)))), []⟩
 | _ => none
theorem spec_PartOf_ok (k : Nat) : OkE Tryz.prog 114 (spec_PartOf_x k) := by
 intro A R Q x h
 unfold spec_PartOf_x at h
 split at h
 · obtain ⟨y, hy, hK⟩ := Option.bind_eq_some_iff.1 h
   obtain ⟨r, hr, hd⟩ := callF_ok envOk (spec_PartOf_Ok k) follows Tryz.func114 (by kernel_rfl) ((spec_PartOf_e k _ _).trans hy)
   exact ⟨_, spec_PartOf_i hd ▸ hr.fin [], hK⟩
 · cases h
/-! ### spec.Amounts: function 99 -/
noncomputable def spec_Amounts (k : Nat)  (d : Dough) (flour : Int) : Option ((List Int)) :=
 (spec_DoughOk k d).bind fun y1 =>
 cond (!y1)
  (some ([]))
  ((spec_l01In k flour 0 1000000).bind fun y2 =>
   cond (!y2)
    (some ([]))
    ((spec_PartOf k flour d.Water).bind fun y3 =>
     (spec_PartOf k flour d.Salt).bind fun y4 =>
      (spec_PartOf k flour d.Leaven).bind fun y5 =>
       some ([flour, y3, y4, y5])))
noncomputable def spec_Amounts_v : Nat → List Nat := fun t => match t with | _ => []
noncomputable def spec_Amounts_O (k : Nat) : Oracle := ofL [(114, spec_PartOf_x k), (65, spec_DoughOk_x k), (68, spec_l01In_x k)]
theorem spec_Amounts_Ok (k : Nat) : OkO (Ct Tryz.prog) (spec_Amounts_O k) := okO_cons (spec_PartOf_ok k) (okO_cons (spec_DoughOk_ok k) (okO_cons (spec_l01In_ok k) (okO_nil)))
noncomputable def spec_Amounts_A (d : Dough) (flour : Int) : Pk := ⟨[(.ag [(.v (.int .i64 d.Water)), (.v (.int .i64 d.Salt)), (.v (.int .i64 d.Leaven))]), (.sc (.v (.int .i64 flour)))], []⟩
noncomputable def spec_Amounts_d : Rs → Option ((List Int))
 | ⟨(.a (.sc (.sl 0))), [(.row true K.ki64 r1)]⟩ => some r1
 | _ => none
theorem spec_Amounts_i {r : Rs} {y : (List Int)} (h : spec_Amounts_d r = some y) : r = ⟨(.a (.sc (.sl 0))), [(.row true K.ki64 y)]⟩ := by
 unfold spec_Amounts_d at h; split at h
 · cases h; rfl
 · cases h
theorem spec_Amounts_e (k : Nat) (d : Dough) (flour : Int) : callF env (spec_Amounts_O k) spec_Amounts_v Tryz.f99 (k + 1) (spec_Amounts_A d flour) (fun r => spec_Amounts_d (r.fin 0 [])) = spec_Amounts k d flour := by kernel_rfl
noncomputable def spec_Amounts_x (k : Nat) : Ent1 := fun A R Q => match A with
 | ⟨[(.ag [(.v (.int .i64 a1)), (.v (.int .i64 a2)), (.v (.int .i64 a3))]), (.sc (.v (.int .i64 a4)))], []⟩ => (spec_Amounts k (⟨a1, a2, a3⟩ : Dough) a4).bind fun y => Q ⟨(.a (.sc (.sl 0))), [(.row true K.ki64 y)]⟩
 | _ => none
theorem spec_Amounts_ok (k : Nat) : OkE Tryz.prog 99 (spec_Amounts_x k) := by
 intro A R Q x h
 unfold spec_Amounts_x at h
 split at h
 · obtain ⟨y, hy, hK⟩ := Option.bind_eq_some_iff.1 h
   obtain ⟨r, hr, hd⟩ := callF_ok envOk (spec_Amounts_Ok k) follows Tryz.func99 (by kernel_rfl) ((spec_Amounts_e k _ _).trans hy)
   exact ⟨_, spec_Amounts_i hd ▸ hr.fin [], hK⟩
 · cases h
/-! ### spec.FirstMissing: function 100 -/
noncomputable def spec_FirstMissing_s0 (k : Nat)  (s : Stock) (y1 : (List Int)) (J : Int → Option (Int)) (x0_0 : Int) : Option (Int) :=
 cond (decide ((x0_0 : Int) < ((y1).length : Int)))
 ((spec_StoreOk k s).bind fun y3 =>
  cond y3
   (if 0 ≤ (x0_0 : Int) ∧ (x0_0 : Int) < ((y1).length : Int) then
    if 0 ≤ (x0_0 : Int) ∧ (x0_0 : Int) < ((s.Grams).length : Int) then
     cond (decide (((s.Grams.getD (Int.toNat x0_0) 0) : Int) < (y1.getD (Int.toNat x0_0) 0)))
      (some x0_0)
      (J (wr (x0_0 + 1))) else none else none)
   (some (-1)))
 (some (-1))
noncomputable def spec_FirstMissing_l0 (k : Nat) : Nat → Stock → (List Int) → Int → Option (Int)
 | 0, s, y1, x0_0 => spec_FirstMissing_s0 k s y1 (fun _ => none) x0_0
 | m + 1, s, y1, x0_0 => spec_FirstMissing_s0 k s y1 (spec_FirstMissing_l0 k m s y1) x0_0
noncomputable def spec_FirstMissing_m (k : Nat) (J0 : Stock → (List Int) → Int → Option (Int)) (s : Stock) (d : Dough) (flour : Int) : Option (Int) :=
 (spec_Amounts k d flour).bind fun y1 =>
 J0 s y1 0
noncomputable def spec_FirstMissing (k : Nat) (s : Stock) (d : Dough) (flour : Int) : Option (Int) := spec_FirstMissing_m k (spec_FirstMissing_l0 k k) s d flour
noncomputable def spec_FirstMissing_v : Nat → List Nat := fun t => match t with | 3 => [3, 6, 7, 8] | _ => []
noncomputable def spec_FirstMissing_O (k : Nat) : Oracle := ofL [(64, spec_StoreOk_x k), (99, spec_Amounts_x k)]
theorem spec_FirstMissing_Ok (k : Nat) : OkO (Ct Tryz.prog) (spec_FirstMissing_O k) := okO_cons (spec_StoreOk_ok k) (okO_cons (spec_Amounts_ok k) (okO_nil))
noncomputable def spec_FirstMissing_A (s : Stock) (d : Dough) (flour : Int) : Pk := ⟨[(.ag [(.sl 0)]), (.ag [(.v (.int .i64 d.Water)), (.v (.int .i64 d.Salt)), (.v (.int .i64 d.Leaven))]), (.sc (.v (.int .i64 flour)))], [(.row false K.ki64 s.Grams)]⟩
noncomputable def spec_FirstMissing_d : Rs → Option (Int)
 | ⟨(.a (.sc (.v (.int .i64 r1)))), [.dead]⟩ => some r1
 | _ => none
theorem spec_FirstMissing_i {r : Rs} {y : Int} (h : spec_FirstMissing_d r = some y) : r = ⟨(.a (.sc (.v (.int .i64 y)))), [.dead]⟩ := by
 unfold spec_FirstMissing_d at h; split at h
 · cases h; rfl
 · cases h
noncomputable def spec_FirstMissing_h0 (k m : Nat) (s : Stock) (y1 : (List Int)) (x0_0 : Int) : Option (Int) := hdAt env (spec_FirstMissing_O k) spec_FirstMissing_v Tryz.f100 1 (fun r => spec_FirstMissing_d (r.fin 1 [])) [1, 1, 0, 1, 0] k m ⟨tmF [3, 6, 7, 8] [(.a (.sc (.bp 1 0))), (.a (.sc (.v (.int .i64 0)))), (.a (.sc (.sl 2))), (.a (.sc (.v (.int .i64 x0_0))))], blF [(.row false K.ki64 s.Grams), (.box true [(.sl 0)]), (.row true K.ki64 y1)]⟩
theorem spec_FirstMissing_z0 (k : Nat) (s : Stock) (y1 : (List Int)) (x0_0 : Int) : spec_FirstMissing_h0 k 0 s y1 x0_0 = spec_FirstMissing_s0 k s y1 (fun _ => none) x0_0 := by kernel_rfl
theorem spec_FirstMissing_g0 (k : Nat) (H : St → Option (Int)) (s : Stock) (y1 : (List Int)) (x0_0 : Int) : rnd env (spec_FirstMissing_O k) spec_FirstMissing_v Tryz.f100 1 (fun r => spec_FirstMissing_d (r.fin 1 [])) [1, 1, 0, 1, 0] k H ⟨tmF [3, 6, 7, 8] [(.a (.sc (.bp 1 0))), (.a (.sc (.v (.int .i64 0)))), (.a (.sc (.sl 2))), (.a (.sc (.v (.int .i64 x0_0))))], blF [(.row false K.ki64 s.Grams), (.box true [(.sl 0)]), (.row true K.ki64 y1)]⟩ = spec_FirstMissing_s0 k s y1 (fun x0_0 => H ⟨tmF [3, 6, 7, 8] [(.a (.sc (.bp 1 0))), (.a (.sc (.v (.int .i64 0)))), (.a (.sc (.sl 2))), (.a (.sc (.v (.int .i64 x0_0))))], blF [(.row false K.ki64 s.Grams), (.box true [(.sl 0)]), (.row true K.ki64 y1)]⟩) x0_0 := by kernel_rfl
theorem spec_FirstMissing_n0 (k m : Nat) (s : Stock) (y1 : (List Int)) (x0_0 : Int) : spec_FirstMissing_h0 k (m + 1) s y1 x0_0 = spec_FirstMissing_s0 k s y1 (spec_FirstMissing_h0 k m s y1) x0_0 := (hdAt_succ _ _ _ _ _ _ _ _ _ _).trans (spec_FirstMissing_g0 k _ s y1 x0_0)
theorem spec_FirstMissing_q0 (k : Nat) : ∀ m, spec_FirstMissing_h0 k m = spec_FirstMissing_l0 k m := by
 intro m
 induction m with
 | zero => funext s y1 x0_0; rw [spec_FirstMissing_z0]; rfl
 | succ m ih => funext s y1 x0_0; rw [spec_FirstMissing_n0, ih]; rfl
theorem spec_FirstMissing_e (k : Nat) (s : Stock) (d : Dough) (flour : Int) : callF env (spec_FirstMissing_O k) spec_FirstMissing_v Tryz.f100 (k + 1) (spec_FirstMissing_A s d flour) (fun r => spec_FirstMissing_d (r.fin 1 [])) = spec_FirstMissing k s d flour := by
 have e : callF env (spec_FirstMissing_O k) spec_FirstMissing_v Tryz.f100 (k + 1) (spec_FirstMissing_A s d flour) (fun r => spec_FirstMissing_d (r.fin 1 [])) = spec_FirstMissing_m k (spec_FirstMissing_h0 k k) s d flour := by kernel_rfl
 rw [e, spec_FirstMissing_q0]; rfl
noncomputable def spec_FirstMissing_x (k : Nat) : Ent1 := fun A R Q => match A with
 | ⟨[(.ag [(.sl 0)]), (.ag [(.v (.int .i64 a2)), (.v (.int .i64 a3)), (.v (.int .i64 a4))]), (.sc (.v (.int .i64 a5)))], [(.row false K.ki64 a1)]⟩ => (spec_FirstMissing k (⟨a1⟩ : Stock) (⟨a2, a3, a4⟩ : Dough) a5).bind fun y => Q ⟨(.a (.sc (.v (.int .i64 y)))), [.dead]⟩
 | _ => none
theorem spec_FirstMissing_ok (k : Nat) : OkE Tryz.prog 100 (spec_FirstMissing_x k) := by
 intro A R Q x h
 unfold spec_FirstMissing_x at h
 split at h
 · obtain ⟨y, hy, hK⟩ := Option.bind_eq_some_iff.1 h
   obtain ⟨r, hr, hd⟩ := callF_ok envOk (spec_FirstMissing_Ok k) follows Tryz.func100 (by kernel_rfl) ((spec_FirstMissing_e k _ _ _).trans hy)
   exact ⟨_, spec_FirstMissing_i hd ▸ hr.fin [], hK⟩
 · cases h
/-! ### spec.TakeFor: function 69 -/
noncomputable def spec_TakeFor_s0 (k : Nat)  (s : Stock) (y2 : (List Int)) (J : Int → (List Int) → Option (Stock × Bool)) (x0_0 : Int) (x0_1 : (List Int)) : Option (Stock × Bool) :=
 cond (decide ((x0_0 : Int) < 4))
 (if 0 ≤ (x0_0 : Int) ∧ (x0_0 : Int) < ((s.Grams).length : Int) then
  if 0 ≤ (x0_0 : Int) ∧ (x0_0 : Int) < ((y2).length : Int) then
   if 0 ≤ (x0_0 : Int) ∧ (x0_0 : Int) < ((x0_1).length : Int) then
    J (wr (x0_0 + 1)) (x0_1.set (Int.toNat x0_0) (wr ((s.Grams.getD (Int.toNat x0_0) 0) - (y2.getD (Int.toNat x0_0) 0)))) else none else none else none)
 (some ((⟨x0_1⟩ : Stock), true))
noncomputable def spec_TakeFor_l0 (k : Nat) : Nat → Stock → (List Int) → Int → (List Int) → Option (Stock × Bool)
 | 0, s, y2, x0_0, x0_1 => spec_TakeFor_s0 k s y2 (fun _ _ => none) x0_0 x0_1
 | m + 1, s, y2, x0_0, x0_1 => spec_TakeFor_s0 k s y2 (spec_TakeFor_l0 k m s y2) x0_0 x0_1
noncomputable def spec_TakeFor_m (k : Nat) (J0 : Stock → (List Int) → Int → (List Int) → Option (Stock × Bool)) (s : Stock) (d : Dough) (flour : Int) : Option (Stock × Bool) :=
 (spec_l36Copy k s).bind fun y1 =>
 (spec_Amounts k d flour).bind fun y2 =>
  (spec_StoreOk k s).bind fun y3 =>
   cond (!y3)
    (some (y1, false))
    (cond (decide ((((y2).length : Int) : Int) = 0))
     (some (y1, false))
     ((spec_FirstMissing k s d flour).bind fun y4 =>
      cond (decide ((0 : Int) ≤ y4))
       (some (y1, false))
       (J0 s y2 0 y1.Grams)))
noncomputable def spec_TakeFor (k : Nat) (s : Stock) (d : Dough) (flour : Int) : Option (Stock × Bool) := spec_TakeFor_m k (spec_TakeFor_l0 k k) s d flour
noncomputable def spec_TakeFor_v : Nat → List Nat := fun t => match t with | 6 => [3, 6, 7, 8, 9, 10] | _ => []
noncomputable def spec_TakeFor_O (k : Nat) : Oracle := ofL [(100, spec_FirstMissing_x k), (62, spec_l36Copy_x k), (64, spec_StoreOk_x k), (99, spec_Amounts_x k)]
theorem spec_TakeFor_Ok (k : Nat) : OkO (Ct Tryz.prog) (spec_TakeFor_O k) := okO_cons (spec_FirstMissing_ok k) (okO_cons (spec_l36Copy_ok k) (okO_cons (spec_StoreOk_ok k) (okO_cons (spec_Amounts_ok k) (okO_nil))))
noncomputable def spec_TakeFor_A (s : Stock) (d : Dough) (flour : Int) : Pk := ⟨[(.ag [(.sl 0)]), (.ag [(.v (.int .i64 d.Water)), (.v (.int .i64 d.Salt)), (.v (.int .i64 d.Leaven))]), (.sc (.v (.int .i64 flour)))], [(.row false K.ki64 s.Grams)]⟩
noncomputable def spec_TakeFor_d : Rs → Option (Stock × Bool)
 | ⟨(.tp [(.ag [(.sl 1)]), (.sc (.v (.bool r2)))]), [.dead, (.row true K.ki64 r1)]⟩ => some ((⟨r1⟩ : Stock), r2)
 | _ => none
theorem spec_TakeFor_i {r : Rs} {y : Stock × Bool} (h : spec_TakeFor_d r = some y) : r = ⟨(.tp [(.ag [(.sl 1)]), (.sc (.v (.bool y.2)))]), [.dead, (.row true K.ki64 y.1.Grams)]⟩ := by
 unfold spec_TakeFor_d at h; split at h
 · cases h; rfl
 · cases h
noncomputable def spec_TakeFor_h0 (k m : Nat) (s : Stock) (y2 : (List Int)) (x0_0 : Int) (x0_1 : (List Int)) : Option (Stock × Bool) := hdAt env (spec_TakeFor_O k) spec_TakeFor_v Tryz.f69 1 (fun r => spec_TakeFor_d (r.fin 1 [])) [1, 1, 1, 1, 0, 1, 0] k m ⟨tmF [3, 6, 7, 8, 9, 10] [(.a (.sc (.bp 1 0))), (.a (.sc (.bp 3 0))), (.a (.sc (.v (.bool false)))), (.a (.sc (.bp 5 0))), (.a (.sc (.sl 6))), (.a (.sc (.v (.int .i64 x0_0))))], blF [(.row false K.ki64 s.Grams), (.box true [(.sl 0)]), (.row true K.ki64 []), (.box true [(.sl 2)]), (.row true K.ki64 x0_1), (.box true [(.sl 4)]), (.row true K.ki64 y2)]⟩
theorem spec_TakeFor_z0 (k : Nat) (s : Stock) (y2 : (List Int)) (x0_0 : Int) (x0_1 : (List Int)) : spec_TakeFor_h0 k 0 s y2 x0_0 x0_1 = spec_TakeFor_s0 k s y2 (fun _ _ => none) x0_0 x0_1 := by kernel_rfl
theorem spec_TakeFor_g0 (k : Nat) (H : St → Option (Stock × Bool)) (s : Stock) (y2 : (List Int)) (x0_0 : Int) (x0_1 : (List Int)) : rnd env (spec_TakeFor_O k) spec_TakeFor_v Tryz.f69 1 (fun r => spec_TakeFor_d (r.fin 1 [])) [1, 1, 1, 1, 0, 1, 0] k H ⟨tmF [3, 6, 7, 8, 9, 10] [(.a (.sc (.bp 1 0))), (.a (.sc (.bp 3 0))), (.a (.sc (.v (.bool false)))), (.a (.sc (.bp 5 0))), (.a (.sc (.sl 6))), (.a (.sc (.v (.int .i64 x0_0))))], blF [(.row false K.ki64 s.Grams), (.box true [(.sl 0)]), (.row true K.ki64 []), (.box true [(.sl 2)]), (.row true K.ki64 x0_1), (.box true [(.sl 4)]), (.row true K.ki64 y2)]⟩ = spec_TakeFor_s0 k s y2 (fun x0_0 x0_1 => H ⟨tmF [3, 6, 7, 8, 9, 10] [(.a (.sc (.bp 1 0))), (.a (.sc (.bp 3 0))), (.a (.sc (.v (.bool false)))), (.a (.sc (.bp 5 0))), (.a (.sc (.sl 6))), (.a (.sc (.v (.int .i64 x0_0))))], blF [(.row false K.ki64 s.Grams), (.box true [(.sl 0)]), (.row true K.ki64 []), (.box true [(.sl 2)]), (.row true K.ki64 x0_1), (.box true [(.sl 4)]), (.row true K.ki64 y2)]⟩) x0_0 x0_1 := by kernel_rfl
theorem spec_TakeFor_n0 (k m : Nat) (s : Stock) (y2 : (List Int)) (x0_0 : Int) (x0_1 : (List Int)) : spec_TakeFor_h0 k (m + 1) s y2 x0_0 x0_1 = spec_TakeFor_s0 k s y2 (spec_TakeFor_h0 k m s y2) x0_0 x0_1 := (hdAt_succ _ _ _ _ _ _ _ _ _ _).trans (spec_TakeFor_g0 k _ s y2 x0_0 x0_1)
theorem spec_TakeFor_q0 (k : Nat) : ∀ m, spec_TakeFor_h0 k m = spec_TakeFor_l0 k m := by
 intro m
 induction m with
 | zero => funext s y2 x0_0 x0_1; rw [spec_TakeFor_z0]; rfl
 | succ m ih => funext s y2 x0_0 x0_1; rw [spec_TakeFor_n0, ih]; rfl
theorem spec_TakeFor_e (k : Nat) (s : Stock) (d : Dough) (flour : Int) : callF env (spec_TakeFor_O k) spec_TakeFor_v Tryz.f69 (k + 1) (spec_TakeFor_A s d flour) (fun r => spec_TakeFor_d (r.fin 1 [])) = spec_TakeFor k s d flour := by
 have e : callF env (spec_TakeFor_O k) spec_TakeFor_v Tryz.f69 (k + 1) (spec_TakeFor_A s d flour) (fun r => spec_TakeFor_d (r.fin 1 [])) = spec_TakeFor_m k (spec_TakeFor_h0 k k) s d flour := by kernel_rfl
 rw [e, spec_TakeFor_q0]; rfl
noncomputable def spec_TakeFor_x (k : Nat) : Ent1 := fun A R Q => match A with
 | ⟨[(.ag [(.sl 0)]), (.ag [(.v (.int .i64 a2)), (.v (.int .i64 a3)), (.v (.int .i64 a4))]), (.sc (.v (.int .i64 a5)))], [(.row false K.ki64 a1)]⟩ => (spec_TakeFor k (⟨a1⟩ : Stock) (⟨a2, a3, a4⟩ : Dough) a5).bind fun y => Q ⟨(.tp [(.ag [(.sl 1)]), (.sc (.v (.bool y.2)))]), [.dead, (.row true K.ki64 y.1.Grams)]⟩
 | _ => none
theorem spec_TakeFor_ok (k : Nat) : OkE Tryz.prog 69 (spec_TakeFor_x k) := by
 intro A R Q x h
 unfold spec_TakeFor_x at h
 split at h
 · obtain ⟨y, hy, hK⟩ := Option.bind_eq_some_iff.1 h
   obtain ⟨r, hr, hd⟩ := callF_ok envOk (spec_TakeFor_Ok k) follows Tryz.func69 (by kernel_rfl) ((spec_TakeFor_e k _ _ _).trans hy)
   exact ⟨_, spec_TakeFor_i hd ▸ hr.fin [], hK⟩
 · cases h
/-! ### spec.Enter: function 101 -/
noncomputable def spec_Enter (k : Nat)  (b : Book) (e : Event) : Option (Book × Bool) :=
 if ([] : List Event).length + (b.Events : List Event).length ≤ maxRow then
 if (([] ++ b.Events) : List Event).length + ([e] : List Event).length ≤ maxRow then
  (spec_l37Count k (([] ++ b.Events) ++ [e])).bind fun y1 =>
   (spec_BookOk k b).bind fun y2 =>
    cond (!y2)
     ((spec_l37Copy k b).bind fun y3 =>
      some (y3, false))
     (cond (!y1.2)
      ((spec_l37Copy k b).bind fun y4 =>
       some (y4, false))
      (some (y1.1, true))) else none else none
noncomputable def spec_Enter_v : Nat → List Nat := fun t => match t with | _ => []
noncomputable def spec_Enter_O (k : Nat) : Oracle := ofL [(63, spec_l37Copy_x k), (67, spec_BookOk_x k), (98, spec_l37Count_x k)]
theorem spec_Enter_Ok (k : Nat) : OkO (Ct Tryz.prog) (spec_Enter_O k) := okO_cons (spec_l37Copy_ok k) (okO_cons (spec_BookOk_ok k) (okO_cons (spec_l37Count_ok k) (okO_nil)))
noncomputable def spec_Enter_A (b : Book) (e : Event) : Pk := ⟨[(.ag [(.sl 0), (.v (.int .i64 b.Rack.Fresh)), (.v (.int .i64 b.Rack.Day)), (.v (.int .i64 b.Rack.Old)), (.v (.int .i64 b.Baked)), (.v (.int .i64 b.Sold)), (.v (.int .i64 b.Thrown))]), (.ag [(.v (.int .i64 e.Kind)), (.v (.int .i64 e.Loaves))])], [(.row false K.k_impl_Event b.Events)]⟩
noncomputable def spec_Enter_d : Rs → Option (Book × Bool)
 | ⟨(.tp [(.ag [(.sl 1), (.v (.int .i64 r2)), (.v (.int .i64 r3)), (.v (.int .i64 r4)), (.v (.int .i64 r5)), (.v (.int .i64 r6)), (.v (.int .i64 r7))]), (.sc (.v (.bool r8)))]), [.dead, (.row true K.k_impl_Event r1)]⟩ => some ((⟨r1, (⟨r2, r3, r4⟩ : Rack), r5, r6, r7⟩ : Book), r8)
 | _ => none
theorem spec_Enter_i {r : Rs} {y : Book × Bool} (h : spec_Enter_d r = some y) : r = ⟨(.tp [(.ag [(.sl 1), (.v (.int .i64 y.1.Rack.Fresh)), (.v (.int .i64 y.1.Rack.Day)), (.v (.int .i64 y.1.Rack.Old)), (.v (.int .i64 y.1.Baked)), (.v (.int .i64 y.1.Sold)), (.v (.int .i64 y.1.Thrown))]), (.sc (.v (.bool y.2)))]), [.dead, (.row true K.k_impl_Event y.1.Events)]⟩ := by
 unfold spec_Enter_d at h; split at h
 · cases h; rfl
 · cases h
theorem spec_Enter_e (k : Nat) (b : Book) (e : Event) : callF env (spec_Enter_O k) spec_Enter_v Tryz.f101 (k + 1) (spec_Enter_A b e) (fun r => spec_Enter_d (r.fin 1 [])) = spec_Enter k b e := by kernel_rfl
noncomputable def spec_Enter_x (k : Nat) : Ent1 := fun A R Q => match A with
 | ⟨[(.ag [(.sl 0), (.v (.int .i64 a2)), (.v (.int .i64 a3)), (.v (.int .i64 a4)), (.v (.int .i64 a5)), (.v (.int .i64 a6)), (.v (.int .i64 a7))]), (.ag [(.v (.int .i64 a8)), (.v (.int .i64 a9))])], [(.row false K.k_impl_Event a1)]⟩ => (spec_Enter k (⟨a1, (⟨a2, a3, a4⟩ : Rack), a5, a6, a7⟩ : Book) (⟨a8, a9⟩ : Event)).bind fun y => Q ⟨(.tp [(.ag [(.sl 1), (.v (.int .i64 y.1.Rack.Fresh)), (.v (.int .i64 y.1.Rack.Day)), (.v (.int .i64 y.1.Rack.Old)), (.v (.int .i64 y.1.Baked)), (.v (.int .i64 y.1.Sold)), (.v (.int .i64 y.1.Thrown))]), (.sc (.v (.bool y.2)))]), [.dead, (.row true K.k_impl_Event y.1.Events)]⟩
 | _ => none
theorem spec_Enter_ok (k : Nat) : OkE Tryz.prog 101 (spec_Enter_x k) := by
 intro A R Q x h
 unfold spec_Enter_x at h
 split at h
 · obtain ⟨y, hy, hK⟩ := Option.bind_eq_some_iff.1 h
   obtain ⟨r, hr, hd⟩ := callF_ok envOk (spec_Enter_Ok k) follows Tryz.func101 (by kernel_rfl) ((spec_Enter_e k _ _).trans hy)
   exact ⟨_, spec_Enter_i hd ▸ hr.fin [], hK⟩
 · cases h
/-! ### spec.l38Enter: function 70 -/
noncomputable def spec_l38Enter (k : Nat)  (b : Bakery) (e : Event) (money : Int) : Option (Bakery × Bool) :=
 (spec_l38Copy k b).bind fun y1 =>
 (spec_BakeryOk k b).bind fun y2 =>
  cond (!y2)
   (some (y1, false))
   ((spec_Enter k b.Book e).bind fun y3 =>
    cond (!y3.2)
     ((spec_l38Copy k b).bind fun y5 =>
      some (y5, false))
     ((spec_BakeryOk k (⟨y1.Stock, y1.Dough, y1.Loaf, y3.1, (wr (b.Money + money))⟩ : Bakery)).bind fun y4 =>
      cond (!y4)
       ((spec_l38Copy k b).bind fun y6 =>
        some (y6, false))
       (some ((⟨y1.Stock, y1.Dough, y1.Loaf, y3.1, (wr (b.Money + money))⟩ : Bakery), true))))
noncomputable def spec_l38Enter_v : Nat → List Nat := fun t => match t with | _ => []
noncomputable def spec_l38Enter_O (k : Nat) : Oracle := ofL [(101, spec_Enter_x k), (28, spec_l38Copy_x k), (29, spec_BakeryOk_x k)]
theorem spec_l38Enter_Ok (k : Nat) : OkO (Ct Tryz.prog) (spec_l38Enter_O k) := okO_cons (spec_Enter_ok k) (okO_cons (spec_l38Copy_ok k) (okO_cons (spec_BakeryOk_ok k) (okO_nil)))
noncomputable def spec_l38Enter_A (b : Bakery) (e : Event) (money : Int) : Pk := ⟨[(.ag [(.sl 0), (.v (.int .i64 b.Dough.Water)), (.v (.int .i64 b.Dough.Salt)), (.v (.int .i64 b.Dough.Leaven)), (.v (.int .i64 b.Loaf.Weight)), (.v (.int .i64 b.Loaf.Loss)), (.sl 1), (.v (.int .i64 b.Book.Rack.Fresh)), (.v (.int .i64 b.Book.Rack.Day)), (.v (.int .i64 b.Book.Rack.Old)), (.v (.int .i64 b.Book.Baked)), (.v (.int .i64 b.Book.Sold)), (.v (.int .i64 b.Book.Thrown)), (.v (.int .i64 b.Money))]), (.ag [(.v (.int .i64 e.Kind)), (.v (.int .i64 e.Loaves))]), (.sc (.v (.int .i64 money)))], [(.row false K.ki64 b.Stock.Grams), (.row false K.k_impl_Event b.Book.Events)]⟩
noncomputable def spec_l38Enter_d : Rs → Option (Bakery × Bool)
 | ⟨(.tp [(.ag [(.sl 2), (.v (.int .i64 r2)), (.v (.int .i64 r3)), (.v (.int .i64 r4)), (.v (.int .i64 r5)), (.v (.int .i64 r6)), (.sl 3), (.v (.int .i64 r8)), (.v (.int .i64 r9)), (.v (.int .i64 r10)), (.v (.int .i64 r11)), (.v (.int .i64 r12)), (.v (.int .i64 r13)), (.v (.int .i64 r14))]), (.sc (.v (.bool r15)))]), [.dead, .dead, (.row true K.ki64 r1), (.row true K.k_impl_Event r7)]⟩ => some ((⟨(⟨r1⟩ : Stock), (⟨r2, r3, r4⟩ : Dough), (⟨r5, r6⟩ : Loaf), (⟨r7, (⟨r8, r9, r10⟩ : Rack), r11, r12, r13⟩ : Book), r14⟩ : Bakery), r15)
 | _ => none
theorem spec_l38Enter_i {r : Rs} {y : Bakery × Bool} (h : spec_l38Enter_d r = some y) : r = ⟨(.tp [(.ag [(.sl 2), (.v (.int .i64 y.1.Dough.Water)), (.v (.int .i64 y.1.Dough.Salt)), (.v (.int .i64 y.1.Dough.Leaven)), (.v (.int .i64 y.1.Loaf.Weight)), (.v (.int .i64 y.1.Loaf.Loss)), (.sl 3), (.v (.int .i64 y.1.Book.Rack.Fresh)), (.v (.int .i64 y.1.Book.Rack.Day)), (.v (.int .i64 y.1.Book.Rack.Old)), (.v (.int .i64 y.1.Book.Baked)), (.v (.int .i64 y.1.Book.Sold)), (.v (.int .i64 y.1.Book.Thrown)), (.v (.int .i64 y.1.Money))]), (.sc (.v (.bool y.2)))]), [.dead, .dead, (.row true K.ki64 y.1.Stock.Grams), (.row true K.k_impl_Event y.1.Book.Events)]⟩ := by
 unfold spec_l38Enter_d at h; split at h
 · cases h; rfl
 · cases h
theorem spec_l38Enter_e (k : Nat) (b : Bakery) (e : Event) (money : Int) : callF env (spec_l38Enter_O k) spec_l38Enter_v Tryz.f70 (k + 1) (spec_l38Enter_A b e money) (fun r => spec_l38Enter_d (r.fin 2 [])) = spec_l38Enter k b e money := by kernel_rfl
noncomputable def spec_l38Enter_x (k : Nat) : Ent1 := fun A R Q => match A with
 | ⟨[(.ag [(.sl 0), (.v (.int .i64 a2)), (.v (.int .i64 a3)), (.v (.int .i64 a4)), (.v (.int .i64 a5)), (.v (.int .i64 a6)), (.sl 1), (.v (.int .i64 a8)), (.v (.int .i64 a9)), (.v (.int .i64 a10)), (.v (.int .i64 a11)), (.v (.int .i64 a12)), (.v (.int .i64 a13)), (.v (.int .i64 a14))]), (.ag [(.v (.int .i64 a15)), (.v (.int .i64 a16))]), (.sc (.v (.int .i64 a17)))], [(.row false K.ki64 a1), (.row false K.k_impl_Event a7)]⟩ => (spec_l38Enter k (⟨(⟨a1⟩ : Stock), (⟨a2, a3, a4⟩ : Dough), (⟨a5, a6⟩ : Loaf), (⟨a7, (⟨a8, a9, a10⟩ : Rack), a11, a12, a13⟩ : Book), a14⟩ : Bakery) (⟨a15, a16⟩ : Event) a17).bind fun y => Q ⟨(.tp [(.ag [(.sl 2), (.v (.int .i64 y.1.Dough.Water)), (.v (.int .i64 y.1.Dough.Salt)), (.v (.int .i64 y.1.Dough.Leaven)), (.v (.int .i64 y.1.Loaf.Weight)), (.v (.int .i64 y.1.Loaf.Loss)), (.sl 3), (.v (.int .i64 y.1.Book.Rack.Fresh)), (.v (.int .i64 y.1.Book.Rack.Day)), (.v (.int .i64 y.1.Book.Rack.Old)), (.v (.int .i64 y.1.Book.Baked)), (.v (.int .i64 y.1.Book.Sold)), (.v (.int .i64 y.1.Book.Thrown)), (.v (.int .i64 y.1.Money))]), (.sc (.v (.bool y.2)))]), [.dead, .dead, (.row true K.ki64 y.1.Stock.Grams), (.row true K.k_impl_Event y.1.Book.Events)]⟩
 | _ => none
theorem spec_l38Enter_ok (k : Nat) : OkE Tryz.prog 70 (spec_l38Enter_x k) := by
 intro A R Q x h
 unfold spec_l38Enter_x at h
 split at h
 · obtain ⟨y, hy, hK⟩ := Option.bind_eq_some_iff.1 h
   obtain ⟨r, hr, hd⟩ := callF_ok envOk (spec_l38Enter_Ok k) follows Tryz.func70 (by kernel_rfl) ((spec_l38Enter_e k _ _ _).trans hy)
   exact ⟨_, spec_l38Enter_i hd ▸ hr.fin [], hK⟩
 · cases h
end Go.Proofs.YtlhcphoojiemmaaGreatX
