-- Written for this claim by wip/xprint.py of this repository (by way of the kit's print); Lean checks every line.
import Derived.Test.YtnlioefgpgamdaaQ0
import Derived.Test.YtnlioefgpgamdaaQ7
namespace Go.Proofs.Ytnlioefgpgamdaa.Q
open Go.RowKit Go.Proofs.YtnlioefgpgamdaaW.PrintWords Go.Proofs.YtnlioefgpgamdaaW.PrintLast Go.Proofs.YtnlioefgpgamdaaW.PrintMore
attribute [local go_sem] max2_int min2_int max_two min_two max_three min_three max_four min_four   -- for this text's walks alone
set_option linter.unusedVariables false
set_option linter.unusedSimpArgs false

/-! ### impl_allIn_1: function 131 (by hand) -/
set_option maxHeartbeats 8000000 in
set_option maxRecDepth 100000 in
theorem impl_allIn_1.calls (B1 B2 : Nat) (x lo hi : Int) (W : World) (h1 : W.cell? ⟨B1, 0, none⟩ = some (.int .i64 lo)) (h2 : W.cell? ⟨B2, 0, none⟩ = some (.int .i64 hi)) :
    Calls Try.prog 131 #[.int .i64 x, .pointer (some ⟨B1, 0, none⟩), .pointer (some ⟨B2, 0, none⟩)] W fun e w' => e = .returned (.bool (!decide (lo ≤ x ∧ x ≤ hi))) ∧ Below W.heap.size W w' := by
  have e1 : decide (lo ≤ x ∧ x ≤ hi) = (decide (lo ≤ x) && decide (x ≤ hi)) := by simp
  rw [e1]
  have HB := Aside0.mk (Below.refl W.heap.size W)
  cases c1 : decide (lo ≤ x) <;> cases c2 : decide (x ≤ hi)
  all_goals
    clear e1
    go_enter Try.func131, Try.ntmps131
    go_wp2
    go_ret
    exact ⟨by first | rfl | simp, by repeat (first | (with_reducible first | exact HB.out | apply below_alloc | apply pw_below_drewN | apply below_drew1) | exact HB.out)⟩

/-! ### impl_allIn: function 105 (by hand) -/
def impl_allIn.f (l0 : List Int) (a1 a2 : Int) : Option (Bool) := some (l0.all fun n => decide (a1 ≤ n ∧ n ≤ a2))
set_option maxHeartbeats 8000000 in
set_option maxRecDepth 100000 in
theorem impl_allIn.calls (A0 : Option Addr) (c0 : Nat) (l0 : List Int) (a1 : Int) (a2 : Int) (r : Bool) (w : World) (hr0 : Kd.C (Kd.int .i64) w A0 l0.length l0) (hc0 : l0.length ≤ c0) (h : impl_allIn.f l0 a1 a2 = some r) :
    Calls Try.prog 105 #[.slice A0 l0.length c0, .int .i64 a1, .int .i64 a2] w fun e w' => e = .returned (.bool r) ∧ Below w.heap.size w w' := by
  have eg : ∀ args w, (callFunc 131 args).run Try.prog w = .ok (.enter 131 args) w := enters_of Try.func131 (by kernel_rfl) rfl
  have hr : r = !(l0.any fun n => !decide (a1 ≤ n ∧ n ≤ a2)) := by
    have := (Option.some.inj h).symm
    rw [this]; simp [List.all_eq_not_any_not]
  clear h
  have HR0 := Aside0.mk hr0
  clear hr0
  have HB := Aside0.mk (Below.refl w.heap.size w)
  have HCON : Aside0 (∀ (W : World) (B1 B2 : Nat), Below w.heap.size w W → B1 < W.heap.size → B2 < W.heap.size → W.cell? ⟨B1, 0, none⟩ = some (.int .i64 a1) → W.cell? ⟨B2, 0, none⟩ = some (.int .i64 a2) →
      Calls Try.prog 114 #[.slice A0 l0.length c0, .func (.func 131) #[] #[.pointer (some ⟨B1, 0, none⟩), .pointer (some ⟨B2, 0, none⟩)]] W fun e w' => e = .returned (.bool (!r)) ∧ Below w.heap.size w w') := by
    refine ⟨fun W B1 B2 hb l1 l2 h1 h2 => ?_⟩
    have hq := conFuncI.calls 131 #[.pointer (some ⟨B1, 0, none⟩), .pointer (some ⟨B2, 0, none⟩)] (fun n => !decide (a1 ≤ n ∧ n ≤ a2)) eg A0 c0 l0 W (Kd.C_below HR0.out hb) (fun W' x _ hb' => by
      have c1 := (hb'.cell (p := ⟨B1, 0, none⟩) l1).trans h1
      have c2 := (hb'.cell (p := ⟨B2, 0, none⟩) l2).trans h2
      refine (impl_allIn_1.calls B1 B2 x a1 a2 W' c1 c2).mono ?_
      rintro e w' ⟨rfl, hb2⟩
      exact ⟨rfl, below_then hb' hb'.size hb2⟩)
    refine hq.mono ?_
    rintro e w' ⟨rfl, hb2⟩
    exact ⟨by rw [hr, Bool.not_not], below_then hb hb.size hb2⟩
  clear hr
  go_enter Try.func105, Try.ntmps105
  go_wp2_with (go_at_call 114; refine Calls.mono (R := fun e w2 => e = .returned (.bool (!r)) ∧ Below w.heap.size w w2) ?zc ?zm; (case zc => refine HCON.out _ _ _ ?_ ?_ ?_ ?_ ?_; (all_goals first | (simp; done) | (simp; omega) | (repeat (first | (with_reducible first | exact HB.out | apply below_alloc | apply pw_below_drewN | apply below_drew1) | exact HB.out)))); rintro e w' ⟨rfl, hb'⟩)
  go_ret
  exact ⟨by first | rfl | simp, hb'⟩

end Go.Proofs.Ytnlioefgpgamdaa.Q
