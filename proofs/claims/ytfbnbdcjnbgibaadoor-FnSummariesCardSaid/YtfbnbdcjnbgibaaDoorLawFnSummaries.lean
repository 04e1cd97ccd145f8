/- The law FnSummaries: for every input that its row speaks of, the call returns true and each argument reads afterwards as before; what its package-level variables hold is tied to the program's text; no further conditions. (The file is written by wip/x/lawp.py of this repository.) -/
import Derived.Test.YtfbnbdcjnbgibaaDoorRows
import Derived.Test.YtfbnbdcjnbgibaaDoorPureFnSummaries
import Derived.WalkKit
import Derived.ProofKit
import Derived.OpenShut
import Derived.ShutString
import Derived.ChangeOld
import Derived.Below
import Derived.SizedLaws
import Derived.Deep.Slices
import Derived.ChangeArms
import Derived.Carry
import Derived.Test.YtfbnbdcjnbgibaaDoorCards
import Derived.Test.YtfbnbdcjnbgibaaDoorTie
import Derived.PinnedBridge
import Derived.Lay
import Derived.LaidOnce
import Derived.SevenTiedAt
namespace Go.Proofs.YtfbnbdcjnbgibaaDoor.fnSummaries
open Go Go.ChangeShapes Go.WideShapes Go.ChangeAt Go.RowKit Go.Proofs.YtfbnbdcjnbgibaaDoorX
set_option linter.unusedVariables false
theorem own : ownKnob Tryd.prog.godebug = none := by kernel_rfl
theorem laidOut : laidOutB Tryd.prog = true := by kernel_rfl
/-- What the row says of the library's table is what the walk asks. -/
theorem tabAt {W : World} (h : laidMet Tryd.prog Rows.fnSummariesRow.laid W) : TB (fun _ => none) W := by
  obtain ⟨ps, ⟨_, _, _, _, _, _, _, _, _, _, ⟨_, _, _, _, _, _, _, _, _, _, ⟨g', t', cs, fuel, p, q, hg', ht', hvar, hd, _, _⟩, _⟩, _⟩, _⟩ := h
  have hg : Tryd.prog.globalNamed "internal/strconv.uint64pow10" = some 0 := by kernel_rfl
  obtain rfl := Option.some.inj (hg.symm.trans hg')
  obtain rfl := Option.some.inj ((show (Tryd.prog.globals[0]?).map (·.type) = some 167 by kernel_rfl).symm.trans ht')
  have e := Lib.cells_of_tab (k := .u64) (zs := Lib.pow10Tab) Tryd.underlying167 Tryd.underlying154 (by kernel_rfl) (by kernel_rfl) hd
  have hv : W.var? Tryd.prog "internal/strconv.uint64pow10" = some (Lib.pow10Tab.map fun z => Value.int .u64 z).toArray := by rw [hvar, ← e]
  unfold World.var? at hv
  rw [hg, Option.bind_some] at hv
  split at hv
  · rename_i cs' e' f' hc
    intro q hq
    have := List.mem_singleton.1 hq
    subst this
    exact ⟨rfl, e', f', by rw [hc, Option.some.inj hv]⟩
  · cases hv
set_option maxRecDepth 100000 in
theorem lifted (os : Os) (started : os.Started) (H : Type) (enc : TypeId × Value → H) :
    ReturnsInHanded {} Tryd.checked os 5 .any (fun w args => (Rows.fnSummariesSpec.pre enc Tryd.prog Tryd.f5 Rows.fnSummariesRow.domain false w args ∧ laidMetH Tryd.prog Rows.fnSummariesRow.laid w) ∧ sizedMet enc Tryd.prog Tryd.f5 (OpenSpec.ofChange Rows.fnSummariesSpec) false w args) (Rows.fnSummariesSpec.post enc Tryd.prog Tryd.f5 false true false false) := by
  refine returnsInHanded_of_change_and (C := Tryd.checked) (X := fun w _ => laidMetH Tryd.prog Rows.fnSummariesRow.laid w) (fun _ _ _ hh h => h.of_heap hh) own started (by kernel_rfl) Tryd.func5
    (ChangeSpec.witness_shaped (enc := enc) (C := Tryd.checked) (os := os) (X := fun w _ => laidMetH Tryd.prog Rows.fnSummariesRow.laid w) false (World.laidAll Tryd.prog os Rows.fnSummariesRow.laid) #[.slice none 0 0] 8 (World.laidAll_os _ _ _)
      (World.shaped_of_ZipB (by kernel_rfl) (by kernel_rfl)) (by kernel_rfl) (by kernel_rfl) (by kernel_rfl)
      (by rw [MakeChecks.laidMetH_plain _ _ _ (by kernel_rfl)]; exact laidMet_laidAll _ (by kernel_rfl) (by kernel_rfl))) ?_
  intro W base args ds gs before hval0 hW _ _ hL _
  rw [MakeChecks.laidMetH_plain _ _ _ (by kernel_rfl)] at hL
  have htb := tabAt hL
  have hval : ∀ (j : Nat) t v, Tryd.f5.params[j]? = some t → args[j]? = some v → Value.okWide Tryd.prog W .any base t v := hval0
  have hW' := hW
  obtain ⟨p, q, hA0, hV, rfl, hfz, hnd⟩ := hW
  have hA : DataW.TrodAll enc Tryd.prog W 0 (fun _ => true) true Tryd.f5.params.toList args.toList ds p := hA0
  rw [Tryd.params5] at hA hval
  obtain ⟨v0, vs0, d0, ds0, p0, q0, hargs, rfl, rfl, h0, r0⟩ := trodAll_cons hA
  obtain ⟨rfl, rfl, rfl⟩ := trodAll_nil r0
  obtain rfl : args = #[v0] := by cases args; simp_all
  obtain ⟨rfl, rfl⟩ := trodVars_none hV
  obtain ⟨A0, n0, c0, rfl⟩ := okWide_slice Tryd.underlying36 (hval 0 36 v0 rfl rfl)
  have k0 := h0
  obtain ⟨fu0, hf0⟩ := h0
  obtain ⟨y0, hK0, ok0⟩ := (told_slice (k := K.ku8) Tryd.underlying36 (by kernel_rfl) (fun y => ⟨rfl, rfl⟩) (told_u8 Tryd.underlying5)) _ _ _ _ _ _ hf0
  have L0 := laysA_sc (hK0 0)
  have lt0 : ∀ x ∈ p0, x.block < W.heap.size := by obtain ⟨m, hm⟩ := k0; exact DataW.trod_lt m _ _ _ hm
  clear hA0 hval0
  obtain ⟨k, h⟩ := Pure.FnSummaries y0 ok0
  obtain ⟨r, hr, hre⟩ := laws_FnSummaries_ok k (laws_FnSummaries_A y0) Rs some ⟨.a (.sc (.v (.bool true))), List.replicate 1 .dead⟩ (by show (laws_FnSummaries k y0).bind _ = _; rw [h]; rfl)
  cases hre
  have HA : LaysA W 0 (laws_FnSummaries_A y0).avs (laws_FnSummaries_A y0).bl (#[.slice A0 n0 c0] : Array Value).toList := (laysA_app (m := 1) L0 rfl laysA_nil)
  refine (law_ok hr htb HA).mono fun e W' ⟨he, bel⟩ => ?_
  subst he
  exact ⟨_, rfl, _, _, _, [], _, [], hW', trodAll_mk1 (shut_bool Tryd.underlying4 _), (trodAll_cons_mk (Below.trod laidOut (by kernel_rfl) (of_decide_eq_true (by kernel_rfl)) k0 bel lt0) trodAll_mk0), rfl, bel.frame _, fun h => by cases h⟩
theorem over : Rows.fnSummariesRow.holds Tryd.pinned (OpenSpec.ofChange Rows.fnSummariesSpec) :=
  OpenClaim.holds_of_wide 5 Tryd.f5 rfl rfl rfl rfl rfl rfl rfl ⟨rfl, rfl, rfl, rfl, rfl⟩ rfl rfl rfl rfl rfl (by kernel_rfl) Tryd.func5 (by kernel_rfl)
    (of_decide_eq_true (by kernel_rfl)) (by unfold Func.isWrapper; first | (rw [if_pos (by decide +kernel)]; kernel_rfl) | (rw [if_neg (by decide +kernel)]; exact ⟨rfl, rfl⟩))
    (fun os started H enc _ => lifted os started H enc)
end Go.Proofs.YtfbnbdcjnbgibaaDoor.fnSummaries
namespace Go.Proofs.YtfbnbdcjnbgibaaDoor
/-- The tied card. -/
theorem fnSummaries_holds : Rows.FnSummariesCardSaid :=
  Claim7.holds_tied_plain_at .later [] [.data, .data, .data] true (true, "8cd2826e362330e60ce9d37be10899469a8759160c4ce8739f71bfdf52b8eb49") false
    fnSummaries.over (fun _ h => by cases h) (by kernel_rfl) (fun _ h => by cases h) fnSummaries_row_tie rfl ⟨rfl, rfl⟩ (by kernel_rfl) rfl
    (fun f fn hf hfn => by
      obtain rfl : f = 5 := Option.some.inj ((show Tryd.prog.funcNamed "loop.example/g03310/laws.FnSummaries" = some 5 by kernel_rfl).symm.trans hf) |>.symm
      obtain rfl : fn = Tryd.f5 := (Option.some.inj (Tryd.func5.symm.trans hfn)).symm
      exact ⟨by kernel_rfl, fun j t ht => by
        rw [Tryd.params5] at ht
        have hm : t ∈ [36] := by simpa using Array.mem_of_getElem? ht
        have hall : ([36].all fun u => !Tryd.prog.wantsStandIn u) = true := by kernel_rfl
        exact (show Tryd.prog.wantsStandIn t = false by simpa using List.all_eq_true.1 hall t hm)⟩)
    (by kernel_rfl)
#print axioms fnSummaries_holds
end Go.Proofs.YtfbnbdcjnbgibaaDoor
