/- The law FnBakeries: for every input that its row speaks of, the call returns true and each argument reads afterwards as before; no further conditions. (The file is written by wip/x/lawp.py of this repository.) -/
import Derived.Test.YtlhcphoojiemmaaRows
import Derived.Test.YtlhcphoojiemmaaPureFnBakeries
import Derived.WalkKit
import Derived.ProofKit
import Derived.OpenShut
import Derived.ShutString
import Derived.ChangeOld
import Derived.Below
import Derived.SizedLaws
import Derived.Deep.Slices
import Derived.ChangeArms
import Derived.Carry
namespace Go.Proofs.Ytlhcphoojiemmaa.fnBakeries
open Go Go.ChangeShapes Go.WideShapes Go.ChangeAt Go.RowKit Go.Proofs.YtlhcphoojiemmaaX
set_option linter.unusedVariables false
theorem own : ownKnob Try.prog.godebug = none := by kernel_rfl
theorem laidOut : laidOutB Try.prog = true := by kernel_rfl
set_option maxRecDepth 100000 in
theorem lifted (os : Os) (started : os.Started) (H : Type) (enc : TypeId × Value → H) :
    ReturnsInHanded {} Try.checked os 4 .any (Rows.fnBakeriesSpec.pre6 enc Try.prog Try.f4 Rows.fnBakeriesRow.domain false) (Rows.fnBakeriesSpec.post enc Try.prog Try.f4 false true false false) := by
  refine returnsInHanded_of_change_sized (C := Try.checked) own started (by kernel_rfl) Try.func4
    (ChangeSpec.witness6 (enc := enc) (C := Try.checked) false ⟨#[], #[.slice none 0 0], []⟩ 8 (by kernel_rfl) (by kernel_rfl) (by kernel_rfl) (by kernel_rfl)) ?_
  intro W base args ds gs before hval0 hW hcnd hsz0 _
  have hval : ∀ (j : Nat) t v, Try.f4.params[j]? = some t → args[j]? = some v → Value.okWide Try.prog W .any base t v := hval0
  have hW' := hW
  obtain ⟨p, q, hA0, hV, rfl, hfz, hnd⟩ := hW
  have hA : DataW.TrodAll enc Try.prog W 0 (fun _ => true) true Try.f4.params.toList args.toList ds p := hA0
  rw [Try.params4] at hA hval
  obtain ⟨v0, vs0, d0, ds0, p0, q0, hargs, rfl, rfl, h0, r0⟩ := trodAll_cons hA
  obtain ⟨rfl, rfl, rfl⟩ := trodAll_nil r0
  obtain rfl : args = #[v0] := by cases args; simp_all
  obtain ⟨rfl, rfl⟩ := trodVars_none hV
  obtain ⟨A0, n0, c0, rfl⟩ := okWide_slice Try.underlying22 (hval 0 22 v0 rfl rfl)
  have k0 := h0
  obtain ⟨fu0, hf0⟩ := h0
  obtain ⟨y0, hK0, ok0⟩ := (told_slice (k := K.ku8) Try.underlying22 (by kernel_rfl) (fun y => ⟨rfl, rfl⟩) (told_u8 Try.underlying5)) _ _ _ _ _ _ hf0
  have L0 := laysA_sc (hK0 0)
  have lt0 : ∀ x ∈ p0, x.block < W.heap.size := by obtain ⟨m, hm⟩ := k0; exact DataW.trod_lt m _ _ _ hm
  clear hA0 hval0 hsz0
  obtain ⟨k, h⟩ := Pure.FnBakeries y0 ok0
  obtain ⟨r, hr, hre⟩ := laws_FnBakeries_ok k (laws_FnBakeries_A y0) Rs some ⟨.a (.sc (.v (.bool true))), List.replicate 1 .dead⟩ (by show (laws_FnBakeries k y0).bind _ = _; rw [h]; rfl)
  cases hre
  have HA : LaysA W 0 (laws_FnBakeries_A y0).avs (laws_FnBakeries_A y0).bl (#[.slice A0 n0 c0] : Array Value).toList := (laysA_app (m := 1) L0 rfl laysA_nil)
  refine (law_ok hr HA).mono fun e W' ⟨he, bel⟩ => ?_
  subst he
  exact ⟨_, rfl, _, _, _, [], _, [], hW', trodAll_mk1 (shut_bool Try.underlying4 _), (trodAll_cons_mk (Below.trod laidOut (by kernel_rfl) (of_decide_eq_true (by kernel_rfl)) k0 bel lt0) trodAll_mk0), rfl, bel.frame _, fun h => by cases h⟩
theorem over : Rows.fnBakeriesRow.holds Try.pinned (OpenSpec.ofChange Rows.fnBakeriesSpec) :=
  OpenClaim.holds_of_wide 4 Try.f4 rfl rfl rfl rfl rfl rfl rfl ⟨rfl, rfl, rfl, rfl, rfl⟩ rfl rfl rfl rfl rfl (by kernel_rfl) Try.func4 (by kernel_rfl)
    (of_decide_eq_true (by kernel_rfl)) (by unfold Func.isWrapper; first | (rw [if_pos (by decide +kernel)]; kernel_rfl) | (rw [if_neg (by decide +kernel)]; exact ⟨rfl, rfl⟩))
    (fun os started H enc _ => lifted os started H enc)
theorem proved : Rows.FnBakeriesSaid := over
#print axioms proved
end Go.Proofs.Ytlhcphoojiemmaa.fnBakeries
namespace Go.Proofs.Ytlhcphoojiemmaa
/-- The row, under a short name, for the claim. -/
theorem fnBakeries_holds : Rows.FnBakeriesSaid := fnBakeries.proved
end Go.Proofs.Ytlhcphoojiemmaa
