/- The law FnExactBakeLoaves: for every input that its row speaks of, the call returns true and each argument reads afterwards as before; no further conditions. (The file is written by wip/x/lawp.py of this repository.) -/
import Derived.Test.YtonaabffckkdlaaRows
import Derived.Test.YtonaabffckkdlaaPureFnExactBakeLoaves
import Derived.WalkKit
import Derived.ProofKit
import Derived.OpenShut
import Derived.ShutString
import Derived.ChangeOld
import Derived.Below
import Derived.SizedLaws
import Derived.Deep.Slices
import Derived.ChangeArms
import Derived.Carry
namespace Go.Proofs.Ytonaabffckkdlaa.fnExactBakeLoaves
open Go Go.ChangeShapes Go.WideShapes Go.ChangeAt Go.RowKit Go.Proofs.YtonaabffckkdlaaX
set_option linter.unusedVariables false
theorem own : ownKnob Try.prog.godebug = none := by kernel_rfl
theorem laidOut : laidOutB Try.prog = true := by kernel_rfl
set_option maxRecDepth 100000 in
theorem lifted (os : Os) (started : os.Started) (H : Type) (enc : TypeId × Value → H) :
    ReturnsInHanded {} Try.checked os 12 .any (Rows.fnExactBakeLoavesSpec.pre6 enc Try.prog Try.f12 Rows.fnExactBakeLoavesRow.domain false) (Rows.fnExactBakeLoavesSpec.post enc Try.prog Try.f12 false true false false) := by
  refine returnsInHanded_of_change_sized (C := Try.checked) own started (by kernel_rfl) Try.func12
    (ChangeSpec.witness6 (enc := enc) (C := Try.checked) false ⟨#[], #[.agg #[.slice none 0 0, .int .i64 0, .int .i64 0, .int .i64 0, .int .i64 0, .int .i64 0, .slice none 0 0, .int .i64 0, .int .i64 0, .int .i64 0, .int .i64 0, .int .i64 0, .int .i64 0, .int .i64 0], .int .i64 0], []⟩ 8 (by kernel_rfl) (by kernel_rfl) (by kernel_rfl) (by kernel_rfl)) ?_
  intro W base args ds gs before hval0 hW hcnd hsz0 _
  have hval : ∀ (j : Nat) t v, Try.f12.params[j]? = some t → args[j]? = some v → Value.okWide Try.prog W .any base t v := hval0
  have hW' := hW
  obtain ⟨p, q, hA0, hV, rfl, hfz, hnd⟩ := hW
  have hA : DataW.TrodAll enc Try.prog W 0 (fun _ => true) true Try.f12.params.toList args.toList ds p := hA0
  rw [Try.params12] at hA hval
  obtain ⟨v0, vs0, d0, ds0, p0, q0, hargs, rfl, rfl, h0, r0⟩ := trodAll_cons hA
  obtain ⟨v1, vs1, d1, ds1, p1, q1, rfl, rfl, rfl, h1, r1⟩ := trodAll_cons r0
  obtain ⟨rfl, rfl, rfl⟩ := trodAll_nil r1
  obtain rfl : args = #[v0, v1] := by cases args; simp_all
  obtain ⟨rfl, rfl⟩ := trodVars_none hV
  obtain ⟨cs0, rfl, _⟩ := okWide_struct Try.underlying52 (hval 0 52 v0 rfl rfl)
  have k0 := h0
  obtain ⟨fu0, hf0⟩ := h0
  obtain ⟨y0, hK0, ok0⟩ := told52 _ _ _ _ _ _ hf0
  have L0 := laysA_ag (hK0 0)
  have lt0 : ∀ x ∈ p0, x.block < W.heap.size := by obtain ⟨m, hm⟩ := k0; exact DataW.trod_lt m _ _ _ hm
  obtain ⟨m1, rfl⟩ := okWide_int Try.underlying3 (hval 1 3 v1 rfl rfl)
  have k1 := h1
  obtain ⟨fu1, hf1⟩ := h1
  obtain ⟨y1, hK1, ok1⟩ := (told_int Try.underlying3) _ _ _ _ _ _ hf1
  have L1 := laysA_sc (hK1 2)
  have lt1 : ∀ x ∈ p1, x.block < W.heap.size := by obtain ⟨m, hm⟩ := k1; exact DataW.trod_lt m _ _ _ hm
  clear hA0 hval0 hsz0
  obtain ⟨k, h⟩ := Pure.FnExactBakeLoaves y0 y1 ok0 ok1
  obtain ⟨r, hr, hre⟩ := laws_FnExactBakeLoaves_ok k (laws_FnExactBakeLoaves_A y0 y1) Rs some ⟨.a (.sc (.v (.bool true))), List.replicate 2 .dead⟩ (by show (laws_FnExactBakeLoaves k y0 y1).bind _ = _; rw [h]; rfl)
  cases hre
  have HA : LaysA W 0 (laws_FnExactBakeLoaves_A y0 y1).avs (laws_FnExactBakeLoaves_A y0 y1).bl (#[.agg cs0, .int .i64 m1] : Array Value).toList := (laysA_app (m := 2) L0 rfl (laysA_app (m := 2) L1 rfl laysA_nil))
  refine (law_ok hr HA).mono fun e W' ⟨he, bel⟩ => ?_
  subst he
  exact ⟨_, rfl, _, _, _, [], _, [], hW', trodAll_mk1 (shut_bool Try.underlying4 _), (trodAll_cons_mk (Below.trod laidOut (by kernel_rfl) (of_decide_eq_true (by kernel_rfl)) k0 bel lt0) (trodAll_cons_mk (Below.trod laidOut (by kernel_rfl) (of_decide_eq_true (by kernel_rfl)) k1 bel lt1) trodAll_mk0)), rfl, bel.frame _, fun h => by cases h⟩
theorem over : Rows.fnExactBakeLoavesRow.holds Try.pinned (OpenSpec.ofChange Rows.fnExactBakeLoavesSpec) :=
  OpenClaim.holds_of_wide 12 Try.f12 rfl rfl rfl rfl rfl rfl rfl ⟨rfl, rfl, rfl, rfl, rfl⟩ rfl rfl rfl rfl rfl (by kernel_rfl) Try.func12 (by kernel_rfl)
    (of_decide_eq_true (by kernel_rfl)) (by unfold Func.isWrapper; first | (rw [if_pos (by decide +kernel)]; kernel_rfl) | (rw [if_neg (by decide +kernel)]; exact ⟨rfl, rfl⟩))
    (fun os started H enc _ => lifted os started H enc)
theorem proved : Rows.FnExactBakeLoavesSaid := over
#print axioms proved
end Go.Proofs.Ytonaabffckkdlaa.fnExactBakeLoaves
namespace Go.Proofs.Ytonaabffckkdlaa
/-- The row, under a short name, for the claim. -/
theorem fnExactBakeLoaves_holds : Rows.FnExactBakeLoavesSaid := fnExactBakeLoaves.proved
end Go.Proofs.Ytonaabffckkdlaa
