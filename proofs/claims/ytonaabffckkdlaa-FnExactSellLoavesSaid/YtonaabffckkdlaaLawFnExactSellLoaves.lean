/- The law FnExactSellLoaves: for every input that its row speaks of, the call returns true and each argument reads afterwards as before; no further conditions. (The file is written by wip/x/lawp.py of this repository.) -/
import Derived.Test.YtonaabffckkdlaaRows
import Derived.Test.YtonaabffckkdlaaPureFnExactSellLoaves
import Derived.WalkKit
import Derived.ProofKit
import Derived.OpenShut
import Derived.ShutString
import Derived.ChangeOld
import Derived.Below
import Derived.SizedLaws
import Derived.Deep.Slices
import Derived.ChangeArms
import Derived.Carry
namespace Go.Proofs.Ytonaabffckkdlaa.fnExactSellLoaves
open Go Go.ChangeShapes Go.WideShapes Go.ChangeAt Go.RowKit Go.Proofs.YtonaabffckkdlaaX
set_option linter.unusedVariables false
theorem own : ownKnob Try.prog.godebug = none := by kernel_rfl
theorem laidOut : laidOutB Try.prog = true := by kernel_rfl
set_option maxRecDepth 100000 in
theorem lifted (os : Os) (started : os.Started) (H : Type) (enc : TypeId × Value → H) :
    ReturnsInHanded {} Try.checked os 11 .any (Rows.fnExactSellLoavesSpec.pre6 enc Try.prog Try.f11 Rows.fnExactSellLoavesRow.domain false) (Rows.fnExactSellLoavesSpec.post enc Try.prog Try.f11 false true false false) := by
  refine returnsInHanded_of_change_sized (C := Try.checked) own started (by kernel_rfl) Try.func11
    (ChangeSpec.witness6 (enc := enc) (C := Try.checked) false ⟨#[], #[.agg #[.slice none 0 0, .int .i64 0, .int .i64 0, .int .i64 0, .int .i64 0, .int .i64 0, .slice none 0 0, .int .i64 0, .int .i64 0, .int .i64 0, .int .i64 0, .int .i64 0, .int .i64 0, .int .i64 0], .int .i64 0, .bool false], []⟩ 8 (by kernel_rfl) (by kernel_rfl) (by kernel_rfl) (by kernel_rfl)) ?_
  intro W base args ds gs before hval0 hW hcnd hsz0 _
  have hval : ∀ (j : Nat) t v, Try.f11.params[j]? = some t → args[j]? = some v → Value.okWide Try.prog W .any base t v := hval0
  have hW' := hW
  obtain ⟨p, q, hA0, hV, rfl, hfz, hnd⟩ := hW
  have hA : DataW.TrodAll enc Try.prog W 0 (fun _ => true) true Try.f11.params.toList args.toList ds p := hA0
  rw [Try.params11] at hA hval
  obtain ⟨v0, vs0, d0, ds0, p0, q0, hargs, rfl, rfl, h0, r0⟩ := trodAll_cons hA
  obtain ⟨v1, vs1, d1, ds1, p1, q1, rfl, rfl, rfl, h1, r1⟩ := trodAll_cons r0
  obtain ⟨v2, vs2, d2, ds2, p2, q2, rfl, rfl, rfl, h2, r2⟩ := trodAll_cons r1
  obtain ⟨rfl, rfl, rfl⟩ := trodAll_nil r2
  obtain rfl : args = #[v0, v1, v2] := by cases args; simp_all
  obtain ⟨rfl, rfl⟩ := trodVars_none hV
  obtain ⟨cs0, rfl, _⟩ := okWide_struct Try.underlying52 (hval 0 52 v0 rfl rfl)
  have k0 := h0
  obtain ⟨fu0, hf0⟩ := h0
  obtain ⟨y0, hK0, ok0⟩ := told52 _ _ _ _ _ _ hf0
  have L0 := laysA_ag (hK0 0)
  have lt0 : ∀ x ∈ p0, x.block < W.heap.size := by obtain ⟨m, hm⟩ := k0; exact DataW.trod_lt m _ _ _ hm
  obtain ⟨m1, rfl⟩ := okWide_int Try.underlying3 (hval 1 3 v1 rfl rfl)
  have k1 := h1
  obtain ⟨fu1, hf1⟩ := h1
  obtain ⟨y1, hK1, ok1⟩ := (told_int Try.underlying3) _ _ _ _ _ _ hf1
  have L1 := laysA_sc (hK1 2)
  have lt1 : ∀ x ∈ p1, x.block < W.heap.size := by obtain ⟨m, hm⟩ := k1; exact DataW.trod_lt m _ _ _ hm
  obtain ⟨m2, rfl⟩ := okWide_bool Try.underlying4 (hval 2 4 v2 rfl rfl)
  have k2 := h2
  obtain ⟨fu2, hf2⟩ := h2
  obtain ⟨y2, hK2, ok2⟩ := (told_bool Try.underlying4) _ _ _ _ _ _ hf2
  have L2 := laysA_sc (hK2 2)
  have lt2 : ∀ x ∈ p2, x.block < W.heap.size := by obtain ⟨m, hm⟩ := k2; exact DataW.trod_lt m _ _ _ hm
  clear hA0 hval0 hsz0
  obtain ⟨k, h⟩ := Pure.FnExactSellLoaves y0 y1 y2 ok0 ok1 ok2
  obtain ⟨r, hr, hre⟩ := laws_FnExactSellLoaves_ok k (laws_FnExactSellLoaves_A y0 y1 y2) Rs some ⟨.a (.sc (.v (.bool true))), List.replicate 2 .dead⟩ (by show (laws_FnExactSellLoaves k y0 y1 y2).bind _ = _; rw [h]; rfl)
  cases hre
  have HA : LaysA W 0 (laws_FnExactSellLoaves_A y0 y1 y2).avs (laws_FnExactSellLoaves_A y0 y1 y2).bl (#[.agg cs0, .int .i64 m1, .bool m2] : Array Value).toList := (laysA_app (m := 2) L0 rfl (laysA_app (m := 2) L1 rfl (laysA_app (m := 2) L2 rfl laysA_nil)))
  refine (law_ok hr HA).mono fun e W' ⟨he, bel⟩ => ?_
  subst he
  exact ⟨_, rfl, _, _, _, [], _, [], hW', trodAll_mk1 (shut_bool Try.underlying4 _), (trodAll_cons_mk (Below.trod laidOut (by kernel_rfl) (of_decide_eq_true (by kernel_rfl)) k0 bel lt0) (trodAll_cons_mk (Below.trod laidOut (by kernel_rfl) (of_decide_eq_true (by kernel_rfl)) k1 bel lt1) (trodAll_cons_mk (Below.trod laidOut (by kernel_rfl) (of_decide_eq_true (by kernel_rfl)) k2 bel lt2) trodAll_mk0))), rfl, bel.frame _, fun h => by cases h⟩
theorem over : Rows.fnExactSellLoavesRow.holds Try.pinned (OpenSpec.ofChange Rows.fnExactSellLoavesSpec) :=
  OpenClaim.holds_of_wide 11 Try.f11 rfl rfl rfl rfl rfl rfl rfl ⟨rfl, rfl, rfl, rfl, rfl⟩ rfl rfl rfl rfl rfl (by kernel_rfl) Try.func11 (by kernel_rfl)
    (of_decide_eq_true (by kernel_rfl)) (by unfold Func.isWrapper; first | (rw [if_pos (by decide +kernel)]; kernel_rfl) | (rw [if_neg (by decide +kernel)]; exact ⟨rfl, rfl⟩))
    (fun os started H enc _ => lifted os started H enc)
theorem proved : Rows.FnExactSellLoavesSaid := over
#print axioms proved
end Go.Proofs.Ytonaabffckkdlaa.fnExactSellLoaves
namespace Go.Proofs.Ytonaabffckkdlaa
/-- The row, under a short name, for the claim. -/
theorem fnExactSellLoaves_holds : Rows.FnExactSellLoavesSaid := fnExactSellLoaves.proved
end Go.Proofs.Ytonaabffckkdlaa
