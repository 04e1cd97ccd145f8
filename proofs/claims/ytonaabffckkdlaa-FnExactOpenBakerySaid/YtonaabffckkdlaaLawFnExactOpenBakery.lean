/- The law FnExactOpenBakery: for every input that its row speaks of, the call returns true and each argument reads afterwards as before; no further conditions. (The file is written by wip/x/lawp.py of this repository.) -/
import Derived.Test.YtonaabffckkdlaaRows
import Derived.Test.YtonaabffckkdlaaPureFnExactOpenBakery
import Derived.WalkKit
import Derived.ProofKit
import Derived.OpenShut
import Derived.ShutString
import Derived.ChangeOld
import Derived.Below
import Derived.SizedLaws
import Derived.Deep.Slices
import Derived.ChangeArms
import Derived.Carry
namespace Go.Proofs.Ytonaabffckkdlaa.fnExactOpenBakery
open Go Go.ChangeShapes Go.WideShapes Go.ChangeAt Go.RowKit Go.Proofs.YtonaabffckkdlaaX
set_option linter.unusedVariables false
theorem own : ownKnob Try.prog.godebug = none := by kernel_rfl
theorem laidOut : laidOutB Try.prog = true := by kernel_rfl
set_option maxRecDepth 100000 in
theorem lifted (os : Os) (started : os.Started) (H : Type) (enc : TypeId × Value → H) :
    ReturnsInHanded {} Try.checked os 7 .any (Rows.fnExactOpenBakerySpec.pre6 enc Try.prog Try.f7 Rows.fnExactOpenBakeryRow.domain false) (Rows.fnExactOpenBakerySpec.post enc Try.prog Try.f7 false true false false) := by
  refine returnsInHanded_of_change_sized (C := Try.checked) own started (by kernel_rfl) Try.func7
    (ChangeSpec.witness6 (enc := enc) (C := Try.checked) false ⟨#[], #[.slice none 0 0, .agg #[.int .i64 0, .int .i64 0, .int .i64 0], .agg #[.int .i64 0, .int .i64 0], .int .i64 0], []⟩ 8 (by kernel_rfl) (by kernel_rfl) (by kernel_rfl) (by kernel_rfl)) ?_
  intro W base args ds gs before hval0 hW hcnd hsz0 _
  have hval : ∀ (j : Nat) t v, Try.f7.params[j]? = some t → args[j]? = some v → Value.okWide Try.prog W .any base t v := hval0
  have hW' := hW
  obtain ⟨p, q, hA0, hV, rfl, hfz, hnd⟩ := hW
  have hA : DataW.TrodAll enc Try.prog W 0 (fun _ => true) true Try.f7.params.toList args.toList ds p := hA0
  rw [Try.params7] at hA hval
  obtain ⟨v0, vs0, d0, ds0, p0, q0, hargs, rfl, rfl, h0, r0⟩ := trodAll_cons hA
  obtain ⟨v1, vs1, d1, ds1, p1, q1, rfl, rfl, rfl, h1, r1⟩ := trodAll_cons r0
  obtain ⟨v2, vs2, d2, ds2, p2, q2, rfl, rfl, rfl, h2, r2⟩ := trodAll_cons r1
  obtain ⟨v3, vs3, d3, ds3, p3, q3, rfl, rfl, rfl, h3, r3⟩ := trodAll_cons r2
  obtain ⟨rfl, rfl, rfl⟩ := trodAll_nil r3
  obtain rfl : args = #[v0, v1, v2, v3] := by cases args; simp_all
  obtain ⟨rfl, rfl⟩ := trodVars_none hV
  obtain ⟨A0, n0, c0, rfl⟩ := okWide_slice Try.underlying44 (hval 0 44 v0 rfl rfl)
  have k0 := h0
  obtain ⟨fu0, hf0⟩ := h0
  obtain ⟨y0, hK0, ok0⟩ := (told_slice (k := K.ki64) Try.underlying44 (by kernel_rfl) (fun y => ⟨rfl, rfl⟩) (told_int Try.underlying3)) _ _ _ _ _ _ hf0
  have L0 := laysA_sc (hK0 0)
  have lt0 : ∀ x ∈ p0, x.block < W.heap.size := by obtain ⟨m, hm⟩ := k0; exact DataW.trod_lt m _ _ _ hm
  obtain ⟨cs1, rfl, _⟩ := okWide_struct Try.underlying48 (hval 1 48 v1 rfl rfl)
  have k1 := h1
  obtain ⟨fu1, hf1⟩ := h1
  obtain ⟨y1, hK1, ok1⟩ := told48 _ _ _ _ _ _ hf1
  have L1 := laysA_ag (hK1 1)
  have lt1 : ∀ x ∈ p1, x.block < W.heap.size := by obtain ⟨m, hm⟩ := k1; exact DataW.trod_lt m _ _ _ hm
  obtain ⟨cs2, rfl, _⟩ := okWide_struct Try.underlying50 (hval 2 50 v2 rfl rfl)
  have k2 := h2
  obtain ⟨fu2, hf2⟩ := h2
  obtain ⟨y2, hK2, ok2⟩ := told50 _ _ _ _ _ _ hf2
  have L2 := laysA_ag (hK2 1)
  have lt2 : ∀ x ∈ p2, x.block < W.heap.size := by obtain ⟨m, hm⟩ := k2; exact DataW.trod_lt m _ _ _ hm
  obtain ⟨m3, rfl⟩ := okWide_int Try.underlying3 (hval 3 3 v3 rfl rfl)
  have k3 := h3
  obtain ⟨fu3, hf3⟩ := h3
  obtain ⟨y3, hK3, ok3⟩ := (told_int Try.underlying3) _ _ _ _ _ _ hf3
  have L3 := laysA_sc (hK3 1)
  have lt3 : ∀ x ∈ p3, x.block < W.heap.size := by obtain ⟨m, hm⟩ := k3; exact DataW.trod_lt m _ _ _ hm
  clear hA0 hval0 hsz0
  obtain ⟨k, h⟩ := Pure.FnExactOpenBakery y0 y1 y2 y3 ok0 ok1 ok2 ok3
  obtain ⟨r, hr, hre⟩ := laws_FnExactOpenBakery_ok k (laws_FnExactOpenBakery_A y0 y1 y2 y3) Rs some ⟨.a (.sc (.v (.bool true))), List.replicate 1 .dead⟩ (by show (laws_FnExactOpenBakery k y0 y1 y2 y3).bind _ = _; rw [h]; rfl)
  cases hre
  have HA : LaysA W 0 (laws_FnExactOpenBakery_A y0 y1 y2 y3).avs (laws_FnExactOpenBakery_A y0 y1 y2 y3).bl (#[.slice A0 n0 c0, .agg cs1, .agg cs2, .int .i64 m3] : Array Value).toList := (laysA_app (m := 1) L0 rfl (laysA_app (m := 1) L1 rfl (laysA_app (m := 1) L2 rfl (laysA_app (m := 1) L3 rfl laysA_nil))))
  refine (law_ok hr HA).mono fun e W' ⟨he, bel⟩ => ?_
  subst he
  exact ⟨_, rfl, _, _, _, [], _, [], hW', trodAll_mk1 (shut_bool Try.underlying4 _), (trodAll_cons_mk (Below.trod laidOut (by kernel_rfl) (of_decide_eq_true (by kernel_rfl)) k0 bel lt0) (trodAll_cons_mk (Below.trod laidOut (by kernel_rfl) (of_decide_eq_true (by kernel_rfl)) k1 bel lt1) (trodAll_cons_mk (Below.trod laidOut (by kernel_rfl) (of_decide_eq_true (by kernel_rfl)) k2 bel lt2) (trodAll_cons_mk (Below.trod laidOut (by kernel_rfl) (of_decide_eq_true (by kernel_rfl)) k3 bel lt3) trodAll_mk0)))), rfl, bel.frame _, fun h => by cases h⟩
theorem over : Rows.fnExactOpenBakeryRow.holds Try.pinned (OpenSpec.ofChange Rows.fnExactOpenBakerySpec) :=
  OpenClaim.holds_of_wide 7 Try.f7 rfl rfl rfl rfl rfl rfl rfl ⟨rfl, rfl, rfl, rfl, rfl⟩ rfl rfl rfl rfl rfl (by kernel_rfl) Try.func7 (by kernel_rfl)
    (of_decide_eq_true (by kernel_rfl)) (by unfold Func.isWrapper; first | (rw [if_pos (by decide +kernel)]; kernel_rfl) | (rw [if_neg (by decide +kernel)]; exact ⟨rfl, rfl⟩))
    (fun os started H enc _ => lifted os started H enc)
theorem proved : Rows.FnExactOpenBakerySaid := over
#print axioms proved
end Go.Proofs.Ytonaabffckkdlaa.fnExactOpenBakery
namespace Go.Proofs.Ytonaabffckkdlaa
/-- The row, under a short name, for the claim. -/
theorem fnExactOpenBakery_holds : Rows.FnExactOpenBakerySaid := fnExactOpenBakery.proved
end Go.Proofs.Ytonaabffckkdlaa
