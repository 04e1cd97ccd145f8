/- The law FnExactEnter: for every input that its row speaks of, the call returns true and each argument reads afterwards as before; no further conditions. (The file is written by wip/xprint.py of this repository.) -/
import Derived.Test.YtonaabffckkdlaaRows
import Derived.Test.YtonaabffckkdlaaTold
import Derived.Test.YtonaabffckkdlaaQ15
import Derived.Test.YtonaabffckkdlaaQ16
import Derived.Test.YtonaabffckkdlaaQ39
import Derived.Test.YtonaabffckkdlaaPureFnExactEnter
import Derived.WalkKit
import Derived.ProofKit
import Derived.OpenShut
import Derived.ShutString
import Derived.ChangeOld
import Derived.Below
import Derived.SizedLaws
import Derived.Deep.Slices
import Derived.ChangeArms
import Derived.Carry
namespace Go.Proofs.Ytonaabffckkdlaa.fnExactEnter
open Go.ChangeShapes Go.WideShapes Go.ChangeAt Go.RowKit Go.Proofs.Ytonaabffckkdlaa.Q Go.Proofs.YtonaabffckkdlaaW.PrintWords
open Go.ChangeMaps (open_string shut_string)
set_option linter.unusedVariables false
theorem own : ownKnob Try.prog.godebug = none := by kernel_rfl
theorem laidOut : laidOutB Try.prog = true := by kernel_rfl
theorem told_T39 {H : Type} {enc : TypeId × Value → H} {W : World} : Told.Told enc Try.prog W 39 k39 ok_T39 := by
  intro base spare held fuel cs x h
  obtain ⟨xs, n, _, _, hl0, hlen, hg⟩ := DataW.trod_struct Try.underlying39 h
  have hl : cs.length = 2 := hl0.trans (by kernel_rfl)
  have z0 : Try.prog.cellsOf 3 = 1 := by kernel_rfl
  have g0 : DataW.trod enc Try.prog W base spare held n 3 ((cs.drop 0).take (Try.prog.cellsOf 3)) = xs[0]? := hg 0 _ rfl
  rw [z0, List.getElem?_eq_getElem (show 0 < xs.length by rw [hlen]; decide)] at g0
  obtain ⟨y0, K0, o0⟩ := (Told.told_int Try.underlying3) _ _ _ _ _ _ g0
  have z1 : Try.prog.cellsOf 3 = 1 := by kernel_rfl
  have g1 : DataW.trod enc Try.prog W base spare held n 3 ((cs.drop 1).take (Try.prog.cellsOf 3)) = xs[1]? := hg 1 _ rfl
  rw [z1, List.getElem?_eq_getElem (show 1 < xs.length by rw [hlen]; decide)] at g1
  obtain ⟨y1, K1, o1⟩ := (Told.told_int Try.underlying3) _ _ _ _ _ _ g1
  rw [Told.last_ cs 1 1 hl] at K1
  exact ⟨⟨y0, y1⟩, (show k39.K W _ (cs.drop 0) from ⟨_, _, Told.cut_ cs 0 1 1 rfl, K0, K1⟩), o0, o1⟩
theorem told_T24 {H : Type} {enc : TypeId × Value → H} {W : World} : Told.Told enc Try.prog W 24 k24 ok_T24 := by
  intro base spare held fuel cs x h
  obtain ⟨xs, n, _, _, hl0, hlen, hg⟩ := DataW.trod_struct Try.underlying24 h
  have hl : cs.length = 3 := hl0.trans (by kernel_rfl)
  have z0 : Try.prog.cellsOf 3 = 1 := by kernel_rfl
  have g0 : DataW.trod enc Try.prog W base spare held n 3 ((cs.drop 0).take (Try.prog.cellsOf 3)) = xs[0]? := hg 0 _ rfl
  rw [z0, List.getElem?_eq_getElem (show 0 < xs.length by rw [hlen]; decide)] at g0
  obtain ⟨y0, K0, o0⟩ := (Told.told_int Try.underlying3) _ _ _ _ _ _ g0
  have z1 : Try.prog.cellsOf 3 = 1 := by kernel_rfl
  have g1 : DataW.trod enc Try.prog W base spare held n 3 ((cs.drop 1).take (Try.prog.cellsOf 3)) = xs[1]? := hg 1 _ rfl
  rw [z1, List.getElem?_eq_getElem (show 1 < xs.length by rw [hlen]; decide)] at g1
  obtain ⟨y1, K1, o1⟩ := (Told.told_int Try.underlying3) _ _ _ _ _ _ g1
  have z2 : Try.prog.cellsOf 3 = 1 := by kernel_rfl
  have g2 : DataW.trod enc Try.prog W base spare held n 3 ((cs.drop 2).take (Try.prog.cellsOf 3)) = xs[2]? := hg 2 _ rfl
  rw [z2, List.getElem?_eq_getElem (show 2 < xs.length by rw [hlen]; decide)] at g2
  obtain ⟨y2, K2, o2⟩ := (Told.told_int Try.underlying3) _ _ _ _ _ _ g2
  rw [Told.last_ cs 2 1 hl] at K2
  exact ⟨⟨y0, y1, y2⟩, (show k24.K W _ (cs.drop 0) from ⟨_, _, Told.cut_ cs 0 1 1 rfl, K0, ⟨_, _, Told.cut_ cs 1 1 2 rfl, K1, K2⟩⟩), o0, o1, o2⟩
theorem told_T26 {H : Type} {enc : TypeId × Value → H} {W : World} : Told.Told enc Try.prog W 26 k26 ok_T26 := by
  intro base spare held fuel cs x h
  obtain ⟨xs, n, _, _, hl0, hlen, hg⟩ := DataW.trod_struct Try.underlying26 h
  have hl : cs.length = 7 := hl0.trans (by kernel_rfl)
  have z0 : Try.prog.cellsOf 22 = 1 := by kernel_rfl
  have g0 : DataW.trod enc Try.prog W base spare held n 22 ((cs.drop 0).take (Try.prog.cellsOf 22)) = xs[0]? := hg 0 _ rfl
  rw [z0, List.getElem?_eq_getElem (show 0 < xs.length by rw [hlen]; decide)] at g0
  obtain ⟨y0, K0, o0⟩ := (Told.told_slice Try.underlying22 (by kernel_rfl) told_T39) _ _ _ _ _ _ g0
  have z1 : Try.prog.cellsOf 24 = 3 := by kernel_rfl
  have g1 : DataW.trod enc Try.prog W base spare held n 24 ((cs.drop 1).take (Try.prog.cellsOf 24)) = xs[1]? := hg 1 _ rfl
  rw [z1, List.getElem?_eq_getElem (show 1 < xs.length by rw [hlen]; decide)] at g1
  obtain ⟨y1, K1, o1⟩ := told_T24 _ _ _ _ _ _ g1
  have z2 : Try.prog.cellsOf 3 = 1 := by kernel_rfl
  have g2 : DataW.trod enc Try.prog W base spare held n 3 ((cs.drop 4).take (Try.prog.cellsOf 3)) = xs[2]? := hg 2 _ rfl
  rw [z2, List.getElem?_eq_getElem (show 2 < xs.length by rw [hlen]; decide)] at g2
  obtain ⟨y2, K2, o2⟩ := (Told.told_int Try.underlying3) _ _ _ _ _ _ g2
  have z3 : Try.prog.cellsOf 3 = 1 := by kernel_rfl
  have g3 : DataW.trod enc Try.prog W base spare held n 3 ((cs.drop 5).take (Try.prog.cellsOf 3)) = xs[3]? := hg 3 _ rfl
  rw [z3, List.getElem?_eq_getElem (show 3 < xs.length by rw [hlen]; decide)] at g3
  obtain ⟨y3, K3, o3⟩ := (Told.told_int Try.underlying3) _ _ _ _ _ _ g3
  have z4 : Try.prog.cellsOf 3 = 1 := by kernel_rfl
  have g4 : DataW.trod enc Try.prog W base spare held n 3 ((cs.drop 6).take (Try.prog.cellsOf 3)) = xs[4]? := hg 4 _ rfl
  rw [z4, List.getElem?_eq_getElem (show 4 < xs.length by rw [hlen]; decide)] at g4
  obtain ⟨y4, K4, o4⟩ := (Told.told_int Try.underlying3) _ _ _ _ _ _ g4
  rw [Told.last_ cs 6 1 hl] at K4
  exact ⟨⟨y0, y1, y2, y3, y4⟩, (show k26.K W _ (cs.drop 0) from ⟨_, _, Told.cut_ cs 0 1 1 rfl, K0, ⟨_, _, Told.cut_ cs 1 3 4 rfl, K1, ⟨_, _, Told.cut_ cs 4 1 5 rfl, K2, ⟨_, _, Told.cut_ cs 5 1 6 rfl, K3, K4⟩⟩⟩⟩), o0, o1, o2, o3, o4⟩
set_option maxRecDepth 100000 in
theorem lifted (os : Os) (started : os.Started) (H : Type) (enc : TypeId × Value → H) :
    ReturnsInHanded {} Try.checked os 4 .any (Rows.fnExactEnterSpec.pre6 enc Try.prog Try.f4 Rows.fnExactEnterRow.domain false) (Rows.fnExactEnterSpec.post enc Try.prog Try.f4 false true false false) := by
  refine returnsInHanded_of_change_sized (C := Try.checked) own started (by kernel_rfl) Try.func4
    (ChangeSpec.witness6 (enc := enc) (C := Try.checked) false ⟨#[], #[.agg #[.slice none 0 0, .int .i64 0, .int .i64 0, .int .i64 0, .int .i64 0, .int .i64 0, .int .i64 0], .agg #[.int .i64 0, .int .i64 0]], []⟩ 8 (by kernel_rfl) (by kernel_rfl) (by kernel_rfl) (by kernel_rfl)) ?_
  intro W base args ds gs before hval0 hW hcnd hsz0 _
  have hval : ∀ (j : Nat) t v, Try.f4.params[j]? = some t → args[j]? = some v → Value.okWide Try.prog W .any base t v := hval0
  have hW' := hW
  obtain ⟨p, q, hA0, hV, rfl, hfz, hnd⟩ := hW
  have hA : DataW.TrodAll enc Try.prog W 0 (fun _ => true) true Try.f4.params.toList args.toList ds p := hA0
  rw [Try.params4] at hA hval
  obtain ⟨v0, vs0, d0, ds0, p0, q0, hargs, rfl, rfl, h0, r0⟩ := trodAll_cons hA
  obtain ⟨v1, vs1, d1, ds1, p1, q1, rfl, rfl, rfl, h1, r1⟩ := trodAll_cons r0
  obtain ⟨rfl, rfl, rfl⟩ := trodAll_nil r1
  obtain rfl : args = #[v0, v1] := by cases args; simp_all
  obtain ⟨rfl, rfl⟩ := trodVars_none hV
  obtain ⟨cs0, rfl, _⟩ := okWide_struct Try.underlying26 (hval 0 26 v0 rfl rfl)
  have k0 := h0
  obtain ⟨fu0, hf0⟩ := h0
  obtain ⟨y0, hK0, ok0⟩ := told_T26 _ _ _ _ _ _ hf0
  obtain ⟨A0_0, c0_0, he0, hl0_0, hC0_0⟩ := k26_open hK0
  obtain rfl : cs0 = #[.slice A0_0 y0.f0.length c0_0, .int .i64 y0.f1.f0, .int .i64 y0.f1.f1, .int .i64 y0.f1.f2, .int .i64 y0.f2, .int .i64 y0.f3, .int .i64 y0.f4] := by have := congrArg List.toArray (show cs0.toList = [.slice A0_0 y0.f0.length c0_0, .int .i64 y0.f1.f0, .int .i64 y0.f1.f1, .int .i64 y0.f1.f2, .int .i64 y0.f2, .int .i64 y0.f3, .int .i64 y0.f4] from he0); simpa using this
  have lt0 : ∀ x ∈ p0, x.block < W.heap.size := by obtain ⟨m, hm⟩ := k0; exact DataW.trod_lt m _ _ _ hm
  obtain ⟨cs1, rfl, _⟩ := okWide_struct Try.underlying39 (hval 1 39 v1 rfl rfl)
  have k1 := h1
  obtain ⟨fu1, hf1⟩ := h1
  obtain ⟨y1, hK1, ok1⟩ := told_T39 _ _ _ _ _ _ hf1
  have he1 := k39_open hK1
  obtain rfl : cs1 = #[.int .i64 y1.f0, .int .i64 y1.f1] := by have := congrArg List.toArray (show cs1.toList = [.int .i64 y1.f0, .int .i64 y1.f1] from he1); simpa using this
  have lt1 : ∀ x ∈ p1, x.block < W.heap.size := by obtain ⟨m, hm⟩ := k1; exact DataW.trod_lt m _ _ _ hm
  clear hA0 hval0 hsz0
  obtain ⟨k, h⟩ := Pure.FnExactEnter y0.f0 y0.f1.f0 y0.f1.f1 y0.f1.f2 y0.f2 y0.f3 y0.f4 y1.f0 y1.f1 ok0 ok1
  refine (laws_FnExactEnter.calls k _ _ y0.f0 y0.f1.f0 y0.f1.f1 y0.f1.f2 y0.f2 y0.f3 y0.f4 y1.f0 y1.f1 true W hC0_0 hl0_0 h).mono fun e W' ⟨he, bel0⟩ => ?_
  have bel : Below W.heap.size W W' := bel0
  subst he
  exact ⟨_, rfl, _, _, _, [], _, [], hW', trodAll_mk1 (shut_bool Try.underlying4 _), (trodAll_cons_mk (Below.trod laidOut (by kernel_rfl) (of_decide_eq_true (by kernel_rfl)) k0 bel lt0) (trodAll_cons_mk (Below.trod laidOut (by kernel_rfl) (of_decide_eq_true (by kernel_rfl)) k1 bel lt1) trodAll_mk0)), rfl, bel.frame _, fun h => by cases h⟩
theorem over : Rows.fnExactEnterRow.holds Try.pinned (OpenSpec.ofChange Rows.fnExactEnterSpec) :=
  OpenClaim.holds_of_wide 4 Try.f4 rfl rfl rfl rfl rfl rfl rfl ⟨rfl, rfl, rfl, rfl, rfl⟩ rfl rfl rfl rfl rfl (by kernel_rfl) Try.func4 (by kernel_rfl)
    (of_decide_eq_true (by kernel_rfl)) (by unfold Func.isWrapper; first | (rw [if_pos (by decide +kernel)]; kernel_rfl) | (rw [if_neg (by decide +kernel)]; exact ⟨rfl, rfl⟩))
    (fun os started H enc _ => lifted os started H enc)
theorem proved : Rows.FnExactEnterSaid := over
#print axioms proved
end Go.Proofs.Ytonaabffckkdlaa.fnExactEnter
namespace Go.Proofs.Ytonaabffckkdlaa
/-- The row, under a short name, for the claim. -/
theorem fnExactEnter_holds : Rows.FnExactEnterSaid := fnExactEnter.proved
end Go.Proofs.Ytonaabffckkdlaa
