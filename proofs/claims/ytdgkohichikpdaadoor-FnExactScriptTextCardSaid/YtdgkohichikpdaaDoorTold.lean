/- What the arguments of this seat's laws read as, and what is known of them. (The file is written by wip/x/lawp.py of this repository.) -/
import Derived.Test.YtdgkohichikpdaaDoorX12
import Derived.Test.YtdgkohichikpdaaDoorZ
import Derived.KernelRfl
namespace Go.Proofs.YtdgkohichikpdaaDoorX
open Go Go.Proofs Go.RowKit Go.Deep Go.ChangeShapes
set_option linter.unusedVariables false
set_option maxRecDepth 100000
def U8 (n : Int) : Prop := 0 ≤ n ∧ n ≤ 255
theorem told_u8 {P : Program} {H : Type} {enc : TypeId × Value → H} {W : World} {t : TypeId} (ht : P.underlying t = some (.int .u8)) : Told enc P W t (fun _ (x : Int) => [.v (.int .u8 x)]) (fun _ => []) U8 := by
  intro base spare held fuel cs x h
  obtain ⟨n, rfl, _, hw⟩ := DataW.trod_int ht h
  exact ⟨n, fun _ => lays_v _, bounds_u8 hw⟩
structure OkDeed (x : Deed) : Prop where
  Kind : I64 x.Kind
  A : I64 x.A
  B : I64 x.B
def lv35 (n : Nat) (x : Deed) : List Sc := [(.v (.int .i64 x.Kind)), (.v (.int .i64 x.A)), (.v (.int .i64 x.B))]
def bv35 (x : Deed) : List Blk := []
theorem told35 {H : Type} {enc : TypeId × Value → H} {W : World} : Told enc Tryd.prog W 35 lv35 bv35 OkDeed := by
  intro base spare held fuel cs x h
  obtain ⟨xs, n, _, _, hl0, hlen, hg⟩ := DataW.trod_struct Tryd.underlying35 h
  have hl : cs.length = 3 := hl0.trans (by kernel_rfl)
  have z0 : Tryd.prog.cellsOf 3 = 1 := by kernel_rfl
  have g0 : DataW.trod enc Tryd.prog W base spare held n 3 ((cs.drop 0).take (Tryd.prog.cellsOf 3)) = xs[0]? := hg 0 _ rfl
  rw [z0, List.getElem?_eq_getElem (show 0 < xs.length by rw [hlen]; decide)] at g0
  obtain ⟨y0, K0, o0⟩ := (told_int Tryd.underlying3) _ _ _ _ _ _ g0
  have z1 : Tryd.prog.cellsOf 3 = 1 := by kernel_rfl
  have g1 : DataW.trod enc Tryd.prog W base spare held n 3 ((cs.drop 1).take (Tryd.prog.cellsOf 3)) = xs[1]? := hg 1 _ rfl
  rw [z1, List.getElem?_eq_getElem (show 1 < xs.length by rw [hlen]; decide)] at g1
  obtain ⟨y1, K1, o1⟩ := (told_int Tryd.underlying3) _ _ _ _ _ _ g1
  have z2 : Tryd.prog.cellsOf 3 = 1 := by kernel_rfl
  have g2 : DataW.trod enc Tryd.prog W base spare held n 3 ((cs.drop 2).take (Tryd.prog.cellsOf 3)) = xs[2]? := hg 2 _ rfl
  rw [z2, List.getElem?_eq_getElem (show 2 < xs.length by rw [hlen]; decide)] at g2
  obtain ⟨y2, K2, o2⟩ := (told_int Tryd.underlying3) _ _ _ _ _ _ g2
  exact ⟨⟨y0, y1, y2⟩, fun n => (show Lays W n (lv35 n _) (bv35 _) (cs.drop 0) from (lays_cut (o := 0) (s := 1) (o' := 1) (m := n) rfl (K0 n) rfl (lays_cut (o := 1) (s := 1) (o' := 2) (m := n) rfl (K1 n) rfl (lays_end (o := 2) (s := 1) hl (K2 n))))), ⟨o0, o1, o2⟩⟩
end Go.Proofs.YtdgkohichikpdaaDoorX
