/- What the arguments of this seat's laws read as, and what is known of them. (The file is written by wip/x/lawp.py of this repository.) -/
import Derived.Test.YtlenacakmmikiaaGreatDoorX12
import Derived.Test.YtlenacakmmikiaaGreatDoorZ
import Derived.KernelRfl
namespace Go.Proofs.YtlenacakmmikiaaGreatDoorX
open Go Go.Proofs Go.RowKit Go.Deep Go.ChangeShapes
set_option linter.unusedVariables false
set_option maxRecDepth 100000
def U8 (n : Int) : Prop := 0 ≤ n ∧ n ≤ 255
theorem told_u8 {P : Program} {H : Type} {enc : TypeId × Value → H} {W : World} {t : TypeId} (ht : P.underlying t = some (.int .u8)) : Told enc P W t (fun _ (x : Int) => [.v (.int .u8 x)]) (fun _ => []) U8 := by
  intro base spare held fuel cs x h
  obtain ⟨n, rfl, _, hw⟩ := DataW.trod_int ht h
  exact ⟨n, fun _ => lays_v _, bounds_u8 hw⟩

end Go.Proofs.YtlenacakmmikiaaGreatDoorX
