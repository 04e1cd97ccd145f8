/- Acts: what one act does to a bakery, and what many do; lists of numbers compared. -/
import Derived.Test.YtfbnbdcjnbgibaaGreatDoorPA1
import Derived.Test.YtfbnbdcjnbgibaaGreatDoorPB3
namespace Go.Proofs.YtfbnbdcjnbgibaaGreatDoorX
open Go
set_option linter.unusedVariables false
noncomputable def runI (k m : Nat) (b0 : Bakery) (acts : List Deed) (i : Int) (b : Bakery) (L : List Int) : Option (Bakery × List Int) := impl_RunActs_l0 k m b0 acts i b.Stock.Grams b.Book.Events b.Dough.Water b.Dough.Salt b.Dough.Leaven b.Loaf.Weight b.Loaf.Loss b.Book.Rack.Fresh b.Book.Rack.Day b.Book.Rack.Old b.Book.Baked b.Book.Sold b.Book.Thrown b.Money L
theorem runI_end (k m : Nat) (b0 b : Bakery) (A : List Deed) (L : List Int) : runI k m b0 (A ++ []) (A.length : Int) b L = some (b, L) := by
  unfold runI
  cases m <;> (unfold impl_RunActs_l0 impl_RunActs_s0; rw [lt_end]; rfl)
theorem runI_step (k m : Nat) (b0 b : Bakery) (A B : List Deed) (a : Deed) (L : List Int) (r : Bakery × Int) (hA : A.length ≤ 4194304) (hL : L.length ≤ 4194304) (h : impl_DoAct k b a = some r) : runI k (m + 1) b0 (A ++ a :: B) (A.length : Int) b L = runI k m b0 ((A ++ [a]) ++ B) ((A ++ [a]).length : Int) r.1 (L ++ [r.2]) := by
  rw [← app_mid A a B]
  unfold runI
  show impl_RunActs_s0 k b0 (A ++ a :: B) (impl_RunActs_l0 k m b0 (A ++ a :: B)) (A.length : Int) b.Stock.Grams b.Book.Events b.Dough.Water b.Dough.Salt b.Dough.Leaven b.Loaf.Weight b.Loaf.Loss b.Book.Rack.Fresh b.Book.Rack.Day b.Book.Rack.Old b.Book.Baked b.Book.Sold b.Book.Thrown b.Money L = _
  unfold impl_RunActs_s0
  rw [lt_mid, if_pos ((g_mid A a B).mpr trivial), getD_mid]
  have e : impl_DoAct k (⟨⟨b.Stock.Grams⟩, ⟨b.Dough.Water, b.Dough.Salt, b.Dough.Leaven⟩, ⟨b.Loaf.Weight, b.Loaf.Loss⟩, ⟨b.Book.Events, ⟨b.Book.Rack.Fresh, b.Book.Rack.Day, b.Book.Rack.Old⟩, b.Book.Baked, b.Book.Sold, b.Book.Thrown⟩, b.Money⟩ : Bakery) a = some r := h
  rw [e, Option.bind_some, if_pos (by simp [maxRow]; omega), wr_suc A a (by omega)]; rfl
end Go.Proofs.YtfbnbdcjnbgibaaGreatDoorX
