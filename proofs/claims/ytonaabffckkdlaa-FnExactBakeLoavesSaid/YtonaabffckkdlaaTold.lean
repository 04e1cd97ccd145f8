/- What the arguments of this seat's laws read as, and what is known of them. (The file is written by wip/x/lawp.py of this repository.) -/
import Derived.Test.YtonaabffckkdlaaX12
import Derived.Test.YtonaabffckkdlaaZ
import Derived.KernelRfl
namespace Go.Proofs.YtonaabffckkdlaaX
open Go Go.Proofs Go.RowKit Go.Deep Go.ChangeShapes
set_option linter.unusedVariables false
set_option maxRecDepth 100000
structure OkStock (x : Stock) : Prop where
  Grams : (OkL I64) x.Grams
structure OkDough (x : Dough) : Prop where
  Water : I64 x.Water
  Salt : I64 x.Salt
  Leaven : I64 x.Leaven
structure OkLoaf (x : Loaf) : Prop where
  Weight : I64 x.Weight
  Loss : I64 x.Loss
structure OkEvent (x : Event) : Prop where
  Kind : I64 x.Kind
  Loaves : I64 x.Loaves
structure OkRack (x : Rack) : Prop where
  Fresh : I64 x.Fresh
  Day : I64 x.Day
  Old : I64 x.Old
structure OkBook (x : Book) : Prop where
  Events : (OkL OkEvent) x.Events
  Rack : OkRack x.Rack
  Baked : I64 x.Baked
  Sold : I64 x.Sold
  Thrown : I64 x.Thrown
structure OkBakery (x : Bakery) : Prop where
  Stock : OkStock x.Stock
  Dough : OkDough x.Dough
  Loaf : OkLoaf x.Loaf
  Book : OkBook x.Book
  Money : I64 x.Money
def lv46 (n : Nat) (x : Stock) : List Sc := [(.sl n)]
def bv46 (x : Stock) : List Blk := [(.row false K.ki64 x.Grams)]
theorem told46 {H : Type} {enc : TypeId × Value → H} {W : World} : Told enc Try.prog W 46 lv46 bv46 OkStock := by
  intro base spare held fuel cs x h
  obtain ⟨xs, n, _, _, hl0, hlen, hg⟩ := DataW.trod_struct Try.underlying46 h
  have hl : cs.length = 1 := hl0.trans (by kernel_rfl)
  have z0 : Try.prog.cellsOf 44 = 1 := by kernel_rfl
  have g0 : DataW.trod enc Try.prog W base spare held n 44 ((cs.drop 0).take (Try.prog.cellsOf 44)) = xs[0]? := hg 0 _ rfl
  rw [z0, List.getElem?_eq_getElem (show 0 < xs.length by rw [hlen]; decide)] at g0
  obtain ⟨y0, K0, o0⟩ := (told_slice (k := K.ki64) Try.underlying44 (by kernel_rfl) (fun y => ⟨rfl, rfl⟩) (told_int Try.underlying3)) _ _ _ _ _ _ g0
  exact ⟨⟨y0⟩, fun n => (show Lays W n (lv46 n _) (bv46 _) (cs.drop 0) from (lays_end (o := 0) (s := 1) hl (K0 n))), ⟨o0⟩⟩
def lv48 (n : Nat) (x : Dough) : List Sc := [(.v (.int .i64 x.Water)), (.v (.int .i64 x.Salt)), (.v (.int .i64 x.Leaven))]
def bv48 (x : Dough) : List Blk := []
theorem told48 {H : Type} {enc : TypeId × Value → H} {W : World} : Told enc Try.prog W 48 lv48 bv48 OkDough := by
  intro base spare held fuel cs x h
  obtain ⟨xs, n, _, _, hl0, hlen, hg⟩ := DataW.trod_struct Try.underlying48 h
  have hl : cs.length = 3 := hl0.trans (by kernel_rfl)
  have z0 : Try.prog.cellsOf 3 = 1 := by kernel_rfl
  have g0 : DataW.trod enc Try.prog W base spare held n 3 ((cs.drop 0).take (Try.prog.cellsOf 3)) = xs[0]? := hg 0 _ rfl
  rw [z0, List.getElem?_eq_getElem (show 0 < xs.length by rw [hlen]; decide)] at g0
  obtain ⟨y0, K0, o0⟩ := (told_int Try.underlying3) _ _ _ _ _ _ g0
  have z1 : Try.prog.cellsOf 3 = 1 := by kernel_rfl
  have g1 : DataW.trod enc Try.prog W base spare held n 3 ((cs.drop 1).take (Try.prog.cellsOf 3)) = xs[1]? := hg 1 _ rfl
  rw [z1, List.getElem?_eq_getElem (show 1 < xs.length by rw [hlen]; decide)] at g1
  obtain ⟨y1, K1, o1⟩ := (told_int Try.underlying3) _ _ _ _ _ _ g1
  have z2 : Try.prog.cellsOf 3 = 1 := by kernel_rfl
  have g2 : DataW.trod enc Try.prog W base spare held n 3 ((cs.drop 2).take (Try.prog.cellsOf 3)) = xs[2]? := hg 2 _ rfl
  rw [z2, List.getElem?_eq_getElem (show 2 < xs.length by rw [hlen]; decide)] at g2
  obtain ⟨y2, K2, o2⟩ := (told_int Try.underlying3) _ _ _ _ _ _ g2
  exact ⟨⟨y0, y1, y2⟩, fun n => (show Lays W n (lv48 n _) (bv48 _) (cs.drop 0) from (lays_cut (o := 0) (s := 1) (o' := 1) (m := n) rfl (K0 n) rfl (lays_cut (o := 1) (s := 1) (o' := 2) (m := n) rfl (K1 n) rfl (lays_end (o := 2) (s := 1) hl (K2 n))))), ⟨o0, o1, o2⟩⟩
def lv50 (n : Nat) (x : Loaf) : List Sc := [(.v (.int .i64 x.Weight)), (.v (.int .i64 x.Loss))]
def bv50 (x : Loaf) : List Blk := []
theorem told50 {H : Type} {enc : TypeId × Value → H} {W : World} : Told enc Try.prog W 50 lv50 bv50 OkLoaf := by
  intro base spare held fuel cs x h
  obtain ⟨xs, n, _, _, hl0, hlen, hg⟩ := DataW.trod_struct Try.underlying50 h
  have hl : cs.length = 2 := hl0.trans (by kernel_rfl)
  have z0 : Try.prog.cellsOf 3 = 1 := by kernel_rfl
  have g0 : DataW.trod enc Try.prog W base spare held n 3 ((cs.drop 0).take (Try.prog.cellsOf 3)) = xs[0]? := hg 0 _ rfl
  rw [z0, List.getElem?_eq_getElem (show 0 < xs.length by rw [hlen]; decide)] at g0
  obtain ⟨y0, K0, o0⟩ := (told_int Try.underlying3) _ _ _ _ _ _ g0
  have z1 : Try.prog.cellsOf 3 = 1 := by kernel_rfl
  have g1 : DataW.trod enc Try.prog W base spare held n 3 ((cs.drop 1).take (Try.prog.cellsOf 3)) = xs[1]? := hg 1 _ rfl
  rw [z1, List.getElem?_eq_getElem (show 1 < xs.length by rw [hlen]; decide)] at g1
  obtain ⟨y1, K1, o1⟩ := (told_int Try.underlying3) _ _ _ _ _ _ g1
  exact ⟨⟨y0, y1⟩, fun n => (show Lays W n (lv50 n _) (bv50 _) (cs.drop 0) from (lays_cut (o := 0) (s := 1) (o' := 1) (m := n) rfl (K0 n) rfl (lays_end (o := 1) (s := 1) hl (K1 n)))), ⟨o0, o1⟩⟩
def lv39 (n : Nat) (x : Event) : List Sc := [(.v (.int .i64 x.Kind)), (.v (.int .i64 x.Loaves))]
def bv39 (x : Event) : List Blk := []
theorem told39 {H : Type} {enc : TypeId × Value → H} {W : World} : Told enc Try.prog W 39 lv39 bv39 OkEvent := by
  intro base spare held fuel cs x h
  obtain ⟨xs, n, _, _, hl0, hlen, hg⟩ := DataW.trod_struct Try.underlying39 h
  have hl : cs.length = 2 := hl0.trans (by kernel_rfl)
  have z0 : Try.prog.cellsOf 3 = 1 := by kernel_rfl
  have g0 : DataW.trod enc Try.prog W base spare held n 3 ((cs.drop 0).take (Try.prog.cellsOf 3)) = xs[0]? := hg 0 _ rfl
  rw [z0, List.getElem?_eq_getElem (show 0 < xs.length by rw [hlen]; decide)] at g0
  obtain ⟨y0, K0, o0⟩ := (told_int Try.underlying3) _ _ _ _ _ _ g0
  have z1 : Try.prog.cellsOf 3 = 1 := by kernel_rfl
  have g1 : DataW.trod enc Try.prog W base spare held n 3 ((cs.drop 1).take (Try.prog.cellsOf 3)) = xs[1]? := hg 1 _ rfl
  rw [z1, List.getElem?_eq_getElem (show 1 < xs.length by rw [hlen]; decide)] at g1
  obtain ⟨y1, K1, o1⟩ := (told_int Try.underlying3) _ _ _ _ _ _ g1
  exact ⟨⟨y0, y1⟩, fun n => (show Lays W n (lv39 n _) (bv39 _) (cs.drop 0) from (lays_cut (o := 0) (s := 1) (o' := 1) (m := n) rfl (K0 n) rfl (lays_end (o := 1) (s := 1) hl (K1 n)))), ⟨o0, o1⟩⟩
def lv24 (n : Nat) (x : Rack) : List Sc := [(.v (.int .i64 x.Fresh)), (.v (.int .i64 x.Day)), (.v (.int .i64 x.Old))]
def bv24 (x : Rack) : List Blk := []
theorem told24 {H : Type} {enc : TypeId × Value → H} {W : World} : Told enc Try.prog W 24 lv24 bv24 OkRack := by
  intro base spare held fuel cs x h
  obtain ⟨xs, n, _, _, hl0, hlen, hg⟩ := DataW.trod_struct Try.underlying24 h
  have hl : cs.length = 3 := hl0.trans (by kernel_rfl)
  have z0 : Try.prog.cellsOf 3 = 1 := by kernel_rfl
  have g0 : DataW.trod enc Try.prog W base spare held n 3 ((cs.drop 0).take (Try.prog.cellsOf 3)) = xs[0]? := hg 0 _ rfl
  rw [z0, List.getElem?_eq_getElem (show 0 < xs.length by rw [hlen]; decide)] at g0
  obtain ⟨y0, K0, o0⟩ := (told_int Try.underlying3) _ _ _ _ _ _ g0
  have z1 : Try.prog.cellsOf 3 = 1 := by kernel_rfl
  have g1 : DataW.trod enc Try.prog W base spare held n 3 ((cs.drop 1).take (Try.prog.cellsOf 3)) = xs[1]? := hg 1 _ rfl
  rw [z1, List.getElem?_eq_getElem (show 1 < xs.length by rw [hlen]; decide)] at g1
  obtain ⟨y1, K1, o1⟩ := (told_int Try.underlying3) _ _ _ _ _ _ g1
  have z2 : Try.prog.cellsOf 3 = 1 := by kernel_rfl
  have g2 : DataW.trod enc Try.prog W base spare held n 3 ((cs.drop 2).take (Try.prog.cellsOf 3)) = xs[2]? := hg 2 _ rfl
  rw [z2, List.getElem?_eq_getElem (show 2 < xs.length by rw [hlen]; decide)] at g2
  obtain ⟨y2, K2, o2⟩ := (told_int Try.underlying3) _ _ _ _ _ _ g2
  exact ⟨⟨y0, y1, y2⟩, fun n => (show Lays W n (lv24 n _) (bv24 _) (cs.drop 0) from (lays_cut (o := 0) (s := 1) (o' := 1) (m := n) rfl (K0 n) rfl (lays_cut (o := 1) (s := 1) (o' := 2) (m := n) rfl (K1 n) rfl (lays_end (o := 2) (s := 1) hl (K2 n))))), ⟨o0, o1, o2⟩⟩
def lv26 (n : Nat) (x : Book) : List Sc := [(.sl n), (.v (.int .i64 x.Rack.Fresh)), (.v (.int .i64 x.Rack.Day)), (.v (.int .i64 x.Rack.Old)), (.v (.int .i64 x.Baked)), (.v (.int .i64 x.Sold)), (.v (.int .i64 x.Thrown))]
def bv26 (x : Book) : List Blk := [(.row false K.k_laws_Event x.Events)]
theorem told26 {H : Type} {enc : TypeId × Value → H} {W : World} : Told enc Try.prog W 26 lv26 bv26 OkBook := by
  intro base spare held fuel cs x h
  obtain ⟨xs, n, _, _, hl0, hlen, hg⟩ := DataW.trod_struct Try.underlying26 h
  have hl : cs.length = 7 := hl0.trans (by kernel_rfl)
  have z0 : Try.prog.cellsOf 22 = 1 := by kernel_rfl
  have g0 : DataW.trod enc Try.prog W base spare held n 22 ((cs.drop 0).take (Try.prog.cellsOf 22)) = xs[0]? := hg 0 _ rfl
  rw [z0, List.getElem?_eq_getElem (show 0 < xs.length by rw [hlen]; decide)] at g0
  obtain ⟨y0, K0, o0⟩ := (told_slice (k := K.k_laws_Event) Try.underlying22 (by kernel_rfl) (fun y => ⟨rfl, rfl⟩) told39) _ _ _ _ _ _ g0
  have z1 : Try.prog.cellsOf 24 = 3 := by kernel_rfl
  have g1 : DataW.trod enc Try.prog W base spare held n 24 ((cs.drop 1).take (Try.prog.cellsOf 24)) = xs[1]? := hg 1 _ rfl
  rw [z1, List.getElem?_eq_getElem (show 1 < xs.length by rw [hlen]; decide)] at g1
  obtain ⟨y1, K1, o1⟩ := told24 _ _ _ _ _ _ g1
  have z2 : Try.prog.cellsOf 3 = 1 := by kernel_rfl
  have g2 : DataW.trod enc Try.prog W base spare held n 3 ((cs.drop 4).take (Try.prog.cellsOf 3)) = xs[2]? := hg 2 _ rfl
  rw [z2, List.getElem?_eq_getElem (show 2 < xs.length by rw [hlen]; decide)] at g2
  obtain ⟨y2, K2, o2⟩ := (told_int Try.underlying3) _ _ _ _ _ _ g2
  have z3 : Try.prog.cellsOf 3 = 1 := by kernel_rfl
  have g3 : DataW.trod enc Try.prog W base spare held n 3 ((cs.drop 5).take (Try.prog.cellsOf 3)) = xs[3]? := hg 3 _ rfl
  rw [z3, List.getElem?_eq_getElem (show 3 < xs.length by rw [hlen]; decide)] at g3
  obtain ⟨y3, K3, o3⟩ := (told_int Try.underlying3) _ _ _ _ _ _ g3
  have z4 : Try.prog.cellsOf 3 = 1 := by kernel_rfl
  have g4 : DataW.trod enc Try.prog W base spare held n 3 ((cs.drop 6).take (Try.prog.cellsOf 3)) = xs[4]? := hg 4 _ rfl
  rw [z4, List.getElem?_eq_getElem (show 4 < xs.length by rw [hlen]; decide)] at g4
  obtain ⟨y4, K4, o4⟩ := (told_int Try.underlying3) _ _ _ _ _ _ g4
  exact ⟨⟨y0, y1, y2, y3, y4⟩, fun n => (show Lays W n (lv26 n _) (bv26 _) (cs.drop 0) from (lays_cut (o := 0) (s := 1) (o' := 1) (m := n + 1) rfl (K0 n) rfl (lays_cut (o := 1) (s := 3) (o' := 4) (m := n + 1) rfl (K1 (n + 1)) rfl (lays_cut (o := 4) (s := 1) (o' := 5) (m := n + 1) rfl (K2 (n + 1)) rfl (lays_cut (o := 5) (s := 1) (o' := 6) (m := n + 1) rfl (K3 (n + 1)) rfl (lays_end (o := 6) (s := 1) hl (K4 (n + 1)))))))), ⟨o0, o1, o2, o3, o4⟩⟩
def lv52 (n : Nat) (x : Bakery) : List Sc := [(.sl n), (.v (.int .i64 x.Dough.Water)), (.v (.int .i64 x.Dough.Salt)), (.v (.int .i64 x.Dough.Leaven)), (.v (.int .i64 x.Loaf.Weight)), (.v (.int .i64 x.Loaf.Loss)), (.sl (n + 1)), (.v (.int .i64 x.Book.Rack.Fresh)), (.v (.int .i64 x.Book.Rack.Day)), (.v (.int .i64 x.Book.Rack.Old)), (.v (.int .i64 x.Book.Baked)), (.v (.int .i64 x.Book.Sold)), (.v (.int .i64 x.Book.Thrown)), (.v (.int .i64 x.Money))]
def bv52 (x : Bakery) : List Blk := [(.row false K.ki64 x.Stock.Grams), (.row false K.k_laws_Event x.Book.Events)]
theorem told52 {H : Type} {enc : TypeId × Value → H} {W : World} : Told enc Try.prog W 52 lv52 bv52 OkBakery := by
  intro base spare held fuel cs x h
  obtain ⟨xs, n, _, _, hl0, hlen, hg⟩ := DataW.trod_struct Try.underlying52 h
  have hl : cs.length = 14 := hl0.trans (by kernel_rfl)
  have z0 : Try.prog.cellsOf 46 = 1 := by kernel_rfl
  have g0 : DataW.trod enc Try.prog W base spare held n 46 ((cs.drop 0).take (Try.prog.cellsOf 46)) = xs[0]? := hg 0 _ rfl
  rw [z0, List.getElem?_eq_getElem (show 0 < xs.length by rw [hlen]; decide)] at g0
  obtain ⟨y0, K0, o0⟩ := told46 _ _ _ _ _ _ g0
  have z1 : Try.prog.cellsOf 48 = 3 := by kernel_rfl
  have g1 : DataW.trod enc Try.prog W base spare held n 48 ((cs.drop 1).take (Try.prog.cellsOf 48)) = xs[1]? := hg 1 _ rfl
  rw [z1, List.getElem?_eq_getElem (show 1 < xs.length by rw [hlen]; decide)] at g1
  obtain ⟨y1, K1, o1⟩ := told48 _ _ _ _ _ _ g1
  have z2 : Try.prog.cellsOf 50 = 2 := by kernel_rfl
  have g2 : DataW.trod enc Try.prog W base spare held n 50 ((cs.drop 4).take (Try.prog.cellsOf 50)) = xs[2]? := hg 2 _ rfl
  rw [z2, List.getElem?_eq_getElem (show 2 < xs.length by rw [hlen]; decide)] at g2
  obtain ⟨y2, K2, o2⟩ := told50 _ _ _ _ _ _ g2
  have z3 : Try.prog.cellsOf 26 = 7 := by kernel_rfl
  have g3 : DataW.trod enc Try.prog W base spare held n 26 ((cs.drop 6).take (Try.prog.cellsOf 26)) = xs[3]? := hg 3 _ rfl
  rw [z3, List.getElem?_eq_getElem (show 3 < xs.length by rw [hlen]; decide)] at g3
  obtain ⟨y3, K3, o3⟩ := told26 _ _ _ _ _ _ g3
  have z4 : Try.prog.cellsOf 3 = 1 := by kernel_rfl
  have g4 : DataW.trod enc Try.prog W base spare held n 3 ((cs.drop 13).take (Try.prog.cellsOf 3)) = xs[4]? := hg 4 _ rfl
  rw [z4, List.getElem?_eq_getElem (show 4 < xs.length by rw [hlen]; decide)] at g4
  obtain ⟨y4, K4, o4⟩ := (told_int Try.underlying3) _ _ _ _ _ _ g4
  exact ⟨⟨y0, y1, y2, y3, y4⟩, fun n => (show Lays W n (lv52 n _) (bv52 _) (cs.drop 0) from (lays_cut (o := 0) (s := 1) (o' := 1) (m := n + 1) rfl (K0 n) rfl (lays_cut (o := 1) (s := 3) (o' := 4) (m := n + 1) rfl (K1 (n + 1)) rfl (lays_cut (o := 4) (s := 2) (o' := 6) (m := n + 1) rfl (K2 (n + 1)) rfl (lays_cut (o := 6) (s := 7) (o' := 13) (m := n + 2) rfl (K3 (n + 1)) rfl (lays_end (o := 13) (s := 1) hl (K4 (n + 2)))))))), ⟨o0, o1, o2, o3, o4⟩⟩
end Go.Proofs.YtonaabffckkdlaaX
