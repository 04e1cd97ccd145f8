/- What the arguments of this seat's laws read as, and what is known of them. (The file is written by wip/x/lawp.py of this repository.) -/
import Derived.Test.YtfbnbdcjnbgibaaDoorX12
import Derived.Test.YtfbnbdcjnbgibaaDoorZ
import Derived.KernelRfl
namespace Go.Proofs.YtfbnbdcjnbgibaaDoorX
open Go Go.Proofs Go.RowKit Go.Deep Go.ChangeShapes
set_option linter.unusedVariables false
set_option maxRecDepth 100000
def U8 (n : Int) : Prop := 0 ≤ n ∧ n ≤ 255
theorem told_u8 {P : Program} {H : Type} {enc : TypeId × Value → H} {W : World} {t : TypeId} (ht : P.underlying t = some (.int .u8)) : Told enc P W t (fun _ (x : Int) => [.v (.int .u8 x)]) (fun _ => []) U8 := by
  intro base spare held fuel cs x h
  obtain ⟨n, rfl, _, hw⟩ := DataW.trod_int ht h
  exact ⟨n, fun _ => lays_v _, bounds_u8 hw⟩
structure OkDeed (x : Deed) : Prop where
  Kind : I64 x.Kind
  A : I64 x.A
  B : I64 x.B
def lv23 (n : Nat) (x : Deed) : List Sc := [(.v (.int .i64 x.Kind)), (.v (.int .i64 x.A)), (.v (.int .i64 x.B))]
def bv23 (x : Deed) : List Blk := []
theorem told23 {H : Type} {enc : TypeId × Value → H} {W : World} : Told enc Tryd.prog W 23 lv23 bv23 OkDeed := by
  intro base spare held fuel cs x h
  obtain ⟨xs, n, _, _, hl0, hlen, hg⟩ := DataW.trod_struct Tryd.underlying23 h
  have hl : cs.length = 3 := hl0.trans (by kernel_rfl)
  have z0 : Tryd.prog.cellsOf 3 = 1 := by kernel_rfl
  have g0 : DataW.trod enc Tryd.prog W base spare held n 3 ((cs.drop 0).take (Tryd.prog.cellsOf 3)) = xs[0]? := hg 0 _ rfl
  rw [z0, List.getElem?_eq_getElem (show 0 < xs.length by rw [hlen]; decide)] at g0
  obtain ⟨y0, K0, o0⟩ := (told_int Tryd.underlying3) _ _ _ _ _ _ g0
  have z1 : Tryd.prog.cellsOf 3 = 1 := by kernel_rfl
  have g1 : DataW.trod enc Tryd.prog W base spare held n 3 ((cs.drop 1).take (Tryd.prog.cellsOf 3)) = xs[1]? := hg 1 _ rfl
  rw [z1, List.getElem?_eq_getElem (show 1 < xs.length by rw [hlen]; decide)] at g1
  obtain ⟨y1, K1, o1⟩ := (told_int Tryd.underlying3) _ _ _ _ _ _ g1
  have z2 : Tryd.prog.cellsOf 3 = 1 := by kernel_rfl
  have g2 : DataW.trod enc Tryd.prog W base spare held n 3 ((cs.drop 2).take (Tryd.prog.cellsOf 3)) = xs[2]? := hg 2 _ rfl
  rw [z2, List.getElem?_eq_getElem (show 2 < xs.length by rw [hlen]; decide)] at g2
  obtain ⟨y2, K2, o2⟩ := (told_int Tryd.underlying3) _ _ _ _ _ _ g2
  exact ⟨⟨y0, y1, y2⟩, fun n => (show Lays W n (lv23 n _) (bv23 _) (cs.drop 0) from (lays_cut (o := 0) (s := 1) (o' := 1) (m := n) rfl (K0 n) rfl (lays_cut (o := 1) (s := 1) (o' := 2) (m := n) rfl (K1 n) rfl (lays_end (o := 2) (s := 1) hl (K2 n))))), ⟨o0, o1, o2⟩⟩
structure OkStock (x : Stock) : Prop where
  Grams : (OkL I64) x.Grams
structure OkDough (x : Dough) : Prop where
  Water : I64 x.Water
  Salt : I64 x.Salt
  Leaven : I64 x.Leaven
structure OkLoaf (x : Loaf) : Prop where
  Weight : I64 x.Weight
  Loss : I64 x.Loss
structure OkEvent (x : Event) : Prop where
  Kind : I64 x.Kind
  Loaves : I64 x.Loaves
structure OkRack (x : Rack) : Prop where
  Fresh : I64 x.Fresh
  Day : I64 x.Day
  Old : I64 x.Old
structure OkBook (x : Book) : Prop where
  Events : (OkL OkEvent) x.Events
  Rack : OkRack x.Rack
  Baked : I64 x.Baked
  Sold : I64 x.Sold
  Thrown : I64 x.Thrown
structure OkBakery (x : Bakery) : Prop where
  Stock : OkStock x.Stock
  Dough : OkDough x.Dough
  Loaf : OkLoaf x.Loaf
  Book : OkBook x.Book
  Money : I64 x.Money
def lv57 (n : Nat) (x : Stock) : List Sc := [(.sl n)]
def bv57 (x : Stock) : List Blk := [(.row false K.ki64 x.Grams)]
theorem told57 {H : Type} {enc : TypeId × Value → H} {W : World} : Told enc Tryd.prog W 57 lv57 bv57 OkStock := by
  intro base spare held fuel cs x h
  obtain ⟨xs, n, _, _, hl0, hlen, hg⟩ := DataW.trod_struct Tryd.underlying57 h
  have hl : cs.length = 1 := hl0.trans (by kernel_rfl)
  have z0 : Tryd.prog.cellsOf 38 = 1 := by kernel_rfl
  have g0 : DataW.trod enc Tryd.prog W base spare held n 38 ((cs.drop 0).take (Tryd.prog.cellsOf 38)) = xs[0]? := hg 0 _ rfl
  rw [z0, List.getElem?_eq_getElem (show 0 < xs.length by rw [hlen]; decide)] at g0
  obtain ⟨y0, K0, o0⟩ := (told_slice (k := K.ki64) Tryd.underlying38 (by kernel_rfl) (fun y => ⟨rfl, rfl⟩) (told_int Tryd.underlying3)) _ _ _ _ _ _ g0
  exact ⟨⟨y0⟩, fun n => (show Lays W n (lv57 n _) (bv57 _) (cs.drop 0) from (lays_end (o := 0) (s := 1) hl (K0 n))), ⟨o0⟩⟩
def lv58 (n : Nat) (x : Dough) : List Sc := [(.v (.int .i64 x.Water)), (.v (.int .i64 x.Salt)), (.v (.int .i64 x.Leaven))]
def bv58 (x : Dough) : List Blk := []
theorem told58 {H : Type} {enc : TypeId × Value → H} {W : World} : Told enc Tryd.prog W 58 lv58 bv58 OkDough := by
  intro base spare held fuel cs x h
  obtain ⟨xs, n, _, _, hl0, hlen, hg⟩ := DataW.trod_struct Tryd.underlying58 h
  have hl : cs.length = 3 := hl0.trans (by kernel_rfl)
  have z0 : Tryd.prog.cellsOf 3 = 1 := by kernel_rfl
  have g0 : DataW.trod enc Tryd.prog W base spare held n 3 ((cs.drop 0).take (Tryd.prog.cellsOf 3)) = xs[0]? := hg 0 _ rfl
  rw [z0, List.getElem?_eq_getElem (show 0 < xs.length by rw [hlen]; decide)] at g0
  obtain ⟨y0, K0, o0⟩ := (told_int Tryd.underlying3) _ _ _ _ _ _ g0
  have z1 : Tryd.prog.cellsOf 3 = 1 := by kernel_rfl
  have g1 : DataW.trod enc Tryd.prog W base spare held n 3 ((cs.drop 1).take (Tryd.prog.cellsOf 3)) = xs[1]? := hg 1 _ rfl
  rw [z1, List.getElem?_eq_getElem (show 1 < xs.length by rw [hlen]; decide)] at g1
  obtain ⟨y1, K1, o1⟩ := (told_int Tryd.underlying3) _ _ _ _ _ _ g1
  have z2 : Tryd.prog.cellsOf 3 = 1 := by kernel_rfl
  have g2 : DataW.trod enc Tryd.prog W base spare held n 3 ((cs.drop 2).take (Tryd.prog.cellsOf 3)) = xs[2]? := hg 2 _ rfl
  rw [z2, List.getElem?_eq_getElem (show 2 < xs.length by rw [hlen]; decide)] at g2
  obtain ⟨y2, K2, o2⟩ := (told_int Tryd.underlying3) _ _ _ _ _ _ g2
  exact ⟨⟨y0, y1, y2⟩, fun n => (show Lays W n (lv58 n _) (bv58 _) (cs.drop 0) from (lays_cut (o := 0) (s := 1) (o' := 1) (m := n) rfl (K0 n) rfl (lays_cut (o := 1) (s := 1) (o' := 2) (m := n) rfl (K1 n) rfl (lays_end (o := 2) (s := 1) hl (K2 n))))), ⟨o0, o1, o2⟩⟩
def lv59 (n : Nat) (x : Loaf) : List Sc := [(.v (.int .i64 x.Weight)), (.v (.int .i64 x.Loss))]
def bv59 (x : Loaf) : List Blk := []
theorem told59 {H : Type} {enc : TypeId × Value → H} {W : World} : Told enc Tryd.prog W 59 lv59 bv59 OkLoaf := by
  intro base spare held fuel cs x h
  obtain ⟨xs, n, _, _, hl0, hlen, hg⟩ := DataW.trod_struct Tryd.underlying59 h
  have hl : cs.length = 2 := hl0.trans (by kernel_rfl)
  have z0 : Tryd.prog.cellsOf 3 = 1 := by kernel_rfl
  have g0 : DataW.trod enc Tryd.prog W base spare held n 3 ((cs.drop 0).take (Tryd.prog.cellsOf 3)) = xs[0]? := hg 0 _ rfl
  rw [z0, List.getElem?_eq_getElem (show 0 < xs.length by rw [hlen]; decide)] at g0
  obtain ⟨y0, K0, o0⟩ := (told_int Tryd.underlying3) _ _ _ _ _ _ g0
  have z1 : Tryd.prog.cellsOf 3 = 1 := by kernel_rfl
  have g1 : DataW.trod enc Tryd.prog W base spare held n 3 ((cs.drop 1).take (Tryd.prog.cellsOf 3)) = xs[1]? := hg 1 _ rfl
  rw [z1, List.getElem?_eq_getElem (show 1 < xs.length by rw [hlen]; decide)] at g1
  obtain ⟨y1, K1, o1⟩ := (told_int Tryd.underlying3) _ _ _ _ _ _ g1
  exact ⟨⟨y0, y1⟩, fun n => (show Lays W n (lv59 n _) (bv59 _) (cs.drop 0) from (lays_cut (o := 0) (s := 1) (o' := 1) (m := n) rfl (K0 n) rfl (lays_end (o := 1) (s := 1) hl (K1 n)))), ⟨o0, o1⟩⟩
def lv144 (n : Nat) (x : Event) : List Sc := [(.v (.int .i64 x.Kind)), (.v (.int .i64 x.Loaves))]
def bv144 (x : Event) : List Blk := []
theorem told144 {H : Type} {enc : TypeId × Value → H} {W : World} : Told enc Tryd.prog W 144 lv144 bv144 OkEvent := by
  intro base spare held fuel cs x h
  obtain ⟨xs, n, _, _, hl0, hlen, hg⟩ := DataW.trod_struct Tryd.underlying144 h
  have hl : cs.length = 2 := hl0.trans (by kernel_rfl)
  have z0 : Tryd.prog.cellsOf 3 = 1 := by kernel_rfl
  have g0 : DataW.trod enc Tryd.prog W base spare held n 3 ((cs.drop 0).take (Tryd.prog.cellsOf 3)) = xs[0]? := hg 0 _ rfl
  rw [z0, List.getElem?_eq_getElem (show 0 < xs.length by rw [hlen]; decide)] at g0
  obtain ⟨y0, K0, o0⟩ := (told_int Tryd.underlying3) _ _ _ _ _ _ g0
  have z1 : Tryd.prog.cellsOf 3 = 1 := by kernel_rfl
  have g1 : DataW.trod enc Tryd.prog W base spare held n 3 ((cs.drop 1).take (Tryd.prog.cellsOf 3)) = xs[1]? := hg 1 _ rfl
  rw [z1, List.getElem?_eq_getElem (show 1 < xs.length by rw [hlen]; decide)] at g1
  obtain ⟨y1, K1, o1⟩ := (told_int Tryd.underlying3) _ _ _ _ _ _ g1
  exact ⟨⟨y0, y1⟩, fun n => (show Lays W n (lv144 n _) (bv144 _) (cs.drop 0) from (lays_cut (o := 0) (s := 1) (o' := 1) (m := n) rfl (K0 n) rfl (lays_end (o := 1) (s := 1) hl (K1 n)))), ⟨o0, o1⟩⟩
def lv61 (n : Nat) (x : Rack) : List Sc := [(.v (.int .i64 x.Fresh)), (.v (.int .i64 x.Day)), (.v (.int .i64 x.Old))]
def bv61 (x : Rack) : List Blk := []
theorem told61 {H : Type} {enc : TypeId × Value → H} {W : World} : Told enc Tryd.prog W 61 lv61 bv61 OkRack := by
  intro base spare held fuel cs x h
  obtain ⟨xs, n, _, _, hl0, hlen, hg⟩ := DataW.trod_struct Tryd.underlying61 h
  have hl : cs.length = 3 := hl0.trans (by kernel_rfl)
  have z0 : Tryd.prog.cellsOf 3 = 1 := by kernel_rfl
  have g0 : DataW.trod enc Tryd.prog W base spare held n 3 ((cs.drop 0).take (Tryd.prog.cellsOf 3)) = xs[0]? := hg 0 _ rfl
  rw [z0, List.getElem?_eq_getElem (show 0 < xs.length by rw [hlen]; decide)] at g0
  obtain ⟨y0, K0, o0⟩ := (told_int Tryd.underlying3) _ _ _ _ _ _ g0
  have z1 : Tryd.prog.cellsOf 3 = 1 := by kernel_rfl
  have g1 : DataW.trod enc Tryd.prog W base spare held n 3 ((cs.drop 1).take (Tryd.prog.cellsOf 3)) = xs[1]? := hg 1 _ rfl
  rw [z1, List.getElem?_eq_getElem (show 1 < xs.length by rw [hlen]; decide)] at g1
  obtain ⟨y1, K1, o1⟩ := (told_int Tryd.underlying3) _ _ _ _ _ _ g1
  have z2 : Tryd.prog.cellsOf 3 = 1 := by kernel_rfl
  have g2 : DataW.trod enc Tryd.prog W base spare held n 3 ((cs.drop 2).take (Tryd.prog.cellsOf 3)) = xs[2]? := hg 2 _ rfl
  rw [z2, List.getElem?_eq_getElem (show 2 < xs.length by rw [hlen]; decide)] at g2
  obtain ⟨y2, K2, o2⟩ := (told_int Tryd.underlying3) _ _ _ _ _ _ g2
  exact ⟨⟨y0, y1, y2⟩, fun n => (show Lays W n (lv61 n _) (bv61 _) (cs.drop 0) from (lays_cut (o := 0) (s := 1) (o' := 1) (m := n) rfl (K0 n) rfl (lays_cut (o := 1) (s := 1) (o' := 2) (m := n) rfl (K1 n) rfl (lays_end (o := 2) (s := 1) hl (K2 n))))), ⟨o0, o1, o2⟩⟩
def lv63 (n : Nat) (x : Book) : List Sc := [(.sl n), (.v (.int .i64 x.Rack.Fresh)), (.v (.int .i64 x.Rack.Day)), (.v (.int .i64 x.Rack.Old)), (.v (.int .i64 x.Baked)), (.v (.int .i64 x.Sold)), (.v (.int .i64 x.Thrown))]
def bv63 (x : Book) : List Blk := [(.row false K.k_laws_Event x.Events)]
theorem told63 {H : Type} {enc : TypeId × Value → H} {W : World} : Told enc Tryd.prog W 63 lv63 bv63 OkBook := by
  intro base spare held fuel cs x h
  obtain ⟨xs, n, _, _, hl0, hlen, hg⟩ := DataW.trod_struct Tryd.underlying63 h
  have hl : cs.length = 7 := hl0.trans (by kernel_rfl)
  have z0 : Tryd.prog.cellsOf 60 = 1 := by kernel_rfl
  have g0 : DataW.trod enc Tryd.prog W base spare held n 60 ((cs.drop 0).take (Tryd.prog.cellsOf 60)) = xs[0]? := hg 0 _ rfl
  rw [z0, List.getElem?_eq_getElem (show 0 < xs.length by rw [hlen]; decide)] at g0
  obtain ⟨y0, K0, o0⟩ := (told_slice (k := K.k_laws_Event) Tryd.underlying60 (by kernel_rfl) (fun y => ⟨rfl, rfl⟩) told144) _ _ _ _ _ _ g0
  have z1 : Tryd.prog.cellsOf 61 = 3 := by kernel_rfl
  have g1 : DataW.trod enc Tryd.prog W base spare held n 61 ((cs.drop 1).take (Tryd.prog.cellsOf 61)) = xs[1]? := hg 1 _ rfl
  rw [z1, List.getElem?_eq_getElem (show 1 < xs.length by rw [hlen]; decide)] at g1
  obtain ⟨y1, K1, o1⟩ := told61 _ _ _ _ _ _ g1
  have z2 : Tryd.prog.cellsOf 3 = 1 := by kernel_rfl
  have g2 : DataW.trod enc Tryd.prog W base spare held n 3 ((cs.drop 4).take (Tryd.prog.cellsOf 3)) = xs[2]? := hg 2 _ rfl
  rw [z2, List.getElem?_eq_getElem (show 2 < xs.length by rw [hlen]; decide)] at g2
  obtain ⟨y2, K2, o2⟩ := (told_int Tryd.underlying3) _ _ _ _ _ _ g2
  have z3 : Tryd.prog.cellsOf 3 = 1 := by kernel_rfl
  have g3 : DataW.trod enc Tryd.prog W base spare held n 3 ((cs.drop 5).take (Tryd.prog.cellsOf 3)) = xs[3]? := hg 3 _ rfl
  rw [z3, List.getElem?_eq_getElem (show 3 < xs.length by rw [hlen]; decide)] at g3
  obtain ⟨y3, K3, o3⟩ := (told_int Tryd.underlying3) _ _ _ _ _ _ g3
  have z4 : Tryd.prog.cellsOf 3 = 1 := by kernel_rfl
  have g4 : DataW.trod enc Tryd.prog W base spare held n 3 ((cs.drop 6).take (Tryd.prog.cellsOf 3)) = xs[4]? := hg 4 _ rfl
  rw [z4, List.getElem?_eq_getElem (show 4 < xs.length by rw [hlen]; decide)] at g4
  obtain ⟨y4, K4, o4⟩ := (told_int Tryd.underlying3) _ _ _ _ _ _ g4
  exact ⟨⟨y0, y1, y2, y3, y4⟩, fun n => (show Lays W n (lv63 n _) (bv63 _) (cs.drop 0) from (lays_cut (o := 0) (s := 1) (o' := 1) (m := n + 1) rfl (K0 n) rfl (lays_cut (o := 1) (s := 3) (o' := 4) (m := n + 1) rfl (K1 (n + 1)) rfl (lays_cut (o := 4) (s := 1) (o' := 5) (m := n + 1) rfl (K2 (n + 1)) rfl (lays_cut (o := 5) (s := 1) (o' := 6) (m := n + 1) rfl (K3 (n + 1)) rfl (lays_end (o := 6) (s := 1) hl (K4 (n + 1)))))))), ⟨o0, o1, o2, o3, o4⟩⟩
def lv65 (n : Nat) (x : Bakery) : List Sc := [(.sl n), (.v (.int .i64 x.Dough.Water)), (.v (.int .i64 x.Dough.Salt)), (.v (.int .i64 x.Dough.Leaven)), (.v (.int .i64 x.Loaf.Weight)), (.v (.int .i64 x.Loaf.Loss)), (.sl (n + 1)), (.v (.int .i64 x.Book.Rack.Fresh)), (.v (.int .i64 x.Book.Rack.Day)), (.v (.int .i64 x.Book.Rack.Old)), (.v (.int .i64 x.Book.Baked)), (.v (.int .i64 x.Book.Sold)), (.v (.int .i64 x.Book.Thrown)), (.v (.int .i64 x.Money))]
def bv65 (x : Bakery) : List Blk := [(.row false K.ki64 x.Stock.Grams), (.row false K.k_laws_Event x.Book.Events)]
theorem told65 {H : Type} {enc : TypeId × Value → H} {W : World} : Told enc Tryd.prog W 65 lv65 bv65 OkBakery := by
  intro base spare held fuel cs x h
  obtain ⟨xs, n, _, _, hl0, hlen, hg⟩ := DataW.trod_struct Tryd.underlying65 h
  have hl : cs.length = 14 := hl0.trans (by kernel_rfl)
  have z0 : Tryd.prog.cellsOf 57 = 1 := by kernel_rfl
  have g0 : DataW.trod enc Tryd.prog W base spare held n 57 ((cs.drop 0).take (Tryd.prog.cellsOf 57)) = xs[0]? := hg 0 _ rfl
  rw [z0, List.getElem?_eq_getElem (show 0 < xs.length by rw [hlen]; decide)] at g0
  obtain ⟨y0, K0, o0⟩ := told57 _ _ _ _ _ _ g0
  have z1 : Tryd.prog.cellsOf 58 = 3 := by kernel_rfl
  have g1 : DataW.trod enc Tryd.prog W base spare held n 58 ((cs.drop 1).take (Tryd.prog.cellsOf 58)) = xs[1]? := hg 1 _ rfl
  rw [z1, List.getElem?_eq_getElem (show 1 < xs.length by rw [hlen]; decide)] at g1
  obtain ⟨y1, K1, o1⟩ := told58 _ _ _ _ _ _ g1
  have z2 : Tryd.prog.cellsOf 59 = 2 := by kernel_rfl
  have g2 : DataW.trod enc Tryd.prog W base spare held n 59 ((cs.drop 4).take (Tryd.prog.cellsOf 59)) = xs[2]? := hg 2 _ rfl
  rw [z2, List.getElem?_eq_getElem (show 2 < xs.length by rw [hlen]; decide)] at g2
  obtain ⟨y2, K2, o2⟩ := told59 _ _ _ _ _ _ g2
  have z3 : Tryd.prog.cellsOf 63 = 7 := by kernel_rfl
  have g3 : DataW.trod enc Tryd.prog W base spare held n 63 ((cs.drop 6).take (Tryd.prog.cellsOf 63)) = xs[3]? := hg 3 _ rfl
  rw [z3, List.getElem?_eq_getElem (show 3 < xs.length by rw [hlen]; decide)] at g3
  obtain ⟨y3, K3, o3⟩ := told63 _ _ _ _ _ _ g3
  have z4 : Tryd.prog.cellsOf 3 = 1 := by kernel_rfl
  have g4 : DataW.trod enc Tryd.prog W base spare held n 3 ((cs.drop 13).take (Tryd.prog.cellsOf 3)) = xs[4]? := hg 4 _ rfl
  rw [z4, List.getElem?_eq_getElem (show 4 < xs.length by rw [hlen]; decide)] at g4
  obtain ⟨y4, K4, o4⟩ := (told_int Tryd.underlying3) _ _ _ _ _ _ g4
  exact ⟨⟨y0, y1, y2, y3, y4⟩, fun n => (show Lays W n (lv65 n _) (bv65 _) (cs.drop 0) from (lays_cut (o := 0) (s := 1) (o' := 1) (m := n + 1) rfl (K0 n) rfl (lays_cut (o := 1) (s := 3) (o' := 4) (m := n + 1) rfl (K1 (n + 1)) rfl (lays_cut (o := 4) (s := 2) (o' := 6) (m := n + 1) rfl (K2 (n + 1)) rfl (lays_cut (o := 6) (s := 7) (o' := 13) (m := n + 2) rfl (K3 (n + 1)) rfl (lays_end (o := 13) (s := 1) hl (K4 (n + 2)))))))), ⟨o0, o1, o2, o3, o4⟩⟩
end Go.Proofs.YtfbnbdcjnbgibaaDoorX
