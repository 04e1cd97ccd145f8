/- What the arguments of this seat's laws read as, and what is known of them. (The file is written by wip/x/lawp.py of this repository.) -/
import Derived.Test.YtlhcphoojiemmaaGreatX12
import Derived.Test.YtlhcphoojiemmaaGreatZ
import Derived.KernelRfl
namespace Go.Proofs.YtlhcphoojiemmaaGreatX
open Go Go.Proofs Go.RowKit Go.Deep Go.ChangeShapes
set_option linter.unusedVariables false
set_option maxRecDepth 100000
def U8 (n : Int) : Prop := 0 ≤ n ∧ n ≤ 255
theorem told_u8 {P : Program} {H : Type} {enc : TypeId × Value → H} {W : World} {t : TypeId} (ht : P.underlying t = some (.int .u8)) : Told enc P W t (fun _ (x : Int) => [.v (.int .u8 x)]) (fun _ => []) U8 := by
  intro base spare held fuel cs x h
  obtain ⟨n, rfl, _, hw⟩ := DataW.trod_int ht h
  exact ⟨n, fun _ => lays_v _, bounds_u8 hw⟩
structure OkStock (x : Stock) : Prop where
  Grams : (OkL I64) x.Grams
structure OkDough (x : Dough) : Prop where
  Water : I64 x.Water
  Salt : I64 x.Salt
  Leaven : I64 x.Leaven
structure OkLoaf (x : Loaf) : Prop where
  Weight : I64 x.Weight
  Loss : I64 x.Loss
structure OkEvent (x : Event) : Prop where
  Kind : I64 x.Kind
  Loaves : I64 x.Loaves
structure OkRack (x : Rack) : Prop where
  Fresh : I64 x.Fresh
  Day : I64 x.Day
  Old : I64 x.Old
structure OkBook (x : Book) : Prop where
  Events : (OkL OkEvent) x.Events
  Rack : OkRack x.Rack
  Baked : I64 x.Baked
  Sold : I64 x.Sold
  Thrown : I64 x.Thrown
structure OkBakery (x : Bakery) : Prop where
  Stock : OkStock x.Stock
  Dough : OkDough x.Dough
  Loaf : OkLoaf x.Loaf
  Book : OkBook x.Book
  Money : I64 x.Money
def lv24 (n : Nat) (x : Stock) : List Sc := [(.sl n)]
def bv24 (x : Stock) : List Blk := [(.row false K.ki64 x.Grams)]
theorem told24 {H : Type} {enc : TypeId × Value → H} {W : World} : Told enc Tryz.prog W 24 lv24 bv24 OkStock := by
  intro base spare held fuel cs x h
  obtain ⟨xs, n, _, _, hl0, hlen, hg⟩ := DataW.trod_struct Tryz.underlying24 h
  have hl : cs.length = 1 := hl0.trans (by kernel_rfl)
  have z0 : Tryz.prog.cellsOf 22 = 1 := by kernel_rfl
  have g0 : DataW.trod enc Tryz.prog W base spare held n 22 ((cs.drop 0).take (Tryz.prog.cellsOf 22)) = xs[0]? := hg 0 _ rfl
  rw [z0, List.getElem?_eq_getElem (show 0 < xs.length by rw [hlen]; decide)] at g0
  obtain ⟨y0, K0, o0⟩ := (told_slice (k := K.ki64) Tryz.underlying22 (by kernel_rfl) (fun y => ⟨rfl, rfl⟩) (told_int Tryz.underlying3)) _ _ _ _ _ _ g0
  exact ⟨⟨y0⟩, fun n => (show Lays W n (lv24 n _) (bv24 _) (cs.drop 0) from (lays_end (o := 0) (s := 1) hl (K0 n))), ⟨o0⟩⟩
def lv26 (n : Nat) (x : Dough) : List Sc := [(.v (.int .i64 x.Water)), (.v (.int .i64 x.Salt)), (.v (.int .i64 x.Leaven))]
def bv26 (x : Dough) : List Blk := []
theorem told26 {H : Type} {enc : TypeId × Value → H} {W : World} : Told enc Tryz.prog W 26 lv26 bv26 OkDough := by
  intro base spare held fuel cs x h
  obtain ⟨xs, n, _, _, hl0, hlen, hg⟩ := DataW.trod_struct Tryz.underlying26 h
  have hl : cs.length = 3 := hl0.trans (by kernel_rfl)
  have z0 : Tryz.prog.cellsOf 3 = 1 := by kernel_rfl
  have g0 : DataW.trod enc Tryz.prog W base spare held n 3 ((cs.drop 0).take (Tryz.prog.cellsOf 3)) = xs[0]? := hg 0 _ rfl
  rw [z0, List.getElem?_eq_getElem (show 0 < xs.length by rw [hlen]; decide)] at g0
  obtain ⟨y0, K0, o0⟩ := (told_int Tryz.underlying3) _ _ _ _ _ _ g0
  have z1 : Tryz.prog.cellsOf 3 = 1 := by kernel_rfl
  have g1 : DataW.trod enc Tryz.prog W base spare held n 3 ((cs.drop 1).take (Tryz.prog.cellsOf 3)) = xs[1]? := hg 1 _ rfl
  rw [z1, List.getElem?_eq_getElem (show 1 < xs.length by rw [hlen]; decide)] at g1
  obtain ⟨y1, K1, o1⟩ := (told_int Tryz.underlying3) _ _ _ _ _ _ g1
  have z2 : Tryz.prog.cellsOf 3 = 1 := by kernel_rfl
  have g2 : DataW.trod enc Tryz.prog W base spare held n 3 ((cs.drop 2).take (Tryz.prog.cellsOf 3)) = xs[2]? := hg 2 _ rfl
  rw [z2, List.getElem?_eq_getElem (show 2 < xs.length by rw [hlen]; decide)] at g2
  obtain ⟨y2, K2, o2⟩ := (told_int Tryz.underlying3) _ _ _ _ _ _ g2
  exact ⟨⟨y0, y1, y2⟩, fun n => (show Lays W n (lv26 n _) (bv26 _) (cs.drop 0) from (lays_cut (o := 0) (s := 1) (o' := 1) (m := n) rfl (K0 n) rfl (lays_cut (o := 1) (s := 1) (o' := 2) (m := n) rfl (K1 n) rfl (lays_end (o := 2) (s := 1) hl (K2 n))))), ⟨o0, o1, o2⟩⟩
def lv28 (n : Nat) (x : Loaf) : List Sc := [(.v (.int .i64 x.Weight)), (.v (.int .i64 x.Loss))]
def bv28 (x : Loaf) : List Blk := []
theorem told28 {H : Type} {enc : TypeId × Value → H} {W : World} : Told enc Tryz.prog W 28 lv28 bv28 OkLoaf := by
  intro base spare held fuel cs x h
  obtain ⟨xs, n, _, _, hl0, hlen, hg⟩ := DataW.trod_struct Tryz.underlying28 h
  have hl : cs.length = 2 := hl0.trans (by kernel_rfl)
  have z0 : Tryz.prog.cellsOf 3 = 1 := by kernel_rfl
  have g0 : DataW.trod enc Tryz.prog W base spare held n 3 ((cs.drop 0).take (Tryz.prog.cellsOf 3)) = xs[0]? := hg 0 _ rfl
  rw [z0, List.getElem?_eq_getElem (show 0 < xs.length by rw [hlen]; decide)] at g0
  obtain ⟨y0, K0, o0⟩ := (told_int Tryz.underlying3) _ _ _ _ _ _ g0
  have z1 : Tryz.prog.cellsOf 3 = 1 := by kernel_rfl
  have g1 : DataW.trod enc Tryz.prog W base spare held n 3 ((cs.drop 1).take (Tryz.prog.cellsOf 3)) = xs[1]? := hg 1 _ rfl
  rw [z1, List.getElem?_eq_getElem (show 1 < xs.length by rw [hlen]; decide)] at g1
  obtain ⟨y1, K1, o1⟩ := (told_int Tryz.underlying3) _ _ _ _ _ _ g1
  exact ⟨⟨y0, y1⟩, fun n => (show Lays W n (lv28 n _) (bv28 _) (cs.drop 0) from (lays_cut (o := 0) (s := 1) (o' := 1) (m := n) rfl (K0 n) rfl (lays_end (o := 1) (s := 1) hl (K1 n)))), ⟨o0, o1⟩⟩
def lv126 (n : Nat) (x : Event) : List Sc := [(.v (.int .i64 x.Kind)), (.v (.int .i64 x.Loaves))]
def bv126 (x : Event) : List Blk := []
theorem told126 {H : Type} {enc : TypeId × Value → H} {W : World} : Told enc Tryz.prog W 126 lv126 bv126 OkEvent := by
  intro base spare held fuel cs x h
  obtain ⟨xs, n, _, _, hl0, hlen, hg⟩ := DataW.trod_struct Tryz.underlying126 h
  have hl : cs.length = 2 := hl0.trans (by kernel_rfl)
  have z0 : Tryz.prog.cellsOf 3 = 1 := by kernel_rfl
  have g0 : DataW.trod enc Tryz.prog W base spare held n 3 ((cs.drop 0).take (Tryz.prog.cellsOf 3)) = xs[0]? := hg 0 _ rfl
  rw [z0, List.getElem?_eq_getElem (show 0 < xs.length by rw [hlen]; decide)] at g0
  obtain ⟨y0, K0, o0⟩ := (told_int Tryz.underlying3) _ _ _ _ _ _ g0
  have z1 : Tryz.prog.cellsOf 3 = 1 := by kernel_rfl
  have g1 : DataW.trod enc Tryz.prog W base spare held n 3 ((cs.drop 1).take (Tryz.prog.cellsOf 3)) = xs[1]? := hg 1 _ rfl
  rw [z1, List.getElem?_eq_getElem (show 1 < xs.length by rw [hlen]; decide)] at g1
  obtain ⟨y1, K1, o1⟩ := (told_int Tryz.underlying3) _ _ _ _ _ _ g1
  exact ⟨⟨y0, y1⟩, fun n => (show Lays W n (lv126 n _) (bv126 _) (cs.drop 0) from (lays_cut (o := 0) (s := 1) (o' := 1) (m := n) rfl (K0 n) rfl (lays_end (o := 1) (s := 1) hl (K1 n)))), ⟨o0, o1⟩⟩
def lv31 (n : Nat) (x : Rack) : List Sc := [(.v (.int .i64 x.Fresh)), (.v (.int .i64 x.Day)), (.v (.int .i64 x.Old))]
def bv31 (x : Rack) : List Blk := []
theorem told31 {H : Type} {enc : TypeId × Value → H} {W : World} : Told enc Tryz.prog W 31 lv31 bv31 OkRack := by
  intro base spare held fuel cs x h
  obtain ⟨xs, n, _, _, hl0, hlen, hg⟩ := DataW.trod_struct Tryz.underlying31 h
  have hl : cs.length = 3 := hl0.trans (by kernel_rfl)
  have z0 : Tryz.prog.cellsOf 3 = 1 := by kernel_rfl
  have g0 : DataW.trod enc Tryz.prog W base spare held n 3 ((cs.drop 0).take (Tryz.prog.cellsOf 3)) = xs[0]? := hg 0 _ rfl
  rw [z0, List.getElem?_eq_getElem (show 0 < xs.length by rw [hlen]; decide)] at g0
  obtain ⟨y0, K0, o0⟩ := (told_int Tryz.underlying3) _ _ _ _ _ _ g0
  have z1 : Tryz.prog.cellsOf 3 = 1 := by kernel_rfl
  have g1 : DataW.trod enc Tryz.prog W base spare held n 3 ((cs.drop 1).take (Tryz.prog.cellsOf 3)) = xs[1]? := hg 1 _ rfl
  rw [z1, List.getElem?_eq_getElem (show 1 < xs.length by rw [hlen]; decide)] at g1
  obtain ⟨y1, K1, o1⟩ := (told_int Tryz.underlying3) _ _ _ _ _ _ g1
  have z2 : Tryz.prog.cellsOf 3 = 1 := by kernel_rfl
  have g2 : DataW.trod enc Tryz.prog W base spare held n 3 ((cs.drop 2).take (Tryz.prog.cellsOf 3)) = xs[2]? := hg 2 _ rfl
  rw [z2, List.getElem?_eq_getElem (show 2 < xs.length by rw [hlen]; decide)] at g2
  obtain ⟨y2, K2, o2⟩ := (told_int Tryz.underlying3) _ _ _ _ _ _ g2
  exact ⟨⟨y0, y1, y2⟩, fun n => (show Lays W n (lv31 n _) (bv31 _) (cs.drop 0) from (lays_cut (o := 0) (s := 1) (o' := 1) (m := n) rfl (K0 n) rfl (lays_cut (o := 1) (s := 1) (o' := 2) (m := n) rfl (K1 n) rfl (lays_end (o := 2) (s := 1) hl (K2 n))))), ⟨o0, o1, o2⟩⟩
def lv33 (n : Nat) (x : Book) : List Sc := [(.sl n), (.v (.int .i64 x.Rack.Fresh)), (.v (.int .i64 x.Rack.Day)), (.v (.int .i64 x.Rack.Old)), (.v (.int .i64 x.Baked)), (.v (.int .i64 x.Sold)), (.v (.int .i64 x.Thrown))]
def bv33 (x : Book) : List Blk := [(.row false K.k_laws_Event x.Events)]
theorem told33 {H : Type} {enc : TypeId × Value → H} {W : World} : Told enc Tryz.prog W 33 lv33 bv33 OkBook := by
  intro base spare held fuel cs x h
  obtain ⟨xs, n, _, _, hl0, hlen, hg⟩ := DataW.trod_struct Tryz.underlying33 h
  have hl : cs.length = 7 := hl0.trans (by kernel_rfl)
  have z0 : Tryz.prog.cellsOf 29 = 1 := by kernel_rfl
  have g0 : DataW.trod enc Tryz.prog W base spare held n 29 ((cs.drop 0).take (Tryz.prog.cellsOf 29)) = xs[0]? := hg 0 _ rfl
  rw [z0, List.getElem?_eq_getElem (show 0 < xs.length by rw [hlen]; decide)] at g0
  obtain ⟨y0, K0, o0⟩ := (told_slice (k := K.k_laws_Event) Tryz.underlying29 (by kernel_rfl) (fun y => ⟨rfl, rfl⟩) told126) _ _ _ _ _ _ g0
  have z1 : Tryz.prog.cellsOf 31 = 3 := by kernel_rfl
  have g1 : DataW.trod enc Tryz.prog W base spare held n 31 ((cs.drop 1).take (Tryz.prog.cellsOf 31)) = xs[1]? := hg 1 _ rfl
  rw [z1, List.getElem?_eq_getElem (show 1 < xs.length by rw [hlen]; decide)] at g1
  obtain ⟨y1, K1, o1⟩ := told31 _ _ _ _ _ _ g1
  have z2 : Tryz.prog.cellsOf 3 = 1 := by kernel_rfl
  have g2 : DataW.trod enc Tryz.prog W base spare held n 3 ((cs.drop 4).take (Tryz.prog.cellsOf 3)) = xs[2]? := hg 2 _ rfl
  rw [z2, List.getElem?_eq_getElem (show 2 < xs.length by rw [hlen]; decide)] at g2
  obtain ⟨y2, K2, o2⟩ := (told_int Tryz.underlying3) _ _ _ _ _ _ g2
  have z3 : Tryz.prog.cellsOf 3 = 1 := by kernel_rfl
  have g3 : DataW.trod enc Tryz.prog W base spare held n 3 ((cs.drop 5).take (Tryz.prog.cellsOf 3)) = xs[3]? := hg 3 _ rfl
  rw [z3, List.getElem?_eq_getElem (show 3 < xs.length by rw [hlen]; decide)] at g3
  obtain ⟨y3, K3, o3⟩ := (told_int Tryz.underlying3) _ _ _ _ _ _ g3
  have z4 : Tryz.prog.cellsOf 3 = 1 := by kernel_rfl
  have g4 : DataW.trod enc Tryz.prog W base spare held n 3 ((cs.drop 6).take (Tryz.prog.cellsOf 3)) = xs[4]? := hg 4 _ rfl
  rw [z4, List.getElem?_eq_getElem (show 4 < xs.length by rw [hlen]; decide)] at g4
  obtain ⟨y4, K4, o4⟩ := (told_int Tryz.underlying3) _ _ _ _ _ _ g4
  exact ⟨⟨y0, y1, y2, y3, y4⟩, fun n => (show Lays W n (lv33 n _) (bv33 _) (cs.drop 0) from (lays_cut (o := 0) (s := 1) (o' := 1) (m := n + 1) rfl (K0 n) rfl (lays_cut (o := 1) (s := 3) (o' := 4) (m := n + 1) rfl (K1 (n + 1)) rfl (lays_cut (o := 4) (s := 1) (o' := 5) (m := n + 1) rfl (K2 (n + 1)) rfl (lays_cut (o := 5) (s := 1) (o' := 6) (m := n + 1) rfl (K3 (n + 1)) rfl (lays_end (o := 6) (s := 1) hl (K4 (n + 1)))))))), ⟨o0, o1, o2, o3, o4⟩⟩
def lv35 (n : Nat) (x : Bakery) : List Sc := [(.sl n), (.v (.int .i64 x.Dough.Water)), (.v (.int .i64 x.Dough.Salt)), (.v (.int .i64 x.Dough.Leaven)), (.v (.int .i64 x.Loaf.Weight)), (.v (.int .i64 x.Loaf.Loss)), (.sl (n + 1)), (.v (.int .i64 x.Book.Rack.Fresh)), (.v (.int .i64 x.Book.Rack.Day)), (.v (.int .i64 x.Book.Rack.Old)), (.v (.int .i64 x.Book.Baked)), (.v (.int .i64 x.Book.Sold)), (.v (.int .i64 x.Book.Thrown)), (.v (.int .i64 x.Money))]
def bv35 (x : Bakery) : List Blk := [(.row false K.ki64 x.Stock.Grams), (.row false K.k_laws_Event x.Book.Events)]
theorem told35 {H : Type} {enc : TypeId × Value → H} {W : World} : Told enc Tryz.prog W 35 lv35 bv35 OkBakery := by
  intro base spare held fuel cs x h
  obtain ⟨xs, n, _, _, hl0, hlen, hg⟩ := DataW.trod_struct Tryz.underlying35 h
  have hl : cs.length = 14 := hl0.trans (by kernel_rfl)
  have z0 : Tryz.prog.cellsOf 24 = 1 := by kernel_rfl
  have g0 : DataW.trod enc Tryz.prog W base spare held n 24 ((cs.drop 0).take (Tryz.prog.cellsOf 24)) = xs[0]? := hg 0 _ rfl
  rw [z0, List.getElem?_eq_getElem (show 0 < xs.length by rw [hlen]; decide)] at g0
  obtain ⟨y0, K0, o0⟩ := told24 _ _ _ _ _ _ g0
  have z1 : Tryz.prog.cellsOf 26 = 3 := by kernel_rfl
  have g1 : DataW.trod enc Tryz.prog W base spare held n 26 ((cs.drop 1).take (Tryz.prog.cellsOf 26)) = xs[1]? := hg 1 _ rfl
  rw [z1, List.getElem?_eq_getElem (show 1 < xs.length by rw [hlen]; decide)] at g1
  obtain ⟨y1, K1, o1⟩ := told26 _ _ _ _ _ _ g1
  have z2 : Tryz.prog.cellsOf 28 = 2 := by kernel_rfl
  have g2 : DataW.trod enc Tryz.prog W base spare held n 28 ((cs.drop 4).take (Tryz.prog.cellsOf 28)) = xs[2]? := hg 2 _ rfl
  rw [z2, List.getElem?_eq_getElem (show 2 < xs.length by rw [hlen]; decide)] at g2
  obtain ⟨y2, K2, o2⟩ := told28 _ _ _ _ _ _ g2
  have z3 : Tryz.prog.cellsOf 33 = 7 := by kernel_rfl
  have g3 : DataW.trod enc Tryz.prog W base spare held n 33 ((cs.drop 6).take (Tryz.prog.cellsOf 33)) = xs[3]? := hg 3 _ rfl
  rw [z3, List.getElem?_eq_getElem (show 3 < xs.length by rw [hlen]; decide)] at g3
  obtain ⟨y3, K3, o3⟩ := told33 _ _ _ _ _ _ g3
  have z4 : Tryz.prog.cellsOf 3 = 1 := by kernel_rfl
  have g4 : DataW.trod enc Tryz.prog W base spare held n 3 ((cs.drop 13).take (Tryz.prog.cellsOf 3)) = xs[4]? := hg 4 _ rfl
  rw [z4, List.getElem?_eq_getElem (show 4 < xs.length by rw [hlen]; decide)] at g4
  obtain ⟨y4, K4, o4⟩ := (told_int Tryz.underlying3) _ _ _ _ _ _ g4
  exact ⟨⟨y0, y1, y2, y3, y4⟩, fun n => (show Lays W n (lv35 n _) (bv35 _) (cs.drop 0) from (lays_cut (o := 0) (s := 1) (o' := 1) (m := n + 1) rfl (K0 n) rfl (lays_cut (o := 1) (s := 3) (o' := 4) (m := n + 1) rfl (K1 (n + 1)) rfl (lays_cut (o := 4) (s := 2) (o' := 6) (m := n + 1) rfl (K2 (n + 1)) rfl (lays_cut (o := 6) (s := 7) (o' := 13) (m := n + 2) rfl (K3 (n + 1)) rfl (lays_end (o := 13) (s := 1) hl (K4 (n + 2)))))))), ⟨o0, o1, o2, o3, o4⟩⟩
structure OkDeed (x : Deed) : Prop where
  Kind : I64 x.Kind
  A : I64 x.A
  B : I64 x.B
def lv37 (n : Nat) (x : Deed) : List Sc := [(.v (.int .i64 x.Kind)), (.v (.int .i64 x.A)), (.v (.int .i64 x.B))]
def bv37 (x : Deed) : List Blk := []
theorem told37 {H : Type} {enc : TypeId × Value → H} {W : World} : Told enc Tryz.prog W 37 lv37 bv37 OkDeed := by
  intro base spare held fuel cs x h
  obtain ⟨xs, n, _, _, hl0, hlen, hg⟩ := DataW.trod_struct Tryz.underlying37 h
  have hl : cs.length = 3 := hl0.trans (by kernel_rfl)
  have z0 : Tryz.prog.cellsOf 3 = 1 := by kernel_rfl
  have g0 : DataW.trod enc Tryz.prog W base spare held n 3 ((cs.drop 0).take (Tryz.prog.cellsOf 3)) = xs[0]? := hg 0 _ rfl
  rw [z0, List.getElem?_eq_getElem (show 0 < xs.length by rw [hlen]; decide)] at g0
  obtain ⟨y0, K0, o0⟩ := (told_int Tryz.underlying3) _ _ _ _ _ _ g0
  have z1 : Tryz.prog.cellsOf 3 = 1 := by kernel_rfl
  have g1 : DataW.trod enc Tryz.prog W base spare held n 3 ((cs.drop 1).take (Tryz.prog.cellsOf 3)) = xs[1]? := hg 1 _ rfl
  rw [z1, List.getElem?_eq_getElem (show 1 < xs.length by rw [hlen]; decide)] at g1
  obtain ⟨y1, K1, o1⟩ := (told_int Tryz.underlying3) _ _ _ _ _ _ g1
  have z2 : Tryz.prog.cellsOf 3 = 1 := by kernel_rfl
  have g2 : DataW.trod enc Tryz.prog W base spare held n 3 ((cs.drop 2).take (Tryz.prog.cellsOf 3)) = xs[2]? := hg 2 _ rfl
  rw [z2, List.getElem?_eq_getElem (show 2 < xs.length by rw [hlen]; decide)] at g2
  obtain ⟨y2, K2, o2⟩ := (told_int Tryz.underlying3) _ _ _ _ _ _ g2
  exact ⟨⟨y0, y1, y2⟩, fun n => (show Lays W n (lv37 n _) (bv37 _) (cs.drop 0) from (lays_cut (o := 0) (s := 1) (o' := 1) (m := n) rfl (K0 n) rfl (lays_cut (o := 1) (s := 1) (o' := 2) (m := n) rfl (K1 n) rfl (lays_end (o := 2) (s := 1) hl (K2 n))))), ⟨o0, o1, o2⟩⟩
end Go.Proofs.YtlhcphoojiemmaaGreatX
