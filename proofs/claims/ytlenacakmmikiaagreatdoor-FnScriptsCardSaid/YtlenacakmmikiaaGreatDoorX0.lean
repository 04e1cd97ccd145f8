/- The abstract machine: what a function of the translated program computes, over numbers, lists and named blocks, without memory. -/
import Derived.Test.YtlenacakmmikiaaGreatDoorZ0
import Derived.Below
import Derived.Orders
import Derived.Laws.AppendOwn
import Derived.Laws.OwnMore
import Derived.Laws.MakeOwn
import Derived.Laws.StructEq
import Derived.Laws.CopyRow
import Derived.Laws.Tables
import Derived.Lib.AppendStr
import Derived.KernelRfl
import Derived.Deep.Slices
import Derived.Laws.Concat
import Derived.Laws.Small
import Derived.Laws.Slices
import Derived.Laws.Strings3
namespace Go.Proofs.YtlenacakmmikiaaGreatDoorX
open Go
set_option linter.unusedVariables false


/-- What one cell holds. -/
inductive Sc where
  | un
  | v (u : Value)
  | nl
  | sl (i : Nat)
  | bp (i off : Nat)
  | rp (i s j off : Nat)
  | fn (f : FuncId) (caps : List Nat)
inductive A1 where
  | sc (s : Sc)
  | ag (l : List Sc)
inductive AV where
  | a (x : A1)
  | tp (l : List A1)
def AV.un : AV := .a (.sc .un)

section
inductive Blk where
  | no
  | dead
  | box (own : Bool) (l : List Sc)
  | row (own : Bool) (k : K) (xs : List (T k))
structure St where
  t : Nat → AV
  b : Nat → Blk
def St.setT (S : St) (d : Nat) (x : AV) : St := { S with t := fun n => if n = d then x else S.t n }
def St.setB (S : St) (i : Nat) (x : Blk) : St := { S with b := fun n => if n = i then x else S.b n }
def St.ups (S : St) : List (Nat × Blk) → St
  | [] => S
  | (i, x) :: r => (S.setB i x).ups r
structure Wr where
  v : AV
  ups : List (Nat × Blk)
def St.app (S : St) (dst : Option Nat) (w : Wr) : St :=
  match dst with
  | some d => (S.ups w.ups).setT d w.v
  | none => S.ups w.ups
/-- What is handed over at a call, and what comes back: values, and the blocks that they name by their places in the list. -/
structure Pk where
  avs : List A1
  bl : List Blk
structure Rs where
  av : AV
  bl : List Blk

/-- A reading of the state that ends in an answer. -/
inductive RP (α : Type) where
  | ret (x : α)
  | fail
  | rdT (t : Nat) (k : AV → RP α)
  | rdB (i : Nat) (k : Blk → RP α)
  | bsp (b : Bool) (k : Bool → RP α)
  | grd (p : Prop) (i : Decidable p) (k : RP α)
  | call (g : FuncId) (A : Pk) (k : Rs → RP α)
def Oracle : Type 1 := FuncId → Pk → (R : Type) → (Rs → Option R) → Option R

def RP.go {α R : Type} (O : Oracle) (S : St) : RP α → List Nat → List Nat → (α → List Nat → List Nat → Option R) → Option R
  | .ret x, lt, lb, K => K x lt lb
  | .fail, _, _, _ => none
  | .rdT t k, lt, lb, K => RP.go O S (k (S.t t)) (t :: lt) lb K
  | .rdB i k, lt, lb, K => RP.go O S (k (S.b i)) lt (i :: lb) K
  | .bsp b k, lt, lb, K => cond b (RP.go O S (k true) lt lb K) (RP.go O S (k false) lt lb K)
  | .grd p i k, lt, lb, K => @ite _ p i (RP.go O S k lt lb K) none
  | .call g A k, lt, lb, K => O g A R (fun r => RP.go O S (k r) lt lb K)

/-! ### Operands -/
def ofC : Value → Sc
  | .slice none 0 0 => .nl
  | u => .v u
def ofV : Value → AV
  | .agg cs => .a (.ag (cs.toList.map ofC))
  | .tuple _ => .un
  | u => .a (.sc (ofC u))
def evO {α : Type} (o : Operand) (k : AV → RP α) : RP α :=
  match o with
  | .tmp t => .rdT t k
  | .const v => k (ofV v)
  | .func f => k (.a (.sc (.fn f [])))
  | .global _ => .fail
def evOs {α : Type} : List Operand → (List AV → RP α) → RP α
  | [], k => k []
  | o :: r, k => evO o fun v => evOs r fun vs => k (v :: vs)
def asSc {α : Type} (v : AV) (k : Sc → RP α) : RP α := match v with | .a (.sc s) => k s | _ => .fail
def asA1 {α : Type} (v : AV) (k : A1 → RP α) : RP α := match v with | .a x => k x | _ => .fail
def asVal {α : Type} (v : AV) (k : Value → RP α) : RP α := match v with | .a (.sc (.v u)) => k u | _ => .fail
def asBool {α : Type} (v : AV) (k : Bool → RP α) : RP α := match v with | .a (.sc (.v (.bool b))) => k b | _ => .fail
def asInt {α : Type} (v : AV) (k : IntKind → Int → RP α) : RP α := match v with | .a (.sc (.v (.int κ n))) => k κ n | _ => .fail
def Sc.one : Sc → Bool
  | .un => false
  | .v u => u.oneCell'
  | _ => true

/-- What the walk knows of the program's types. -/
structure Env where
  zero : TypeId → Option (List Value)
  agg : TypeId → Option (Option Nat)
  fields : TypeId → Option (List (Nat × TypeId))
  elem : TypeId → Option K
  chg : FuncId → Bool
  eqs : TypeId → Option Nat
  nils : TypeId → List (Option K)
  isBool : TypeId → Bool
  isStr : TypeId → Bool
  int : TypeId → Option IntKind
  arr : TypeId → Option (Nat × Nat)

/-- The text of a row of bytes. -/
def strOf (l : List Int) : ByteArray := l.foldl (fun r n => r.push (UInt8.ofNat n.toNat)) ByteArray.empty
/-- The bytes of a text, as numbers. -/
def bytesOf (z : ByteArray) : List Int := z.data.toList.map fun b => (b.toNat : Int)
/-- A byte of a text. -/
def byteAt (z : ByteArray) (i : Nat) : Int := ((z[i]?.getD 0).toNat : Int)
def newB (d : Nat) (b : Blk) (v : AV) (more : List (Nat × Blk)) : RP Wr :=
  .rdB d fun | .no => .ret ⟨v, more ++ [(d, b)]⟩ | _ => .fail
def vret (u : Value) : RP Wr := .ret ⟨.a (.sc (.v u)), []⟩
def iret (k : IntKind) (n : Int) : RP Wr := vret (.int k n)

def takeN {α : Type} (l : List α) (off n : Nat) : Option (List α) := if off + n ≤ l.length then some ((l.drop off).take n) else none
def readA (E : Env) (t : TypeId) (l : List Sc) (off : Nat) : Option A1 :=
  match E.agg t with
  | some none => (l[off]?).map .sc
  | some (some n) => (takeN l off n).map .ag
  | none => none
def writeA (E : Env) (t : TypeId) (l : List Sc) (off : Nat) (x : A1) : Option (List Sc) :=
  match E.agg t, x with
  | some none, .sc s => if off < l.length && s.one then some (l.set off s) else none
  | some (some n), .ag m => if m.length = n && (off + n ≤ l.length && m.all Sc.one) then some (l.take off ++ m ++ l.drop (off + n)) else none
  | _, _ => none
def vals : List Sc → Option (List Value)
  | [] => some []
  | .v u :: r => (vals r).map (u :: ·)
  | _ :: _ => none
def fillS (E : Env) (fs : List (Nat × TypeId)) (l : List Sc) : List (Nat × AV) → Option (List Sc)
  | [] => some l
  | (j, .a x) :: r => match fs[j]? with
    | some (off, t) => match writeA E t l off x with
      | some l' => fillS E fs l' r
      | none => none
    | none => none
  | _ => none
def elemsS (k : K) : Nat → List (Nat × AV) → Option (List (T k))
  | _, [] => some []
  | i, (j, .a (.sc (.v u))) :: r => if j = i then match dec k [u], elemsS k (i + 1) r with | some x, some xs => some (x :: xs) | _, _ => none else none
  | i, (j, .a (.ag l)) :: r => if j = i then match vals l with
      | some us => match dec k us, elemsS k (i + 1) r with | some x, some xs => some (x :: xs) | _, _ => none
      | none => none
    else none
  | _, _ => none

def bAnd (k : IntKind) (a b : Int) : Int := k.wrap (BitVec.ofInt k.bits a &&& BitVec.ofInt k.bits b).toNat
def bOr (k : IntKind) (a b : Int) : Int := k.wrap (BitVec.ofInt k.bits a ||| BitVec.ofInt k.bits b).toNat
def bXor (k : IntKind) (a b : Int) : Int := k.wrap (BitVec.ofInt k.bits a ^^^ BitVec.ofInt k.bits b).toNat
def bShl (k : IntKind) (a b : Int) : Int := k.wrap (a * 2 ^ (min b.toNat k.bits))
def bShr (k : IntKind) (a b : Int) : Int := a.fdiv (2 ^ (min b.toNat k.bits))
def intBin (op : BinOp) (k : IntKind) (a b : Int) : RP Wr :=
  match op with
  | .add => iret k (k.wrap (a + b))
  | .sub => iret k (k.wrap (a - b))
  | .mul => iret k (k.wrap (a * b))
  | .quo => .grd (b ≠ 0) inferInstance (iret k (k.wrap (a.tdiv b)))
  | .rem => .grd (b ≠ 0) inferInstance (iret k (a.tmod b))
  | .eql => vret (.bool (decide (a = b)))
  | .neq => vret (.bool (!(decide (a = b))))
  | .lss => vret (.bool (decide (a < b)))
  | .leq => vret (.bool (decide (a ≤ b)))
  | .gtr => vret (.bool (decide (b < a)))
  | .geq => vret (.bool (decide (b ≤ a)))
  | .and => iret k (bAnd k a b)
  | .or => iret k (bOr k a b)
  | .xor => iret k (bXor k a b)
  | _ => .fail
def eqInts : List Sc → List Sc → Option Bool
  | [], [] => some true
  | [.v (.int .i64 a)], [.v (.int .i64 b)] => some (decide (a = b))
  | .v (.int .i64 a) :: r, .v (.int .i64 b) :: s => (eqInts r s).map (decide (a = b) && ·)
  | _, _ => none
def binS (E : Env) (op : BinOp) (t : TypeId) (x y : AV) : RP Wr :=
  match x, y with
  | .a (.sc (.v (.int k a))), .a (.sc (.v (.int k' b))) => match op with
    | .shl => .grd (0 ≤ b) inferInstance (iret k (bShl k a b))
    | .shr => .grd (0 ≤ b) inferInstance (iret k (bShr k a b))
    | op => if k = k' then intBin op k a b else .fail
  | .a (.sc (.v (.bool a))), .a (.sc (.v (.bool b))) => match op with
    | .eql => if E.isBool t then vret (.bool (a == b)) else .fail
    | .neq => if E.isBool t then vret (.bool (!(a == b))) else .fail
    | _ => .fail
  | .a (.sc (.v (.string a))), .a (.sc (.v (.string b))) => match op with
    | .add => .grd (a.size + b.size ≤ 9223372036854775807) inferInstance (vret (.string (a ++ b)))
    | .eql => vret (.bool (decide (a = b)))
    | .neq => vret (.bool (!(decide (a = b))))
    | _ => .fail
  | .a (.sc (.sl i)), .a (.sc .nl) => match E.elem t with
    | some _ => .rdB i fun
      | .row _ _ xs => .grd (xs ≠ []) (match xs with | [] => isFalse (by simp) | _ :: _ => isTrue (by simp)) (match op with
        | .eql => vret (.bool false)
        | .neq => vret (.bool true)
        | _ => .fail)
      | _ => .fail
    | none => .fail
  | .a (.sc .nl), .a (.sc .nl) => match E.elem t, op with
    | some _, .eql => vret (.bool true)
    | some _, .neq => vret (.bool false)
    | _, _ => .fail
  | .a (.ag l), .a (.ag m) => match E.eqs t, eqInts l m with
    | some n, some b => if n = l.length then (match op with
      | .eql => vret (.bool b)
      | .neq => vret (.bool (!b))
      | _ => .fail) else .fail
    | _, _ => .fail
  | _, _ => .fail

/-! ### Handing over -/
def Blk.own : Blk → Bool
  | .box o _ => o
  | .row o _ _ => o
  | _ => false
def clash (o : Bool) (i : Nat) : List (Nat × Blk) → Bool
  | [] => false
  | (j, b) :: r => ((j == i) && (o || b.own)) || clash o i r
/-- The place of a row of one's own among what is packed already. -/
def ownAt (i : Nat) : List (Nat × Blk) → Nat → Option Nat
  | [], _ => none
  | (j, b) :: r, m => cond ((j == i) && b.own) (some m) (ownAt i r (m + 1))
def packC {α : Type} (n0 : Nat) (mt : Bool) (s : Sc) (acc : List (Nat × Blk)) (k : Sc → List (Nat × Blk) → RP α) : RP α :=
  match s with
  | .v u => k (.v u) acc
  | .nl => k .nl acc
  | .sl i => if i < n0 then k (.sl i) acc else .rdB i fun
    | .row own κ xs => if clash (mt && own) i acc then (if (mt && own) = true then (match ownAt i acc 0 with | some m => k (.sl (n0 + m)) acc | none => .fail) else .fail) else k (.sl (n0 + acc.length)) (acc ++ [(i, .row (mt && own) κ xs)])
    | _ => .fail
  | _ => .fail
def packCs {α : Type} (n0 : Nat) (mt : Bool) : List Sc → List (Nat × Blk) → (List Sc → List (Nat × Blk) → RP α) → RP α
  | [], acc, k => k [] acc
  | s :: r, acc, k => packC n0 mt s acc fun s' acc => packCs n0 mt r acc fun r' acc => k (s' :: r') acc
def packF {α : Type} (n0 : Nat) : List Nat → List (Nat × Blk) → (List Nat → List (Nat × Blk) → RP α) → RP α
  | [], acc, k => k [] acc
  | i :: r, acc, k => if i < n0 then packF n0 r acc fun r' acc => k (i :: r') acc else .rdB i fun
    | .box _ l => packCs n0 false l acc fun l' acc => if clash false i acc then .fail else packF n0 r (acc ++ [(i, .box false l')]) fun r' acc' => k ((n0 + acc.length) :: r') acc'
    | _ => .fail
def packS {α : Type} (n0 : Nat) (mt : Bool) (s : Sc) (acc : List (Nat × Blk)) (k : Sc → List (Nat × Blk) → RP α) : RP α :=
  match s with
  | .un => k .un acc
  | .bp i off => if i < n0 then k (.bp i off) acc else .rdB i fun
    | .box own l => packCs n0 own l acc fun l' acc => if clash own i acc then .fail else k (.bp (n0 + acc.length) off) (acc ++ [(i, .box own l')])
    | _ => .fail
  | .fn f ids => packF n0 ids acc fun ids' acc => k (.fn f ids') acc
  | s => packC n0 mt s acc k
def pack1 {α : Type} (n0 : Nat) (mt : Bool) (x : A1) (acc : List (Nat × Blk)) (k : A1 → List (Nat × Blk) → RP α) : RP α :=
  match x with
  | .sc s => packS n0 mt s acc fun s' acc => k (.sc s') acc
  | .ag l => packCs n0 mt l acc fun l' acc => k (.ag l') acc
def pack1s {α : Type} (n0 : Nat) (mt : Bool) : List A1 → List (Nat × Blk) → (List A1 → List (Nat × Blk) → RP α) → RP α
  | [], acc, k => k [] acc
  | x :: r, acc, k => pack1 n0 mt x acc fun x' acc => pack1s n0 mt r acc fun r' acc => k (x' :: r') acc
def packV {α : Type} (n0 : Nat) (x : AV) (acc : List (Nat × Blk)) (k : AV → List (Nat × Blk) → RP α) : RP α :=
  match x with
  | .a x => pack1 n0 true x acc fun x' acc => k (.a x') acc
  | .tp l => pack1s n0 true l acc fun l' acc => k (.tp l') acc
def packVs {α : Type} (n0 : Nat) : List AV → List (Nat × Blk) → (List AV → List (Nat × Blk) → RP α) → RP α
  | [], acc, k => k [] acc
  | x :: r, acc, k => packV n0 x acc fun x' acc => packVs n0 r acc fun r' acc => k (x' :: r') acc
/-- The blocks that were there from the start: their cells read anew. -/
def packOld {α : Type} (n0 : Nat) : Nat → Nat → List (Nat × Blk) → (List Blk → List (Nat × Blk) → RP α) → RP α
  | _, 0, acc, k => k [] acc
  | i, n + 1, acc, k => .rdB i fun
    | .box own l => packCs n0 own l acc fun l' acc => packOld n0 (i + 1) n acc fun r acc => k (.box own l' :: r) acc
    | .no => .fail
    | b => packOld n0 (i + 1) n acc fun r acc => k (b :: r) acc
def a1s : List AV → Option (List A1)
  | [] => some []
  | .a x :: r => (a1s r).map (x :: ·)
  | _ => none
def idOf (ids : List (Nat × Blk)) (d m : Nat) : Nat := match ids[m]? with | some (i, _) => i | none => d + (m - ids.length)
def renS (f : Nat → Nat) : Sc → Sc
  | .sl m => .sl (f m)
  | .bp m off => .bp (f m) off
  | .rp _ _ _ _ => .un
  | .fn g caps => .fn g (caps.map f)
  | s => s
def ren1 (f : Nat → Nat) : A1 → A1
  | .sc s => .sc (renS f s)
  | .ag l => .ag (l.map (renS f))
def renV (f : Nat → Nat) : AV → AV
  | .a x => .a (ren1 f x)
  | .tp l => .tp (l.map (ren1 f))
def renB (f : Nat → Nat) : Blk → Blk
  | .box own l => .box own (l.map (renS f))
  | b => b
/-- The blocks that came back: those that were handed over to be changed, then the new ones. -/
def backOld (f : Nat → Nat) : List (Nat × Blk) → List Blk → List (Nat × Blk)
  | (i, b) :: r, c :: s => if b.own then (i, renB f c) :: backOld f r s else backOld f r s
  | _, _ => []
def backNew (f : Nat → Nat) : Nat → List Blk → List (Nat × Blk)
  | _, [] => []
  | d, c :: s => (d, renB f c) :: backNew f (d + 1) s
def rdNos {α : Type} : Nat → Nat → RP α → RP α
  | _, 0, k => k
  | d, n + 1, k => .rdB d fun | .no => rdNos (d + 1) n k | _ => .fail
def callS (E : Env) (d : Nat) (g : FuncId) (args : List AV) : RP Wr :=
  match a1s args with
  | some as => pack1s 0 (E.chg g) as [] fun avs acc => .call g ⟨avs, acc.map (·.2)⟩ fun r =>
    rdNos d (r.bl.length - acc.length) (.ret ⟨renV (idOf acc d) r.av, backOld (idOf acc d) acc r.bl ++ backNew (idOf acc d) d (r.bl.drop acc.length)⟩)
  | none => .fail

/-- The nil slices among cells become rows of their own, without elements. -/
def fixN : Nat → List (Option K) → List Sc → List Sc
  | d, some _ :: ks, .nl :: l => .sl d :: fixN (d + 1) ks l
  | d, _ :: ks, s :: l => s :: fixN d ks l
  | _, _, l => l
def fixR : Nat → List (Option K) → List Sc → List (Nat × Blk)
  | d, some k :: ks, .nl :: l => (d, .row true k []) :: fixR (d + 1) ks l
  | d, _ :: ks, _ :: l => fixR d ks l
  | _, _, _ => []
/-! ### Operations -/
def mn (a b : Int) : Int := if b < a then b else a
def mx (a b : Int) : Int := if b > a then b else a
def lenS (E : Env) (t : TypeId) (v : AV) : RP Wr :=
  match v with
  | .a (.sc .nl) => match E.elem t with | some _ => iret .i64 0 | none => .fail
  | .a (.sc (.sl i)) => match E.elem t with
    | some _ => .rdB i fun | .row _ _ xs => iret .i64 (xs.length : Int) | _ => .fail
    | none => .fail
  | .a (.sc (.v (.string s))) => if E.isStr t then iret .i64 (s.size : Int) else .fail
  | _ => .fail
def castRow {k k' : K} (h : k' = k) (ys : List (T k')) : List (T k) := h ▸ ys
def maxRow : Nat := 4398046511104
def appTo (d : Nat) (k : K) (xs ys : List (T k)) (more : List (Nat × Blk)) : RP Wr :=
  .grd (xs.length + ys.length ≤ maxRow) inferInstance (newB d (.row true k (xs ++ ys)) (.a (.sc (.sl d))) more)
def appSrc {α : Type} (k : K) (x : AV) (c : List (T k) → RP α) : RP α :=
  match x with
  | .a (.sc .nl) => c []
  | .a (.sc (.sl j)) => .rdB j fun
    | .row _ k' ys => match YtlenacakmmikiaaGreatDoorX.eqd k' k with | isTrue h => c (castRow h ys) | isFalse _ => .fail
    | _ => .fail
  | _ => .fail
def appS (E : Env) (d : Nat) (t t' : TypeId) (s x : AV) : RP Wr :=
  if t = t' then match E.elem t with
    | some k => match s with
      | .a (.sc .nl) => appSrc k x fun ys => appTo d k [] ys []
      | .a (.sc (.sl i)) => .rdB i fun
        | .row true k' xs => match YtlenacakmmikiaaGreatDoorX.eqd k' k with
          | isTrue h => appSrc k x fun ys => appTo d k (castRow h xs) ys [(i, .dead)]
          | isFalse _ => .fail
        | _ => .fail
      | _ => .fail
    | none => .fail
  else match E.elem t, E.isStr t', x with
    | some k, true, .a (.sc (.v (.string z))) => match u8r k (bytesOf z) with
      | some ys => match s with
        | .a (.sc .nl) => appTo d k [] ys []
        | .a (.sc (.sl i)) => .rdB i fun
          | .row true k' xs => match YtlenacakmmikiaaGreatDoorX.eqd k' k with
            | isTrue h => appTo d k (castRow h xs) ys [(i, .dead)]
            | isFalse _ => .fail
          | _ => .fail
        | _ => .fail
      | none => .fail
    | _, _, _ => .fail
def sameOp : Operand → Operand → Bool
  | .tmp a, .tmp b => a == b
  | .const (.int k a), .const (.int k' b) => decide (k = k') && decide (a = b)
  | _, _ => false
def optInt {α : Type} (o : Option Operand) (n : Int) (k : Int → RP α) : RP α :=
  match o with
  | none => k n
  | some x => evO x fun v => asInt v fun _ i => k i
/-- A place of an array, of those from j on: which one it is is parted. -/
def atIx {α : Type} : Nat → Int → Nat → (Nat → RP α) → RP α
  | 0, _, _, _ => .fail
  | r + 1, n, j, k => .bsp (decide (n = (j : Int))) fun b => cond b (k j) (atIx r n (j + 1) k)
def cIx : Operand → Option Nat
  | .const (.int _ (.ofNat m)) => some m
  | _ => none
def opBody (E : Env) (d : Nat) (op : Op) : RP Wr :=
  match op with
  | .move x | .assign x => evO x fun v => .ret ⟨v, []⟩
  | .pick c a b => evO c fun v => asBool v fun b0 => .bsp b0 fun b1 => evO (if b1 then a else b) fun v => .ret ⟨v, []⟩
  | .alloc t => match E.zero t with
    | some l => rdNos d (1 + (fixR (d + 1) (E.nils t) (l.map ofC)).length) (.ret ⟨.a (.sc (.bp d 0)), fixR (d + 1) (E.nils t) (l.map ofC) ++ [(d, .box true (fixN (d + 1) (E.nils t) (l.map ofC)))]⟩)
    | none => .fail
  | .box t x => evO x fun v => match v with
    | .a (.ag l) => if l.all Sc.one then newB d (.box true l) (.a (.sc (.bp d 0))) [] else .fail
    | .a (.sc s) => if s.one then newB d (.box true [s]) (.a (.sc (.bp d 0))) [] else .fail
    | _ => .fail
  | .build t ps => match E.fields t, E.zero t with
    | some fs, some z => evOs (ps.toList.map (·.2)) fun vs => match fillS E fs (z.map ofC) ((ps.toList.map (·.1)).zip vs) with
      | some l => rdNos (d + 1) (fixR (d + 1) (E.nils t) l).length (.ret ⟨.a (.ag (fixN (d + 1) (E.nils t) l)), fixR (d + 1) (E.nils t) l⟩)
      | none => .fail
    | none, some z => match E.arr t with
      | some _ => if ps.size = 0 then .ret ⟨.a (.ag (z.map ofC)), []⟩ else .fail
      | none => .fail
    | _, _ => .fail
  | .buildSlice t n ps => match E.elem t with
    | some k => evOs (ps.toList.map (·.2)) fun vs => match elemsS k 0 ((ps.toList.map (·.1)).zip vs) with
      | some xs => if xs.length = n ∧ n * sz k ≤ 16777216 then newB d (.row true k xs) (.a (.sc (.sl d))) [] else .fail
      | none => .fail
    | none => .fail
  | .load t x => evO x fun v => asSc v fun
    | .bp i off => .rdB i fun
      | .box _ l => match readA E t l off with | some y => .ret ⟨.a y, []⟩ | none => .fail
      | _ => .fail
    | .rp i _ j off => .rdB i fun
      | .row _ k xs => match readA E t ((enc k (xs.getD j (dflt k))).map .v) off with | some y => .ret ⟨.a y, []⟩ | none => .fail
      | _ => .fail
    | _ => .fail
  | .store t x y => evO x fun v => asSc v fun p => evO y fun z => asA1 z fun z => match p with
    | .bp i off => .rdB i fun
      | .box true l => match writeA E t l off z with | some l' => .ret ⟨.un, [(i, .box true l')]⟩ | none => .fail
      | _ => .fail
    | .rp i _ j off => .rdB i fun
      | .row true k xs => match writeA E t ((enc k (xs.getD j (dflt k))).map .v) off z with
        | some l' => match vals l' with
          | some us => match dec k us with | some e => .ret ⟨.un, [(i, .row true k (xs.set j e))]⟩ | none => .fail
          | none => .fail
        | none => .fail
      | _ => .fail
    | _ => .fail
  | .nilCheck x => evO x fun v => match v with
    | .a (.sc (.bp i off)) => .ret ⟨v, []⟩
    | .a (.sc (.fn f caps)) => .ret ⟨v, []⟩
    | _ => .fail
  | .binOp op t x y _ => evO x fun a => evO y fun b => binS E op t a b
  | .unOp op _ x => evO x fun a => match op, a with
    | .not, .a (.sc (.v (.bool b))) => vret (.bool (!b))
    | .neg, .a (.sc (.v (.int k n))) => iret k (k.wrap (0 - n))
    | _, _ => .fail
  | .convert s t x => match E.int s, E.int t with
    | some _, some k => evO x fun v => asInt v fun _ n => iret k (k.wrap n)
    | _, _ => match E.isStr t, E.isStr s, E.elem s with
      | true, true, _ => evO x fun v => asSc v fun
        | .v (.string z) => .ret ⟨.a (.sc (.v (.string z))), []⟩
        | _ => .fail
      | true, false, some k => if E.int (ty k) = some .u8 then evO x fun v => asSc v fun
          | .nl => .ret ⟨.a (.sc (.v (.string (strOf [])))), []⟩
          | .sl i => .rdB i fun
            | .row _ k' xs => match u8s k' xs with | some l => .ret ⟨.a (.sc (.v (.string (strOf l)))), []⟩ | none => .fail
            | _ => .fail
          | _ => .fail
        else .fail
      | _, _, _ => .fail
  | .fieldAddr t x f => match E.fields t with
    | some fs => match fs[f]? with
      | some (o, _) => evO x fun v => match v with
        | .a (.sc (.bp i off)) => .ret ⟨.a (.sc (.bp i (off + o))), []⟩
        | .a (.sc (.rp i s j off)) => .ret ⟨.a (.sc (.rp i s j (off + o))), []⟩
        | _ => .fail
      | none => .fail
    | none => .fail
  | .field t x f => match E.fields t with
    | some fs => match fs[f]? with
      | some (o, u) => evO x fun v => match v with
        | .a (.ag l) => match readA E u l o with | some y => .ret ⟨.a y, []⟩ | none => .fail
        | _ => .fail
      | none => .fail
    | none => .fail
  | .indexAddr t x ix => match E.elem t with
    | some k => evO x fun v => asSc v fun
      | .sl i => evO ix fun j => asInt j fun _ n => .rdB i fun
        | .row _ k' xs => match YtlenacakmmikiaaGreatDoorX.eqd k' k with
          | isTrue _ => .grd (0 ≤ n ∧ n < xs.length) inferInstance (.ret ⟨.a (.sc (.rp i (sz k) n.toNat 0)), []⟩)
          | isFalse _ => .fail
        | _ => .fail
      | _ => .fail
    | none => match E.arr t with
      | some (len, s) => evO x fun v => asSc v fun
        | .bp i off => evO ix fun j => asInt j fun _ n => .grd (0 ≤ n ∧ n < (len : Int)) inferInstance (match cIx ix with
          | some m => if n = (m : Int) then .ret ⟨.a (.sc (.bp i (off + m * s))), []⟩ else .fail
          | none => atIx len n 0 fun m => .ret ⟨.a (.sc (.bp i (off + m * s))), []⟩)
        | _ => .fail
      | none => .fail
  | .extract x n => evO x fun v => match v with
    | .tp l => match l[n]? with | some y => .ret ⟨.a y, []⟩ | none => .fail
    | _ => .fail
  | .slice t x lo hi none => match E.elem t with
    | some k => evO x fun v => asSc v fun
      | .sl i => .rdB i fun
        | .row own k' xs => match YtlenacakmmikiaaGreatDoorX.eqd k' k with
          | isTrue _ => optInt lo 0 fun l => optInt hi xs.length fun h =>
            .grd (0 ≤ l ∧ l ≤ h ∧ h ≤ xs.length) inferInstance (newB d (.row false k' ((xs.take h.toNat).drop l.toNat)) (.a (.sc (.sl d))) (if own then [(i, .row false k' xs)] else []))
          | isFalse _ => .fail
        | _ => .fail
      | _ => .fail
    | none => if E.isStr t then evO x fun v => asSc v fun
        | .v (.string z) => optInt lo 0 fun l => optInt hi z.size fun h =>
          .grd (0 ≤ l ∧ l ≤ h ∧ h ≤ z.size) inferInstance (.ret ⟨.a (.sc (.v (.string (z.extract l.toNat h.toNat)))), []⟩)
        | _ => .fail
      else .fail
  | .index t x ix => if E.isStr t then evO x fun v => asSc v fun
      | .v (.string z) => evO ix fun j => asInt j fun _ n => .grd (0 ≤ n ∧ n < (z.size : Int)) inferInstance (iret .u8 (byteAt z n.toNat))
      | _ => .fail
    else .fail
  | .makeSlice t n c => if sameOp n c then match E.elem t with
    | some k => evO n fun v => asInt v fun _ m => .grd (0 ≤ m ∧ m ≤ maxRow) inferInstance (newB d (.row true k (List.replicate m.toNat (dflt k))) (.a (.sc (.sl d))) [])
    | none => .fail
    else .fail
  | .makeFunc (.func f) first caps => if first.size = 0 then evOs caps.toList fun vs => match capIds vs with
      | some ids => .ret ⟨.a (.sc (.fn f ids)), []⟩
      | none => .fail
    else .fail
  | .call c => match c.callee with
    | .builtin b => evOs c.args.toList fun vs => match b, vs, c.argTypes.toList with
      | .len, [v], [t] => lenS E t v
      | .append, [s, x], [t, t'] => appS E d t t' s x
      | .min, [x, y], _ => asInt x fun k a => asInt y fun k' b => if k = k' then iret k (mn a b) else .fail
      | .max, [x, y], _ => asInt x fun k a => asInt y fun k' b => if k = k' then iret k (mx a b) else .fail
      | _, _, _ => .fail
    | .value f => evO f fun v => match v with
      | .a (.sc (.fn g caps)) => evOs c.args.toList fun vs => callS E d g (vs ++ caps.map (fun i => .a (.sc (.bp i 0))))
      | _ => .fail
    | _ => .fail
  | _ => .fail
where capIds : List AV → Option (List Nat)
  | [] => some []
  | .a (.sc (.bp i 0)) :: r => (capIds r).map (i :: ·)
  | _ => none

/-! ### Regions -/
def baseId (o : Oper) : Nat := 1000000 + 16 * (o.dst.getD 0)
def opRP (E : Env) (ops : Array Oper) (o : Oper) : RP Wr :=
  match o.guard with
  | none => opBody E (baseId o) o.op
  | some (j, want) => match (ops[j]?).bind (·.dst) with
    | some g => .rdT g fun v => asBool v fun b => .bsp b fun b => if b == want then opBody E (baseId o) o.op else .ret ⟨.tp [], []⟩
    | none => .fail
def litG (ops : Array Oper) (o : Oper) (b : Bool) (S : St) : St :=
  match o.guard with
  | none => S
  | some (j, _) => match (ops[j]?).bind (·.dst) with
    | some g => S.setT g (.a (.sc (.v (.bool b))))
    | none => S
/-- One operation: its guard is parted ahead of all else, and what it says is kept. -/
def opGo {R : Type} (E : Env) (O : Oracle) (ops : Array Oper) (o : Oper) (S : St) (K : St → Wr → List Nat → List Nat → Option R) : Option R :=
  match o.guard with
  | none => RP.go O S (opBody E (baseId o) o.op) [] [] (K S)
  | some (j, want) => match (ops[j]?).bind (·.dst) with
    | some g => match S.t g with
      | .a (.sc (.v (.bool b))) => cond b
          (if true == want then RP.go O (S.setT g (.a (.sc (.v (.bool true))))) (opBody E (baseId o) o.op) [g] [] (K (S.setT g (.a (.sc (.v (.bool true)))))) else K (S.setT g (.a (.sc (.v (.bool true))))) ⟨.tp [], []⟩ [g] [])
          (if false == want then RP.go O (S.setT g (.a (.sc (.v (.bool false))))) (opBody E (baseId o) o.op) [g] [] (K (S.setT g (.a (.sc (.v (.bool false)))))) else K (S.setT g (.a (.sc (.v (.bool false))))) ⟨.tp [], []⟩ [g] [])
      | .tp [] => K S ⟨.tp [], []⟩ [g] []
      | _ => none
    | none => none
/-- What an operation has read and written. -/
structure Lg where
  i : Nat
  rt : List Nat
  rb : List Nat
  wt : List Nat
  wb : List Nat
def disj : List Nat → List Nat → Bool
  | [], _ => true
  | a :: r, m => !(m.contains a) && disj r m
def Lg.apart (x y : Lg) : Bool := disj x.wt y.rt && (disj x.wt y.wt && (disj x.wb y.rb && (disj x.wb y.wb && (disj y.wt x.rt && disj y.wb x.rb))))
def edge (ops : Array Oper) (i j : Nat) : Bool := match ops[j]? with | some o => o.after.any fun e => Region.binds .any e && e.on == i | none => false
def Lg.okWith (ops : Array Oper) (y : Lg) : List Lg → Bool
  | [] => true
  | x :: r => (edge ops x.i y.i || x.apart y) && Lg.okWith ops y r
def fits (n : Nat) (o : Oper) : Bool := match o.dst with | some d => decide (d < n) | none => true
def okDst (n : Nat) : List Oper → Bool
  | [] => true
  | o :: r => fits n o && okDst n r
def edOk : List Oper → Nat → Bool
  | [], _ => true
  | o :: r, i => (o.after.toList.all fun e => !(Region.binds .any e) || decide (e.on < i)) && edOk r (i + 1)
def regGo {R : Type} (E : Env) (O : Oracle) (ops : Array Oper) : List Oper → St → (St → Option R) → Option R
  | [], S, K => K S
  | o :: r, S, K => opGo E O ops o S fun S wr _ _ => regGo E O ops r (S.app o.dst wr) K
def regDr {R : Type} (E : Env) (O : Oracle) (ops : Array Oper) : List Oper → Nat → List Lg → St → (St → Option R) → Option R
  | [], _, _, S, K => K S
  | o :: r, i, L, S, K => opGo E O ops o S fun S wr rt rb =>
    let l : Lg := ⟨i, rt, rb, o.dst.toList, wr.ups.map (·.1)⟩
    if l.okWith ops L then regDr E O ops r (i + 1) (L ++ [l]) (S.app o.dst wr) K else none

/-! ### Renumbering -/
def compact (n0 : Nat) (roots : List AV) : RP (List AV × List Blk × List Blk) :=
  packVs n0 roots [] fun rs acc => packOld n0 0 n0 acc fun olds acc => .ret (rs, olds, acc.map (·.2))
def blF (bl : List Blk) (i : Nat) : Blk := match bl[i]? with | some b => b | none => .no
def tmF : List Nat → List AV → Nat → AV
  | d :: r, x :: s, i => if i = d then x else tmF r s i
  | _, _, _ => .un
/-- The state at a loop's head: only what lives there, its blocks named anew. -/
def trim {R : Type} (O : Oracle) (n0 : Nat) (live : List Nat) (S : St) (K : St → Option R) : Option R :=
  RP.go O S (compact n0 (live.map S.t)) [] [] fun x _ _ => K ⟨tmF live x.1, blF (x.2.1 ++ x.2.2)⟩

/-! ### Code -/
inductive Ex where
  | normal
  | exit (id : Nat)
  | ret
def rid : Code → Nat
  | .region id _ _ => id
  | .seq a _ => rid a
  | .block _ c => rid c
  | .loop c => rid c
  | _ => 0
def firstR : Code → Option Nat
  | .region id _ _ => some id
  | .seq a b => match firstR a with | some i => some i | none => firstR b
  | .block _ c => firstR c
  | .loop c => firstR c
  | .cond _ a b => match firstR a with | some i => some i | none => firstR b
  | _ => none
def iter {R : Type} (tr : St → (St → Option R) → Option R) (body : St → (Ex → St → Option R) → Option R) : Nat → St → (Ex → St → Option R) → Option R
  | 0, _, _ => none
  | n + 1, S, K => tr S fun S => body S fun e S => match e with
    | .normal => iter tr body n S K
    | e => K e S
/-- What a walk of a function's body is given: types, callees, how many blocks were handed over, what lives at each loop's head, how many temporaries there are. -/
structure Cx where
  E : Env
  O : Oracle
  n0 : Nat
  nt : Nat
  live : Nat → List Nat
def exec {R : Type} (X : Cx) (n : Nat) : Code → St → (Ex → St → Option R) → Option R
  | .skip, S, K => K .normal S
  | .label _, S, K => K .normal S
  | .region _ ops draw, S, K => if okDst X.nt ops.toList then (if draw then (if edOk ops.toList 0 then regDr X.E X.O ops ops.toList 0 [] S (K .normal) else none) else regGo X.E X.O ops ops.toList S (K .normal)) else none
  | .seq a b, S, K => exec X n a S fun e S => match e with
    | .normal => exec X n b S K
    | e => K e S
  | .cond c a b, S, K => RP.go X.O S (evO c fun v => asBool v fun x => .bsp x fun y => .ret y) [] [] fun y _ _ => cond y (exec X n a S K) (exec X n b S K)
  | .block id c, S, K => exec X n c S fun e S => match e with
    | .exit i => if i = id then K .normal S else K (.exit i) S
    | e => K e S
  | .loop c, S, K => iter (trim X.O X.n0 (X.live ((firstR c).getD 0))) (fun S K => exec X n c S K) n S K
  | .exit id, S, K => K (.exit id) S
  | .ret, S, K => K .ret S
  | _, _, _ => none
def startT (avs : List A1) (i : Nat) : AV := match avs[i]? with | some x => .a x | none => .un
def start (A : Pk) : St := ⟨startT A.avs, blF A.bl⟩
def resV (E : Env) (S : St) : ResultVar → Option A1
  | .tmp t => match S.t t with | .a x => some x | _ => none
  | .cell p t => match S.t p with
    | .a (.sc (.bp i off)) => match S.b i with | .box _ l => readA E t l off | _ => none
    | _ => none
def resVs (E : Env) (S : St) : List ResultVar → Option (List A1)
  | [] => some []
  | r :: rs => match resV E S r, resVs E S rs with | some x, some xs => some (x :: xs) | _, _ => none
def resAV : List A1 → AV
  | [x] => .a x
  | l => .tp l
def finish {R : Type} (E : Env) (O : Oracle) (fn : Func) (n0 : Nat) (S : St) (K : Rs → Option R) : Option R :=
  match resVs E S fn.results.toList with
  | some l => RP.go O S (compact n0 [resAV l]) [] [] fun x _ _ => match x.1 with
    | [v] => if x.2.2.all Blk.own then K ⟨v, x.2.1 ++ x.2.2⟩ else none
    | _ => none
  | none => none
/-- A call of a function whose text is fn: with n rounds for each loop. -/
def callF {R : Type} (E : Env) (O : Oracle) (live : Nat → List Nat) (fn : Func) (n : Nat) (A : Pk) (K : Rs → Option R) : Option R :=
  match fn.body with
  | some c => if A.avs.length ≤ fn.ntmps then exec ⟨E, O, A.bl.length, fn.ntmps, live⟩ n c (start A) fun e S => match e with
    | .exit _ => none
    | _ => finish E O fn A.bl.length S K
    else none
  | none => none
end
end Go.Proofs.YtlenacakmmikiaaGreatDoorX
