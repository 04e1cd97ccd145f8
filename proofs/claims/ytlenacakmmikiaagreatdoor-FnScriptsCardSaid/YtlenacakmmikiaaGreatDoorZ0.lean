/- The structures that the functions work on, by the names of the program's fields, and the kinds of elements that rows of memory hold. (The file is written by wip/x/vxp.py of this repository.) -/
import Derived.Laws.AppendOwn
import Derived.Lib.LaidTab
import Derived.Lib.ItoaNum
namespace Go.Proofs.YtlenacakmmikiaaGreatDoorX
open Go
set_option linter.unusedVariables false
structure Event where
  Kind : Int
  Loaves : Int
structure l01Cur where
  b : (List Int)
  i : Int
  h : Int
structure Dough where
  Water : Int
  Salt : Int
  Leaven : Int
structure Loaf where
  Weight : Int
  Loss : Int
structure Stock where
  Grams : (List Int)
structure Rack where
  Fresh : Int
  Day : Int
  Old : Int
structure Book where
  Events : (List Event)
  Rack : Rack
  Baked : Int
  Sold : Int
  Thrown : Int
structure Bakery where
  Stock : Stock
  Dough : Dough
  Loaf : Loaf
  Book : Book
  Money : Int
structure Deed where
  Kind : Int
  A : Int
  B : Int
inductive K where
  | ku8
  | ki64
  | k_impl_Event
  | k_impl_Act
  | kstr
abbrev T : K → Type
  | .ku8 => Int
  | .ki64 => Int
  | .k_impl_Event => Event
  | .k_impl_Act => Deed
  | .kstr => ByteArray
def dk_impl_Event : Event := (⟨0, 0⟩ : Event)
def dk_impl_Act : Deed := (⟨0, 0, 0⟩ : Deed)
def enc : (k : K) → T k → List Value
  | .ku8, (x : Int) => [(.int .u8 x)]
  | .ki64, (x : Int) => [(.int .i64 x)]
  | .k_impl_Event, (x : Event) => [(.int .i64 x.Kind), (.int .i64 x.Loaves)]
  | .k_impl_Act, (x : Deed) => [(.int .i64 x.Kind), (.int .i64 x.A), (.int .i64 x.B)]
  | .kstr, (x : ByteArray) => [(.string x)]
def dec : (k : K) → List Value → Option (T k)
  | .ku8, [(.int .u8 x0)] => some x0
  | .ki64, [(.int .i64 x0)] => some x0
  | .k_impl_Event, [(.int .i64 x0), (.int .i64 x1)] => some (⟨x0, x1⟩ : Event)
  | .k_impl_Act, [(.int .i64 x0), (.int .i64 x1), (.int .i64 x2)] => some (⟨x0, x1, x2⟩ : Deed)
  | .kstr, [(.string x0)] => some x0
  | _, _ => none
def dflt : (k : K) → T k
  | .ku8 => (0 : Int)
  | .ki64 => (0 : Int)
  | .k_impl_Event => (dk_impl_Event : Event)
  | .k_impl_Act => (dk_impl_Act : Deed)
  | .kstr => ((ByteArray.mk #[]) : ByteArray)
def sz : K → Nat
  | .ku8 => 1
  | .ki64 => 1
  | .k_impl_Event => 2
  | .k_impl_Act => 3
  | .kstr => 1
def ty : K → TypeId
  | .ku8 => 5
  | .ki64 => 3
  | .k_impl_Event => 133
  | .k_impl_Act => 55
  | .kstr => 9
def eqd (a b : K) : Decidable (a = b) := by cases a <;> cases b <;> first | exact isTrue rfl | exact isFalse (fun h => nomatch h)
/-- The variables of the library that the program reads: where they lie, what they hold. -/
def tabs : List (Nat × (Array Value → Prop)) := [(1, fun cs => cs = (Lib.pow10Tab.map fun z => Value.int .u64 z).toArray), (4, fun cs => ∃ ev, cs[0]? = some ev ∧ (ev = .nilIface ∨ ∃ te pe, ev = .iface te pe)), (5, fun cs => ∃ ev, cs[0]? = some ev ∧ (ev = .nilIface ∨ ∃ te pe, ev = .iface te pe)), (0, fun cs => ∃ m, cs[0]? = some (.int .i64 m))]
/-- The bytes that a row holds, if it is one of bytes. -/
def u8s : (k : K) → List (T k) → Option (List Int)
  | .ku8, (xs : List Int) => some xs
  | _, _ => none
theorem flat_u8 : ∀ l : List Int, l.flatMap (fun x => [Value.int .u8 x]) = l.map (Value.int .u8)
  | [] => rfl
  | a :: r => by rw [List.flatMap_cons, List.map_cons, flat_u8 r]; rfl
theorem u8s_ok : ∀ (k : K) (xs : List (T k)) (l : List Int), u8s k xs = some l → xs.flatMap (enc k) = l.map (Value.int .u8) ∧ l.length = xs.length := by
  intro k xs l h
  cases k <;> first
    | (cases h; done)
    | (cases h; exact ⟨flat_u8 l, rfl⟩)
def u8k : K → Bool
  | .ku8 => true
  | _ => false
/-- Bytes as a row's elements, if it is one of bytes. -/
def u8r : (k : K) → List Int → Option (List (T k))
  | .ku8, xs => some xs
  | _, _ => none
theorem u8r_ok : ∀ (k : K) (l : List Int) (xs : List (T k)), u8r k l = some xs → xs.flatMap (enc k) = l.map (Value.int .u8) ∧ xs.length = l.length ∧ u8k k = true ∧ sz k = 1 := by
  intro k l xs h
  cases k <;> first
    | (cases h; done)
    | (cases h; exact ⟨flat_u8 l, rfl, rfl, rfl⟩)
theorem enc_len : ∀ (k : K) (x : T k), (enc k x).length = sz k := by intro k x; cases k <;> rfl
theorem enc_one : ∀ (k : K) (x : T k) (u : Value), u ∈ enc k x → u.oneCell' = true := by intro k x u h; cases k <;> simp [enc] at h <;> (try rcases h with rfl | rfl | rfl) <;> (try rcases h with rfl | rfl) <;> (try subst h) <;> rfl
theorem dec_enc : ∀ (k : K) (l : List Value) (x : T k), dec k l = some x → enc k x = l := by
  intro k l x h
  unfold dec at h
  split at h <;> cases h <;> rfl
theorem sz_pos : ∀ (k : K), 0 < sz k := by intro k; cases k <;> decide
end Go.Proofs.YtlenacakmmikiaaGreatDoorX
