/- The structures that the functions work on, by the names of the program's fields, and the kinds of elements that rows of memory hold. (The file is written by wip/x/vxp.py of this repository.) -/
import Derived.Laws.AppendOwn
namespace Go.Proofs.YtlhcphoojiemmaaX
open Go
set_option linter.unusedVariables false
structure Event where
  Kind : Int
  Loaves : Int
structure l01Cur where
  b : (List Int)
  i : Int
  h : Int
structure Rack where
  Fresh : Int
  Day : Int
  Old : Int
structure Book where
  Events : (List Event)
  Rack : Rack
  Baked : Int
  Sold : Int
  Thrown : Int
structure Dough where
  Water : Int
  Salt : Int
  Leaven : Int
structure Loaf where
  Weight : Int
  Loss : Int
structure Stock where
  Grams : (List Int)
structure Bakery where
  Stock : Stock
  Dough : Dough
  Loaf : Loaf
  Book : Book
  Money : Int
structure Deed where
  Kind : Int
  A : Int
  B : Int
inductive K where
  | ku8
  | k_impl_Event
  | ki64
  | k_impl_Act
abbrev T : K → Type
  | .ku8 => Int
  | .k_impl_Event => Event
  | .ki64 => Int
  | .k_impl_Act => Deed
def dk_impl_Event : Event := (⟨0, 0⟩ : Event)
def dk_impl_Act : Deed := (⟨0, 0, 0⟩ : Deed)
def enc : (k : K) → T k → List Value
  | .ku8, (x : Int) => [(.int .u8 x)]
  | .k_impl_Event, (x : Event) => [(.int .i64 x.Kind), (.int .i64 x.Loaves)]
  | .ki64, (x : Int) => [(.int .i64 x)]
  | .k_impl_Act, (x : Deed) => [(.int .i64 x.Kind), (.int .i64 x.A), (.int .i64 x.B)]
def dec : (k : K) → List Value → Option (T k)
  | .ku8, [(.int .u8 x0)] => some x0
  | .k_impl_Event, [(.int .i64 x0), (.int .i64 x1)] => some (⟨x0, x1⟩ : Event)
  | .ki64, [(.int .i64 x0)] => some x0
  | .k_impl_Act, [(.int .i64 x0), (.int .i64 x1), (.int .i64 x2)] => some (⟨x0, x1, x2⟩ : Deed)
  | _, _ => none
def dflt : (k : K) → T k
  | .ku8 => (0 : Int)
  | .k_impl_Event => (dk_impl_Event : Event)
  | .ki64 => (0 : Int)
  | .k_impl_Act => (dk_impl_Act : Deed)
def sz : K → Nat
  | .ku8 => 1
  | .k_impl_Event => 2
  | .ki64 => 1
  | .k_impl_Act => 3
def ty : K → TypeId
  | .ku8 => 5
  | .k_impl_Event => 67
  | .ki64 => 3
  | .k_impl_Act => 42
def eqd (a b : K) : Decidable (a = b) := by cases a <;> cases b <;> first | exact isTrue rfl | exact isFalse (fun h => nomatch h)
theorem enc_len : ∀ (k : K) (x : T k), (enc k x).length = sz k := by intro k x; cases k <;> rfl
theorem enc_one : ∀ (k : K) (x : T k) (u : Value), u ∈ enc k x → u.oneCell' = true := by intro k x u h; cases k <;> simp [enc] at h <;> (try rcases h with rfl | rfl | rfl) <;> (try rcases h with rfl | rfl) <;> (try subst h) <;> rfl
theorem dec_enc : ∀ (k : K) (l : List Value) (x : T k), dec k l = some x → enc k x = l := by
  intro k l x h
  unfold dec at h
  split at h <;> cases h <;> rfl
theorem sz_pos : ∀ (k : K), 0 < sz k := by intro k; cases k <;> decide
end Go.Proofs.YtlhcphoojiemmaaX
