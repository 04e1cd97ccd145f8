/- The structures that the functions work on, by the names of the program's fields, and the kinds of elements that rows of memory hold. (The file is written by wip/x/vxp.py of this repository.) -/
import Derived.Laws.AppendOwn
import Derived.Lib.LaidTab
import Derived.Lib.ItoaNum
namespace Go.Proofs.YtldpjfacoaplhaaDoorX
open Go
set_option linter.unusedVariables false
structure Deed where
  Kind : Int
  A : Int
  B : Int
inductive K where
  | ku8
  | kstr
  | ki64
abbrev T : K → Type
  | .ku8 => Int
  | .kstr => ByteArray
  | .ki64 => Int
def enc : (k : K) → T k → List Value
  | .ku8, (x : Int) => [(.int .u8 x)]
  | .kstr, (x : ByteArray) => [(.string x)]
  | .ki64, (x : Int) => [(.int .i64 x)]
def dec : (k : K) → List Value → Option (T k)
  | .ku8, [(.int .u8 x0)] => some x0
  | .kstr, [(.string x0)] => some x0
  | .ki64, [(.int .i64 x0)] => some x0
  | _, _ => none
def dflt : (k : K) → T k
  | .ku8 => (0 : Int)
  | .kstr => ((ByteArray.mk #[]) : ByteArray)
  | .ki64 => (0 : Int)
def sz : K → Nat
  | .ku8 => 1
  | .kstr => 1
  | .ki64 => 1
def ty : K → TypeId
  | .ku8 => 5
  | .kstr => 9
  | .ki64 => 3
def eqd (a b : K) : Decidable (a = b) := by cases a <;> cases b <;> first | exact isTrue rfl | exact isFalse (fun h => nomatch h)
/-- The variables of the library that the program reads: where they lie, what they hold. -/
def tabs : List (Nat × (Array Value → Prop)) := [(5, fun cs => cs = (Lib.pow10Tab.map fun z => Value.int .u64 z).toArray), (1, fun cs => ∃ ev, cs[0]? = some ev ∧ (ev = .nilIface ∨ ∃ te pe, ev = .iface te pe)), (2, fun cs => ∃ ev, cs[0]? = some ev ∧ (ev = .nilIface ∨ ∃ te pe, ev = .iface te pe)), (0, fun cs => ∃ m, cs[0]? = some (.int .i64 m))]
/-- The bytes that a row holds, if it is one of bytes. -/
def u8s : (k : K) → List (T k) → Option (List Int)
  | .ku8, (xs : List Int) => some xs
  | _, _ => none
theorem flat_u8 : ∀ l : List Int, l.flatMap (fun x => [Value.int .u8 x]) = l.map (Value.int .u8)
  | [] => rfl
  | a :: r => by rw [List.flatMap_cons, List.map_cons, flat_u8 r]; rfl
theorem u8s_ok : ∀ (k : K) (xs : List (T k)) (l : List Int), u8s k xs = some l → xs.flatMap (enc k) = l.map (Value.int .u8) ∧ l.length = xs.length := by
  intro k xs l h
  cases k <;> first
    | (cases h; done)
    | (cases h; exact ⟨flat_u8 l, rfl⟩)
theorem enc_len : ∀ (k : K) (x : T k), (enc k x).length = sz k := by intro k x; cases k <;> rfl
theorem enc_one : ∀ (k : K) (x : T k) (u : Value), u ∈ enc k x → u.oneCell' = true := by intro k x u h; cases k <;> simp [enc] at h <;> (try subst h) <;> rfl
theorem dec_enc : ∀ (k : K) (l : List Value) (x : T k), dec k l = some x → enc k x = l := by
  intro k l x h
  unfold dec at h
  split at h <;> cases h <;> rfl
theorem sz_pos : ∀ (k : K), 0 < sz k := by intro k; cases k <;> decide
end Go.Proofs.YtldpjfacoaplhaaDoorX
