/- Texts: numerals, and a word with numbers behind it. -/
import Derived.Test.YtlenacakmmikiaaDoorPA0
import Derived.Lib.ItoaLen
import Derived.Lib.Join
namespace Go.Proofs.YtlenacakmmikiaaDoorX
open Go Go.Proofs
set_option linter.unusedVariables false
def bts (l : List UInt8) : ByteArray := ⟨l.toArray⟩
theorem bts_app (a b : List UInt8) : bts a ++ bts b = bts (a ++ b) := by
  apply ByteArray.ext
  simp [bts]
theorem bts_size (a : List UInt8) : (bts a).size = a.length := by simp [bts, ByteArray.size]
theorem bts_data (b : ByteArray) : bts b.data.toList = b := by
  apply ByteArray.ext
  simp [bts]
theorem strOf_one (x : Int) : strOf [x] = bts [UInt8.ofNat x.toNat] := rfl
def itoaB (n : Int) : ByteArray := bts (Lib.itoa n)
def Inr (n : Int) : Prop := 0 ≤ n ∧ n ≤ 9223372036854775807
theorem itoa_len {n : Int} (h : Inr n) : (Lib.itoa n).length ≤ 21 := Lib.itoa_length_le n (by have := h.1; omega) h.2
theorem strconv_Itoa_eq (k : Nat) (n : Int) (h : Inr n) : strconv_Itoa k n = some (itoaB n) := by
  unfold strconv_Itoa
  rw [if_pos ⟨by have := h.1; omega, h.2⟩]; rfl
theorem impl_FormatInt_eq (k : Nat) (n : Int) (h : Inr n) : impl_FormatInt k n = some (itoaB n) := by
  unfold impl_FormatInt
  rw [strconv_Itoa_eq k n h]; rfl
def digs (u : Nat) : List UInt8 := if u = 0 then [] else Lib.decDigits u
theorem digs_step (u : Nat) (h : 0 < u) : digs u = digs (u / 10) ++ [UInt8.ofNat (48 + u % 10)] := by
  unfold digs
  rw [if_neg (by omega)]
  by_cases h10 : u < 10
  · rw [if_pos (by omega), Lib.decDigits_one h10, Nat.mod_eq_of_lt h10]; rfl
  · rw [if_neg (by omega)]
    rw [Lib.decDigits, dif_neg h10]
/-! ### A word with numbers behind it -/
def lineL (w : List UInt8) (ns : List Int) : List UInt8 := w ++ (ns.map fun n => 32 :: Lib.itoa n).flatten
theorem lineL_snoc (w : List UInt8) (A : List Int) (b : Int) : lineL w (A ++ [b]) = lineL w A ++ [32] ++ Lib.itoa b := by simp [lineL]
theorem lineL_len (w : List UInt8) : ∀ (ns : List Int), (∀ n ∈ ns, Inr n) → (lineL w ns).length ≤ w.length + 22 * ns.length := by
  intro ns h
  have : ∀ ns : List Int, (∀ n ∈ ns, Inr n) → ((ns.map fun n => 32 :: Lib.itoa n).flatten).length ≤ 22 * ns.length := by
    intro ns
    induction ns with
    | nil => intro _; simp
    | cons a r ih =>
      intro h
      have h1 := itoa_len (h a (by simp))
      have h2 := ih (fun n hn => h n (by simp [hn]))
      simp only [List.map_cons, List.flatten_cons, List.length_append, List.length_cons]
      omega
  have := this ns h
  simp only [lineL, List.length_append]
  omega
theorem join_line (w : List UInt8) (A : List Int) : Lib.join ((bts w :: A.map itoaB).map (·.data.toList)) [32] = lineL w A := by
  rw [List.map_cons, Lib.join_cons]
  unfold lineL Lib.joinTail
  congr 1
  · simp [List.map_map, Function.comp_def, itoaB, bts]
theorem told_lp (k : Nat) (w : List UInt8) (hw : w.length ≤ 100) : ∀ (m : Nat) (B A : List Int), B.length ≤ m → (A ++ B).length ≤ 1000 → (∀ n ∈ A ++ B, Inr n) → impl_told_l0 k m (A ++ B) (A.length : Int) (bts w :: A.map itoaB) = some (bts (lineL w (A ++ B))) := by
  have fin : ∀ A : List Int, A.length ≤ 1000 → (∀ n ∈ A, Inr n) → ((strings_Join k (bts w :: A.map itoaB) (ByteArray.mk #[32])).bind fun y4 => some y4.1) = some (bts (lineL w A)) := by
    intro A hA hI
    have hl := lineL_len w A hI
    have e := join_line w A
    unfold strings_Join
    have e' : Lib.join ((bts w :: A.map itoaB).map (·.data.toList)) (ByteArray.mk #[32]).data.toList = lineL w A := e
    rw [e', if_pos ⟨by simp; omega, by omega⟩]
    rfl
  intro m
  induction m with
  | zero =>
    intro B A h1 h2 h3
    have hB : B = [] := List.eq_nil_of_length_eq_zero (by omega)
    subst hB
    unfold impl_told_l0 impl_told_s0
    rw [lt_end]
    simp only [cond_false]
    rw [List.append_nil]
    exact fin A (by simpa using h2) (by simpa using h3)
  | succ m ih =>
    intro B A h1 h2 h3
    cases B with
    | nil =>
      unfold impl_told_l0 impl_told_s0
      rw [lt_end]
      simp only [cond_false]
      rw [List.append_nil]
      exact fin A (by simpa using h2) (by simpa using h3)
    | cons b B =>
      simp only [List.length_append, List.length_cons] at h1 h2
      unfold impl_told_l0 impl_told_s0
      rw [lt_mid, if_pos ((g_mid A b B).mpr trivial), getD_mid, impl_FormatInt_eq k b (h3 b (by simp)), wr_suc A b (by omega)]
      simp only [cond_true, Option.bind_some]
      rw [if_pos (by simp [maxRow]; omega), app_mid A b B]
      have := ih B (A ++ [b]) (by omega) (by simp; omega) (by rw [← app_mid]; exact h3)
      rw [List.map_append] at this
      exact this
theorem impl_told_eq (k : Nat) (w : List UInt8) (ns : List Int) (hw : w.length ≤ 100) (hk : ns.length ≤ k) (hl : ns.length ≤ 1000) (hI : ∀ n ∈ ns, Inr n) : impl_told k (bts w) ns = some (bts (lineL w ns)) := by
  have := told_lp k w hw k ns [] hk (by simpa using hl) (by simpa using hI)
  exact this
end Go.Proofs.YtlenacakmmikiaaDoorX
