/- Acts read: the words of a line are taken for the same act by both. -/
import Derived.Test.YtlenacakmmikiaaDoorPT7
import Derived.Test.YtlenacakmmikiaaDoorPF0
namespace Go.Proofs.YtlenacakmmikiaaDoorX
open Go Go.Proofs
set_option linter.unusedVariables false
def zrA : Deed × Bool := (⟨0, 0, 0⟩, false)
def finA (a : Deed) : Deed × Bool := if actOk a = true then (a, true) else zrA
theorem finA_cases (a : Deed) : finA a = zrA ∨ (finA a = (a, true) ∧ actOk a = true) := by
  unfold finA
  split
  · rename_i h; exact .inr ⟨rfl, h⟩
  · exact .inl rfl
/-- What both answer: nothing, or an act that the words tell; and if they tell one, then that. -/
def Sound (p : List (List UInt8)) (r : Deed × Bool) : Prop := r = zrA ∨ (r.2 = true ∧ Tells p r.1)
theorem reads_of {p : List (List UInt8)} {r : Deed × Bool} (h1 : Sound p r) (h2 : ∀ a, Tells p a → r = (a, true)) : Reads p r := by
  rcases h1 with h | h
  · refine .inr ⟨h, fun a ha => ?_⟩
    have := h2 a ha
    rw [h] at this
    exact absurd (congrArg Prod.snd this) (by simp [zrA])
  · exact .inl h
/-! ### The program's reading -/
def wsB : List ByteArray := [(ByteArray.mk #[98, 97, 107, 101]), (ByteArray.mk #[115, 101, 108, 108]), (ByteArray.mk #[99, 104, 101, 97, 112]), (ByteArray.mk #[109, 111, 114, 110, 105, 110, 103]), (ByteArray.mk #[98, 117, 121]), (ByteArray.mk #[102, 108, 111, 117, 114])]
theorem idx_words (w : List UInt8) : (∃ k : Nat, 1 ≤ k ∧ k ≤ 6 ∧ w = actW (k : Int) ∧ Lib.idxOfS wsB (bts w) = (k : Int) - 1) ∨ (Lib.idxOfS wsB (bts w) = -1 ∧ ∀ k : Nat, 1 ≤ k → k ≤ 6 → w ≠ actW (k : Int)) := by
  have e : wsB = [bts (actW 1), bts (actW 2), bts (actW 3), bts (actW 4), bts (actW 5), bts (actW 6)] := rfl
  have ne : ∀ {a : List UInt8}, w ≠ a → ¬ bts a = bts w := fun h q => h (bts_inj q).symm
  rw [e]
  unfold Lib.idxOfS
  simp only [Lib.idxFromS]
  by_cases h1 : w = actW 1
  · exact .inl ⟨1, by decide, by decide, h1, by rw [if_pos (by rw [h1])]; rfl⟩
  rw [if_neg (ne h1)]
  by_cases h2 : w = actW 2
  · exact .inl ⟨2, by decide, by decide, h2, by rw [if_pos (by rw [h2])]; rfl⟩
  rw [if_neg (ne h2)]
  by_cases h3 : w = actW 3
  · exact .inl ⟨3, by decide, by decide, h3, by rw [if_pos (by rw [h3])]; rfl⟩
  rw [if_neg (ne h3)]
  by_cases h4 : w = actW 4
  · exact .inl ⟨4, by decide, by decide, h4, by rw [if_pos (by rw [h4])]; rfl⟩
  rw [if_neg (ne h4)]
  by_cases h5 : w = actW 5
  · exact .inl ⟨5, by decide, by decide, h5, by rw [if_pos (by rw [h5])]; rfl⟩
  rw [if_neg (ne h5)]
  by_cases h6 : w = actW 6
  · exact .inl ⟨6, by decide, by decide, h6, by rw [if_pos (by rw [h6])]; rfl⟩
  rw [if_neg (ne h6)]
  refine .inr ⟨rfl, fun k a b => ?_⟩
  have : k = 1 ∨ k = 2 ∨ k = 3 ∨ k = 4 ∨ k = 5 ∨ k = 6 := by omega
  rcases this with q | q | q | q | q | q <;> subst q <;> assumption
theorem actN_le (k : Nat) (h1 : 1 ≤ k) (h6 : k ≤ 6) : actN (k : Int) ≤ 2 ∧ ([1, 1, 1, 0, 2, 1] : List Int).getD (Int.toNat ((k : Int) - 1)) 0 = ((actN (k : Int) : Nat) : Int) := by
  have : k = 1 ∨ k = 2 ∨ k = 3 ∨ k = 4 ∨ k = 5 ∨ k = 6 := by omega
  rcases this with q | q | q | q | q | q <;> subst q <;> exact ⟨by decide, by decide⟩
theorem tell_word {w : List UInt8} {ps : List (List UInt8)} {a : Deed} {k : Nat} (h1 : 1 ≤ k) (h6 : k ≤ 6) (hw : w = actW (k : Int)) (h : Tells (w :: ps) a) : a.Kind = (k : Int) ∧ ps = ([a.A, a.B].take (actN (k : Int))).map Lib.itoa := by
  obtain ⟨ha, ht⟩ := h
  unfold TF at ht
  have e1 := (List.cons.inj ht).1
  have e2 := (List.cons.inj ht).2
  have hk : a.Kind = (k : Int) := by
    rw [hw] at e1
    have : k = 1 ∨ k = 2 ∨ k = 3 ∨ k = 4 ∨ k = 5 ∨ k = 6 := by omega
    rcases act_kinds ha with x | x | x | x | x | x <;> rcases this with y | y | y | y | y | y <;> rw [x, y] at e1 <;> first
      | exact absurd e1 (by decide)
      | (rw [x, y]; rfl)
  exact ⟨hk, by rw [← hk]; exact e2.symm⟩
theorem told_word {k : Nat} {n0 n1 : Int} {ps : List (List UInt8)} (h : actOk ⟨(k : Int), n0, n1⟩ = true) (hp : ps = ([n0, n1].take (actN (k : Int))).map Lib.itoa) : Tells (actW (k : Int) :: ps) ⟨(k : Int), n0, n1⟩ := ⟨h, by rw [hp]; rfl⟩
noncomputable def numsA (k : Nat) (ps : List (List UInt8)) : Deed × Bool := match ps with
  | [] => finA ⟨(k : Int), 0, 0⟩
  | [x] => if (pu (bts x)).2 = true then finA ⟨(k : Int), (pu (bts x)).1, 0⟩ else zrA
  | [x, y] => if (pu (bts x)).2 = true then (if (pu (bts y)).2 = true then finA ⟨(k : Int), (pu (bts x)).1, (pu (bts y)).1⟩ else zrA) else zrA
  | _ => zrA
theorem numsA_1 (k : Nat) (x : List UInt8) : numsA k [x] = if (pu (bts x)).2 = true then finA ⟨(k : Int), (pu (bts x)).1, 0⟩ else zrA := rfl
theorem numsA_2 (k : Nat) (x y : List UInt8) : numsA k [x, y] = if (pu (bts x)).2 = true then (if (pu (bts y)).2 = true then finA ⟨(k : Int), (pu (bts x)).1, (pu (bts y)).1⟩ else zrA) else zrA := rfl
theorem pu_true {x : List UInt8} (h : (pu (bts x)).2 = true) : x = Lib.itoa (pu (bts x)).1 := by
  rcases pu_cases (bts x) with e | ⟨n, hn, e, e2⟩
  · rw [e] at h; cases h
  · rw [e2]; exact bts_inj e
theorem numsA_reads (k : Nat) (h1 : 1 ≤ k) (h6 : k ≤ 6) (ps : List (List UInt8)) (hl : ps.length = actN (k : Int)) : Reads (actW (k : Int) :: ps) (numsA k ps) := by
  have hN := (actN_le k h1 h6).1
  have puI : ∀ {n : Int}, Num n → pu (bts (Lib.itoa n)) = (n, true) := fun h => pu_itoa _ h
  refine reads_of ?_ fun a ha => ?_
  · match ps, hl with
    | [], hl =>
      rcases finA_cases ⟨(k : Int), 0, 0⟩ with e | ⟨e, h⟩
      · exact .inl e
      · exact .inr ⟨by show (finA _).2 = true; rw [e], by show Tells _ (finA _).1; rw [e]; exact told_word h (by rw [← hl]; rfl)⟩
    | [x], hl =>
      show Sound _ (if _ then _ else _)
      split
      · rename_i hx
        rcases finA_cases ⟨(k : Int), (pu (bts x)).1, 0⟩ with e | ⟨e, h⟩
        · exact .inl e
        · refine .inr ⟨by rw [e], ?_⟩
          rw [e]
          refine told_word h ?_
          rw [← hl]
          show [x] = [Lib.itoa (pu (bts x)).1]
          rw [← pu_true hx]
      · exact .inl rfl
    | [x, y], hl =>
      show Sound _ (if _ then _ else _)
      split
      · rename_i hx
        split
        · rename_i hy
          rcases finA_cases ⟨(k : Int), (pu (bts x)).1, (pu (bts y)).1⟩ with e | ⟨e, h⟩
          · exact .inl e
          · refine .inr ⟨by rw [e], ?_⟩
            rw [e]
            refine told_word h ?_
            rw [← hl]
            show [x, y] = [Lib.itoa (pu (bts x)).1, Lib.itoa (pu (bts y)).1]
            rw [← pu_true hx, ← pu_true hy]
        · exact .inl rfl
      · exact .inl rfl
    | x :: y :: z :: r, hl => simp at hl; omega
  · obtain ⟨hk, hps⟩ := tell_word h1 h6 rfl ha
    have hok := ha.1
    obtain ⟨nA, nB⟩ := act_num hok
    obtain ⟨_, _, b1, b2⟩ := act_nums hok
    rw [hk] at b1 b2
    have hc : actN (k : Int) = 0 ∨ actN (k : Int) = 1 ∨ actN (k : Int) = 2 := by omega
    have hfin : finA a = (a, true) := by unfold finA; rw [if_pos hok]
    obtain ⟨ak, aA, aB⟩ := a
    simp only at hk b1 b2 hps nA nB
    subst hk
    rcases hc with c | c | c
    · rw [c] at hps
      rw [hps]
      have z1 := b2 c
      have z2 := b1 (by omega)
      subst z1; subst z2
      exact hfin
    · rw [c] at hps
      rw [hps]
      have z2 := b1 (by omega)
      subst z2
      show (if (pu (bts (Lib.itoa aA))).2 = true then finA ⟨(k : Int), (pu (bts (Lib.itoa aA))).1, 0⟩ else zrA) = _
      rw [puI nA, if_pos rfl]
      exact hfin
    · rw [c] at hps
      rw [hps]
      show (if (pu (bts (Lib.itoa aA))).2 = true then (if (pu (bts (Lib.itoa aB))).2 = true then finA ⟨(k : Int), (pu (bts (Lib.itoa aA))).1, (pu (bts (Lib.itoa aB))).1⟩ else zrA) else zrA) = _
      rw [puI nA, puI nB, if_pos rfl, if_pos rfl]
      exact hfin
theorem impl_pa_end (k : Nat) (y1 : List ByteArray × Bool) (y3 : Int × List ByteArray) (R : List ByteArray) (hR : (y1.1.take (Int.toNat ((y1.1).length : Int))).drop 1 = R) (J : Int → Int → Int → Option (Deed × Bool)) (κ : Nat) (hκ : y3.1 = (κ : Int) - 1) (h6 : κ ≤ 6) (n0 n1 : Int) :
    impl_ParseAct_s0 k y1 y3 J (R.length : Int) n0 n1 = some (finA ⟨(κ : Int), n0, n1⟩) := by
  unfold impl_ParseAct_s0 finA
  rw [hR, decide_eq_false (by omega), cond_false, if_pos (by decide), if_pos (by decide), hκ, wr_id (by omega) (by omega), impl_ActOk_eq]
  have e : (κ : Int) - 1 + 1 = (κ : Int) := by omega
  rw [e, Option.bind_some, cond_not]
  cases actOk ⟨(κ : Int), n0, n1⟩ <;> rfl
theorem impl_pa_step (k : Nat) (y1 : List ByteArray × Bool) (y3 : Int × List ByteArray) (A : List ByteArray) (x : List UInt8) (B : List ByteArray) (hR : (y1.1.take (Int.toNat ((y1.1).length : Int))).drop 1 = A ++ bts x :: B) (hA : A.length ≤ 1) (hx : x.length ≤ 1048576) (J : Int → Int → Int → Option (Deed × Bool)) (n0 n1 : Int) :
    impl_ParseAct_s0 k y1 y3 J (A.length : Int) n0 n1 = if (pu (bts x)).2 = true then J ((A ++ [bts x]).length : Int) (if A.length = 0 then (pu (bts x)).1 else n0) (if A.length = 0 then n1 else (pu (bts x)).1) else some zrA := by
  unfold impl_ParseAct_s0
  rw [hR, lt_mid, if_pos ((g_mid A (bts x) B).mpr trivial), getD_mid, impl_ParseUint_eq k _ (by rw [bts_size]; exact hx), cond_true, Option.bind_some, cond_not]
  cases hp : (pu (bts x)).2 with
  | false => rfl
  | true =>
    rw [cond_true, if_pos rfl, if_pos ⟨by omega, by omega⟩, wr_suc A (bts x) (by omega)]
    by_cases h0 : A.length = 0
    · rw [if_pos h0, if_pos h0, decide_eq_true (by omega), cond_true]
    · rw [if_neg h0, if_neg h0, decide_eq_false (by omega), decide_eq_true (by omega), cond_false, cond_true]
theorem impl_pa_lp (k : Nat) (hk : 3 ≤ k) (y1 : List ByteArray × Bool) (y3 : Int × List ByteArray) (ps : List (List UInt8)) (hR : (y1.1.take (Int.toNat ((y1.1).length : Int))).drop 1 = ps.map bts) (hl : ps.length ≤ 2) (hx : ∀ x ∈ ps, x.length ≤ 1048576) (κ : Nat) (hκ : y3.1 = (κ : Int) - 1) (h6 : κ ≤ 6) :
    impl_ParseAct_l0 k k y1 y3 0 0 0 = some (numsA κ ps) := by
  obtain ⟨m, rfl⟩ : ∃ m, k = m + 3 := ⟨k - 3, by omega⟩
  match ps, hl with
  | [], _ => exact impl_pa_end (m + 3) y1 y3 [] hR _ κ hκ h6 0 0
  | [x], _ =>
    have s1 := impl_pa_step (m + 3) y1 y3 [] x [] hR (by decide) (hx x (by simp)) (impl_ParseAct_l0 (m + 3) (m + 2) y1 y3) 0 0
    refine s1.trans ?_
    rw [numsA_1]
    by_cases hx1 : (pu (bts x)).2 = true
    · rw [if_pos hx1, if_pos hx1]
      exact impl_pa_end (m + 3) y1 y3 [bts x] hR (impl_ParseAct_l0 (m + 3) (m + 1) y1 y3) κ hκ h6 _ _
    · rw [if_neg hx1, if_neg hx1]
  | [x, y], _ =>
    have s1 := impl_pa_step (m + 3) y1 y3 [] x [bts y] hR (by decide) (hx x (by simp)) (impl_ParseAct_l0 (m + 3) (m + 2) y1 y3) 0 0
    refine s1.trans ?_
    rw [numsA_2]
    by_cases hx1 : (pu (bts x)).2 = true
    · rw [if_pos hx1, if_pos hx1]
      have s2 := impl_pa_step (m + 3) y1 y3 [bts x] y [] hR (by simp) (hx y (by simp)) (impl_ParseAct_l0 (m + 3) (m + 1) y1 y3) (pu (bts x)).1 0
      refine s2.trans ?_
      by_cases hy1 : (pu (bts y)).2 = true
      · rw [if_pos hy1, if_pos hy1]
        exact impl_pa_end (m + 3) y1 y3 [bts x, bts y] hR (impl_ParseAct_l0 (m + 3) m y1 y3) κ hκ h6 _ _
      · rw [if_neg hy1, if_neg hy1]
    · rw [if_neg hx1, if_neg hx1]
  | x :: y :: z :: r, hl => simp at hl
/-- What either answers at a line. -/
def Answers (l : List UInt8) (r : Deed × Bool) : Prop := ((SF l).2 = true ∧ Reads (SF l).1 r) ∨ ((SF l).2 = false ∧ r = zrA)
theorem answers_uniq {l : List UInt8} {r s : Deed × Bool} (h : Answers l r) (h2 : Answers l s) : r = s := by
  rcases h with ⟨h, a⟩ | ⟨h, a⟩ <;> rcases h2 with ⟨h2, b⟩ | ⟨h2, b⟩
  · exact reads_uniq a b
  · rw [h] at h2; cases h2
  · rw [h] at h2; cases h2
  · rw [a, b]
theorem no_words (r : Deed × Bool) (h : r = zrA) : Reads [] r := .inr ⟨h, fun a q => by have := q.2; unfold TF at this; cases this⟩
theorem no_tells {p : List (List UInt8)} (h : ∀ a, ¬ Tells p a) : Reads p zrA := .inr ⟨rfl, h⟩
theorem impl_ParseAct_eq (k : Nat) (hk : 601 ≤ k) (l : List UInt8) : ∃ r, impl_ParseAct k (bts l) = some r ∧ Answers l r := by
  unfold impl_ParseAct impl_ParseAct_m
  rw [impl_SplitFields_eq k (by omega) l, Option.bind_some]
  rcases SF_cases l with e | ⟨e, h600, h24⟩
  · refine ⟨zrA, ?_, .inr ⟨by rw [e], rfl⟩⟩
    rw [e]; rfl
  · have small := wds_small l h600
    rw [e]
    suffices h : ∀ p : List (List UInt8), p.length ≤ 24 → (∀ w ∈ p, w.length ≤ 600) → ∃ r, (cond (!(sfB (p, true)).2) (some ((⟨0, 0, 0⟩ : Deed), false)) (cond (decide (((sfB (p, true)).1.length : Int) = 0)) (some ((⟨0, 0, 0⟩ : Deed), false))
        ((impl_actWords k).bind fun y2 => if 0 ≤ (0 : Int) ∧ (0 : Int) < ((sfB (p, true)).1.length : Int) then
          (slices_Index_string_string k y2 ((sfB (p, true)).1.getD 0 (ByteArray.mk #[]))).bind fun y3 => cond (decide ((y3.1 : Int) < 0)) (some ((⟨0, 0, 0⟩ : Deed), false))
            ((impl_actNumbers k).bind fun y4 => if 0 ≤ (y3.1 : Int) ∧ (y3.1 : Int) < ((y4).length : Int) then
              cond (!(decide (((sfB (p, true)).1.length : Int) = (wr ((y4.getD (Int.toNat y3.1) 0) + 1))))) (some ((⟨0, 0, 0⟩ : Deed), false))
                (if (0 : Int) ≤ 1 ∧ 1 ≤ ((sfB (p, true)).1.length : Int) ∧ ((sfB (p, true)).1.length : Int) ≤ ((sfB (p, true)).1.length : Int) then impl_ParseAct_l0 k k (sfB (p, true)) y3 0 0 0 else none) else none) else none))) = some r ∧ Reads p r by
      obtain ⟨r, h1, h2⟩ := h (wds l) h24 small
      exact ⟨r, h1, .inl ⟨by rw [e], by rw [e]; exact h2⟩⟩
    intro p hp hps
    cases p with
    | nil => exact ⟨zrA, rfl, no_words _ rfl⟩
    | cons w ps =>
      have hlen : ((sfB (w :: ps, true)).1.length : Int) = (ps.length : Int) + 1 := by simp [sfB]
      have hg0 : (sfB (w :: ps, true)).1.getD 0 (ByteArray.mk #[]) = bts w := rfl
      rw [hlen, hg0]
      have hnot : (!(sfB (w :: ps, true)).2) = false := rfl
      rw [hnot, cond_false, decide_eq_false (by omega), cond_false]
      unfold impl_actWords impl_actNumbers slices_Index_string_string
      rw [Option.bind_some, if_pos ⟨by omega, by omega⟩, if_pos (by decide), Option.bind_some, Option.bind_some]
      simp only
      rcases idx_words w with ⟨κ, k1, k6, hw, hi⟩ | ⟨hi, hno⟩
      · have hi' : Lib.idxOfS [(ByteArray.mk #[98, 97, 107, 101]), (ByteArray.mk #[115, 101, 108, 108]), (ByteArray.mk #[99, 104, 101, 97, 112]), (ByteArray.mk #[109, 111, 114, 110, 105, 110, 103]), (ByteArray.mk #[98, 117, 121]), (ByteArray.mk #[102, 108, 111, 117, 114])] (bts w) = (κ : Int) - 1 := hi
        obtain ⟨n2, nn⟩ := actN_le κ k1 k6
        rw [hi', decide_eq_false (by omega), cond_false, if_pos ⟨by omega, by simp; omega⟩, nn, wr_id (by omega) (by omega)]
        by_cases hl : ps.length = actN (κ : Int)
        · rw [decide_eq_true (by omega), if_pos ⟨by omega, by omega, by omega⟩]
          have hR : ((sfB (w :: ps, true)).1.take (Int.toNat ((sfB (w :: ps, true)).1.length : Int))).drop 1 = ps.map bts := by
            have : Int.toNat ((sfB (w :: ps, true)).1.length : Int) = (sfB (w :: ps, true)).1.length := by omega
            rw [this, List.take_length]; rfl
          refine ⟨numsA κ ps, ?_, ?_⟩
          · exact impl_pa_lp k (by omega) _ _ ps hR (by omega) (fun x hx => by have := hps x (by simp [hx]); omega) κ rfl k6
          · rw [hw]; exact numsA_reads κ k1 k6 ps hl
        · rw [decide_eq_false (by omega)]
          refine ⟨zrA, rfl, no_tells fun a ha => hl ?_⟩
          have := (tell_word k1 k6 hw ha).2
          rw [this]
          rw [List.length_map, List.length_take]
          simp; omega
      · have hi' : Lib.idxOfS [(ByteArray.mk #[98, 97, 107, 101]), (ByteArray.mk #[115, 101, 108, 108]), (ByteArray.mk #[99, 104, 101, 97, 112]), (ByteArray.mk #[109, 111, 114, 110, 105, 110, 103]), (ByteArray.mk #[98, 117, 121]), (ByteArray.mk #[102, 108, 111, 117, 114])] (bts w) = -1 := hi
        rw [hi', decide_eq_true (by omega), cond_true]
        refine ⟨zrA, rfl, no_tells fun a ha => ?_⟩
        have h1 := (List.cons.inj ha.2).1
        rcases act_kinds ha.1 with x | x | x | x | x | x
        · exact hno 1 (by decide) (by decide) (by rw [← h1, x]; rfl)
        · exact hno 2 (by decide) (by decide) (by rw [← h1, x]; rfl)
        · exact hno 3 (by decide) (by decide) (by rw [← h1, x]; rfl)
        · exact hno 4 (by decide) (by decide) (by rw [← h1, x]; rfl)
        · exact hno 5 (by decide) (by decide) (by rw [← h1, x]; rfl)
        · exact hno 6 (by decide) (by decide) (by rw [← h1, x]; rfl)
/-! ### The reference's reading -/
noncomputable def numV (x : List UInt8) : Int := match x with
  | [] => (pu (bts [])).1
  | b :: r => if 1 < (b :: r).length ∧ b.toNat = 45 then 0 - (pu (bts r)).1 else (pu (bts (b :: r))).1
theorem numV_cons (b : UInt8) (r : List UInt8) : numV (b :: r) = if 1 < (b :: r).length ∧ b.toNat = 45 then 0 - (pu (bts r)).1 else (pu (bts (b :: r))).1 := rfl
theorem numV_itoa {n : Int} (h : Num n) : numV (Lib.itoa n) = n := by
  have h1 := (itoa_facts n h).1
  have h2 := pu_itoa n h
  unfold itoaB at h2
  cases hx : Lib.itoa n with
  | nil => exact absurd hx (itoa_facts n h).2.1
  | cons b r =>
    rw [hx] at h1 h2
    rw [numV_cons]
    have := h1 b (by simp)
    unfold Dig at this
    rw [if_neg (fun q => by omega), h2]
/-- The first kind whose act is right and has the text T. -/
def pick (n0 n1 : Int) (T : ByteArray) : Nat → Nat → Deed × Bool
  | 0, _ => zrA
  | d + 1, κ => if actOk ⟨(κ : Int), n0, n1⟩ = true ∧ bts (lineW (TF ⟨(κ : Int), n0, n1⟩)) = T then (⟨(κ : Int), n0, n1⟩, true) else pick n0 n1 T d (κ + 1)
theorem pick_succ (n0 n1 : Int) (T : ByteArray) (d κ : Nat) : pick n0 n1 T (d + 1) κ = if actOk ⟨(κ : Int), n0, n1⟩ = true ∧ bts (lineW (TF ⟨(κ : Int), n0, n1⟩)) = T then (⟨(κ : Int), n0, n1⟩, true) else pick n0 n1 T d (κ + 1) := rfl
theorem pick_sound (n0 n1 : Int) (T : ByteArray) : ∀ (d κ : Nat), pick n0 n1 T d κ = zrA ∨ ∃ a, pick n0 n1 T d κ = (a, true) ∧ actOk a = true ∧ bts (lineW (TF a)) = T := by
  intro d
  induction d with
  | zero => intro κ; exact .inl rfl
  | succ d ih =>
    intro κ
    unfold pick
    split
    · rename_i h; exact .inr ⟨_, rfl, h.1, h.2⟩
    · exact ih (κ + 1)
theorem pick_hit (a : Deed) (T : ByteArray) (ha : actOk a = true) (hT : bts (lineW (TF a)) = T) (hu : ∀ b, actOk b = true → bts (lineW (TF b)) = T → b = a) : ∀ (d κ : Nat), (κ : Int) ≤ a.Kind → a.Kind < (κ : Int) + d → pick a.A a.B T d κ = (a, true) := by
  intro d
  induction d with
  | zero => intro κ h1 h2; omega
  | succ d ih =>
    intro κ h1 h2
    unfold pick
    split
    · rename_i h
      rw [hu _ h.1 h.2]
    · rename_i h
      refine ih (κ + 1) ?_ (by omega)
      have : (κ : Int) ≠ a.Kind := fun q => h (by rw [q]; exact ⟨ha, hT⟩)
      omega
theorem lineW_snoc (w : List UInt8) (A : List (List UInt8)) (x : List UInt8) : lineW (w :: (A ++ [x])) = lineW (w :: A) ++ [32] ++ x := by simp [lineW]
theorem lineW_len (w : List UInt8) (hw : w.length ≤ 600) : ∀ (A : List (List UInt8)), (∀ x ∈ A, x.length ≤ 600) → (lineW (w :: A)).length ≤ 600 + 601 * A.length := by
  intro A h
  have : ((A.map (32 :: ·)).flatten).length ≤ 601 * A.length := by
    induction A with
    | nil => simp
    | cons a r ih =>
      have h1 := h a (by simp)
      have h2 := ih (fun x hx => h x (by simp [hx]))
      simp only [List.map_cons, List.flatten_cons, List.length_append, List.length_cons]
      omega
  simp only [lineW, List.length_append]
  omega
theorem pick_reads (w : List UInt8) (ps : List (List UInt8)) (hw : Wd w) (hps : ∀ x ∈ ps, Wd x) : Reads (w :: ps) (pick ((ps.map numV ++ [0, 0]).getD 0 0) ((ps.map numV ++ [0, 0]).getD 1 0) (bts (lineW (w :: ps))) 6 1) := by
  have uniq : ∀ b, actOk b = true → bts (lineW (TF b)) = bts (lineW (w :: ps)) → TF b = w :: ps := fun b hb e => lineW_inj hb hw hps (bts_inj e)
  refine reads_of ?_ fun a ha => ?_
  · rcases pick_sound ((ps.map numV ++ [0, 0]).getD 0 0) ((ps.map numV ++ [0, 0]).getD 1 0) (bts (lineW (w :: ps))) 6 1 with e | ⟨a, e, ho, ht⟩
    · exact .inl e
    · exact .inr ⟨by rw [e], by rw [e]; exact ⟨ho, uniq a ho ht⟩⟩
  · obtain ⟨ho, ht⟩ := ha
    have hps2 : ps = ([a.A, a.B].take (actN a.Kind)).map Lib.itoa := (List.cons.inj ht).2.symm
    obtain ⟨nA, nB⟩ := act_num ho
    obtain ⟨_, _, b1, b2⟩ := act_nums ho
    have hn : (ps.map numV ++ [0, 0]).getD 0 0 = a.A ∧ (ps.map numV ++ [0, 0]).getD 1 0 = a.B := by
      have hc : actN a.Kind = 0 ∨ actN a.Kind = 1 ∨ actN a.Kind = 2 := by have := (TF_len ho).2; omega
      rcases hc with c | c | c
      · rw [hps2, c]; exact ⟨(b2 c).symm, (b1 (by omega)).symm⟩
      · rw [hps2, c]; exact ⟨numV_itoa nA, (b1 (by omega)).symm⟩
      · rw [hps2, c]; exact ⟨numV_itoa nA, numV_itoa nB⟩
    rw [hn.1, hn.2]
    refine pick_hit a _ ho (by rw [ht]) (fun b hb e => TF_inj hb ho ((uniq b hb e).trans ht.symm)) 6 1 ?_ ?_
    · rcases act_kinds ho with x | x | x | x | x | x <;> rw [x] <;> decide
    · rcases act_kinds ho with x | x | x | x | x | x <;> rw [x] <;> decide
end Go.Proofs.YtlenacakmmikiaaDoorX
