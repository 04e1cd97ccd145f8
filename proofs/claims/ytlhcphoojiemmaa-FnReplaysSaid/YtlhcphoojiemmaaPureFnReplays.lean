/- The law of the replays, on the plain side: a scenario with its numbers is a replay, and one with a changed number is not. -/
import Derived.Test.YtlhcphoojiemmaaTold
import Derived.Test.YtlhcphoojiemmaaPB7
namespace Go.Proofs.YtlhcphoojiemmaaX.Pure
open Go Go.Proofs
set_option linter.unusedVariables false
theorem equal_lp (k : Nat) : ∀ (m : Nat) (B C A D : List Int), B.length ≤ m → A.length = D.length → B.length = C.length → A.length + B.length ≤ 4194304 → slices_Equal_int_int_l0 k m (A ++ B) (D ++ C) (A.length : Int) = some (decide (B = C))
  | 0, [], [], A, D, _, _, _, _ => by simp only [slices_Equal_int_int_l0, slices_Equal_int_int_s0, lt_end, cond_false]; rfl
  | m + 1, [], [], A, D, _, _, _, _ => by simp only [slices_Equal_int_int_l0, slices_Equal_int_int_s0, lt_end, cond_false]; rfl
  | m + 1, x :: B, y :: C, A, D, h, hl, hb, hA => by
    simp only [List.length_cons] at h hb hA
    have ih := equal_lp k m B C (A ++ [x]) (D ++ [y]) (by omega) (by simp [hl]) (by omega) (by simp; omega)
    simp only [slices_Equal_int_int_l0, slices_Equal_int_int_s0, lt_mid, cond_true, g_mid, if_true, getD_mid, wr_suc A x (by omega)]
    rw [hl]
    simp only [g_mid, if_true, getD_mid]
    by_cases hxy : x = y
    · rw [decide_eq_true hxy]
      simp only [Bool.not_true, cond_false]
      rw [app_mid A x B, app_mid D y C, ih]
      simp [hxy]
    · rw [decide_eq_false hxy]
      simp [hxy]
theorem equal_eq (k : Nat) (a b : List Int) (h1 : a.length ≤ k) (h2 : a.length ≤ 4194304) : slices_Equal_int_int k a b = some (decide (a = b)) := by
  unfold slices_Equal_int_int slices_Equal_int_int_m
  by_cases h : (a.length : Int) = (b.length : Int)
  · rw [decide_eq_true h]
    exact equal_lp k k a b [] [] h1 rfl (by omega) (by simpa using h2)
  · rw [decide_eq_false h, decide_eq_false (fun e => h (by rw [e]))]
    rfl
theorem places_lp (k : Nat) (code : List Int) (hb : code.length ≤ 1048576) : ∀ (m : Nat) (x i h : Int) (L : List Int), 0 ≤ i → 0 ≤ x → x ≤ 12 → 12 - x ≤ (m : Int) → (L.length : Int) = x → (∀ v ∈ L, 0 ≤ v ∧ v < 10000) → ∃ l, spec_DrawPlaces_l0 k m code x i h L = some l ∧ l.length = 12 ∧ ∀ v ∈ l, 0 ≤ v ∧ v < 10000 := by
  intro m
  induction m with
  | zero =>
    intro x i h L hi hx hx2 hm hL hf
    unfold spec_DrawPlaces_l0 spec_DrawPlaces_s0
    rw [decide_eq_false (by omega)]
    exact ⟨L, rfl, by omega, hf⟩
  | succ m ih =>
    intro x i h L hi hx hx2 hm hL hf
    unfold spec_DrawPlaces_l0 spec_DrawPlaces_s0
    by_cases hlt : x < 12
    · rw [decide_eq_true hlt]
      obtain ⟨a, i', h', e, hi', ha⟩ := l01Below_dr k ⟨code, i, h⟩ 10000 hi hb
      have ha := ha.1 (by decide)
      simp only [cond_true]
      rw [e]
      simp only [Option.bind_some]
      rw [if_pos (by simp [maxRow]; omega), wr_id (n := x + 1) (by omega) (by omega)]
      refine ih (x + 1) i' h' (L ++ [a]) hi' (by omega) (by omega) (by omega) (by simp; omega) ?_
      intro v hv
      rcases List.mem_append.1 hv with hv | hv
      · exact hf v hv
      · rw [List.mem_singleton.1 hv]; exact ha
    · rw [decide_eq_false hlt]
      exact ⟨L, rfl, by omega, hf⟩
theorem DrawPlaces_eq (k : Nat) (hk : 4000 ≤ k) (code : List Int) (hb : code.length ≤ 1048576) : ∃ l, spec_DrawPlaces k code = some l ∧ l.length = 12 ∧ ∀ v ∈ l, 0 ≤ v ∧ v < 10000 := by
  unfold spec_DrawPlaces spec_DrawPlaces_m
  obtain ⟨h, e⟩ := l01New_eq k hk code
  rw [e]
  simp only [Option.bind_some]
  exact places_lp k code hb k 0 0 h [] (Int.le_refl _) (Int.le_refl _) (by decide) (by omega) rfl (by simp)
theorem FnReplays (y0 : (List Int)) (h0 : (OkL U8) y0) : ∃ k, laws_FnReplays k y0 = some true := by
  refine ⟨9100, ?_⟩
  unfold laws_FnReplays laws_big
  simp only [Option.bind_some]
  by_cases hbig : (1048576 : Int) < (y0.length : Int)
  · rw [decide_eq_true hbig]; rfl
  rw [decide_eq_false hbig]
  simp only [cond_false]
  obtain ⟨b, l, e, hS, hl, hf⟩ := DrawActs_eq 9100 (by decide) y0 (by omega)
  have hev := hS.2.1.2.1
  have h4 := hS.2.2.1
  obtain ⟨r, e2, r1, r2, r3, r4, r5⟩ := runActs_stand 9100 (by decide) b l hS.1 hS.2.2.1 (by omega) (by omega)
  have rep : ∀ ns : List Int, impl_IsReplay 9100 b l ns = some (decide (r.2 = ns)) := fun ns => by
    unfold impl_IsReplay
    rw [impl_BakeryOk_eq 9100 (by decide) b (by omega) (by omega) (by omega) (by omega), hS.1]
    simp only [Option.bind_some, Bool.not_true, cond_false]
    rw [decide_eq_false (by omega), e2]
    simp only [Option.bind_some, cond_false]
    rw [equal_eq 9100 r.2 ns (by omega) (by omega)]; rfl
  rw [e]
  simp only [Option.bind_some]
  rw [e2]
  simp only [Option.bind_some]
  rw [rep, rep]
  simp only [Option.bind_some, decide_true, Bool.not_true, cond_false]
  by_cases hz : (r.2.length : Int) = 0
  · rw [decide_eq_true hz]
    have : r.2 = [] := List.eq_nil_of_length_eq_zero (by omega)
    rw [this]; rfl
  · rw [decide_eq_false hz]
    simp only [cond_false]
    obtain ⟨p, ep, p1, p2⟩ := DrawPlaces_eq 9100 (by decide) y0 (by omega)
    rw [ep]
    simp only [Option.bind_some]
    have hp : p.getD 0 0 ∈ p := by
      rw [List.getD_eq_getElem?_getD, List.getElem?_eq_getElem (by omega)]
      exact List.getElem_mem _
    have hv := p2 _ hp
    have t0 : 0 ≤ Int.tmod (p.getD 0 0) (r.2.length : Int) := Int.tmod_nonneg _ hv.1
    have t1 : Int.tmod (p.getD 0 0) (r.2.length : Int) < (r.2.length : Int) := Int.tmod_lt_of_pos _ (by omega)
    rw [if_pos ⟨Int.le_refl _, by omega⟩, if_pos hz, if_pos ⟨t0, t1⟩, rep]
    generalize Int.tmod (p.getD 0 0) (r.2.length : Int) = i at t0 t1 ⊢
    have hi : i.toNat < r.2.length := by omega
    have hx : r.2.getD i.toNat 0 = r.2[i.toNat] := by rw [List.getD_eq_getElem?_getD, List.getElem?_eq_getElem hi]; rfl
    have hb := r5 _ (List.getElem_mem hi)
    rw [hx, wr_id (by omega) (by omega)]
    have : ¬ r.2 = r.2.set i.toNat (r.2[i.toNat] + 1) := fun e => by
      have := congrArg (fun l : List Int => l[i.toNat]?) e
      simp only [List.getElem?_set_self hi, List.getElem?_eq_getElem hi, Option.some.injEq] at this
      omega
    rw [decide_eq_false this, if_pos ⟨t0, t1⟩]; rfl
end Go.Proofs.YtlhcphoojiemmaaX.Pure
