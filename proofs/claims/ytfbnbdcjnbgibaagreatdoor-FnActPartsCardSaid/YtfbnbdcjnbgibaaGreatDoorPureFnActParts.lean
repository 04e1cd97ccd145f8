/- The law of the parts, on the plain side: a scenario can be stopped after any act and continued. -/
import Derived.Test.YtfbnbdcjnbgibaaGreatDoorTold
import Derived.Test.YtfbnbdcjnbgibaaGreatDoorPB7
import Derived.Test.YtfbnbdcjnbgibaaGreatDoorPB8
import Derived.Test.YtfbnbdcjnbgibaaGreatDoorPB9
import Derived.Test.YtfbnbdcjnbgibaaGreatDoorPT1
namespace Go.Proofs.YtfbnbdcjnbgibaaGreatDoorX.Pure
open Go Go.Proofs
set_option linter.unusedVariables false
/-- The acts one after the other, as the program does them. -/
noncomputable def foldI (k : Nat) : List Deed → Bakery → List Int → Option (Bakery × List Int)
  | [], b, L => some (b, L)
  | a :: B, b, L => (impl_DoAct k b a).bind fun r => foldI k B r.1 (L ++ [r.2])
theorem foldI_app (k : Nat) (B2 : List Deed) : ∀ (B1 : List Deed) (b : Bakery) (L : List Int), foldI k (B1 ++ B2) b L = (foldI k B1 b L).bind fun r => foldI k B2 r.1 r.2
  | [], b, L => rfl
  | a :: B1, b, L => by
    simp only [List.cons_append, foldI]
    cases impl_DoAct k b a with
    | none => rfl
    | some r => exact foldI_app k B2 B1 r.1 (L ++ [r.2])
theorem foldI_pre (k : Nat) : ∀ (B : List Deed) (b : Bakery) (L : List Int), foldI k B b L = (foldI k B b []).map fun r => (r.1, L ++ r.2)
  | [], b, L => by simp [foldI]
  | a :: B, b, L => by
    simp only [foldI]
    cases impl_DoAct k b a with
    | none => rfl
    | some r =>
      simp only [Option.bind_some]
      rw [foldI_pre k B r.1 (L ++ [r.2]), foldI_pre k B r.1 ([] ++ [r.2])]
      cases foldI k B r.1 [] with
      | none => rfl
      | some q => simp
theorem runI_fold (k : Nat) (b0 : Bakery) : ∀ (m : Nat) (B A : List Deed) (b : Bakery) (L : List Int), B.length ≤ m → A.length + B.length ≤ 1000 → L.length + B.length ≤ 1000 → runI k m b0 (A ++ B) (A.length : Int) b L = foldI k B b L := by
  intro m
  induction m with
  | zero =>
    intro B A b L h _ _
    have hB : B = [] := List.eq_nil_of_length_eq_zero (by omega)
    subst hB
    exact runI_end k 0 b0 b A L
  | succ m ih =>
    intro B A b L h hA hL
    cases B with
    | nil => exact runI_end k (m + 1) b0 b A L
    | cons a B =>
      simp only [List.length_cons] at h hA hL
      cases hd : impl_DoAct k b a with
      | some r =>
        rw [runI_step k m b0 b A B a L r (by omega) (by omega) hd, ih B (A ++ [a]) r.1 (L ++ [r.2]) (by omega) (by simp; omega) (by simp; omega)]
        simp only [foldI, hd, Option.bind_some]
      | none =>
        simp only [foldI, hd, Option.bind_none]
        show impl_RunActs_s0 k b0 (A ++ a :: B) (impl_RunActs_l0 k m b0 (A ++ a :: B)) (A.length : Int) b.Stock.Grams b.Book.Events b.Dough.Water b.Dough.Salt b.Dough.Leaven b.Loaf.Weight b.Loaf.Loss b.Book.Rack.Fresh b.Book.Rack.Day b.Book.Rack.Old b.Book.Baked b.Book.Sold b.Book.Thrown b.Money L = _
        unfold impl_RunActs_s0
        rw [lt_mid, if_pos ((g_mid A a B).mpr trivial), getD_mid]
        have e : impl_DoAct k (⟨⟨b.Stock.Grams⟩, ⟨b.Dough.Water, b.Dough.Salt, b.Dough.Leaven⟩, ⟨b.Loaf.Weight, b.Loaf.Loss⟩, ⟨b.Book.Events, ⟨b.Book.Rack.Fresh, b.Book.Rack.Day, b.Book.Rack.Old⟩, b.Book.Baked, b.Book.Sold, b.Book.Thrown⟩, b.Money⟩ : Bakery) a = none := hd
        rw [e]; rfl
theorem run_fold (k : Nat) (hk : 9000 ≤ k) (b : Bakery) (acts : List Deed) (hb : bakeryOk b = true) (hl : b.Stock.Grams.length = 4) (he : b.Book.Events.length ≤ 40) (ha : acts.length ≤ 40) : impl_RunActs k b acts = foldI k acts b [] := by
  unfold impl_RunActs impl_RunActs_m
  rw [bakeryCopy_eq k b (by omega) (by omega), impl_BakeryOk_eq k (by omega) b (by omega) (by omega) (by omega) (by omega), hb]
  simp only [Option.bind_some, Bool.not_true, cond_false]
  rw [decide_eq_false (by omega)]
  exact runI_fold k b k acts [] b [] (by omega) (by simp; omega) (by simp; omega)
theorem sameTexts_lp (k : Nat) : ∀ (m : Nat) (B A : List ByteArray), B.length ≤ m → (A ++ B).length ≤ 4194304 → laws_sameTexts_l0 k m (A ++ B) (A ++ B) (A.length : Int) = some true
  | 0, [], A, _, _ => by simp only [laws_sameTexts_l0, laws_sameTexts_s0, lt_end, cond_false]
  | m + 1, [], A, _, _ => by simp only [laws_sameTexts_l0, laws_sameTexts_s0, lt_end, cond_false]
  | m + 1, b :: B, A, h1, h2 => by
    have ih := sameTexts_lp k m B (A ++ [b]) (by simp at h1; omega) (by simpa using h2)
    simp only [laws_sameTexts_l0, laws_sameTexts_s0, lt_mid, cond_true, g_mid, if_true, getD_mid, decide_true, Bool.not_true, cond_false]
    rw [wr_suc A b (by simp at h2; omega), app_mid A b B, ih]
theorem sameTexts_self (k : Nat) (l : List ByteArray) (h1 : l.length ≤ k) (h2 : l.length ≤ 4194304) : laws_sameTexts k l l = some true := by
  unfold laws_sameTexts laws_sameTexts_m
  simp only [decide_true, Bool.not_true, cond_false]
  exact sameTexts_lp k k l [] h1 (by simpa using h2)
theorem sameI_lp (k : Nat) : ∀ (m : Nat) (B A : List Int), B.length ≤ m → (A ++ B).length ≤ 4194304 → laws_sameInts_l0 k m (A ++ B) (A ++ B) (A.length : Int) = some true
  | 0, [], A, _, _ => by simp only [laws_sameInts_l0, laws_sameInts_s0, lt_end, cond_false]
  | m + 1, [], A, _, _ => by simp only [laws_sameInts_l0, laws_sameInts_s0, lt_end, cond_false]
  | m + 1, b :: B, A, h1, h2 => by
    have ih := sameI_lp k m B (A ++ [b]) (by simp at h1; omega) (by simpa using h2)
    simp only [laws_sameInts_l0, laws_sameInts_s0, lt_mid, cond_true, g_mid, if_true, getD_mid, decide_true, Bool.not_true, cond_false]
    rw [wr_suc A b (by simp at h2; omega), app_mid A b B, ih]
theorem sameI_self (k : Nat) (l : List Int) (h1 : l.length ≤ k) (h2 : l.length ≤ 4194304) : laws_sameInts k l l = some true := by
  unfold laws_sameInts laws_sameInts_m
  simp only [decide_true, Bool.not_true, cond_false]
  exact sameI_lp k k l [] h1 (by simpa using h2)
theorem FnActParts (y0 : (List Int)) (h0 : (OkL U8) y0) : ∃ k, laws_FnActParts k y0 = some true := by
  obtain ⟨k, hk⟩ : ∃ k : Nat, k = 9100 := ⟨_, rfl⟩
  refine ⟨k, ?_⟩
  unfold laws_FnActParts laws_big
  simp only [Option.bind_some]
  by_cases hbig : (1048576 : Int) < (y0.length : Int)
  · rw [decide_eq_true hbig]; rfl
  rw [decide_eq_false hbig]
  simp only [cond_false]
  obtain ⟨b, l, e, hS, hl, hf⟩ := DrawActs_eq k (by omega) y0 (by omega)
  obtain ⟨p, ep, p1, p2⟩ := DrawPlaces_eq k (by omega) y0 (by omega)
  have hev := hS.2.1.2.1
  have h4 := hS.2.2.1
  rw [e]
  simp only [Option.bind_some]
  rw [ep]
  simp only [Option.bind_some]
  have hp : p.getD 0 0 ∈ p := by
    rw [List.getD_eq_getElem?_getD, List.getElem?_eq_getElem (by omega)]
    exact List.getElem_mem _
  have hv := p2 _ hp
  rw [if_pos ⟨Int.le_refl _, by omega⟩, wr_id (n := (l.length : Int) + 1) (by omega) (by omega), if_pos (by omega)]
  have t0 : 0 ≤ Int.tmod (p.getD 0 0) ((l.length : Int) + 1) := Int.tmod_nonneg _ hv.1
  have t1 : Int.tmod (p.getD 0 0) ((l.length : Int) + 1) < (l.length : Int) + 1 := Int.tmod_lt_of_pos _ (by omega)
  generalize Int.tmod (p.getD 0 0) ((l.length : Int) + 1) = c at t0 t1 ⊢
  obtain ⟨x, ex, x1, x2, x3, x4⟩ := runActs_standI k (by omega) b l hS.1 h4 (by omega) (by omega)
  have hl1 : ((l.take c.toNat).drop 0).length ≤ 13 := by simp; omega
  obtain ⟨y, ey, y1, y2, y3, y4⟩ := runActs_standI k (by omega) b ((l.take c.toNat).drop 0) hS.1 h4 (by omega) (by omega)
  have hl2 : ((l.take (Int.toNat (l.length : Int))).drop c.toNat).length ≤ 13 := by simp; omega
  have hye : y.1.Book.Events.length ≤ 40 := by omega
  have fx := run_fold k (by omega) b l hS.1 h4 (by omega) (by omega)
  have fy := run_fold k (by omega) b ((l.take c.toNat).drop 0) hS.1 h4 (by omega) (by omega)
  have fz := run_fold k (by omega) y.1 ((l.take (Int.toNat (l.length : Int))).drop c.toNat) y1 y3 hye (by omega)
  have hsplit : l = (l.take c.toNat).drop 0 ++ (l.take (Int.toNat (l.length : Int))).drop c.toNat := by simp
  have hall := foldI_app k ((l.take (Int.toNat (l.length : Int))).drop c.toNat) ((l.take c.toNat).drop 0) b []
  rw [← hsplit, ← fx, ← fy, ex, ey, Option.bind_some, foldI_pre, ← fz] at hall
  obtain ⟨z, ez⟩ : ∃ z, impl_RunActs k y.1 ((l.take (Int.toNat (l.length : Int))).drop c.toNat) = some z := by
    cases h : impl_RunActs k y.1 ((l.take (Int.toNat (l.length : Int))).drop c.toNat) with
    | none => rw [h] at hall; cases hall
    | some z => exact ⟨z, rfl⟩
  rw [ez] at hall
  have hx : x = (z.1, y.2 ++ z.2) := Option.some.inj hall
  rw [ex]
  simp only [Option.bind_some]
  rw [if_pos ⟨Int.le_refl _, t0, by omega⟩, ey]
  simp only [Option.bind_some]
  rw [if_pos ⟨t0, by omega, Int.le_refl _⟩, ez]
  simp only [Option.bind_some]
  have hz1 : z.1 = x.1 := by rw [hx]
  have hz2 : y.2 ++ z.2 = x.2 := by rw [hx]
  rw [hz1, impl_FormatBakery_eq k (by omega) x.1 (by omega) (by omega) (by omega) (by omega), x1]
  simp only [Option.bind_some, cond_true]
  rw [decide_eq_true (show (0 : Int) < ((linesB x.1).length : Int) by simp [linesB]), sameTexts_self k _ (by simp [linesB]; omega) (by simp [linesB])]
  simp only [Option.bind_some, cond_true, List.nil_append]
  have hxl : x.2.length ≤ 13 := by omega
  have hyz : y.2.length + z.2.length = x.2.length := by rw [← hz2]; simp
  rw [if_pos (by simp [maxRow]; omega), if_pos (by simp [maxRow]; omega), hz2, sameI_self k _ (by omega) (by omega)]
  rfl
end Go.Proofs.YtfbnbdcjnbgibaaGreatDoorX.Pure
