/- Appends, cuts, indices, lengths. -/
import Derived.Test.YtlenacakmmikiaaGreatDoorX5
import Derived.Laws.BytesString
namespace Go.Proofs.YtlenacakmmikiaaGreatDoorX
open Go
set_option linter.unusedVariables false
set_option linter.unusedSimpArgs false
section
variable {P : Program} {w : World}
/-- An append onto a row of one's own: what comes is in a new block, or in the old row's. -/
theorem append_own {t ty' e : TypeId} {i : TypeInfo} {z : Value} {size : Nat} (ht : P.underlying t = some (.slice e)) (hi : P.info? e = some i) (hz : i.zero = some z)
    (hsize : i.size = size) (hby : i.bytes ≤ 32) (hzs : z.cells.size = size) (hsz : 0 < size) {v : Value} {n : Nat} {xs : List Value} (hown : w.ownsRow 0 e size v n xs)
    {a : Addr} {m c : Nat} {news : List Value} (hl : news.length = m * size) (hnews : ∀ j u, news[j]? = some u → w.cell? (a.add j) = some u) (h1 : ∀ u ∈ news, u.oneCell' = true) (hm : n + m ≤ 4398046511104) :
    ∃ v' w', (Builtin.append_ #[t, t] ty' #[v, .slice (some a) m c]).run P w = .ok v' w' ∧ w'.ownsRow 0 e size v' (n + m) (xs ++ news) ∧ w.grownBy w' v.ownBlock ∧ ∀ g, v'.ownBlock = some g → w.heap.size ≤ g ∨ v.ownBlock = some g := by
  have hb : (n + m) * i.bytes ≤ 140737488355328 := Nat.le_trans (Nat.mul_le_mul hm hby) (by decide)
  have h63 : n + m ≤ maxLen := by simp only [maxLen]; omega
  rcases hown.2 with ⟨e1, e2⟩ | ⟨g, cap, cur, e1, _, hg, hnc, hcm, hcs, htake⟩
  · have hown' : w.ownsRow w.heap.size e size v n xs := ⟨hown.1, .inl ⟨e1, e2⟩⟩
    obtain ⟨v', w', hr, ho, hgr, _⟩ := run_append_own (P := P) w w.heap.size t ty' e i z size i.bytes ht hi hz hsize rfl hzs hsz v n xs hown' a m c news hl hnews h1 h63 hb (Nat.le_refl _)
    exact ⟨v', w', hr, ⟨ho.1, ho.2.imp id fun ⟨g, cap, cur, q1, q2, q⟩ => ⟨g, cap, cur, q1, Nat.zero_le _, q⟩⟩, hgr, fun g hg => .inl (ho.lt g hg).1⟩
  · obtain ⟨v', w', hr, ho, hgr, _⟩ := run_append_own (P := P) w 0 t ty' e i z size i.bytes ht hi hz hsize rfl hzs hsz v n xs hown a m c news hl hnews h1 h63 hb (Nat.zero_le _)
    refine ⟨v', w', hr, ho, hgr, fun g' hg' => ?_⟩
    subst e1
    by_cases hfit : n + m ≤ cap
    · obtain ⟨w2, hr2, _⟩ := run_append_fits (P := P) w 0 t ty' e i size ht hi hsize g n cap xs hown a m c news hl hnews h1 hfit
      rw [hr] at hr2; cases hr2
      exact .inr hg'
    · have holds : ∀ j u, xs[j]? = some u → w.cell? ((⟨g, 0, none⟩ : Addr).add j) = some u := hown.cells (g := g) rfl
      have hr2 := run_append_grow (P := P) w t ty' e i z ht hi hz ⟨g, 0, none⟩ n cap xs (by rw [hsize]; exact hown.1) holds a m c news (by rw [hsize]; exact hl) hnews (by omega) (by simp only [maxLen] at h63; omega) (growslice_fits (by omega) hb)
      rw [hr] at hr2; cases hr2
      simp [Value.ownBlock] at hg'
      exact .inl (by omega)
theorem append_own_str {t u ty' e : TypeId} {i : TypeInfo} (ht : P.underlying t = some (.slice e)) (hu : P.underlying u = some .string) (hi : P.info? e = some i) (hz : i.zero = some (.int .u8 0))
    (hsize : i.size = 1) (hby : i.bytes = 1) {v : Value} {n : Nat} {xs : List Value} (hown : w.ownsRow 0 e 1 v n xs) (s : ByteArray) (hm : n + s.size ≤ 4398046511104) :
    ∃ v' w', (Builtin.append_ #[t, u] ty' #[v, .string s]).run P w = .ok v' w' ∧ w'.ownsRow 0 e 1 v' (n + s.size) (xs ++ Lib.strCells s) ∧ w.grownBy w' v.ownBlock ∧ ∀ g, v'.ownBlock = some g → w.heap.size ≤ g ∨ v.ownBlock = some g := by
  have h63 : n + s.size ≤ maxLen := by simp only [maxLen]; omega
  have hb : n + s.size ≤ 140737488355328 := by omega
  rcases hown.2 with ⟨e1, e2⟩ | ⟨g, cap, cur, e1, _, hg, hnc, hcm, hcs, htake⟩
  · have hown' : w.ownsRow w.heap.size e 1 v n xs := ⟨hown.1, .inl ⟨e1, e2⟩⟩
    obtain ⟨v', w', hr, ho, hgr, _⟩ := Lib.run_append_own_string (P := P) w w.heap.size t u ty' e i ht hu hi hz hsize hby v n xs hown' s h63 hb (Nat.le_refl _)
    exact ⟨v', w', hr, ⟨ho.1, ho.2.imp id fun ⟨g, cap, cur, q1, q2, q⟩ => ⟨g, cap, cur, q1, Nat.zero_le _, q⟩⟩, hgr, fun g hg => .inl (ho.lt g hg).1⟩
  · obtain ⟨v', w', hr, ho, hgr, _⟩ := Lib.run_append_own_string (P := P) w 0 t u ty' e i ht hu hi hz hsize hby v n xs hown s h63 hb (Nat.zero_le _)
    refine ⟨v', w', hr, ho, hgr, fun g' hg' => ?_⟩
    subst e1
    have hcs' : cur.size = cap := by simpa using hcs
    by_cases hfit : n + s.size ≤ cap
    · have hr2 := Lib.run_append_room_string (P := P) w t u ty' e i ht hu hi hsize g n cap cur hg s hfit (by omega)
      rw [hr] at hr2; cases hr2
      exact .inr hg'
    · have holds : ∀ j u, xs[j]? = some u → w.cell? ((⟨g, 0, none⟩ : Addr).add j) = some u := hown.cells (g := g) rfl
      have hr2 := Lib.run_append_grow_string (P := P) w t u ty' e i (.int .u8 0) ht hu hi hz ⟨g, 0, none⟩ n cap xs (by rw [hsize]; exact hown.1) holds s (by omega) (by simp only [maxLen] at h63; omega) (by rw [hby]; exact growslice_fits (by omega) (by omega))
      rw [hr] at hr2; cases hr2
      simp [Value.ownBlock] at hg'
      exact .inl (by omega)
theorem madeCells_flat {z : Array Value} {n : Nat} (hz : 0 < z.size) : (madeCells z (n * z.size)).toList = (List.replicate n z.toList).flatten := by
  apply List.ext_getElem?
  intro j
  have hlen : ((List.replicate n z.toList).flatten).length = n * z.size := by simp
  by_cases hj : j < n * z.size
  · have h1 : (madeCells z (n * z.size)).toList[j]? = some (z[j % z.size]!) := by simp [madeCells, hj]
    have hmod := Nat.mod_lt j hz
    rw [h1]
    have : ∀ (m q : Nat), q < m → ∀ r, r < z.size → ((List.replicate m z.toList).flatten)[q * z.size + r]? = z[r]? := by
      intro m
      induction m with
      | zero => intro q hq; omega
      | succ m ih =>
        intro q hq r hr
        rw [List.replicate_succ, List.flatten_cons]
        cases q with
        | zero => rw [Nat.zero_mul, Nat.zero_add, List.getElem?_append_left (by simpa using hr)]; simp
        | succ q =>
          rw [List.getElem?_append_right (by simp [Nat.succ_mul]; omega)]
          rw [show (q + 1) * z.size + r - z.toList.length = q * z.size + r by simp [Nat.succ_mul]; omega]
          exact ih q (by omega) r hr
    have hq : j / z.size < n := Nat.div_lt_of_lt_mul (by rw [Nat.mul_comm]; exact hj)
    have := this n (j / z.size) hq (j % z.size) hmod
    rw [Nat.div_add_mod' j z.size] at this
    rw [this]
    simp [hmod]
  · rw [List.getElem?_eq_none (by simp [madeCells]; omega), List.getElem?_eq_none (by omega)]
end
section
variable {a : Act} {w : World} {P : Program} {o : Oper}
theorem exec_builtin {b : Builtin} {args : Array Operand} {ts : Array TypeId} {s : Sem Value} {v : Value} {w' : World} (ho : o.op = .call { callee := .builtin b, args := args, argTypes := ts })
    (hb : ∀ c, builtin b ts o.type c (args.map a.eval) = (do pure (.value (← s)))) (hs : s.run P w = .ok v w') : (execOp a.eval o).run P w = .ok (.value v) w' := by
  have e : execOp a.eval o = (do let d ← resolve a.eval { callee := .builtin b, args := args, argTypes := ts } o.type; invoke d.target d.args) := by simp only [execOp, ho]
  rw [e]
  simp only [resolve, Sem.run_bind, Sem.run_pure, Result.andThen_ok, invoke, hb, hs]
theorem run_append_none {t ty' e : TypeId} {i : TypeInfo} {size : Nat} (ht : P.underlying t = some (.slice e)) (hi : P.info? e = some i) {v : Value} {n : Nat} {xs : List Value} (hown : w.ownsRow 0 e size v n xs) (c : Nat) :
    (Builtin.append_ #[t, t] ty' #[v, .slice none 0 c]).run P w = .ok v w := by
  rcases hown.2 with ⟨rfl, rfl⟩ | ⟨g, cap, cur, rfl, _, _, hnc, _⟩
  · simp [Builtin.append_, run_underlying ht, sizeOf, typeInfo, hi, Builtin.lenOf, Builtin.firstCells]
  · simp [Builtin.append_, run_underlying ht, sizeOf, typeInfo, hi, Builtin.lenOf, Builtin.firstCells, hnc, storeCells]
theorem map2 (a : Act) (x y : Operand) : (#[x, y] : Array Operand).map a.eval = #[a.eval x, a.eval y] := by simp
theorem map1 (a : Act) (x : Operand) : (#[x] : Array Operand).map a.eval = #[a.eval x] := by simp
end
section
variable {G : Bg} {S : St} {ρ : Nat → Value} {ow : Nat → Option Nat} {a : Act} {w : World} {P : Program} {E : Env} {C : FuncId → Pk → Rs → Prop} {o : Oper} {d : Nat} {lt lb lt' lb' : List Nat} {wr : Wr}
theorem flat_app (k : K) (xs ys : List (T k)) : flat k (xs ++ ys) = flat k xs ++ flat k ys := by simp [flat]
theorem flat_replicate (k : K) (n : Nat) (x : T k) : flat k (List.replicate n x) = (List.replicate n (enc k x)).flatten := by
  simp [flat, List.flatMap_def]
/-- What a slice says of its row: it can be read, and has a header. -/
theorem row_hdr {B : Nat → Blk} {i : Nat} {own : Bool} {k : K} {xs : List (T k)} (h : BlkOk B w ρ ow i (.row own k xs)) : ∃ A cap, ρ i = .slice A xs.length cap ∧ xs.length ≤ cap ∧ (A = none → xs = []) ∧ (A = none → own = true → ρ i = .slice none 0 0) := by
  cases own with
  | true =>
    rcases h.1.2 with ⟨e, hn⟩ | ⟨g, cap, cur, e, _, _, hc, _⟩
    · exact ⟨none, 0, by rw [hn]; exact e, by omega, fun _ => List.eq_nil_of_length_eq_zero hn, fun _ _ => e⟩
    · exact ⟨some ⟨g, 0, none⟩, cap, e, hc, (fun h => nomatch h), (fun h => nomatch h)⟩
  | false =>
    obtain ⟨A, cap, e, hc, h3⟩ := h
    refine ⟨A, cap, e, hc, fun hA => ?_, fun _ h => by cases h⟩
    subst hA
    cases xs with
    | nil => rfl
    | cons x xs =>
      have hl : 0 < (flat k (x :: xs)).length := by rw [flat_len]; exact Nat.mul_pos (by simp) (YtlenacakmmikiaaGreatDoorX.sz_pos k)
      obtain ⟨A', hA, _⟩ := h3 0 _ (List.getElem?_eq_getElem hl)
      cases hA
theorem lands_convert (hE : EnvOk P E) {s t : TypeId} {x : Operand} (h : Rel G S ρ ow a w) (ho : o.op = .convert s t x) (hr : Runs C S (opBody E d (.convert s t x)) lt lb wr lt' lb') : Lands P G S a w o wr := by
  simp only [opBody] at hr
  split at hr
  · rename_i k0 k h0 hk
    obtain ⟨v, _, hv, hr1⟩ := runs_evO h hr
    obtain ⟨κ, n, rfl, hr2⟩ := runs_asInt hr1
    replace hv : a.eval x = .int κ n := hv
    exact lands_vret h hr2 (by simp [execOp, ho, hv, convert, run_underlying (hE.int _ _ h0), run_underlying (hE.int _ _ hk), Conv.intToInt])
  · split at hr
    · rename_i ht hs
      obtain ⟨v, _, hv, hr1⟩ := runs_evO h hr
      obtain ⟨s', rfl, hr2⟩ := runs_asSc hr1
      split at hr2
      · obtain ⟨rfl, _, _⟩ := hr2
        replace hv : a.eval x = .string _ := hv
        exact Lands.pure h (v := a.eval x) (by simp [execOp, ho, hv, convert, run_underlying (hE.isStr _ ht), run_underlying (hE.isStr _ hs)]) hv
      · exact hr2.elim
    · rename_i k ht hs hk
      split at hr
      · rename_i hi
        obtain ⟨v, _, hv, hr1⟩ := runs_evO h hr
        obtain ⟨s', rfl, hr2⟩ := runs_asSc hr1
        have hu := (hE.elem _ _ hk).1
        have he := hE.int _ _ hi
        split at hr2
        · obtain ⟨rfl, _, _⟩ := hr2
          replace hv : a.eval x = .slice none 0 0 := hv
          refine Lands.pure h (v := .string (strOf [])) ?_ rfl
          simp only [execOp, ho, hv, Sem.run_bind, run_convert_bytes_string w _ _ _ none 0 0 hu he (hE.isStr _ ht)]
          rfl
        · rename_i i
          obtain ⟨_, hB, hrho⟩ := id hv
          replace hr2 : Runs C S (match S.b i with | .row _ k' xs => (match u8s k' xs with | some l => (.ret ⟨.a (.sc (.v (.string (strOf l)))), []⟩ : RP Wr) | none => .fail) | _ => .fail) _ _ _ _ _ := hr2
          have hbl := h.bl i
          split at hr2
          · rename_i own k' xs hrow
            split at hr2
            · rename_i l hl
              obtain ⟨rfl, _, _⟩ := hr2
              rw [hrow] at hbl
              obtain ⟨A, cap, e1, _, hn, _⟩ := row_hdr hbl
              obtain ⟨f1, f2⟩ := u8s_ok k' xs l hl
              have hve : a.eval x = .slice A xs.length cap := hB.trans e1
              refine Lands.pure h (v := .string (strOf l)) ?_ rfl
              simp only [execOp, ho, hve, Sem.run_bind, run_convert_bytes_string w _ _ _ A xs.length cap hu he (hE.isStr _ ht)]
              cases A with
              | none =>
                have := hn rfl
                subst this
                have : l = [] := List.eq_nil_of_length_eq_zero f2
                subst this
                rfl
              | some X =>
                have hc := run_loadCells_list (P := P) (w := w) X (l.map (Value.int .u8)) (fun j u hu => row_cell hbl e1 j u (by rw [flat, f1]; exact hu))
                rw [List.length_map, f2] at hc
                rw [run_bytesToString w X xs.length cap l hc]
                rfl
            · exact hr2.elim
          · exact hr2.elim
        · exact hr2.elim
      · exact hr.elim
    · exact hr.elim
def Src (w : World) (k : K) (u : Value) (ys : List (T k)) : Prop := (ys = [] ∧ ∃ cap, u = .slice none 0 cap) ∨ ∃ A m cap, u = .slice (some A) m cap ∧ m = ys.length ∧ ∀ j q, (flat k ys)[j]? = some q → w.cell? (A.add j) = some q
theorem runs_appSrc (h : Rel G S ρ ow a w) {α : Type} {k : K} {x : AV} {c : List (T k) → RP α} {y : α} {u : Value} (hu : VV S.b ρ x u) (hr : Runs C S (appSrc k x c) lt lb y lt' lb') :
    ∃ ys lb1, Runs C S (c ys) lt lb1 y lt' lb' ∧ Src w k u ys := by
  unfold appSrc at hr
  split at hr
  · exact ⟨[], lb, hr, .inl ⟨rfl, 0, hu⟩⟩
  · rename_i j
    simp only [Runs] at hr
    obtain ⟨hno, he, _⟩ := hu
    have hb := h.bl j
    split at hr
    · rename_i own k' ys hbi
      rw [hbi] at hb
      split at hr
      · rename_i hk _
        subst hk
        obtain ⟨A, cap, hρ, hc, hA, _⟩ := row_hdr hb
        cases A with
        | none =>
          have := hA rfl
          subst this
          exact ⟨[], _, hr, .inl ⟨rfl, cap, by rw [he, hρ]; rfl⟩⟩
        | some A => exact ⟨ys, _, hr, .inr ⟨A, _, cap, by rw [he, hρ], rfl, fun j q hq => row_cell hb hρ j q hq⟩⟩
      · exact hr.elim
    · exact hr.elim
  · exact hr.elim
def oldUps (old : Option Nat) : List (Nat × Blk) := match old with | some i => [(i, .dead)] | none => []
theorem ups_old (S : St) (old : Option Nat) (d : Nat) (b : Blk) : S.ups (oldUps old ++ [(d, b)]) = ⟨S.t, fset (killB S.b old) d b⟩ := by cases old <;> rfl
theorem lands_appTo (hE : EnvOk P E) (h : Rel G S ρ ow a w) {t : TypeId} {k : K} (hk : E.elem t = some k) {sx xx : Operand} (ho : o.op = .call { callee := .builtin .append, args := #[sx, xx], argTypes := #[t, t] })
    {xs : List (T k)} (old : Option Nat) (hold : ∀ i, old = some i → S.b i ≠ .no)
    (hown : w.ownsRow 0 (ty k) (sz k) (a.eval sx) xs.length (flat k xs)) (hvb : ∀ g, (a.eval sx).ownBlock = some g → ∃ i, old = some i ∧ ow g = some i)
    {ys : List (T k)}
    (hr : Runs C S (appTo d k xs ys (oldUps old)) lt lb wr lt' lb')
    (hy : Src w k (a.eval xx) ys) : Lands P G S a w o wr := by
  obtain ⟨hu, it, z, hi, hsz, hby, hz, hzl⟩ := hE.elem t k hk
  simp only [appTo, newB, Runs] at hr
  obtain ⟨hlim, hr⟩ := hr
  split at hr
  · rename_i hd
    obtain ⟨rfl, _, _⟩ := hr
    have hzs : z.cells.size = sz k := by rw [← YtlenacakmmikiaaGreatDoorX.enc_len k (dflt k), ← hzl]; simp
    have res : ∃ v' w', (Builtin.append_ #[t, t] o.type #[a.eval sx, a.eval xx]).run P w = .ok v' w' ∧ w'.ownsRow 0 (ty k) (sz k) v' (xs ++ ys).length (flat k (xs ++ ys)) ∧ w.grownBy w' (a.eval sx).ownBlock ∧ ∀ g, v'.ownBlock = some g → w.heap.size ≤ g ∨ (a.eval sx).ownBlock = some g := by
      have none' : ∀ cap, ys = [] → a.eval xx = .slice none 0 cap → ∃ v' w', (Builtin.append_ #[t, t] o.type #[a.eval sx, a.eval xx]).run P w = .ok v' w' ∧ w'.ownsRow 0 (ty k) (sz k) v' (xs ++ ys).length (flat k (xs ++ ys)) ∧ w.grownBy w' (a.eval sx).ownBlock ∧ ∀ g, v'.ownBlock = some g → w.heap.size ≤ g ∨ (a.eval sx).ownBlock = some g := by
        intro cap hys hx
        subst hys
        rw [hx]
        exact ⟨_, _, run_append_none hu hi hown cap, by simpa using hown, ⟨rfl, rfl, rfl, Nat.le_refl _, fun _ _ _ => rfl⟩, fun g hg => .inr hg⟩
      rcases hy with ⟨hys, cap, hx⟩ | ⟨A, m, cap, hx, hm, hc⟩
      · exact none' cap hys hx
      · rw [hx]
        obtain ⟨v', w', q1, q2, q3, q4⟩ := append_own (ty' := o.type) (m := m) (c := cap) hu hi hz hsz hby hzs (YtlenacakmmikiaaGreatDoorX.sz_pos k) hown (by rw [flat_len, hm]) hc (flat_one k ys) (by simp only [maxRow] at hlim; omega)
        exact ⟨v', w', q1, by rw [List.length_append, flat_app, ← hm]; exact q2, q3, q4⟩
    obtain ⟨v', w', q1, q2, q3, q4⟩ := res
    intro next Q hn
    have hR := h.row hd old (a.eval sx).ownBlock hold hvb q2 q3 q4
    have he := exec_builtin ho (s := Builtin.append_ #[t, t] o.type #[a.eval sx, a.eval xx]) (fun c => by rw [map2]; rfl) q1
    have hu2 := ups_old S old d (Blk.row true k (xs ++ ys))
    simp only [hu2] at hn
    exact wp_val he (hn v' w' _ _ hR (VV_sl (by show fset (killB S.b old) d _ d ≠ _; rw [fset_same]; simp) q2))
  · exact hr.elim
theorem lands_appStr (hE : EnvOk P E) (h : Rel G S ρ ow a w) {t t' : TypeId} {k : K} (hk : E.elem t = some k) (hs' : E.isStr t' = true) {sx xx : Operand} (ho : o.op = .call { callee := .builtin .append, args := #[sx, xx], argTypes := #[t, t'] })
    {xs : List (T k)} (old : Option Nat) (hold : ∀ i, old = some i → S.b i ≠ .no)
    (hown : w.ownsRow 0 (ty k) (sz k) (a.eval sx) xs.length (flat k xs)) (hvb : ∀ g, (a.eval sx).ownBlock = some g → ∃ i, old = some i ∧ ow g = some i)
    {ys : List (T k)} {z : ByteArray} (hys : u8r k (bytesOf z) = some ys)
    (hr : Runs C S (appTo d k xs ys (oldUps old)) lt lb wr lt' lb')
    (hy : a.eval xx = .string z) : Lands P G S a w o wr := by
  obtain ⟨hu, _⟩ := hE.elem t k hk
  obtain ⟨f1, f2, f3, f4⟩ := u8r_ok k _ ys hys
  obtain ⟨i, hi, hz, hsize, hby⟩ := hE.byt t k hk f3
  simp only [appTo, newB, Runs] at hr
  obtain ⟨hlim, hr⟩ := hr
  split at hr
  · rename_i hd
    obtain ⟨rfl, _, _⟩ := hr
    have hzl : ys.length = z.size := by rw [f2]; simp [bytesOf]
    have hfl : flat k ys = Lib.strCells z := by
      unfold flat
      rw [f1]; simp [bytesOf, Lib.strCells, Function.comp_def]
    rw [f4] at hown
    obtain ⟨v', w', q1, q2, q3, q4⟩ := append_own_str (ty' := o.type) hu (hE.isStr t' hs') hi hz hsize hby hown z (by simp only [maxRow] at hlim; omega)
    have q2' : w'.ownsRow 0 (ty k) (sz k) v' (xs ++ ys).length (flat k (xs ++ ys)) := by rw [f4, List.length_append, flat_app, hzl, hfl]; exact q2
    intro next Q hn
    have hR := h.row hd old (a.eval sx).ownBlock hold hvb q2' q3 q4
    have he := exec_builtin ho (s := Builtin.append_ #[t, t'] o.type #[a.eval sx, a.eval xx]) (fun c => by rw [map2]; rfl) (by rw [hy]; exact q1)
    have hu2 := ups_old S old d (Blk.row true k (xs ++ ys))
    simp only [hu2] at hn
    exact wp_val he (hn v' w' _ _ hR (VV_sl (by show fset (killB S.b old) d _ d ≠ _; rw [fset_same]; simp) q2'))
  · exact hr.elim
theorem lands_append (hE : EnvOk P E) (h : Rel G S ρ ow a w) {t t' : TypeId} {sx xx : Operand} (ho : o.op = .call { callee := .builtin .append, args := #[sx, xx], argTypes := #[t, t'] }) {s x : AV} (hs : VV S.b ρ s (a.eval sx)) (hx : VV S.b ρ x (a.eval xx))
    (hr : Runs C S (appS E d t t' s x) lt lb wr lt' lb') : Lands P G S a w o wr := by
  unfold appS at hr
  split at hr
  · rename_i ht
    subst ht
    split at hr
    · rename_i k hk
      split at hr
      · replace hs : a.eval sx = .slice none 0 0 := hs
        have hown : w.ownsRow 0 (ty k) (sz k) (a.eval sx) ([] : List (T k)).length (flat k []) := by rw [hs]; exact World.ownsRow_nil w 0 _ _
        obtain ⟨ys, _, hr1, hy⟩ := runs_appSrc h hx hr
        exact lands_appTo hE h hk ho none (by simp) hown (by rw [hs]; simp [Value.ownBlock]) hr1 hy
      · rename_i i
        simp only [Runs] at hr
        obtain ⟨hno, he, _⟩ := hs
        have hb := h.bl i
        split at hr
        · rename_i k' xs hbi
          rw [hbi] at hb
          split at hr
          · rename_i hk' _
            subst hk'
            have hown : w.ownsRow 0 (ty k') (sz k') (a.eval sx) xs.length (flat k' xs) := by rw [he]; exact hb.1
            have hvb : ∀ g, (a.eval sx).ownBlock = some g → ∃ j, some i = some j ∧ ow g = some j := fun g hg => ⟨i, rfl, hb.2 g (by rw [← he]; exact hg)⟩
            obtain ⟨ys, _, hr1, hy⟩ := runs_appSrc h hx hr
            exact lands_appTo hE h hk ho (some i) (by intro j e; cases e; exact hno) hown hvb hr1 hy
          · exact hr.elim
        · exact hr.elim
      · exact hr.elim
    · exact hr.elim
  · split at hr
    · rename_i k z hk hs'
      replace hx : a.eval xx = .string z := hx
      split at hr
      · rename_i ys hys
        split at hr
        · replace hs : a.eval sx = .slice none 0 0 := hs
          have hown : w.ownsRow 0 (ty k) (sz k) (a.eval sx) ([] : List (T k)).length (flat k []) := by rw [hs]; exact World.ownsRow_nil w 0 _ _
          exact lands_appStr hE h hk hs' ho none (by simp) hown (by rw [hs]; simp [Value.ownBlock]) hys hr hx
        · rename_i i
          simp only [Runs] at hr
          obtain ⟨hno, he, _⟩ := hs
          have hb := h.bl i
          split at hr
          · rename_i k' xs hbi
            rw [hbi] at hb
            split at hr
            · rename_i hk' _
              subst hk'
              have hown : w.ownsRow 0 (ty k') (sz k') (a.eval sx) xs.length (flat k' xs) := by rw [he]; exact hb.1
              have hvb : ∀ g, (a.eval sx).ownBlock = some g → ∃ j, some i = some j ∧ ow g = some j := fun g hg => ⟨i, rfl, hb.2 g (by rw [← he]; exact hg)⟩
              exact lands_appStr hE h hk hs' ho (some i) (by intro j e; cases e; exact hno) hown hvb hys hr hx
            · exact hr.elim
          · exact hr.elim
        · exact hr.elim
      · exact hr.elim
    · exact hr.elim
theorem lands_len (hE : EnvOk P E) (h : Rel G S ρ ow a w) {t : TypeId} {x : Operand} (ho : o.op = .call { callee := .builtin .len, args := #[x], argTypes := #[t] }) {v : AV} (hv : VV S.b ρ v (a.eval x))
    (hr : Runs C S (lenS E t v) lt lb wr lt' lb') : Lands P G S a w o wr := by
  have hx : ∀ {u : Value}, (Builtin.len_ #[t] o.type #[a.eval x]).run P w = .ok u w → (execOp a.eval o).run P w = .ok (.value u) w := fun {u} q => exec_builtin ho (s := Builtin.len_ #[t] o.type #[a.eval x]) (fun c => by rw [map1]; rfl) q
  unfold lenS at hr
  split at hr
  · split at hr
    · rename_i k hk
      obtain ⟨hu, _⟩ := hE.elem t k hk
      replace hv : a.eval x = .slice none 0 0 := hv
      exact lands_vret h hr (hx (by rw [hv]; simp [Builtin.len_, run_underlying hu, goInt]))
    · exact hr.elim
  · rename_i i
    split at hr
    · rename_i k hk
      obtain ⟨hu, _⟩ := hE.elem t k hk
      simp only [Runs] at hr
      obtain ⟨hno, he, _⟩ := hv
      have hb := h.bl i
      split at hr
      · rename_i own k' xs hbi
        rw [hbi] at hb
        obtain ⟨A, cap, hρ, _⟩ := row_hdr hb
        exact lands_vret h hr (hx (by rw [he, hρ]; simp [Builtin.len_, run_underlying hu, goInt]))
      · exact hr.elim
    · exact hr.elim
  · split at hr
    · rename_i s ht
      replace hv : a.eval x = .string s := hv
      exact lands_vret h hr (hx (by rw [hv]; simp [Builtin.len_, run_underlying (hE.isStr t ht), goInt]))
    · exact hr.elim
  · exact hr.elim
theorem lands_indexAddr (hE : EnvOk P E) (h : Rel G S ρ ow a w) {t : TypeId} {x ix : Operand} (ho : o.op = .indexAddr t x ix) (hr : Runs C S (opBody E d (.indexAddr t x ix)) lt lb wr lt' lb') : Lands P G S a w o wr := by
  simp only [opBody] at hr
  split at hr
  · rename_i k hk
    obtain ⟨hu, it, z, hi, hsz, _⟩ := hE.elem t k hk
    obtain ⟨v, _, hv, hr1⟩ := runs_evO h hr
    obtain ⟨s, hs, hr2⟩ := runs_asSc hr1
    subst hs
    clear hr hr1
    cases s with
    | sl i =>
      obtain ⟨v', _, hv', hr3⟩ := runs_evO h hr2
      obtain ⟨κ, n, hn, hr4⟩ := runs_asInt hr3
      subst hn
      replace hv' : a.eval ix = .int κ n := hv'
      simp only [Runs] at hr4
      obtain ⟨hno, he, _⟩ := hv
      have hb := h.bl i
      split at hr4
      · rename_i own k' xs hbi
        rw [hbi] at hb
        split at hr4
        · rename_i hk' _
          subst hk'
          obtain ⟨⟨h0, h1⟩, rfl, _, _⟩ := hr4
          obtain ⟨A, cap, hρ, _, hA, _⟩ := row_hdr hb
          have hj : n.toNat < xs.length := by omega
          cases A with
          | none => rw [hA rfl] at hj; simp at hj
          | some A =>
            refine Lands.pure h (x := .a (.sc (.rp i (sz k') n.toNat 0))) (v := .pointer (some (A.add (n.toNat * sz k')))) ?_ ⟨hno, ⟨A, _, cap, hρ, by simp⟩, fun own2 k2 xs2 hb2 => ?_⟩
            · simp [execOp, ho, he, hρ, hv', Instr.indexAt, run_underlying hu, Go.asIntOf, h0, h1, sizeOf, typeInfo, hi, hsz]
            · rw [hbi] at hb2; cases hb2; exact ⟨rfl, hj⟩
        · exact hr4.elim
      · exact hr4.elim
    | _ => exact hr2.elim
  · split at hr
    · rename_i q len s hq
      obtain ⟨e, hu, ie, hie, hsz⟩ := hE.arr t len s hq
      obtain ⟨v, _, hv, hr1⟩ := runs_evO h hr
      obtain ⟨sc, hs, hr2⟩ := runs_asSc hr1
      subst hs
      clear hr hr1
      cases sc with
      | bp i off =>
        obtain ⟨v', _, hv', hr3⟩ := runs_evO h hr2
        obtain ⟨κ, n, hn, hr4⟩ := runs_asInt hr3
        subst hn
        replace hv' : a.eval ix = .int κ n := hv'
        simp only [Runs] at hr4
        obtain ⟨⟨h0, h1⟩, hr5⟩ := hr4
        obtain ⟨hno, g, hρ, he⟩ := hv
        have fin : ∀ m : Nat, n = (m : Int) → wr = ⟨.a (.sc (.bp i (off + m * s))), []⟩ → Lands P G S a w o wr := by
          intro m hm hw
          subst hw
          refine Lands.pure h (x := .a (.sc (.bp i (off + m * s)))) (v := .pointer (some ((⟨g, off, none⟩ : Addr).add (m * s)))) ?_ ⟨hno, g, hρ, by simp [Addr.add]⟩
          subst hm
          simp [execOp, ho, he, hv', Instr.indexAt, run_underlying hu, Go.asIntOf, h0, h1, sizeOf, typeInfo, hie, hsz, Instr.sureAddr]
          intro hle; omega
        have key : ∀ (r j : Nat) (lt lb : List Nat), Runs C S (atIx r n j fun m => .ret ⟨.a (.sc (.bp i (off + m * s))), []⟩) lt lb wr lt' lb' → Lands P G S a w o wr := by
          intro r
          induction r with
          | zero => intro j lt lb hr; exact hr.elim
          | succ r ih =>
            intro j lt lb hr
            simp only [atIx, Runs] at hr
            by_cases hj : n = (j : Int)
            · rw [decide_eq_true hj] at hr
              exact fin j hj hr.1
            · rw [decide_eq_false hj] at hr
              exact ih _ _ _ hr
        split at hr5
        · split at hr5
          · rename_i hm
            exact fin _ hm hr5.1
          · exact hr5.elim
        · exact key _ _ _ _ hr5
      | _ => exact hr2.elim
    · exact hr.elim
theorem lands_makeSlice (hE : EnvOk P E) (h : Rel G S ρ ow a w) {t : TypeId} {n c : Operand} (ho : o.op = .makeSlice t n c) (hr : Runs C S (opBody E d (.makeSlice t n c)) lt lb wr lt' lb') : Lands P G S a w o wr := by
  simp only [opBody] at hr
  split at hr
  · rename_i hsame
    split at hr
    · rename_i k hk
      obtain ⟨hu, it, z, hi, hsz, hby, hz, hzl⟩ := hE.elem t k hk
      obtain ⟨v, _, hv, hr1⟩ := runs_evO h hr
      obtain ⟨κ, m, hm, hr2⟩ := runs_asInt hr1
      subst hm
      replace hv : a.eval n = .int κ m := hv
      have hc : a.eval c = .int κ m := by
        rw [← hv]
        unfold sameOp at hsame
        split at hsame
        · simp at hsame; rw [hsame]
        · simp at hsame; obtain ⟨rfl, rfl⟩ := hsame; rfl
        · cases hsame
      simp only [Runs] at hr2
      obtain ⟨⟨h0, h1⟩, hr3⟩ := hr2
      obtain ⟨q, rfl⟩ : ∃ q : Nat, m = q := ⟨m.toNat, by omega⟩
      have hq : q ≤ 4398046511104 := by simp only [maxRow] at h1; omega
      have hzs : z.cells.size = sz k := by rw [← YtlenacakmmikiaaGreatDoorX.enc_len k (dflt k), ← hzl]; simp
      obtain ⟨w', hrun, hown, hgr⟩ := run_make_full (P := P) w 0 t (ty k) it z (sz k) hu hi hz hsz κ κ q (Nat.le_trans (Nat.mul_le_mul hby hq) (by decide)) (by simp only [maxLen]; omega) (Nat.zero_le _)
      rw [← hzs, madeCells_flat (by rw [hzs]; exact YtlenacakmmikiaaGreatDoorX.sz_pos k), hzl, ← flat_replicate] at hown
      refine lands_newRow h hr3 (v := .slice (some ⟨w.heap.size, 0, none⟩) q q) (by simp [execOp, ho, hv, hc, hrun]) ?_ hgr (fun g e => by simp [Value.ownBlock] at e; omega)
      simpa [hzs] using hown
    · exact hr.elim
  · exact hr.elim
theorem lands_mm (h : Rel G S ρ ow a w) {b : Builtin} {x y : Operand} {ts : Array TypeId} {f : Int → Int → Int} (ho : o.op = .call { callee := .builtin b, args := #[x, y], argTypes := ts }) {u v : AV} (hu : VV S.b ρ u (a.eval x)) (hv : VV S.b ρ v (a.eval y))
    (hb : ∀ k p q, ∃ s : Sem Value, (∀ c, builtin b ts o.type c #[.int k p, .int k q] = (do pure (.value (← s)))) ∧ s.run P w = .ok (.int k (f p q)) w)
    (hr : Runs C S (asInt u fun k a => asInt v fun k' b => if k = k' then iret k (f a b) else .fail) lt lb wr lt' lb') : Lands P G S a w o wr := by
  obtain ⟨k, p, e1, hr1⟩ := runs_asInt hr
  obtain ⟨k', q, e2, hr2⟩ := runs_asInt hr1
  subst e1; subst e2
  split at hr2
  · rename_i hk
    subst hk
    obtain ⟨s, h1, h2⟩ := hb k p q
    replace hu : a.eval x = .int k p := hu
    replace hv : a.eval y = .int k q := hv
    exact lands_vret h hr2 (exec_builtin ho (fun c => by rw [map2, hu, hv]; exact h1 c) h2)
  · exact hr2.elim
theorem lands_makeFunc (h : Rel G S ρ ow a w) {f : FuncId} {first caps : Array Operand} (ho : o.op = .makeFunc (.func f) first caps) (hr : Runs C S (opBody E d (.makeFunc (.func f) first caps)) lt lb wr lt' lb') : Lands P G S a w o wr := by
  simp only [opBody] at hr
  split at hr
  · rename_i h0
    obtain ⟨vs, _, hvs, hr1⟩ := runs_evOs h hr
    split at hr1
    · rename_i ids hids
      obtain ⟨rfl, _, _⟩ := hr1
      have key : ∀ {vs : List AV} {ids : List Nat} {us : List Value}, opBody.capIds vs = some ids → F2 (VV S.b ρ) vs us → us = ids.map ρ ∧ ∀ c ∈ ids, S.b c ≠ .no ∧ ∃ g, ρ c = .pointer (some ⟨g, 0, none⟩) := by
        intro vs
        induction vs with
        | nil => intro ids us hi hF; simp [opBody.capIds] at hi; subst hi; rw [hF.nil_left]; exact ⟨rfl, fun _ h => by cases h⟩
        | cons v r ih =>
          intro ids us hi hF
          unfold opBody.capIds at hi
          split at hi
          · cases ‹_ :: _ = []›
          · rename_i i r' e
            cases e
            obtain ⟨ids', h1, rfl⟩ := Option.map_eq_some_iff.1 hi
            obtain ⟨u, us', rfl, ⟨hno, g, hg, hu⟩, hF'⟩ := hF.cons_left
            obtain ⟨e1, e2⟩ := ih h1 hF'
            subst e1
            exact ⟨by rw [List.map_cons, hu, hg], fun c hc => by
              rcases List.mem_cons.1 hc with rfl | hc
              · exact ⟨hno, g, hg⟩
              · exact e2 c hc⟩
          · cases hi
      obtain ⟨e1, e2⟩ := key hids hvs
      refine Lands.pure h (x := .a (.sc (.fn f ids))) (v := .func (.func f) #[] (ids.map ρ).toArray) ?_ ⟨rfl, e2⟩
      have : first = #[] := by simpa using h0
      have e3 : caps.map a.eval = (ids.map ρ).toArray := by apply Array.ext'; simpa using e1
      simp [execOp, ho, Instr.makeFunc, this, e3]
    · exact hr1.elim
  · exact hr.elim
theorem runs_optInt (h : Rel G S ρ ow a w) {α : Type} {x : Option Operand} {n : Int} {k : Int → RP α} {y : α} (hr : Runs C S (optInt x n k) lt lb y lt' lb') :
    ∃ m lt1, ((x = none ∧ m = n) ∨ ∃ q κ, x = some q ∧ a.eval q = .int κ m) ∧ Runs C S (k m) lt1 lb y lt' lb' := by
  cases x with
  | none => exact ⟨n, lt, .inl ⟨rfl, rfl⟩, hr⟩
  | some q =>
    obtain ⟨v, lt1, hv, hr1⟩ := runs_evO h hr
    obtain ⟨κ, m, e, hr2⟩ := runs_asInt hr1
    subst e
    exact ⟨m, lt1, .inr ⟨q, κ, rfl, hv⟩, hr2⟩
theorem flat_mid (k : K) (xs : List (T k)) (p q j : Nat) (u : Value) (h : (flat k ((xs.take q).drop p))[j]? = some u) : (flat k xs)[p * sz k + j]? = some u := by
  have e : flat k xs = flat k (xs.take p) ++ (flat k ((xs.take q).drop p) ++ flat k (xs.drop (max p q))) := by
    rw [← flat_app, ← flat_app]
    congr 1
    by_cases hpq : p ≤ q
    · rw [Nat.max_eq_right hpq, ← List.append_assoc]
      have e1 : xs.take p ++ (xs.take q).drop p = xs.take q := by
        rw [show xs.take p = (xs.take q).take p by rw [List.take_take, Nat.min_eq_left hpq], List.take_append_drop]
      rw [e1, List.take_append_drop]
    · rw [Nat.max_eq_left (by omega), show (xs.take q).drop p = [] by apply List.drop_of_length_le; simp; omega]
      simp
  have hj := (List.getElem?_eq_some_iff.1 h).1
  have hl : p ≤ xs.length := by
    apply Classical.byContradiction
    intro hn
    rw [show (xs.take q).drop p = [] by apply List.drop_of_length_le; simp; omega] at hj
    simp [flat] at hj
  have e1 : (flat k (xs.take p)).length = p * sz k := by rw [flat_len, List.length_take, Nat.min_eq_left hl]
  rw [e, List.getElem?_append_right (by omega), e1, List.getElem?_append_left (by omega), ← h]
  congr 1; omega
def viewB (B : Nat → Blk) (own : Bool) (i : Nat) (b : Blk) : Nat → Blk := if own then fset B i b else B
/-- A cut of a row: a row that is read alone; what it was cut from is read alone from then on. -/
theorem lands_view (h : Rel G S ρ ow a w) {i : Nat} {own : Bool} {k : K} {xs : List (T k)} (hno : S.b i ≠ .no) (hbi : S.b i = .row own k xs) {A : Option Addr} {cap p q : Nat} (hρ : ρ i = .slice A xs.length cap) (hc : xs.length ≤ cap) (hA : A = none → xs = []) (hq : q ≤ xs.length) (hpq : p ≤ q)
    (hr : Runs C S (newB d (.row false k ((xs.take (q : Int).toNat).drop (p : Int).toNat)) (.a (.sc (.sl d))) (if own then [(i, .row false k xs)] else [])) lt lb wr lt' lb')
    (he : (execOp a.eval o).run P w = .ok (.value (.slice (if cap = p then A else A.map (·.add (p * sz k))) (q - p) (cap - p))) w) : Lands P G S a w o wr := by
  have hb := h.bl i
  rw [hbi] at hb
  simp only [newB, Runs, Int.toNat_natCast] at hr
  split at hr
  · rename_i hd
    obtain ⟨rfl, _, _⟩ := hr
    have hid : i ≠ d := fun e => hno (e ▸ hd)
    have hcell : ∀ j u, (flat k xs)[j]? = some u → ∃ a0, A = some a0 ∧ w.cell? (a0.add j) = some u ∧ (ow a0.block = none ∨ own = true ∧ ow a0.block = some i) := by
      intro j u hu
      cases own with
      | true =>
        cases A with
        | none => rw [hA rfl] at hu; simp [flat] at hu
        | some a0 =>
          refine ⟨a0, rfl, row_cell hb hρ j u hu, .inr ⟨rfl, hb.2 a0.block (by rw [hρ]; rfl)⟩⟩
      | false =>
        obtain ⟨A', cap', e, _, h3⟩ := hb
        rw [hρ] at e; cases e
        obtain ⟨a0, h1, h2, h4⟩ := h3 j u hu
        exact ⟨a0, h1, h2, .inl h4⟩
    have heB : (S.ups ((if own then [(i, .row false k xs)] else []) ++ [(d, .row false k ((xs.take q).drop p))])) = ⟨S.t, fset (viewB S.b own i (.row false k xs)) d (.row false k ((xs.take q).drop p))⟩ := by cases own <;> rfl
    have hB1 : ∀ j, j ≠ d → j ≠ i → fset (viewB S.b own i (.row false k xs)) d (.row false k ((xs.take q).drop p)) j = S.b j := fun j h1 h2 => by
      rw [fset_ne _ _ h1]; cases own
      · rfl
      · exact fset_ne _ _ h2
    have hB2 : fset (viewB S.b own i (.row false k xs)) d (.row false k ((xs.take q).drop p)) i = .row false k xs := by
      rw [fset_ne _ _ hid]; cases own
      · exact hbi
      · exact fset_same _ _ _
    have hR : Rel G ⟨S.t, fset (viewB S.b own i (.row false k xs)) d (.row false k ((xs.take q).drop p))⟩ (fset ρ d (.slice (if cap = p then A else A.map (·.add (p * sz k))) (q - p) (cap - p))) (killO ow (some i)) a w := by
      refine h.upd (fun j => j = d ∨ j = i) ⟨fun j hj => ?_, fun j own' k' xs' hj hb' => ?_, fun j hj => fset_ne _ _ fun e => hj (e ▸ hd), fun j hj ho' => ?_⟩ (fun j hj => hB1 j (fun e => hj (.inl e)) fun e => hj (.inr e)) ?_ (Nat.le_refl _) rfl rfl rfl ?_ ?_
      · by_cases e : j = i
        · subst e; rw [hB2]; simp
        · rw [hB1 j (fun e => hj (e ▸ hd)) e]; exact hj
      · by_cases e : j = i
        · subst e; rw [hB2] at hb'; cases hb'; exact ⟨own, xs, hbi, rfl⟩
        · rw [hB1 j (fun e => hj (e ▸ hd)) e] at hb'; exact ⟨own', xs', hb', rfl⟩
      · by_cases e : j = i
        · subst e; rw [hB2] at ho'; cases ho'
        · rw [hB1 j (fun e => hj (e ▸ hd)) e] at ho'; exact ho'
      · intro g hg hcg
        refine ⟨rfl, ?_⟩
        simp only [killO]
        exact if_neg fun e => hcg i e (.inr rfl)
      · have kn : ∀ a0 : Addr, (ow a0.block = none ∨ own = true ∧ ow a0.block = some i) → killO ow (some i) a0.block = none := by
          rintro a0 (e | ⟨_, e⟩) <;> simp [killO, e]
        rintro j (rfl | rfl)
        · rw [fset_same]
          refine ⟨(if cap = p then A else A.map (·.add (p * sz k))), cap - p, by rw [fset_same]; simp only [List.length_drop, List.length_take, Nat.min_eq_left hq], by simp only [List.length_drop, List.length_take, Nat.min_eq_left hq]; omega, fun m u hu => ?_⟩
          obtain ⟨a0, e1, e2, e3⟩ := hcell _ u (flat_mid k xs p q m u hu)
          have hlt : p < q := by
            have := (List.getElem?_eq_some_iff.1 hu).1
            rw [flat_len] at this
            have h5 : 0 < ((xs.take q).drop p).length := by
              rcases Nat.eq_zero_or_pos ((xs.take q).drop p).length with e | e
              · rw [e] at this; omega
              · exact e
            simp at h5; omega
          refine ⟨a0.add (p * sz k), by rw [if_neg (by omega), e1]; rfl, by rw [Go.Deep.add_add]; exact e2, ?_⟩
          have : (a0.add (p * sz k)).block = a0.block := by unfold Addr.add; split <;> rfl
          rw [this]; exact kn a0 e3
        · rw [hB2]
          refine ⟨A, cap, by rw [fset_ne _ _ hid]; exact hρ, hc, fun m u hu => ?_⟩
          obtain ⟨a0, e1, e2, e3⟩ := hcell m u hu
          exact ⟨a0, e1, e2, kn a0 e3⟩
      · intro g j hj
        simp only [killO] at hj
        split at hj
        · cases hj
        · rename_i hne
          refine .inl ⟨hj, ?_⟩
          rintro (rfl | rfl)
          · have := (h.own g _ hj).2.1
            rw [hd] at this; cases this
          · exact hne hj
    intro next Q hn
    simp only [heB] at hn
    exact wp_val he (hn _ _ _ _ hR ⟨by show fset _ d _ d ≠ _; rw [fset_same]; simp, (fset_same _ _ _).symm, rfl⟩)
  · exact hr.elim
theorem lands_slice (hE : EnvOk P E) (h : Rel G S ρ ow a w) {t : TypeId} {x : Operand} {lo hi : Option Operand} (ho : o.op = .slice t x lo hi none) (hr : Runs C S (opBody E d (.slice t x lo hi none)) lt lb wr lt' lb') : Lands P G S a w o wr := by
  simp only [opBody] at hr
  split at hr
  · rename_i k hk
    obtain ⟨hu, it, z, hi', hsz, _⟩ := hE.elem t k hk
    obtain ⟨v, _, hv, hr1⟩ := runs_evO h hr
    obtain ⟨s, hs, hr2⟩ := runs_asSc hr1
    subst hs
    clear hr hr1
    cases s with
    | sl i =>
      simp only [Runs] at hr2
      obtain ⟨hno, he, _⟩ := hv
      have hb := h.bl i
      split at hr2
      · rename_i own k' xs hbi
        rw [hbi] at hb
        split at hr2
        · rename_i hk' _
          subst hk'
          obtain ⟨L, _, hL, hr3⟩ := runs_optInt h hr2
          obtain ⟨H, _, hH, hr4⟩ := runs_optInt h hr3
          obtain ⟨⟨h0, h1, h2⟩, hr5⟩ := hr4
          obtain ⟨A, cap, hρ, hc, hA, _⟩ := row_hdr hb
          obtain ⟨p, rfl⟩ : ∃ p : Nat, L = p := ⟨L.toNat, by omega⟩
          obtain ⟨q, rfl⟩ : ∃ q : Nat, H = q := ⟨H.toNat, by omega⟩
          have hq : q ≤ xs.length := by omega
          have hpq : p ≤ q := by omega
          have bnd : (Instr.sliceBounds true xs.length cap (lo.map a.eval) (hi.map a.eval) none).run P w = .ok (p, q, cap) w := by
            have g1 : q ≤ cap := by omega
            rcases hL with ⟨e1, e2⟩ | ⟨x1, κ1, e1, e2⟩ <;> rcases hH with ⟨e3, e4⟩ | ⟨x2, κ2, e3, e4⟩ <;> subst e1 <;> subst e3
            · simp [Instr.sliceBounds]; omega
            · simp [Instr.sliceBounds, Instr.sliceBound, Go.asIntOf, e4, g1]; omega
            · have g2 : p ≤ xs.length := by omega
              simp [Instr.sliceBounds, Instr.sliceBound, Go.asIntOf, e2, g2]; omega
            · simp [Instr.sliceBounds, Instr.sliceBound, Go.asIntOf, e2, e4, g1, hpq]
          have hrun : (execOp a.eval o).run P w = .ok (.value (.slice (if cap = p then A else A.map (·.add (p * sz k'))) (q - p) (cap - p))) w := by
            have e : execOp a.eval o = (do pure (.value (← Instr.sliceAt t (a.eval x) (lo.map a.eval) (hi.map a.eval) none)) : Sem Next) := by simp only [execOp, ho]; rfl
            rw [e, he, hρ]
            simp [Instr.sliceAt, Instr.slice, run_underlying hu, bnd, sizeOf, typeInfo, hi', hsz]
          exact lands_view h hno hbi hρ hc hA hq hpq hr5 hrun
        · exact hr2.elim
      · exact hr2.elim
    | _ => exact hr2.elim
  · split at hr
    · rename_i ht
      have hu := hE.isStr _ ht
      obtain ⟨v, _, hv, hr1⟩ := runs_evO h hr
      obtain ⟨s, hs, hr2⟩ := runs_asSc hr1
      subst hs
      split at hr2
      · rename_i z
        replace hv : a.eval x = .string z := hv
        obtain ⟨L, _, hL, hr3⟩ := runs_optInt h hr2
        obtain ⟨H, _, hH, hr4⟩ := runs_optInt h hr3
        obtain ⟨⟨h0, h1, h2⟩, rfl, _, _⟩ := hr4
        obtain ⟨p, rfl⟩ : ∃ p : Nat, L = p := ⟨L.toNat, by omega⟩
        obtain ⟨q, rfl⟩ : ∃ q : Nat, H = q := ⟨H.toNat, by omega⟩
        have hq : q ≤ z.size := by omega
        have hpq : p ≤ q := by omega
        have bnd : (Instr.sliceBounds false z.size z.size (lo.map a.eval) (hi.map a.eval) none).run P w = .ok (p, q, z.size) w := by
          rcases hL with ⟨e1, e2⟩ | ⟨x1, κ1, e1, e2⟩ <;> rcases hH with ⟨e3, e4⟩ | ⟨x2, κ2, e3, e4⟩ <;> subst e1 <;> subst e3
          · simp [Instr.sliceBounds]; omega
          · simp [Instr.sliceBounds, Instr.sliceBound, Go.asIntOf, e4, hq]; omega
          · have g2 : p ≤ z.size := by omega
            simp [Instr.sliceBounds, Instr.sliceBound, Go.asIntOf, e2, g2]; omega
          · simp [Instr.sliceBounds, Instr.sliceBound, Go.asIntOf, e2, e4, hq, hpq]
        refine Lands.pure h (v := .string (z.extract p q)) ?_ rfl
        have e : execOp a.eval o = (do pure (.value (← Instr.sliceAt t (a.eval x) (lo.map a.eval) (hi.map a.eval) none)) : Sem Next) := by simp only [execOp, ho]; rfl
        rw [e, hv]
        simp [Instr.sliceAt, Instr.slice, run_underlying hu, bnd]
      · exact hr2.elim
    · exact hr.elim
theorem lands_index (hE : EnvOk P E) (h : Rel G S ρ ow a w) {t : TypeId} {x ix : Operand} (ho : o.op = .index t x ix) (hr : Runs C S (opBody E d (.index t x ix)) lt lb wr lt' lb') : Lands P G S a w o wr := by
  simp only [opBody] at hr
  split at hr
  · rename_i ht
    have hu := hE.isStr _ ht
    obtain ⟨v, _, hv, hr1⟩ := runs_evO h hr
    obtain ⟨s, hs, hr2⟩ := runs_asSc hr1
    subst hs
    split at hr2
    · rename_i z
      replace hv : a.eval x = .string z := hv
      obtain ⟨v', _, hv', hr3⟩ := runs_evO h hr2
      obtain ⟨κ, n, hn, hr4⟩ := runs_asInt hr3
      subst hn
      replace hv' : a.eval ix = .int κ n := hv'
      obtain ⟨⟨h0, h1⟩, hr5⟩ := hr4
      have hlt : n.toNat < z.size := by omega
      refine lands_vret h hr5 ?_
      have hg : z[n.toNat]? = some z[n.toNat] := getElem?_pos z n.toNat hlt
      simp [execOp, ho, hv, hv', Instr.index, Go.asIntOf, run_underlying hu, h0, hg, byteAt]
    · exact hr2.elim
  · exact hr.elim
end
end Go.Proofs.YtlenacakmmikiaaGreatDoorX
