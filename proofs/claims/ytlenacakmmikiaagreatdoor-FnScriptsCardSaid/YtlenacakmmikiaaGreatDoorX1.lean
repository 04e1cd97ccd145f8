/- What the abstract machine's state says of the memory, and what steps keep it. -/
import Derived.Test.YtlenacakmmikiaaGreatDoorX0
namespace Go.Proofs.YtlenacakmmikiaaGreatDoorX
open Go
set_option linter.unusedVariables false
set_option linter.unusedSimpArgs false

/-- Two lists, place by place. -/
def F2 {α β : Type} (R : α → β → Prop) : List α → List β → Prop
  | [], [] => True
  | a :: l, b :: m => R a b ∧ F2 R l m
  | _, _ => False
namespace F2
variable {α β γ : Type} {R R' : α → β → Prop}
theorem len : ∀ {l : List α} {m : List β}, F2 R l m → l.length = m.length
  | [], [], _ => rfl
  | _ :: _, _ :: _, h => by simp [len h.2]
theorem mono (hm : ∀ a b, R a b → R' a b) : ∀ {l : List α} {m : List β}, F2 R l m → F2 R' l m
  | [], [], _ => trivial
  | _ :: _, _ :: _, h => ⟨hm _ _ h.1, mono hm h.2⟩
theorem mono_mem : ∀ {l : List α} {m : List β}, (∀ a b, a ∈ l → R a b → R' a b) → F2 R l m → F2 R' l m
  | [], [], _, _ => trivial
  | _ :: _, _ :: _, hm, h => ⟨hm _ _ (by simp) h.1, mono_mem (fun a b ha => hm a b (by simp [ha])) h.2⟩
theorem get : ∀ {l : List α} {m : List β}, F2 R l m → ∀ {i : Nat} {a : α}, l[i]? = some a → ∃ b, m[i]? = some b ∧ R a b
  | _ :: _, _ :: _, h, 0, _, e => by simp at e; subst e; exact ⟨_, rfl, h.1⟩
  | _ :: _, _ :: _, h, i + 1, _, e => by simpa using get h.2 (by simpa using e)
theorem get' : ∀ {l : List α} {m : List β}, F2 R l m → ∀ {i : Nat} {b : β}, m[i]? = some b → ∃ a, l[i]? = some a ∧ R a b
  | [], [], _, _, _, e => by simp at e
  | _ :: _, _ :: _, h, 0, _, e => by simp at e; subst e; exact ⟨_, rfl, h.1⟩
  | _ :: _, _ :: _, h, i + 1, _, e => by simpa using get' h.2 (by simpa using e)
theorem app : ∀ {l : List α} {m : List β} {l' : List α} {m' : List β}, F2 R l m → F2 R l' m' → F2 R (l ++ l') (m ++ m')
  | [], [], _, _, _, h' => h'
  | _ :: _, _ :: _, _, _, h, h' => ⟨h.1, app h.2 h'⟩
theorem drop : ∀ {l : List α} {m : List β} (n : Nat), F2 R l m → F2 R (l.drop n) (m.drop n)
  | _, _, 0, h => by simpa using h
  | [], [], n + 1, _ => by simp [F2]
  | _ :: _, _ :: _, n + 1, h => by simpa using drop n h.2
theorem take : ∀ {l : List α} {m : List β} (n : Nat), F2 R l m → F2 R (l.take n) (m.take n)
  | _, _, 0, h => by simp [F2]
  | [], [], n + 1, _ => by simp [F2]
  | _ :: _, _ :: _, n + 1, h => ⟨h.1, take n h.2⟩
theorem set : ∀ {l : List α} {m : List β} (n : Nat) {a : α} {b : β}, F2 R l m → R a b → F2 R (l.set n a) (m.set n b)
  | [], [], _, _, _, _, _ => by simp [F2]
  | _ :: _, _ :: _, 0, _, _, h, h' => ⟨h', h.2⟩
  | _ :: _, _ :: _, n + 1, _, _, h, h' => ⟨h.1, set n h.2 h'⟩
theorem map_left {f : γ → α} : ∀ {l : List γ} {m : List β}, F2 (fun x y => R (f x) y) l m → F2 R (l.map f) m
  | [], [], _ => trivial
  | _ :: _, _ :: _, h => ⟨h.1, map_left h.2⟩
theorem of_map_left {f : γ → α} : ∀ {l : List γ} {m : List β}, F2 R (l.map f) m → F2 (fun x y => R (f x) y) l m
  | [], [], _ => trivial
  | _ :: _, _ :: _, h => ⟨h.1, of_map_left h.2⟩
theorem trans' {δ : Type} {R1 : α → γ → Prop} {R2 : α → β → Prop} {R3 : γ → β → Prop} (ht : ∀ a c b, R1 a c → R2 a b → R3 c b) : ∀ {l : List α} {n : List γ} {m : List β}, F2 R1 l n → F2 R2 l m → F2 R3 n m
  | [], [], [], _, _ => trivial
  | _ :: _, _ :: _, _ :: _, h, h' => ⟨ht _ _ _ h.1 h'.1, trans' (δ := δ) ht h.2 h'.2⟩
theorem nil_left {m : List β} (h : F2 R [] m) : m = [] := by cases m with | nil => rfl | cons _ _ => exact h.elim
theorem cons_left {a : α} {l : List α} {m : List β} (h : F2 R (a :: l) m) : ∃ b m', m = b :: m' ∧ R a b ∧ F2 R l m' := by
  cases m with | nil => exact h.elim | cons b m' => exact ⟨b, m', rfl, h.1, h.2⟩
end F2

section
def flat (k : K) (xs : List (T k)) : List Value := xs.flatMap (enc k)
def VS (B : Nat → Blk) (ρ : Nat → Value) : Sc → Value → Prop
  | .un, _ => True
  | .v u, x => x = u
  | .nl, x => x = .slice none 0 0
  | .sl i, x => B i ≠ .no ∧ x = ρ i ∧ x.oneCell' = true
  | .bp i off, x => B i ≠ .no ∧ ∃ g, ρ i = .pointer (some ⟨g, 0, none⟩) ∧ x = .pointer (some ⟨g, off, none⟩)
  | .rp i s j off, x => B i ≠ .no ∧ (∃ a len cap, ρ i = .slice (some a) len cap ∧ x = .pointer (some (a.add (j * s + off)))) ∧ ∀ own k xs, B i = .row own k xs → s = sz k ∧ j < xs.length
  | .fn f caps, x => x = .func (.func f) #[] (caps.map ρ).toArray ∧ ∀ c ∈ caps, B c ≠ .no ∧ ∃ g, ρ c = .pointer (some ⟨g, 0, none⟩)
def V1 (B : Nat → Blk) (ρ : Nat → Value) : A1 → Value → Prop
  | .sc s, x => VS B ρ s x
  | .ag l, x => ∃ cs, x = .agg cs ∧ F2 (VS B ρ) l cs.toList
def VV (B : Nat → Blk) (ρ : Nat → Value) : AV → Value → Prop
  | .a y, x => V1 B ρ y x
  | .tp l, x => ∃ vs, x = .tuple vs ∧ F2 (V1 B ρ) l vs.toList
def BlkOk (B : Nat → Blk) (w : World) (ρ : Nat → Value) (ow : Nat → Option Nat) (i : Nat) : Blk → Prop
  | .no => True
  | .dead => True
  | .box own l => ∃ g cs e, ρ i = .pointer (some ⟨g, 0, none⟩) ∧ w.heap[g]? = some (.cells cs e (0, 0)) ∧ F2 (VS B ρ) l cs.toList ∧ ow g = (if own then some i else none)
  | .row true k xs => w.ownsRow 0 (ty k) (sz k) (ρ i) xs.length (flat k xs) ∧ ∀ g, (ρ i).ownBlock = some g → ow g = some i
  | .row false k xs => ∃ A cap, ρ i = .slice A xs.length cap ∧ xs.length ≤ cap ∧ ∀ j u, (flat k xs)[j]? = some u → ∃ a, A = some a ∧ w.cell? (a.add j) = some u ∧ ow a.block = none
structure Mono (B B' : Nat → Blk) (ρ ρ' : Nat → Value) : Prop where
  no : ∀ i, B i ≠ .no → B' i ≠ .no
  row : ∀ i own k xs, B i ≠ .no → B' i = .row own k xs → ∃ own' xs', B i = .row own' k xs' ∧ xs'.length = xs.length
  rho : ∀ i, B i ≠ .no → ρ' i = ρ i
  own : ∀ i, B i ≠ .no → (B' i).own = true → (B i).own = true
theorem VS.mono {B B' : Nat → Blk} {ρ ρ' : Nat → Value} (m : Mono B B' ρ ρ') : ∀ {s : Sc} {x : Value}, VS B ρ s x → VS B' ρ' s x
  | .un, _, h => h
  | .v _, _, h => h
  | .nl, _, h => h
  | .sl i, _, h => ⟨m.no i h.1, by rw [m.rho i h.1]; exact h.2.1, h.2.2⟩
  | .bp i off, _, h => ⟨m.no i h.1, by rw [m.rho i h.1]; exact h.2⟩
  | .rp i s j off, _, h => ⟨m.no i h.1, by rw [m.rho i h.1]; exact h.2.1, fun own k xs hb => by
      obtain ⟨own', xs', hb', hl⟩ := m.row i own k xs h.1 hb
      rw [← hl]; exact h.2.2 own' k xs' hb'⟩
  | .fn f caps, _, h => ⟨by
      rw [h.1]; congr 2
      exact List.map_congr_left fun c hc => (m.rho c (h.2 c hc).1).symm, fun c hc => ⟨m.no c (h.2 c hc).1, by rw [m.rho c (h.2 c hc).1]; exact (h.2 c hc).2⟩⟩
theorem V1.mono {B B' : Nat → Blk} {ρ ρ' : Nat → Value} (m : Mono B B' ρ ρ') : ∀ {s : A1} {x : Value}, V1 B ρ s x → V1 B' ρ' s x
  | .sc _, _, h => VS.mono m h
  | .ag _, _, ⟨cs, e, h⟩ => ⟨cs, e, h.mono fun _ _ => VS.mono m⟩
theorem VV.mono {B B' : Nat → Blk} {ρ ρ' : Nat → Value} (m : Mono B B' ρ ρ') : ∀ {s : AV} {x : Value}, VV B ρ s x → VV B' ρ' s x
  | .a _, _, h => V1.mono m h
  | .tp _, _, ⟨cs, e, h⟩ => ⟨cs, e, h.mono fun _ _ => V1.mono m⟩
theorem Mono.refl (B : Nat → Blk) (ρ : Nat → Value) : Mono B B ρ ρ := ⟨fun _ h => h, fun _ o k xs _ h => ⟨o, xs, h, rfl⟩, fun _ _ => rfl, fun _ _ h => h⟩
/-- A block keeps what it says while other blocks change. -/
theorem BlkOk.mono {B B' : Nat → Blk} {ρ ρ' : Nat → Value} (m : Mono B B' ρ ρ') {w w' : World} {ow ow' : Nat → Option Nat} {j : Nat} {b : Blk}
    (hj : b = .no ∨ B j ≠ .no) (hp : ∀ g, g < w.heap.size → (ow g = none ∨ ow g = some j) → w'.heap[g]? = w.heap[g]? ∧ ow' g = ow g)
    (h : BlkOk B w ρ ow j b) : BlkOk B' w' ρ' ow' j b := by
  match b, h with
  | .no, _ => exact trivial
  | .dead, _ => exact trivial
  | .box own l, ⟨g, cs, e, h1, h2, h3, h4⟩ =>
    have hj' := hj.resolve_left (by simp)
    have hg : g < w.heap.size := (Array.getElem?_eq_some_iff.1 h2).1
    obtain ⟨p1, p2⟩ := hp g hg (by cases own <;> simp_all)
    exact ⟨g, cs, e, by rw [m.rho j hj']; exact h1, by rw [p1]; exact h2, h3.mono fun _ _ => VS.mono m, by rw [p2]; exact h4⟩
  | .row true k xs, ⟨h1, h2⟩ =>
    have hj' := hj.resolve_left (by simp)
    refine ⟨?_, fun g hg => ?_⟩
    · rw [m.rho j hj']
      obtain ⟨hl, h⟩ := h1
      refine ⟨hl, h.imp id ?_⟩
      rintro ⟨g, cap, cur, e1, e2, e3, e4⟩
      have hg : g < w.heap.size := (Array.getElem?_eq_some_iff.1 e3).1
      exact ⟨g, cap, cur, e1, e2, by rw [(hp g hg (.inr (h2 g (by rw [e1]; rfl)))).1]; exact e3, e4⟩
    · rw [m.rho j hj'] at hg
      obtain ⟨hl, h⟩ := h1
      rcases h with ⟨e, _⟩ | ⟨g', cap, cur, e1, e2, e3, e4⟩
      · rw [e] at hg; simp [Value.ownBlock] at hg
      · rw [e1] at hg; simp [Value.ownBlock] at hg; subst hg
        rw [(hp g' (Array.getElem?_eq_some_iff.1 e3).1 (.inr (h2 g' (by rw [e1]; rfl)))).2]
        exact h2 g' (by rw [e1]; rfl)
  | .row false k xs, ⟨A, cap, h1, h2, h3⟩ =>
    have hj' := hj.resolve_left (by simp)
    refine ⟨A, cap, by rw [m.rho j hj']; exact h1, h2, fun i u hu => ?_⟩
    obtain ⟨a, ha, hc, ho⟩ := h3 i u hu
    have hlt := World.block_lt_of_cell? w _ hc
    have hb : (a.add i).block = a.block := by unfold Addr.add; split <;> rfl
    rw [hb] at hlt
    obtain ⟨p1, p2⟩ := hp a.block hlt (.inl ho)
    exact ⟨a, ha, by rw [World.cell?_of_block (w := w) (by rw [hb]; exact p1)]; exact hc, by rw [p2]; exact ho⟩

/-- What was there before, and is not of those handed over to be changed, is as it was. -/
structure Fr (ow0 : Nat → Option Nat) (w0 w : World) : Prop where
  os : w.os = w0.os
  tape : w.tape = w0.tape
  output : w.output = w0.output
  size : w0.heap.size ≤ w.heap.size
  block : ∀ k, k < w0.heap.size → ow0 k = none → w.heap[k]? = w0.heap[k]?
/-- The tables that the program's library reads lie where they lay, and are no one's to change. -/
def TB (ow : Nat → Option Nat) (w : World) : Prop := ∀ q ∈ tabs, ow q.1 = none ∧ ∃ cs e f, w.heap[q.1]? = some (.cells cs e f) ∧ q.2 cs
theorem TB.go {ow ow' : Nat → Option Nat} {w w' : World} (h : TB ow w) (hf : Fr ow w w') (ho : ∀ g i, ow' g = some i → w.heap.size ≤ g ∨ ow g ≠ none) : TB ow' w' := fun q hq => by
  obtain ⟨h1, cs, e, f, h2, h3⟩ := h q hq
  have hlt := (Array.getElem?_eq_some_iff.1 h2).1
  refine ⟨?_, cs, e, f, (hf.block q.1 hlt h1).trans h2, h3⟩
  cases h3 : ow' q.1 with
  | none => rfl
  | some i =>
    rcases ho _ _ h3 with h4 | h4
    · omega
    · exact absurd h1 h4
theorem Fr.refl (ow : Nat → Option Nat) (w : World) : Fr ow w w := ⟨rfl, rfl, rfl, Nat.le_refl _, fun _ _ _ => rfl⟩
/-- The beginning of a call: what was handed over. -/
structure Bg where
  n0 : Nat
  B0 : Nat → Blk
  ρ0 : Nat → Value
  ow0 : Nat → Option Nat
  w0 : World
  nt : Nat
structure Rel (G : Bg) (S : St) (ρ : Nat → Value) (ow : Nat → Option Nat) (a : Act) (w : World) : Prop where
  size : a.tmps.size = G.nt
  defers : a.defers = []
  tm : ∀ t, VV S.b ρ (S.t t) (a.tmps.getD t undef)
  bl : ∀ i, BlkOk S.b w ρ ow i (S.b i)
  own : ∀ g i, ow g = some i → g < w.heap.size ∧ (S.b i).own = true ∧ (G.w0.heap.size ≤ g ∨ G.ow0 g ≠ none)
  fr : Fr G.ow0 G.w0 w
  m0 : ∀ i, i < G.n0 → S.b i ≠ .no ∧ ρ i = G.ρ0 i ∧ ((S.b i).own = true → (G.B0 i).own = true) ∧ ∀ own k xs, S.b i = .row own k xs → ∃ own' xs', G.B0 i = .row own' k xs' ∧ xs'.length = xs.length
  tb : TB G.ow0 G.w0
variable {G : Bg} {S : St} {ρ : Nat → Value} {ow : Nat → Option Nat} {a : Act} {w : World}
theorem Rel.setT (h : Rel G S ρ ow a w) {d : Nat} (hd : d < G.nt) {x : AV} {v : Value} (hv : VV S.b ρ x v) : Rel G (S.setT d x) ρ ow (a.put (some d) v) w where
  size := by simp [Act.put, h.size]
  defers := h.defers
  tm := fun t => by
    simp only [St.setT, Act.put]
    by_cases e : t = d
    · subst e; simp [h.size, hd]; exact hv
    · rw [if_neg e, Array.getD_eq_getD_getElem?, Array.getElem?_setIfInBounds_ne (Ne.symm e), ← Array.getD_eq_getD_getElem?]; exact h.tm t
  bl := h.bl
  own := h.own
  fr := h.fr
  m0 := h.m0
  tb := h.tb
theorem Rel.tbs (h : Rel G S ρ ow a w) : TB ow w := h.tb.go h.fr fun g i hg => (h.own g i hg).2.2
/-- A step in which the blocks of 'ch' change. -/
theorem Rel.upd (h : Rel G S ρ ow a w) {B' : Nat → Blk} {ρ' : Nat → Value} {ow' : Nat → Option Nat} {w' : World} (ch : Nat → Prop)
    (m : Mono S.b B' ρ ρ') (same : ∀ j, ¬ ch j → B' j = S.b j)
    (hp : ∀ g, g < w.heap.size → (∀ i, ow g = some i → ¬ ch i) → w'.heap[g]? = w.heap[g]? ∧ ow' g = ow g)
    (hsz : w.heap.size ≤ w'.heap.size) (hos : w'.os = w.os) (htp : w'.tape = w.tape) (hout : w'.output = w.output)
    (hnew : ∀ j, ch j → BlkOk B' w' ρ' ow' j (B' j))
    (hown : ∀ g i, ow' g = some i → ow g = some i ∧ ¬ ch i ∨ g < w'.heap.size ∧ (B' i).own = true ∧ (w.heap.size ≤ g ∨ ow g ≠ none)) :
    Rel G ⟨S.t, B'⟩ ρ' ow' a w' where
  size := h.size
  defers := h.defers
  tm := fun t => (h.tm t).mono m
  bl := fun j => by
    by_cases c : ch j
    · exact hnew j c
    · show BlkOk B' w' ρ' ow' j (B' j)
      rw [same j c]
      refine (h.bl j).mono m ?_ fun g hg ho => hp g hg fun i hi => ?_
      · cases hb : S.b j <;> simp
      · rcases ho with ho | ho
        · rw [ho] at hi; cases hi
        · rw [ho] at hi; cases hi; exact c
  own := fun g i hg => by
    rcases hown g i hg with ⟨h1, h2⟩ | ⟨h1, h2, h3⟩
    · obtain ⟨p1, p2, p3⟩ := h.own g i h1
      exact ⟨by omega, by show (B' i).own = true; rw [same i h2]; exact p2, p3⟩
    · refine ⟨h1, h2, ?_⟩
      rcases h3 with h3 | h3
      · exact .inl (Nat.le_trans h.fr.size h3)
      · obtain ⟨i', hi'⟩ := Option.ne_none_iff_exists'.1 h3
        exact (h.own g i' hi').2.2
  fr := ⟨hos.trans h.fr.os, htp.trans h.fr.tape, hout.trans h.fr.output, Nat.le_trans h.fr.size hsz, fun k hk ho => by
    rw [(hp k (Nat.lt_of_lt_of_le hk h.fr.size) fun i hi => ?_).1]
    · exact h.fr.block k hk ho
    · rcases (h.own k i hi).2.2 with h1 | h1
      · omega
      · exact absurd ho h1⟩
  m0 := fun i hi => by
    obtain ⟨h1, h2, h4, h3⟩ := h.m0 i hi
    refine ⟨m.no i h1, (m.rho i h1).trans h2, fun ho => h4 (m.own i h1 ho), fun own k xs hb => ?_⟩
    obtain ⟨own', xs', hb', hl⟩ := m.row i own k xs h1 hb
    obtain ⟨own2, xs2, hb2, hl2⟩ := h3 own' k xs' hb'
    exact ⟨own2, xs2, hb2, hl2.trans hl⟩
  tb := h.tb
end
end Go.Proofs.YtlenacakmmikiaaGreatDoorX
