/- What functions of the program compute, as functions of numbers and lists, and that they do. (The file is written by wip/x/vxp.py of this repository.) -/
import Derived.Test.YtlenacakmmikiaaGreatDoorF1
import Derived.Test.YtlenacakmmikiaaGreatDoorX20
import Derived.WalkKit
import Derived.BigCall
import Derived.Lib.UnsafeStr
import Derived.Test.YtlenacakmmikiaaGreatDoorX18
namespace Go.Proofs.YtlenacakmmikiaaGreatDoorX
open Go Go.Proofs Go.RowKit
set_option linter.unusedVariables false
set_option maxRecDepth 100000
/-! ### impl.FormatAct: function 31 -/
noncomputable def impl_FormatAct (k : Nat)  (a : Deed) : Option (ByteArray × Bool) :=
 (impl_ActOk k a).bind fun y1 =>
 cond (!y1)
  (some ((ByteArray.mk #[]), false))
  ((impl_actWords k).bind fun y2 =>
   if 0 ≤ ((wr (a.Kind - 1)) : Int) ∧ ((wr (a.Kind - 1)) : Int) < ((y2).length : Int) then
    (impl_actNumbers k).bind fun y3 =>
     if 0 ≤ ((wr (a.Kind - 1)) : Int) ∧ ((wr (a.Kind - 1)) : Int) < ((y3).length : Int) then
      if (0 : Int) ≤ 0 ∧ 0 ≤ (y3.getD (Int.toNat (wr (a.Kind - 1))) 0) ∧ (y3.getD (Int.toNat (wr (a.Kind - 1))) 0) ≤ (([a.A, a.B]).length : Int) then
       (impl_told k (y2.getD (Int.toNat (wr (a.Kind - 1))) (ByteArray.mk #[])) ((([a.A, a.B]).take (Int.toNat (y3.getD (Int.toNat (wr (a.Kind - 1))) 0))).drop 0)).bind fun y4 =>
        some (y4, true) else none else none else none)
noncomputable def impl_FormatAct_v : Nat → List Nat := fun t => match t with | _ => []
noncomputable def impl_FormatAct_O (k : Nat) : Oracle := ofL [(39, impl_told_x k), (53, impl_actWords_x k), (54, impl_actNumbers_x k), (56, impl_ActOk_x k)]
theorem impl_FormatAct_Ok (k : Nat) : OkO (Ct Tryz.prog) (impl_FormatAct_O k) := okO_cons (impl_told_ok k) (okO_cons (impl_actWords_ok k) (okO_cons (impl_actNumbers_ok k) (okO_cons (impl_ActOk_ok k) (okO_nil))))
noncomputable def impl_FormatAct_A (a : Deed) : Pk := ⟨[(.ag [(.v (.int .i64 a.Kind)), (.v (.int .i64 a.A)), (.v (.int .i64 a.B))])], []⟩
noncomputable def impl_FormatAct_d : Rs → Option (ByteArray × Bool)
 | ⟨(.tp [(.sc (.v (.string r1))), (.sc (.v (.bool r2)))]), []⟩ => some (r1, r2)
 | _ => none
theorem impl_FormatAct_i {r : Rs} {y : ByteArray × Bool} (h : impl_FormatAct_d r = some y) : r = ⟨(.tp [(.sc (.v (.string y.1))), (.sc (.v (.bool y.2)))]), []⟩ := by
 unfold impl_FormatAct_d at h; split at h
 · cases h; rfl
 · cases h
theorem impl_FormatAct_e (k : Nat) (a : Deed) : callD env (impl_FormatAct_O k) impl_FormatAct_v Tryz.f31 (k + 1) (impl_FormatAct_A a) (fun r => impl_FormatAct_d (r.fin 0 [])) = impl_FormatAct k a := by kernel_rfl
noncomputable def impl_FormatAct_x (k : Nat) : Ent1 := fun A R Q => match A with
 | ⟨[(.ag [(.v (.int .i64 a1)), (.v (.int .i64 a2)), (.v (.int .i64 a3))])], []⟩ => (impl_FormatAct k (⟨a1, a2, a3⟩ : Deed)).bind fun y => Q ⟨(.tp [(.sc (.v (.string y.1))), (.sc (.v (.bool y.2)))]), []⟩
 | _ => none
theorem impl_FormatAct_ok (k : Nat) : OkE Tryz.prog 31 (impl_FormatAct_x k) := by
 intro A R Q x h
 unfold impl_FormatAct_x at h
 split at h
 · obtain ⟨y, hy, hK⟩ := Option.bind_eq_some_iff.1 h
   obtain ⟨r, hr, hd⟩ := callD_ok envOk (impl_FormatAct_Ok k) follows Tryz.func31 (by kernel_rfl) ((impl_FormatAct_e k _).trans hy)
   exact ⟨_, impl_FormatAct_i hd ▸ hr.fin [], hK⟩
 · cases h
/-! ### loop.example/g03310/impl.ScriptText: function 12 -/
set_option maxHeartbeats 4000000
theorem bld_size : (Tryz.prog.info? 65).map (·.size) = some 2 := by kernel_rfl
theorem bld_lies : liesAt Tryz.prog Tryz.prog.depth 65 (2 / Tryz.prog.cellsOf 65) 0 65 1 = true := by kernel_rfl
theorem byte_info : (Tryz.prog.info? 5).map (fun i => (i.zero, i.size, i.bytes)) = some (some (.int .u8 0), 1, 1) := by kernel_rfl
/-- Where a builder lies and what its two cells hold. -/
theorem bld_open {B b : Nat} {p : Value} {bs : List Value} {w : World} (h : Lib.BuilderAt 65 5 B b p bs w) :
    ∃ ao m cap, w.heap[b]? = some (.cells #[p, .slice ao m cap] 65 (0, 0)) ∧ w.ownsRow B 5 1 (.slice ao m cap) bs.length bs ∧ (Value.slice ao m cap).ownBlock ≠ some b := by
  obtain ⟨_, v, h1, h2, h3⟩ := h
  rcases h2.2 with ⟨q, _⟩ | ⟨g, cap, cur, q, _⟩
  all_goals
    subst q
    exact ⟨_, _, _, h1, h2, h3⟩
/-- The check that a written builder still lies where it was written. -/
theorem copyCheck_calls (B b : Nat) (bs : List Value) (w : World) (h : Lib.IsBuilder 65 5 B b bs w) :
    Calls Tryz.prog 61 #[.pointer (some ⟨b, 0, none⟩)] w fun e w' => e = .returned (.tuple #[]) ∧ Lib.BuilderAt 65 5 B b (.pointer (some ⟨b, 0, none⟩)) bs w' ∧ Below B w w' := by
  obtain ⟨j, hj, hj2⟩ := Option.map_eq_some_iff.1 bld_size
  have hp : Tryz.prog.underlying 63 = some (.pointer 65) := by kernel_rfl
  have hu : Tryz.prog.underlying 122 = some .unsafePointer := by kernel_rfl
  rcases h with h | h
  · -- nothing was written yet: its own address goes into the first cell
    have k0 := h.cell0
    have k1 := h.frozen0
    have there := Lib.run_to_unsafe (P := Tryz.prog) w (⟨b, 0, none⟩ : Addr) hp hu hj (by omega) h.shape (show 0 < 2 by decide)
    have back := Lib.run_from_unsafe (P := Tryz.prog) w (⟨b, 0, none⟩ : Addr) hu hp hj h.shape bld_lies
    go_enter Tryz.func61, Tryz.ntmps61
    go_wp2
    rw [run_callFunc_extern Tryz.func99 (by kernel_rfl) (by kernel_rfl) (by kernel_rfl) (e := Extern.AbiNoEscape.same) (by kernel_rfl), Lib.run_noEscape]
    simp only [Result.andThen]
    rw [Oper.upon_value]
    go_wp2
    go_end0
    exact ⟨rfl, h.used _, (Below.refl B w).setCell (p := (⟨b, 0, none⟩ : Addr)) h.1 _⟩
  · -- it was written before: it holds its own address
    have k0 := h.cell0
    have same := Lib.run_neq_ptr_same (P := Tryz.prog) w (⟨b, 0, none⟩ : Addr) hp hj
    go_enter Tryz.func61, Tryz.ntmps61
    go_wp2
    go_end0
    exact ⟨rfl, h, Below.refl B w⟩
/-- A text goes in behind what the builder holds. -/
theorem writeString_calls (B b : Nat) (bs : List Value) (s : ByteArray) (w : World) (h : Lib.IsBuilder 65 5 B b bs w) (hlen : bs.length + s.size ≤ 140737488355328) (hBw : B ≤ w.heap.size) :
    Calls Tryz.prog 32 #[.pointer (some ⟨b, 0, none⟩), .string s] w fun e w' => e = .returned (.tuple #[.int .i64 s.size, .nilIface]) ∧ Lib.BuilderAt 65 5 B b (.pointer (some ⟨b, 0, none⟩)) (bs ++ Lib.strCells s) w' ∧ Below B w w' := by
  obtain ⟨i0, hi, z0, z1, z2⟩ := info_parts byte_info
  go_enter Tryz.func32, Tryz.ntmps32
  go_wp2_with (go_at_call 61; refine (copyCheck_calls B b bs _ h).mono ?_)
  rintro e w1 ⟨rfl, hat, below1⟩
  have hBb := hat.1
  obtain ⟨ao, m, cap, blk, own, away⟩ := bld_open hat
  have size1 := below1.size
  have cells1 := fun q => Lib.cell_of_heap (b := b) blk q
  have k0 := cells1 0
  have k1 := cells1 1
  simp only [List.getElem?_toArray, List.getElem?_cons_zero, List.getElem?_cons_succ] at k0 k1
  go_wp2_with (at_builtin; refine Lib.wpList_append_own_string _ rfl _ _ 28 9 rfl B 5 i0 (by kernel_rfl) (by kernel_rfl) hi z0 z1 z2 _ _ _ rfl own s rfl (by unfold maxLen; omega) hlen (by omega) ?_)
  intro v2 w2 own2 grew _
  have blk2 : w2.heap[b]? = some (.cells #[.pointer (some ⟨b, 0, none⟩), .slice ao m cap] 65 (0, 0)) := (grew.block b (Array.getElem?_eq_some_iff.1 blk).1 fun q => away q.symm).trans blk
  have k2 := Lib.cell_of_heap (b := b) blk2 0
  have k3 := Lib.cell_of_heap (b := b) blk2 1
  have k4 := Lib.frozen_of_heap (b := b) blk2 1
  simp only [List.getElem?_toArray, List.getElem?_cons_zero, List.getElem?_cons_succ] at k2 k3
  have put2 := Lib.BuilderAt.put (T := 65) (e := 5) hBb blk2 (bs' := bs ++ Lib.strCells s) (v' := v2) (by rw [List.length_append, Lib.strCells_length]; exact own2) (by decide)
  have below2 := (below1.grown grew (by omega) fun q hq => (own.lt q hq).1).setCell (p := (⟨b, 1, none⟩ : Addr)) hBb v2
  rcases own2.2 with ⟨q, _⟩ | ⟨g, cap2, cur, q, _⟩
  all_goals
    subst q
    go_wp2
    go_ret2
    exact ⟨rfl, put2, below2⟩
theorem string_calls (B b : Nat) (l : List UInt8) (w : World) (h : Lib.IsBuilder 65 5 B b (Lib.byteCells l) w) (hBw : B ≤ w.heap.size) :
    Calls Tryz.prog 33 #[.pointer (some ⟨b, 0, none⟩)] w fun e w' => e = .returned (.string ⟨l.toArray⟩) ∧ Below B w w' := Tryz.Builder_String_any B b l w h hBw
noncomputable def scrD (k : Nat) : List Deed → List UInt8 → Option (ByteArray × Bool)
  | [], acc => some (⟨acc.toArray⟩, true)
  | a :: r, acc => (impl_FormatAct k a).bind fun y => cond y.2 (if acc.length + y.1.size + 1 ≤ 1000000000 then scrD k r (acc ++ (y.1.data.toList ++ [10])) else none) (some (ByteArray.mk #[], false))
noncomputable def scrT (k : Nat) (acts : List Deed) : Option (ByteArray × Bool) := if (40 : Int) < (acts.length : Int) then some (ByteArray.mk #[], false) else scrD k acts []
theorem formatAct_calls (k : Nat) (a : Deed) (y : ByteArray × Bool) (hy : impl_FormatAct k a = some y) (w : World) (htb : TB (fun _ => none) w) :
    Calls Tryz.prog 31 #[.agg #[.int .i64 a.Kind, .int .i64 a.A, .int .i64 a.B]] w fun e w' => e = .returned (.tuple #[.string y.1, .bool y.2]) ∧ Below w.heap.size w w' := by
  obtain ⟨r, hr, he⟩ := impl_FormatAct_ok k ⟨[.ag [.v (.int .i64 a.Kind), .v (.int .i64 a.A), .v (.int .i64 a.B)]], []⟩ Rs some ⟨.tp [.sc (.v (.string y.1)), .sc (.v (.bool y.2))], []⟩ (by
    show (impl_FormatAct k a).bind _ = _
    rw [hy]; rfl)
  cases he
  refine (ct_calls hr htb (vs := #[.agg #[.int .i64 a.Kind, .int .i64 a.A, .int .i64 a.B]]) ⟨⟨_, rfl, rfl, rfl, rfl, trivial⟩, trivial⟩).mono ?_
  rintro e w' ⟨v, ρ', he, ⟨us, hu, h1⟩, hb⟩
  have e2 : us = #[.string y.1, .bool y.2] := two_v h1
  subst e2; subst hu
  exact ⟨he, hb⟩
theorem scriptText_calls (k : Nat) (acts : List Deed) (A : Option Addr) (cap : Nat) (y : ByteArray × Bool) (hy : scrT k acts = some y) (w : World) (htb : TB (fun _ => none) w) (hcap : acts.length ≤ cap) (hnil : A = none → acts = []) (hc : ∀ a, A = some a → ∀ j u, (flat K.k_impl_Act acts)[j]? = some u → w.cell? (a.add j) = some u) :
    Calls Tryz.prog 12 #[.slice A acts.length cap] w fun e w' => e = .returned (.tuple #[.string y.1, .bool y.2]) ∧ Below w.heap.size w w' := by
  unfold scrT at hy
  by_cases h40 : (40 : Int) < (acts.length : Int)
  · rw [if_pos h40] at hy; cases hy
    go_enter Tryz.func12, Tryz.ntmps12
    go_wp2
    go_ret2
    exact ⟨rfl, Below.refl _ _⟩
  · rw [if_neg h40] at hy
    go_enter Tryz.func12, Tryz.ntmps12
    go_wp2
    go_loopw [16] (fun i wr => ∃ (n : Nat) (acc : List UInt8), i = .int .i64 n ∧ n ≤ acts.length ∧ Lib.IsBuilder 65 5 w.heap.size w.heap.size (Lib.byteCells acc) wr ∧ Below w.heap.size w wr ∧ scrD k (acts.drop n) acc = some y) (fun i wr => acts.length - (intOf i).toNat)
    case atStart => exact ⟨0, [], rfl, Nat.zero_le _, Lib.fresh_isBuilder 65 5 w, (Below.refl _ w).alloc (Nat.le_refl _) _, hy⟩
    case round =>
      obtain ⟨n, acc, rfl, hn, hI, hbw, hs⟩ := hrel
      by_cases hlt : n < acts.length
      · have hdr : acts.drop n = acts[n] :: acts.drop (n + 1) := List.drop_eq_getElem_cons hlt
        rw [hdr] at hs
        obtain ⟨X, hX⟩ : ∃ X, A = some X := by
          cases A with
          | none => rw [hnil rfl] at hlt; simp at hlt
          | some X => exact ⟨X, rfl⟩
        subst hX
        have hget : acts[n]? = some acts[n] := List.getElem?_eq_getElem hlt
        have cw : ∀ (m : Nat) (u : Value), m < 3 → (enc K.k_impl_Act acts[n])[m]? = some u → wr.cell? ((X.add (n * 3)).add m) = some u := fun m u hm hu => by
          have h1 := hc X rfl (n * 3 + m) u (by rw [show n * 3 + m = n * sz K.k_impl_Act + m from rfl, flat_get K.k_impl_Act acts n m acts[n] hget hm]; exact hu)
          have hbl : (X.add (n * 3 + m)).block < w.heap.size := by
            unfold World.cell? at h1
            cases hh : w.heap[(X.add (n * 3 + m)).block]? with
            | none => rw [hh] at h1; cases h1
            | some o => exact (Array.getElem?_eq_some_iff.1 hh).1
          rw [Go.Deep.add_add, hbw.cell hbl]; exact h1
        have c0 := cw 0 (.int .i64 acts[n].Kind) (by decide) rfl
        have c1 := cw 1 (.int .i64 acts[n].A) (by decide) rfl
        have c2 := cw 2 (.int .i64 acts[n].B) (by decide) rfl
        have c0' : wr.cell? (X.add (n * 3)) = some (.int .i64 acts[n].Kind) := by rw [← c0, Go.Deep.add_add]; rfl
        have c1' : wr.cell? ⟨(X.add (n * 3)).block, (X.add (n * 3)).off + 1, none⟩ = some (.int .i64 acts[n].A) := c1
        have c2' : wr.cell? ⟨(X.add (n * 3)).block, (X.add (n * 3)).off + 2, none⟩ = some (.int .i64 acts[n].B) := c2
        clear cw c0 c1 c2
        rcases hF : impl_FormatAct k acts[n] with _ | y1
        · exfalso
          unfold scrD at hs
          rw [hF] at hs; cases hs
        unfold scrD at hs
        rw [hF, Option.bind_some] at hs
        go_wp2_with (go_at_call 31; refine (formatAct_calls k acts[n] y1 hF _ ?_).mono ?_)
        · exact htb.below (hbw.alloc hbw.size _)
        rintro e W1 ⟨rfl, b1⟩
        have hI1 := isBuilder_below (isBuilder_below hI ((Below.refl wr.heap.size wr).alloc (Nat.le_refl _) _)) b1
        have hbw1 := (hbw.alloc hbw.size _).trans (b1.mono (by simp; exact Nat.le_trans hbw.size (by omega)))
        obtain ⟨t1, o1⟩ := y1
        simp only at hs hF hI1 hbw1 b1 ⊢
        cases o1 with
        | false =>
          cases hs
          go_wp2
          go_ret2
          exact ⟨rfl, hbw1⟩
        | true =>
          rw [cond_true] at hs
          by_cases hsz : acc.length + t1.size + 1 ≤ 1000000000
          · rw [if_pos hsz] at hs
            have hsz2 : (t1 ++ (⟨#[10]⟩ : ByteArray)).size = t1.size + 1 := by rw [ByteArray.size_append]; rfl
            go_wp2_with (go_at_call 32; refine (writeString_calls w.heap.size w.heap.size _ _ _ hI1 ?_ ?_).mono ?_)
            · rw [hsz2, Lib.byteCells_length]; omega
            · exact hbw1.size
            rintro e W2 ⟨rfl, h2, b2⟩
            go_wp2
            go_roundw
            case rel =>
              refine ⟨n + 1, acc ++ (t1.data.toList ++ [10]), ?_, by omega, .inr ?_, hbw1.trans b2, hs⟩
              · go_num
              · have eb : Lib.byteCells (acc ++ (t1.data.toList ++ [10])) = Lib.byteCells acc ++ Lib.strCells (t1 ++ (⟨#[10]⟩ : ByteArray)) := by
                  rw [Lib.byteCells_append, Lib.strCells_eq]; simp
                rw [eb]; exact h2
            case measure => simp [intOf]; omega
          · rw [if_neg hsz] at hs; cases hs
      · have hne : n = acts.length := by omega
        subst hne
        rw [List.drop_length] at hs
        have hy2 : y = (⟨acc.toArray⟩, true) := by cases hs; rfl
        go_wp2_with (go_at_call 33; refine (string_calls w.heap.size w.heap.size acc _ hI hbw.size).mono ?_)
        rintro e W1 ⟨rfl, b1⟩
        go_wp2
        go_ret2
        rw [hy2]
        exact ⟨rfl, hbw.trans b1⟩
noncomputable def impl_ScriptText (k : Nat) (acts : (List Deed)) : Option (ByteArray × Bool × List Deed) := if (scrT k acts).isSome = true then some ((((scrT k acts).getD (ByteArray.mk #[], false)).1, ((scrT k acts).getD (ByteArray.mk #[], false)).2, acts)) else none
noncomputable def impl_ScriptText_x (k : Nat) : Ent1 := fun A R Q => match A with
 | ⟨[(.sc (.sl 0))], [(.row true K.k_impl_Act a1)]⟩ => (impl_ScriptText k a1).bind fun y => Q ⟨(.tp [(.sc (.v (.string y.1))), (.sc (.v (.bool y.2.1)))]), [(.row true K.k_impl_Act y.2.2)]⟩
 | _ => none
theorem impl_ScriptText_ok (k : Nat) : OkE Tryz.prog 12 (impl_ScriptText_x k) := by
 intro A R Q x h
 unfold impl_ScriptText_x at h
 split at h
 · rename_i a1
   obtain ⟨y, hy, hK⟩ := Option.bind_eq_some_iff.1 h
   unfold impl_ScriptText at hy; split at hy
   · rename_i hn; cases hy
     refine ⟨_, ct_plain (u := (.tuple #[(.string (((((scrT k a1).getD (ByteArray.mk #[], false)).1, ((scrT k a1).getD (ByteArray.mk #[], false)).2, a1) : ByteArray × Bool × List Deed).1)), (.bool (((((scrT k a1).getD (ByteArray.mk #[], false)).1, ((scrT k a1).getD (ByteArray.mk #[], false)).2, a1) : ByteArray × Bool × List Deed).2.1))])) Tryz.func12 (by kernel_rfl) (by kernel_rfl) (vv_two _ _) (fun w ρ ow vs htb hB hF => ?_), hK⟩
     rw [row1_v hF]
     exact by
       have hb : BlkOk _ w ρ ow 0 (.row true K.k_impl_Act a1) := hB 0
       obtain ⟨A', cap, e1, hcap, hnil, _⟩ := row_hdr hb
       rw [e1]
       obtain ⟨y0, hy0⟩ := Option.isSome_iff_exists.1 hn
       rw [hy0]
       exact scriptText_calls k a1 A' cap y0 hy0 w htb.plain hcap hnil (fun a ha j u hu => row_cell hb (by rw [e1, ha]) j u hu)
   · cases hy
 · cases h
/-! ### impl.SplitFields: function 25 -/
noncomputable def impl_SplitFields_s0 (k : Nat)  (line : ByteArray) (J : Int → Option ((List ByteArray) × Bool)) (x0_0 : Int) : Option ((List ByteArray) × Bool) :=
 cond (decide ((x0_0 : Int) < ((line).size : Int)))
 (if 0 ≤ (x0_0 : Int) ∧ (x0_0 : Int) < ((line).size : Int) then
  cond (decide (((byteAt line (Int.toNat x0_0)) : Int) < 32))
   (some ([], false))
   (if 0 ≤ (x0_0 : Int) ∧ (x0_0 : Int) < ((line).size : Int) then
    cond (decide ((126 : Int) < (byteAt line (Int.toNat x0_0))))
     (some ([], false))
     (J (wr (x0_0 + 1))) else none) else none)
 ((strings_FieldsFunc k line).bind fun y2 =>
  cond (decide ((24 : Int) < ((y2).length : Int)))
   (some ([], false))
   (some (y2, true)))
noncomputable def impl_SplitFields_l0 (k : Nat) : Nat → ByteArray → Int → Option ((List ByteArray) × Bool)
 | 0, line, x0_0 => impl_SplitFields_s0 k line (fun _ => none) x0_0
 | m + 1, line, x0_0 => impl_SplitFields_s0 k line (impl_SplitFields_l0 k m line) x0_0
noncomputable def impl_SplitFields_m (k : Nat) (J0 : ByteArray → Int → Option ((List ByteArray) × Bool)) (line : ByteArray) : Option ((List ByteArray) × Bool) :=
 cond (decide ((600 : Int) < ((line).size : Int)))
 (some ([], false))
 (J0 line 0)
noncomputable def impl_SplitFields (k : Nat) (line : ByteArray) : Option ((List ByteArray) × Bool) := impl_SplitFields_m k (impl_SplitFields_l0 k k) line
noncomputable def impl_SplitFields_v : Nat → List Nat := fun t => match t with | 4 => [0, 2, 3, 10, 11] | _ => []
noncomputable def impl_SplitFields_O (k : Nat) : Oracle := ofL [(50, strings_FieldsFunc_x k)]
theorem impl_SplitFields_Ok (k : Nat) : OkO (Ct Tryz.prog) (impl_SplitFields_O k) := okO_cons (strings_FieldsFunc_ok k) (okO_nil)
noncomputable def impl_SplitFields_A (line : ByteArray) : Pk := ⟨[(.sc (.v (.string line)))], []⟩
noncomputable def impl_SplitFields_d : Rs → Option ((List ByteArray) × Bool)
 | ⟨(.tp [(.sc (.sl 0)), (.sc (.v (.bool r2)))]), [(.row true K.kstr r1)]⟩ => some (r1, r2)
 | _ => none
theorem impl_SplitFields_i {r : Rs} {y : (List ByteArray) × Bool} (h : impl_SplitFields_d r = some y) : r = ⟨(.tp [(.sc (.sl 0)), (.sc (.v (.bool y.2)))]), [(.row true K.kstr y.1)]⟩ := by
 unfold impl_SplitFields_d at h; split at h
 · cases h; rfl
 · cases h
noncomputable def impl_SplitFields_h0 (k m : Nat) (line : ByteArray) (x0_0 : Int) : Option ((List ByteArray) × Bool) := hdAt env (impl_SplitFields_O k) impl_SplitFields_v Tryz.f25 0 (fun r => impl_SplitFields_d (r.fin 0 [K.kstr])) [1, 1, 0, 1, 0] k m ⟨tmF [0, 2, 3, 10, 11] [(.a (.sc (.v (.string line)))), (.a (.sc .nl)), (.a (.sc (.v (.bool false)))), (.a (.sc (.v (.int .i64 ((line).size : Int))))), (.a (.sc (.v (.int .i64 x0_0))))], blF []⟩
theorem impl_SplitFields_z0 (k : Nat) (line : ByteArray) (x0_0 : Int) : impl_SplitFields_h0 k 0 line x0_0 = impl_SplitFields_s0 k line (fun _ => none) x0_0 := by kernel_rfl
theorem impl_SplitFields_g0 (k : Nat) (H : St → Option ((List ByteArray) × Bool)) (line : ByteArray) (x0_0 : Int) : rnd env (impl_SplitFields_O k) impl_SplitFields_v Tryz.f25 0 (fun r => impl_SplitFields_d (r.fin 0 [K.kstr])) [1, 1, 0, 1, 0] k H ⟨tmF [0, 2, 3, 10, 11] [(.a (.sc (.v (.string line)))), (.a (.sc .nl)), (.a (.sc (.v (.bool false)))), (.a (.sc (.v (.int .i64 ((line).size : Int))))), (.a (.sc (.v (.int .i64 x0_0))))], blF []⟩ = impl_SplitFields_s0 k line (fun x0_0 => H ⟨tmF [0, 2, 3, 10, 11] [(.a (.sc (.v (.string line)))), (.a (.sc .nl)), (.a (.sc (.v (.bool false)))), (.a (.sc (.v (.int .i64 ((line).size : Int))))), (.a (.sc (.v (.int .i64 x0_0))))], blF []⟩) x0_0 := by kernel_rfl
theorem impl_SplitFields_n0 (k m : Nat) (line : ByteArray) (x0_0 : Int) : impl_SplitFields_h0 k (m + 1) line x0_0 = impl_SplitFields_s0 k line (impl_SplitFields_h0 k m line) x0_0 := (hdAt_succ _ _ _ _ _ _ _ _ _ _).trans (impl_SplitFields_g0 k _ line x0_0)
theorem impl_SplitFields_q0 (k : Nat) : ∀ m, impl_SplitFields_h0 k m = impl_SplitFields_l0 k m := by
 intro m
 induction m with
 | zero => funext line x0_0; rw [impl_SplitFields_z0]; rfl
 | succ m ih => funext line x0_0; rw [impl_SplitFields_n0, ih]; rfl
theorem impl_SplitFields_e (k : Nat) (line : ByteArray) : callF env (impl_SplitFields_O k) impl_SplitFields_v Tryz.f25 (k + 1) (impl_SplitFields_A line) (fun r => impl_SplitFields_d (r.fin 0 [K.kstr])) = impl_SplitFields k line := by
 have e : ∀ H : St → Option ((List ByteArray) × Bool), callE env (impl_SplitFields_O k) impl_SplitFields_v Tryz.f25 (k + 1) (impl_SplitFields_A line) [1, 1, 0, 1, 0] (fun r => impl_SplitFields_d (r.fin 0 [K.kstr])) H = impl_SplitFields_m k (fun line x0_0 => H ⟨tmF [0, 2, 3, 10, 11] [(.a (.sc (.v (.string line)))), (.a (.sc .nl)), (.a (.sc (.v (.bool false)))), (.a (.sc (.v (.int .i64 ((line).size : Int))))), (.a (.sc (.v (.int .i64 x0_0))))], blF []⟩) line := fun H => by kernel_rfl
 exact (callE_eq env (impl_SplitFields_O k) impl_SplitFields_v Tryz.f25 k (impl_SplitFields_A line) [1, 1, 0, 1, 0] 0 (fun r => impl_SplitFields_d (r.fin 0 [K.kstr])) rfl (by kernel_rfl)).trans ((e (hdAt env (impl_SplitFields_O k) impl_SplitFields_v Tryz.f25 0 (fun r => impl_SplitFields_d (r.fin 0 [K.kstr])) [1, 1, 0, 1, 0] k k)).trans (by
  show impl_SplitFields_m k (impl_SplitFields_h0 k k) line = _
  rw [impl_SplitFields_q0]; rfl))
noncomputable def impl_SplitFields_x (k : Nat) : Ent1 := fun A R Q => match A with
 | ⟨[(.sc (.v (.string a1)))], []⟩ => (impl_SplitFields k a1).bind fun y => Q ⟨(.tp [(.sc (.sl 0)), (.sc (.v (.bool y.2)))]), [(.row true K.kstr y.1)]⟩
 | _ => none
theorem impl_SplitFields_ok (k : Nat) : OkE Tryz.prog 25 (impl_SplitFields_x k) := by
 intro A R Q x h
 unfold impl_SplitFields_x at h
 split at h
 · obtain ⟨y, hy, hK⟩ := Option.bind_eq_some_iff.1 h
   obtain ⟨r, hr, hd⟩ := callF_ok envOk (impl_SplitFields_Ok k) follows Tryz.func25 (by kernel_rfl) ((impl_SplitFields_e k _).trans hy)
   exact ⟨_, impl_SplitFields_i hd ▸ hr.fin [K.kstr], hK⟩
 · cases h
/-! ### impl.ParseAct: function 26 -/
noncomputable def impl_ParseAct_s0 (k : Nat)  (y1 : (List ByteArray) × Bool) (y3 : Int × (List ByteArray)) (J : Int → Int → Int → Option (Deed × Bool)) (x0_0 : Int) (x0_1 : Int) (x0_2 : Int) : Option (Deed × Bool) :=
 cond (decide ((x0_0 : Int) < ((((y1.1.take (Int.toNat ((y1.1).length : Int))).drop 1)).length : Int)))
 (if 0 ≤ (x0_0 : Int) ∧ (x0_0 : Int) < ((((y1.1.take (Int.toNat ((y1.1).length : Int))).drop 1)).length : Int) then
  (impl_ParseUint k (((y1.1.take (Int.toNat ((y1.1).length : Int))).drop 1).getD (Int.toNat x0_0) (ByteArray.mk #[]))).bind fun y7 =>
   cond (!y7.2)
    (some ((⟨0, 0, 0⟩ : Deed), false))
    (if 0 ≤ (x0_0 : Int) ∧ (x0_0 : Int) < (2 : Int) then
     cond (decide ((x0_0 : Int) = 0))
      (J (wr (x0_0 + 1)) y7.1 x0_2)
      (cond (decide ((x0_0 : Int) = 1))
       (J (wr (x0_0 + 1)) x0_1 y7.1)
       (none)) else none) else none)
 (if 0 ≤ (0 : Int) ∧ (0 : Int) < (2 : Int) then
  if 0 ≤ (1 : Int) ∧ (1 : Int) < (2 : Int) then
   (impl_ActOk k (⟨(wr (y3.1 + 1)), x0_1, x0_2⟩ : Deed)).bind fun y8 =>
    cond (!y8)
     (some ((⟨0, 0, 0⟩ : Deed), false))
     (some ((⟨(wr (y3.1 + 1)), x0_1, x0_2⟩ : Deed), true)) else none else none)
noncomputable def impl_ParseAct_l0 (k : Nat) : Nat → (List ByteArray) × Bool → Int × (List ByteArray) → Int → Int → Int → Option (Deed × Bool)
 | 0, y1, y3, x0_0, x0_1, x0_2 => impl_ParseAct_s0 k y1 y3 (fun _ _ _ => none) x0_0 x0_1 x0_2
 | m + 1, y1, y3, x0_0, x0_1, x0_2 => impl_ParseAct_s0 k y1 y3 (impl_ParseAct_l0 k m y1 y3) x0_0 x0_1 x0_2
noncomputable def impl_ParseAct_m (k : Nat) (J0 : (List ByteArray) × Bool → Int × (List ByteArray) → Int → Int → Int → Option (Deed × Bool)) (line : ByteArray) : Option (Deed × Bool) :=
 (impl_SplitFields k line).bind fun y1 =>
 cond (!y1.2)
  (some ((⟨0, 0, 0⟩ : Deed), false))
  (cond (decide ((((y1.1).length : Int) : Int) = 0))
   (some ((⟨0, 0, 0⟩ : Deed), false))
   ((impl_actWords k).bind fun y2 =>
    if 0 ≤ (0 : Int) ∧ (0 : Int) < ((y1.1).length : Int) then
     (slices_Index_string_string k y2 (y1.1.getD 0 (ByteArray.mk #[]))).bind fun y3 =>
      cond (decide ((y3.1 : Int) < 0))
       (some ((⟨0, 0, 0⟩ : Deed), false))
       ((impl_actNumbers k).bind fun y4 =>
        if 0 ≤ (y3.1 : Int) ∧ (y3.1 : Int) < ((y4).length : Int) then
        cond (!(decide ((((y1.1).length : Int) : Int) = (wr ((y4.getD (Int.toNat y3.1) 0) + 1)))))
        (some ((⟨0, 0, 0⟩ : Deed), false))
        (if (0 : Int) ≤ 1 ∧ 1 ≤ ((y1.1).length : Int) ∧ ((y1.1).length : Int) ≤ ((y1.1).length : Int) then
        J0 y1 y3 0 0 0 else none) else none) else none))
noncomputable def impl_ParseAct (k : Nat) (line : ByteArray) : Option (Deed × Bool) := impl_ParseAct_m k (impl_ParseAct_l0 k k) line
noncomputable def impl_ParseAct_v : Nat → List Nat := fun t => match t with | 9 => [2, 3, 6, 7, 46, 47, 48] | _ => []
noncomputable def impl_ParseAct_O (k : Nat) : Oracle := ofL [(25, impl_SplitFields_x k), (52, slices_Index_string_string_x k), (53, impl_actWords_x k), (54, impl_actNumbers_x k), (55, impl_ParseUint_x k), (56, impl_ActOk_x k)]
theorem impl_ParseAct_Ok (k : Nat) : OkO (Ct Tryz.prog) (impl_ParseAct_O k) := okO_cons (impl_SplitFields_ok k) (okO_cons (slices_Index_string_string_ok k) (okO_cons (impl_actWords_ok k) (okO_cons (impl_actNumbers_ok k) (okO_cons (impl_ParseUint_ok k) (okO_cons (impl_ActOk_ok k) (okO_nil))))))
noncomputable def impl_ParseAct_A (line : ByteArray) : Pk := ⟨[(.sc (.v (.string line)))], []⟩
noncomputable def impl_ParseAct_d : Rs → Option (Deed × Bool)
 | ⟨(.tp [(.ag [(.v (.int .i64 r1)), (.v (.int .i64 r2)), (.v (.int .i64 r3))]), (.sc (.v (.bool r4)))]), []⟩ => some ((⟨r1, r2, r3⟩ : Deed), r4)
 | _ => none
theorem impl_ParseAct_i {r : Rs} {y : Deed × Bool} (h : impl_ParseAct_d r = some y) : r = ⟨(.tp [(.ag [(.v (.int .i64 y.1.Kind)), (.v (.int .i64 y.1.A)), (.v (.int .i64 y.1.B))]), (.sc (.v (.bool y.2)))]), []⟩ := by
 unfold impl_ParseAct_d at h; split at h
 · cases h; rfl
 · cases h
noncomputable def impl_ParseAct_h0 (k m : Nat) (y1 : (List ByteArray) × Bool) (y3 : Int × (List ByteArray)) (x0_0 : Int) (x0_1 : Int) (x0_2 : Int) : Option (Deed × Bool) := hdAt env (impl_ParseAct_O k) impl_ParseAct_v Tryz.f26 0 (fun r => impl_ParseAct_d (r.fin 0 [])) [1, 1, 1, 1, 1, 1, 0, 1, 0] k m ⟨tmF [2, 3, 6, 7, 46, 47, 48] [(.a (.sc (.bp 0 0))), (.a (.sc (.v (.bool false)))), (.a (.sc (.v (.int .i64 y3.1)))), (.a (.sc (.bp 1 0))), (.a (.sc (.sl 2))), (.a (.sc (.v (.int .i64 ((((y1.1.take (Int.toNat ((y1.1).length : Int))).drop 1)).length : Int))))), (.a (.sc (.v (.int .i64 x0_0))))], blF [(.box true [(.v (.int .i64 0)), (.v (.int .i64 0)), (.v (.int .i64 0))]), (.box true [(.v (.int .i64 x0_1)), (.v (.int .i64 x0_2))]), (.row false K.kstr ((y1.1.take (Int.toNat ((y1.1).length : Int))).drop 1))]⟩
theorem impl_ParseAct_z0 (k : Nat) (y1 : (List ByteArray) × Bool) (y3 : Int × (List ByteArray)) (x0_0 : Int) (x0_1 : Int) (x0_2 : Int) : impl_ParseAct_h0 k 0 y1 y3 x0_0 x0_1 x0_2 = impl_ParseAct_s0 k y1 y3 (fun _ _ _ => none) x0_0 x0_1 x0_2 := by kernel_rfl
theorem impl_ParseAct_g0 (k : Nat) (H : St → Option (Deed × Bool)) (y1 : (List ByteArray) × Bool) (y3 : Int × (List ByteArray)) (x0_0 : Int) (x0_1 : Int) (x0_2 : Int) : rnd env (impl_ParseAct_O k) impl_ParseAct_v Tryz.f26 0 (fun r => impl_ParseAct_d (r.fin 0 [])) [1, 1, 1, 1, 1, 1, 0, 1, 0] k H ⟨tmF [2, 3, 6, 7, 46, 47, 48] [(.a (.sc (.bp 0 0))), (.a (.sc (.v (.bool false)))), (.a (.sc (.v (.int .i64 y3.1)))), (.a (.sc (.bp 1 0))), (.a (.sc (.sl 2))), (.a (.sc (.v (.int .i64 ((((y1.1.take (Int.toNat ((y1.1).length : Int))).drop 1)).length : Int))))), (.a (.sc (.v (.int .i64 x0_0))))], blF [(.box true [(.v (.int .i64 0)), (.v (.int .i64 0)), (.v (.int .i64 0))]), (.box true [(.v (.int .i64 x0_1)), (.v (.int .i64 x0_2))]), (.row false K.kstr ((y1.1.take (Int.toNat ((y1.1).length : Int))).drop 1))]⟩ = impl_ParseAct_s0 k y1 y3 (fun x0_0 x0_1 x0_2 => H ⟨tmF [2, 3, 6, 7, 46, 47, 48] [(.a (.sc (.bp 0 0))), (.a (.sc (.v (.bool false)))), (.a (.sc (.v (.int .i64 y3.1)))), (.a (.sc (.bp 1 0))), (.a (.sc (.sl 2))), (.a (.sc (.v (.int .i64 ((((y1.1.take (Int.toNat ((y1.1).length : Int))).drop 1)).length : Int))))), (.a (.sc (.v (.int .i64 x0_0))))], blF [(.box true [(.v (.int .i64 0)), (.v (.int .i64 0)), (.v (.int .i64 0))]), (.box true [(.v (.int .i64 x0_1)), (.v (.int .i64 x0_2))]), (.row false K.kstr ((y1.1.take (Int.toNat ((y1.1).length : Int))).drop 1))]⟩) x0_0 x0_1 x0_2 := by kernel_rfl
theorem impl_ParseAct_n0 (k m : Nat) (y1 : (List ByteArray) × Bool) (y3 : Int × (List ByteArray)) (x0_0 : Int) (x0_1 : Int) (x0_2 : Int) : impl_ParseAct_h0 k (m + 1) y1 y3 x0_0 x0_1 x0_2 = impl_ParseAct_s0 k y1 y3 (impl_ParseAct_h0 k m y1 y3) x0_0 x0_1 x0_2 := (hdAt_succ _ _ _ _ _ _ _ _ _ _).trans (impl_ParseAct_g0 k _ y1 y3 x0_0 x0_1 x0_2)
theorem impl_ParseAct_q0 (k : Nat) : ∀ m, impl_ParseAct_h0 k m = impl_ParseAct_l0 k m := by
 intro m
 induction m with
 | zero => funext y1 y3 x0_0 x0_1 x0_2; rw [impl_ParseAct_z0]; rfl
 | succ m ih => funext y1 y3 x0_0 x0_1 x0_2; rw [impl_ParseAct_n0, ih]; rfl
theorem impl_ParseAct_e (k : Nat) (line : ByteArray) : callF env (impl_ParseAct_O k) impl_ParseAct_v Tryz.f26 (k + 1) (impl_ParseAct_A line) (fun r => impl_ParseAct_d (r.fin 0 [])) = impl_ParseAct k line := by
 have e : ∀ H : St → Option (Deed × Bool), callE env (impl_ParseAct_O k) impl_ParseAct_v Tryz.f26 (k + 1) (impl_ParseAct_A line) [1, 1, 1, 1, 1, 1, 0, 1, 0] (fun r => impl_ParseAct_d (r.fin 0 [])) H = impl_ParseAct_m k (fun y1 y3 x0_0 x0_1 x0_2 => H ⟨tmF [2, 3, 6, 7, 46, 47, 48] [(.a (.sc (.bp 0 0))), (.a (.sc (.v (.bool false)))), (.a (.sc (.v (.int .i64 y3.1)))), (.a (.sc (.bp 1 0))), (.a (.sc (.sl 2))), (.a (.sc (.v (.int .i64 ((((y1.1.take (Int.toNat ((y1.1).length : Int))).drop 1)).length : Int))))), (.a (.sc (.v (.int .i64 x0_0))))], blF [(.box true [(.v (.int .i64 0)), (.v (.int .i64 0)), (.v (.int .i64 0))]), (.box true [(.v (.int .i64 x0_1)), (.v (.int .i64 x0_2))]), (.row false K.kstr ((y1.1.take (Int.toNat ((y1.1).length : Int))).drop 1))]⟩) line := fun H => by kernel_rfl
 exact (callE_eq env (impl_ParseAct_O k) impl_ParseAct_v Tryz.f26 k (impl_ParseAct_A line) [1, 1, 1, 1, 1, 1, 0, 1, 0] 0 (fun r => impl_ParseAct_d (r.fin 0 [])) rfl (by kernel_rfl)).trans ((e (hdAt env (impl_ParseAct_O k) impl_ParseAct_v Tryz.f26 0 (fun r => impl_ParseAct_d (r.fin 0 [])) [1, 1, 1, 1, 1, 1, 0, 1, 0] k k)).trans (by
  show impl_ParseAct_m k (impl_ParseAct_h0 k k) line = _
  rw [impl_ParseAct_q0]; rfl))
noncomputable def impl_ParseAct_x (k : Nat) : Ent1 := fun A R Q => match A with
 | ⟨[(.sc (.v (.string a1)))], []⟩ => (impl_ParseAct k a1).bind fun y => Q ⟨(.tp [(.ag [(.v (.int .i64 y.1.Kind)), (.v (.int .i64 y.1.A)), (.v (.int .i64 y.1.B))]), (.sc (.v (.bool y.2)))]), []⟩
 | _ => none
theorem impl_ParseAct_ok (k : Nat) : OkE Tryz.prog 26 (impl_ParseAct_x k) := by
 intro A R Q x h
 unfold impl_ParseAct_x at h
 split at h
 · obtain ⟨y, hy, hK⟩ := Option.bind_eq_some_iff.1 h
   obtain ⟨r, hr, hd⟩ := callF_ok envOk (impl_ParseAct_Ok k) follows Tryz.func26 (by kernel_rfl) ((impl_ParseAct_e k _).trans hy)
   exact ⟨_, impl_ParseAct_i hd ▸ hr.fin [], hK⟩
 · cases h
/-! ### impl.stockCopy: function 62 -/
noncomputable def impl_stockCopy (k : Nat)  (s : Stock) : Option (Stock) :=
 if ([] : List Int).length + (s.Grams : List Int).length ≤ maxRow then
 some (⟨([] ++ s.Grams)⟩ : Stock) else none
noncomputable def impl_stockCopy_v : Nat → List Nat := fun t => match t with | _ => []
noncomputable def impl_stockCopy_O (k : Nat) : Oracle := ofL []
theorem impl_stockCopy_Ok (k : Nat) : OkO (Ct Tryz.prog) (impl_stockCopy_O k) := okO_nil
noncomputable def impl_stockCopy_A (s : Stock) : Pk := ⟨[(.ag [(.sl 0)])], [(.row false K.ki64 s.Grams)]⟩
noncomputable def impl_stockCopy_d : Rs → Option (Stock)
 | ⟨(.a (.ag [(.sl 1)])), [.dead, (.row true K.ki64 r1)]⟩ => some (⟨r1⟩ : Stock)
 | _ => none
theorem impl_stockCopy_i {r : Rs} {y : Stock} (h : impl_stockCopy_d r = some y) : r = ⟨(.a (.ag [(.sl 1)])), [.dead, (.row true K.ki64 y.Grams)]⟩ := by
 unfold impl_stockCopy_d at h; split at h
 · cases h; rfl
 · cases h
theorem impl_stockCopy_e (k : Nat) (s : Stock) : callF env (impl_stockCopy_O k) impl_stockCopy_v Tryz.f62 (k + 1) (impl_stockCopy_A s) (fun r => impl_stockCopy_d (r.fin 1 [])) = impl_stockCopy k s := by kernel_rfl
noncomputable def impl_stockCopy_x (k : Nat) : Ent1 := fun A R Q => match A with
 | ⟨[(.ag [(.sl 0)])], [(.row false K.ki64 a1)]⟩ => (impl_stockCopy k (⟨a1⟩ : Stock)).bind fun y => Q ⟨(.a (.ag [(.sl 1)])), [.dead, (.row true K.ki64 y.Grams)]⟩
 | _ => none
theorem impl_stockCopy_ok (k : Nat) : OkE Tryz.prog 62 (impl_stockCopy_x k) := by
 intro A R Q x h
 unfold impl_stockCopy_x at h
 split at h
 · obtain ⟨y, hy, hK⟩ := Option.bind_eq_some_iff.1 h
   obtain ⟨r, hr, hd⟩ := callF_ok envOk (impl_stockCopy_Ok k) follows Tryz.func62 (by kernel_rfl) ((impl_stockCopy_e k _).trans hy)
   exact ⟨_, impl_stockCopy_i hd ▸ hr.fin [], hK⟩
 · cases h
/-! ### impl.bookCopy: function 63 -/
noncomputable def impl_bookCopy (k : Nat)  (b : Book) : Option (Book) :=
 if ([] : List Event).length + (b.Events : List Event).length ≤ maxRow then
 some (⟨([] ++ b.Events), b.Rack, b.Baked, b.Sold, b.Thrown⟩ : Book) else none
noncomputable def impl_bookCopy_v : Nat → List Nat := fun t => match t with | _ => []
noncomputable def impl_bookCopy_O (k : Nat) : Oracle := ofL []
theorem impl_bookCopy_Ok (k : Nat) : OkO (Ct Tryz.prog) (impl_bookCopy_O k) := okO_nil
noncomputable def impl_bookCopy_A (b : Book) : Pk := ⟨[(.ag [(.sl 0), (.v (.int .i64 b.Rack.Fresh)), (.v (.int .i64 b.Rack.Day)), (.v (.int .i64 b.Rack.Old)), (.v (.int .i64 b.Baked)), (.v (.int .i64 b.Sold)), (.v (.int .i64 b.Thrown))])], [(.row false K.k_impl_Event b.Events)]⟩
noncomputable def impl_bookCopy_d : Rs → Option (Book)
 | ⟨(.a (.ag [(.sl 1), (.v (.int .i64 r2)), (.v (.int .i64 r3)), (.v (.int .i64 r4)), (.v (.int .i64 r5)), (.v (.int .i64 r6)), (.v (.int .i64 r7))])), [.dead, (.row true K.k_impl_Event r1)]⟩ => some (⟨r1, (⟨r2, r3, r4⟩ : Rack), r5, r6, r7⟩ : Book)
 | _ => none
theorem impl_bookCopy_i {r : Rs} {y : Book} (h : impl_bookCopy_d r = some y) : r = ⟨(.a (.ag [(.sl 1), (.v (.int .i64 y.Rack.Fresh)), (.v (.int .i64 y.Rack.Day)), (.v (.int .i64 y.Rack.Old)), (.v (.int .i64 y.Baked)), (.v (.int .i64 y.Sold)), (.v (.int .i64 y.Thrown))])), [.dead, (.row true K.k_impl_Event y.Events)]⟩ := by
 unfold impl_bookCopy_d at h; split at h
 · cases h; rfl
 · cases h
theorem impl_bookCopy_e (k : Nat) (b : Book) : callF env (impl_bookCopy_O k) impl_bookCopy_v Tryz.f63 (k + 1) (impl_bookCopy_A b) (fun r => impl_bookCopy_d (r.fin 1 [])) = impl_bookCopy k b := by kernel_rfl
noncomputable def impl_bookCopy_x (k : Nat) : Ent1 := fun A R Q => match A with
 | ⟨[(.ag [(.sl 0), (.v (.int .i64 a2)), (.v (.int .i64 a3)), (.v (.int .i64 a4)), (.v (.int .i64 a5)), (.v (.int .i64 a6)), (.v (.int .i64 a7))])], [(.row false K.k_impl_Event a1)]⟩ => (impl_bookCopy k (⟨a1, (⟨a2, a3, a4⟩ : Rack), a5, a6, a7⟩ : Book)).bind fun y => Q ⟨(.a (.ag [(.sl 1), (.v (.int .i64 y.Rack.Fresh)), (.v (.int .i64 y.Rack.Day)), (.v (.int .i64 y.Rack.Old)), (.v (.int .i64 y.Baked)), (.v (.int .i64 y.Sold)), (.v (.int .i64 y.Thrown))])), [.dead, (.row true K.k_impl_Event y.Events)]⟩
 | _ => none
theorem impl_bookCopy_ok (k : Nat) : OkE Tryz.prog 63 (impl_bookCopy_x k) := by
 intro A R Q x h
 unfold impl_bookCopy_x at h
 split at h
 · obtain ⟨y, hy, hK⟩ := Option.bind_eq_some_iff.1 h
   obtain ⟨r, hr, hd⟩ := callF_ok envOk (impl_bookCopy_Ok k) follows Tryz.func63 (by kernel_rfl) ((impl_bookCopy_e k _).trans hy)
   exact ⟨_, impl_bookCopy_i hd ▸ hr.fin [], hK⟩
 · cases h
/-! ### impl.bakeryCopy: function 34 -/
noncomputable def impl_bakeryCopy (k : Nat)  (b : Bakery) : Option (Bakery) :=
 (impl_stockCopy k b.Stock).bind fun y1 =>
 (impl_bookCopy k b.Book).bind fun y2 =>
  some (⟨y1, b.Dough, b.Loaf, y2, b.Money⟩ : Bakery)
noncomputable def impl_bakeryCopy_v : Nat → List Nat := fun t => match t with | _ => []
noncomputable def impl_bakeryCopy_O (k : Nat) : Oracle := ofL [(62, impl_stockCopy_x k), (63, impl_bookCopy_x k)]
theorem impl_bakeryCopy_Ok (k : Nat) : OkO (Ct Tryz.prog) (impl_bakeryCopy_O k) := okO_cons (impl_stockCopy_ok k) (okO_cons (impl_bookCopy_ok k) (okO_nil))
noncomputable def impl_bakeryCopy_A (b : Bakery) : Pk := ⟨[(.ag [(.sl 0), (.v (.int .i64 b.Dough.Water)), (.v (.int .i64 b.Dough.Salt)), (.v (.int .i64 b.Dough.Leaven)), (.v (.int .i64 b.Loaf.Weight)), (.v (.int .i64 b.Loaf.Loss)), (.sl 1), (.v (.int .i64 b.Book.Rack.Fresh)), (.v (.int .i64 b.Book.Rack.Day)), (.v (.int .i64 b.Book.Rack.Old)), (.v (.int .i64 b.Book.Baked)), (.v (.int .i64 b.Book.Sold)), (.v (.int .i64 b.Book.Thrown)), (.v (.int .i64 b.Money))])], [(.row false K.ki64 b.Stock.Grams), (.row false K.k_impl_Event b.Book.Events)]⟩
noncomputable def impl_bakeryCopy_d : Rs → Option (Bakery)
 | ⟨(.a (.ag [(.sl 2), (.v (.int .i64 r2)), (.v (.int .i64 r3)), (.v (.int .i64 r4)), (.v (.int .i64 r5)), (.v (.int .i64 r6)), (.sl 3), (.v (.int .i64 r8)), (.v (.int .i64 r9)), (.v (.int .i64 r10)), (.v (.int .i64 r11)), (.v (.int .i64 r12)), (.v (.int .i64 r13)), (.v (.int .i64 r14))])), [.dead, .dead, (.row true K.ki64 r1), (.row true K.k_impl_Event r7)]⟩ => some (⟨(⟨r1⟩ : Stock), (⟨r2, r3, r4⟩ : Dough), (⟨r5, r6⟩ : Loaf), (⟨r7, (⟨r8, r9, r10⟩ : Rack), r11, r12, r13⟩ : Book), r14⟩ : Bakery)
 | _ => none
theorem impl_bakeryCopy_i {r : Rs} {y : Bakery} (h : impl_bakeryCopy_d r = some y) : r = ⟨(.a (.ag [(.sl 2), (.v (.int .i64 y.Dough.Water)), (.v (.int .i64 y.Dough.Salt)), (.v (.int .i64 y.Dough.Leaven)), (.v (.int .i64 y.Loaf.Weight)), (.v (.int .i64 y.Loaf.Loss)), (.sl 3), (.v (.int .i64 y.Book.Rack.Fresh)), (.v (.int .i64 y.Book.Rack.Day)), (.v (.int .i64 y.Book.Rack.Old)), (.v (.int .i64 y.Book.Baked)), (.v (.int .i64 y.Book.Sold)), (.v (.int .i64 y.Book.Thrown)), (.v (.int .i64 y.Money))])), [.dead, .dead, (.row true K.ki64 y.Stock.Grams), (.row true K.k_impl_Event y.Book.Events)]⟩ := by
 unfold impl_bakeryCopy_d at h; split at h
 · cases h; rfl
 · cases h
theorem impl_bakeryCopy_e (k : Nat) (b : Bakery) : callF env (impl_bakeryCopy_O k) impl_bakeryCopy_v Tryz.f34 (k + 1) (impl_bakeryCopy_A b) (fun r => impl_bakeryCopy_d (r.fin 2 [])) = impl_bakeryCopy k b := by kernel_rfl
noncomputable def impl_bakeryCopy_x (k : Nat) : Ent1 := fun A R Q => match A with
 | ⟨[(.ag [(.sl 0), (.v (.int .i64 a2)), (.v (.int .i64 a3)), (.v (.int .i64 a4)), (.v (.int .i64 a5)), (.v (.int .i64 a6)), (.sl 1), (.v (.int .i64 a8)), (.v (.int .i64 a9)), (.v (.int .i64 a10)), (.v (.int .i64 a11)), (.v (.int .i64 a12)), (.v (.int .i64 a13)), (.v (.int .i64 a14))])], [(.row false K.ki64 a1), (.row false K.k_impl_Event a7)]⟩ => (impl_bakeryCopy k (⟨(⟨a1⟩ : Stock), (⟨a2, a3, a4⟩ : Dough), (⟨a5, a6⟩ : Loaf), (⟨a7, (⟨a8, a9, a10⟩ : Rack), a11, a12, a13⟩ : Book), a14⟩ : Bakery)).bind fun y => Q ⟨(.a (.ag [(.sl 2), (.v (.int .i64 y.Dough.Water)), (.v (.int .i64 y.Dough.Salt)), (.v (.int .i64 y.Dough.Leaven)), (.v (.int .i64 y.Loaf.Weight)), (.v (.int .i64 y.Loaf.Loss)), (.sl 3), (.v (.int .i64 y.Book.Rack.Fresh)), (.v (.int .i64 y.Book.Rack.Day)), (.v (.int .i64 y.Book.Rack.Old)), (.v (.int .i64 y.Book.Baked)), (.v (.int .i64 y.Book.Sold)), (.v (.int .i64 y.Book.Thrown)), (.v (.int .i64 y.Money))])), [.dead, .dead, (.row true K.ki64 y.Stock.Grams), (.row true K.k_impl_Event y.Book.Events)]⟩
 | _ => none
theorem impl_bakeryCopy_ok (k : Nat) : OkE Tryz.prog 34 (impl_bakeryCopy_x k) := by
 intro A R Q x h
 unfold impl_bakeryCopy_x at h
 split at h
 · obtain ⟨y, hy, hK⟩ := Option.bind_eq_some_iff.1 h
   obtain ⟨r, hr, hd⟩ := callF_ok envOk (impl_bakeryCopy_Ok k) follows Tryz.func34 (by kernel_rfl) ((impl_bakeryCopy_e k _).trans hy)
   exact ⟨_, impl_bakeryCopy_i hd ▸ hr.fin [], hK⟩
 · cases h
/-! ### impl.allIn$1: function 130 -/
noncomputable def impl_allIn_1 (k : Nat)  (n : Int) (p1 : Int) (p2 : Int) : Option (Bool) :=
 (impl_in k n p1 p2).bind fun y1 =>
 some (!y1)
noncomputable def impl_allIn_1_v : Nat → List Nat := fun t => match t with | _ => []
noncomputable def impl_allIn_1_O (k : Nat) : Oracle := ofL [(68, impl_in_x k)]
theorem impl_allIn_1_Ok (k : Nat) : OkO (Ct Tryz.prog) (impl_allIn_1_O k) := okO_cons (impl_in_ok k) (okO_nil)
noncomputable def impl_allIn_1_A (n : Int) (p1 : Int) (p2 : Int) : Pk := ⟨[(.sc (.v (.int .i64 n))), (.sc (.bp 0 0)), (.sc (.bp 1 0))], [(.box false [(.v (.int .i64 p1))]), (.box false [(.v (.int .i64 p2))])]⟩
noncomputable def impl_allIn_1_d : Rs → Option (Bool)
 | ⟨(.a (.sc (.v (.bool r1)))), [.dead, .dead]⟩ => some r1
 | _ => none
theorem impl_allIn_1_i {r : Rs} {y : Bool} (h : impl_allIn_1_d r = some y) : r = ⟨(.a (.sc (.v (.bool y)))), [.dead, .dead]⟩ := by
 unfold impl_allIn_1_d at h; split at h
 · cases h; rfl
 · cases h
theorem impl_allIn_1_e (k : Nat) (n : Int) (p1 : Int) (p2 : Int) : callF env (impl_allIn_1_O k) impl_allIn_1_v Tryz.f130 (k + 1) (impl_allIn_1_A n p1 p2) (fun r => impl_allIn_1_d (r.fin 2 [])) = impl_allIn_1 k n p1 p2 := by kernel_rfl
noncomputable def impl_allIn_1_x (k : Nat) : Ent1 := fun A R Q => match A with
 | ⟨[(.sc (.v (.int .i64 a1))), (.sc (.bp 0 0)), (.sc (.bp 1 0))], [(.box false [(.v (.int .i64 a2))]), (.box false [(.v (.int .i64 a3))])]⟩ => (impl_allIn_1 k a1 a2 a3).bind fun y => Q ⟨(.a (.sc (.v (.bool y)))), [.dead, .dead]⟩
 | _ => none
theorem impl_allIn_1_ok (k : Nat) : OkE Tryz.prog 130 (impl_allIn_1_x k) := by
 intro A R Q x h
 unfold impl_allIn_1_x at h
 split at h
 · obtain ⟨y, hy, hK⟩ := Option.bind_eq_some_iff.1 h
   obtain ⟨r, hr, hd⟩ := callF_ok envOk (impl_allIn_1_Ok k) follows Tryz.func130 (by kernel_rfl) ((impl_allIn_1_e k _ _ _).trans hy)
   exact ⟨_, impl_allIn_1_i hd ▸ hr.fin [], hK⟩
 · cases h
/-! ### slices.IndexFunc[[]int,int]: function 157 -/
noncomputable def slices_IndexFunc_int_int_130_s0 (k : Nat)  (s : (List Int)) (f_0 : Int) (f_1 : Int) (J : Int → Option (Int)) (x0_0 : Int) : Option (Int) :=
 cond (decide ((x0_0 : Int) < ((s).length : Int)))
 (if 0 ≤ (x0_0 : Int) ∧ (x0_0 : Int) < ((s).length : Int) then
  (impl_allIn_1 k (s.getD (Int.toNat x0_0) 0) f_0 f_1).bind fun y2 =>
   cond y2
    (some x0_0)
    (J (wr (x0_0 + 1))) else none)
 (some (-1))
noncomputable def slices_IndexFunc_int_int_130_l0 (k : Nat) : Nat → (List Int) → Int → Int → Int → Option (Int)
 | 0, s, f_0, f_1, x0_0 => slices_IndexFunc_int_int_130_s0 k s f_0 f_1 (fun _ => none) x0_0
 | m + 1, s, f_0, f_1, x0_0 => slices_IndexFunc_int_int_130_s0 k s f_0 f_1 (slices_IndexFunc_int_int_130_l0 k m s f_0 f_1) x0_0
noncomputable def slices_IndexFunc_int_int_130_m (k : Nat) (J0 : (List Int) → Int → Int → Int → Option (Int)) (s : (List Int)) (f_0 : Int) (f_1 : Int) : Option (Int) :=
 J0 s f_0 f_1 0
noncomputable def slices_IndexFunc_int_int_130 (k : Nat) (s : (List Int)) (f_0 : Int) (f_1 : Int) : Option (Int) := slices_IndexFunc_int_int_130_m k (slices_IndexFunc_int_int_130_l0 k k) s f_0 f_1
noncomputable def slices_IndexFunc_int_int_130_v : Nat → List Nat := fun t => match t with | 2 => [0, 1, 4, 7, 8] | _ => []
noncomputable def slices_IndexFunc_int_int_130_O (k : Nat) : Oracle := ofL [(130, impl_allIn_1_x k)]
theorem slices_IndexFunc_int_int_130_Ok (k : Nat) : OkO (Ct Tryz.prog) (slices_IndexFunc_int_int_130_O k) := okO_cons (impl_allIn_1_ok k) (okO_nil)
noncomputable def slices_IndexFunc_int_int_130_A (s : (List Int)) (f_0 : Int) (f_1 : Int) : Pk := ⟨[(.sc (.sl 0)), (.sc (.fn 130 [1, 2]))], [(.row false K.ki64 s), (.box false [(.v (.int .i64 f_0))]), (.box false [(.v (.int .i64 f_1))])]⟩
noncomputable def slices_IndexFunc_int_int_130_d : Rs → Option (Int)
 | ⟨(.a (.sc (.v (.int .i64 r1)))), [.dead, .dead, .dead]⟩ => some r1
 | _ => none
theorem slices_IndexFunc_int_int_130_i {r : Rs} {y : Int} (h : slices_IndexFunc_int_int_130_d r = some y) : r = ⟨(.a (.sc (.v (.int .i64 y)))), [.dead, .dead, .dead]⟩ := by
 unfold slices_IndexFunc_int_int_130_d at h; split at h
 · cases h; rfl
 · cases h
noncomputable def slices_IndexFunc_int_int_130_h0 (k m : Nat) (s : (List Int)) (f_0 : Int) (f_1 : Int) (x0_0 : Int) : Option (Int) := hdAt env (slices_IndexFunc_int_int_130_O k) slices_IndexFunc_int_int_130_v Tryz.f157 3 (fun r => slices_IndexFunc_int_int_130_d (r.fin 3 [])) [1, 0, 1, 0] k m ⟨tmF [0, 1, 4, 7, 8] [(.a (.sc (.sl 0))), (.a (.sc (.fn 130 [1, 2]))), (.a (.sc (.v (.int .i64 0)))), (.a (.sc (.v (.int .i64 ((s).length : Int))))), (.a (.sc (.v (.int .i64 x0_0))))], blF [(.row false K.ki64 s), (.box false [(.v (.int .i64 f_0))]), (.box false [(.v (.int .i64 f_1))])]⟩
theorem slices_IndexFunc_int_int_130_z0 (k : Nat) (s : (List Int)) (f_0 : Int) (f_1 : Int) (x0_0 : Int) : slices_IndexFunc_int_int_130_h0 k 0 s f_0 f_1 x0_0 = slices_IndexFunc_int_int_130_s0 k s f_0 f_1 (fun _ => none) x0_0 := by kernel_rfl
theorem slices_IndexFunc_int_int_130_g0 (k : Nat) (H : St → Option (Int)) (s : (List Int)) (f_0 : Int) (f_1 : Int) (x0_0 : Int) : rnd env (slices_IndexFunc_int_int_130_O k) slices_IndexFunc_int_int_130_v Tryz.f157 3 (fun r => slices_IndexFunc_int_int_130_d (r.fin 3 [])) [1, 0, 1, 0] k H ⟨tmF [0, 1, 4, 7, 8] [(.a (.sc (.sl 0))), (.a (.sc (.fn 130 [1, 2]))), (.a (.sc (.v (.int .i64 0)))), (.a (.sc (.v (.int .i64 ((s).length : Int))))), (.a (.sc (.v (.int .i64 x0_0))))], blF [(.row false K.ki64 s), (.box false [(.v (.int .i64 f_0))]), (.box false [(.v (.int .i64 f_1))])]⟩ = slices_IndexFunc_int_int_130_s0 k s f_0 f_1 (fun x0_0 => H ⟨tmF [0, 1, 4, 7, 8] [(.a (.sc (.sl 0))), (.a (.sc (.fn 130 [1, 2]))), (.a (.sc (.v (.int .i64 0)))), (.a (.sc (.v (.int .i64 ((s).length : Int))))), (.a (.sc (.v (.int .i64 x0_0))))], blF [(.row false K.ki64 s), (.box false [(.v (.int .i64 f_0))]), (.box false [(.v (.int .i64 f_1))])]⟩) x0_0 := by kernel_rfl
theorem slices_IndexFunc_int_int_130_n0 (k m : Nat) (s : (List Int)) (f_0 : Int) (f_1 : Int) (x0_0 : Int) : slices_IndexFunc_int_int_130_h0 k (m + 1) s f_0 f_1 x0_0 = slices_IndexFunc_int_int_130_s0 k s f_0 f_1 (slices_IndexFunc_int_int_130_h0 k m s f_0 f_1) x0_0 := (hdAt_succ _ _ _ _ _ _ _ _ _ _).trans (slices_IndexFunc_int_int_130_g0 k _ s f_0 f_1 x0_0)
theorem slices_IndexFunc_int_int_130_q0 (k : Nat) : ∀ m, slices_IndexFunc_int_int_130_h0 k m = slices_IndexFunc_int_int_130_l0 k m := by
 intro m
 induction m with
 | zero => funext s f_0 f_1 x0_0; rw [slices_IndexFunc_int_int_130_z0]; rfl
 | succ m ih => funext s f_0 f_1 x0_0; rw [slices_IndexFunc_int_int_130_n0, ih]; rfl
theorem slices_IndexFunc_int_int_130_e (k : Nat) (s : (List Int)) (f_0 : Int) (f_1 : Int) : callF env (slices_IndexFunc_int_int_130_O k) slices_IndexFunc_int_int_130_v Tryz.f157 (k + 1) (slices_IndexFunc_int_int_130_A s f_0 f_1) (fun r => slices_IndexFunc_int_int_130_d (r.fin 3 [])) = slices_IndexFunc_int_int_130 k s f_0 f_1 := by
 have e : ∀ H : St → Option (Int), callE env (slices_IndexFunc_int_int_130_O k) slices_IndexFunc_int_int_130_v Tryz.f157 (k + 1) (slices_IndexFunc_int_int_130_A s f_0 f_1) [1, 0, 1, 0] (fun r => slices_IndexFunc_int_int_130_d (r.fin 3 [])) H = slices_IndexFunc_int_int_130_m k (fun s f_0 f_1 x0_0 => H ⟨tmF [0, 1, 4, 7, 8] [(.a (.sc (.sl 0))), (.a (.sc (.fn 130 [1, 2]))), (.a (.sc (.v (.int .i64 0)))), (.a (.sc (.v (.int .i64 ((s).length : Int))))), (.a (.sc (.v (.int .i64 x0_0))))], blF [(.row false K.ki64 s), (.box false [(.v (.int .i64 f_0))]), (.box false [(.v (.int .i64 f_1))])]⟩) s f_0 f_1 := fun H => by kernel_rfl
 exact (callE_eq env (slices_IndexFunc_int_int_130_O k) slices_IndexFunc_int_int_130_v Tryz.f157 k (slices_IndexFunc_int_int_130_A s f_0 f_1) [1, 0, 1, 0] 3 (fun r => slices_IndexFunc_int_int_130_d (r.fin 3 [])) rfl (by kernel_rfl)).trans ((e (hdAt env (slices_IndexFunc_int_int_130_O k) slices_IndexFunc_int_int_130_v Tryz.f157 3 (fun r => slices_IndexFunc_int_int_130_d (r.fin 3 [])) [1, 0, 1, 0] k k)).trans (by
  show slices_IndexFunc_int_int_130_m k (slices_IndexFunc_int_int_130_h0 k k) s f_0 f_1 = _
  rw [slices_IndexFunc_int_int_130_q0]; rfl))
noncomputable def slices_IndexFunc_int_int_130_x (k : Nat) : Ent1 := fun A R Q => match A with
 | ⟨[(.sc (.sl 0)), (.sc (.fn 130 [1, 2]))], [(.row false K.ki64 a1), (.box false [(.v (.int .i64 a2))]), (.box false [(.v (.int .i64 a3))])]⟩ => (slices_IndexFunc_int_int_130 k a1 a2 a3).bind fun y => Q ⟨(.a (.sc (.v (.int .i64 y)))), [.dead, .dead, .dead]⟩
 | _ => none
theorem slices_IndexFunc_int_int_130_ok (k : Nat) : OkE Tryz.prog 157 (slices_IndexFunc_int_int_130_x k) := by
 intro A R Q x h
 unfold slices_IndexFunc_int_int_130_x at h
 split at h
 · obtain ⟨y, hy, hK⟩ := Option.bind_eq_some_iff.1 h
   obtain ⟨r, hr, hd⟩ := callF_ok envOk (slices_IndexFunc_int_int_130_Ok k) follows Tryz.func157 (by kernel_rfl) ((slices_IndexFunc_int_int_130_e k _ _ _).trans hy)
   exact ⟨_, slices_IndexFunc_int_int_130_i hd ▸ hr.fin [], hK⟩
 · cases h
/-! ### slices.ContainsFunc[[]int,int]: function 129 -/
noncomputable def slices_ContainsFunc_int_int_130 (k : Nat)  (s : (List Int)) (f_0 : Int) (f_1 : Int) : Option (Bool) :=
 (slices_IndexFunc_int_int_130 k s f_0 f_1).bind fun y1 =>
 some (decide ((0 : Int) ≤ y1))
noncomputable def slices_ContainsFunc_int_int_130_v : Nat → List Nat := fun t => match t with | _ => []
noncomputable def slices_ContainsFunc_int_int_130_O (k : Nat) : Oracle := ofL [(157, slices_IndexFunc_int_int_130_x k)]
theorem slices_ContainsFunc_int_int_130_Ok (k : Nat) : OkO (Ct Tryz.prog) (slices_ContainsFunc_int_int_130_O k) := okO_cons (slices_IndexFunc_int_int_130_ok k) (okO_nil)
noncomputable def slices_ContainsFunc_int_int_130_A (s : (List Int)) (f_0 : Int) (f_1 : Int) : Pk := ⟨[(.sc (.sl 0)), (.sc (.fn 130 [1, 2]))], [(.row false K.ki64 s), (.box false [(.v (.int .i64 f_0))]), (.box false [(.v (.int .i64 f_1))])]⟩
noncomputable def slices_ContainsFunc_int_int_130_d : Rs → Option (Bool)
 | ⟨(.a (.sc (.v (.bool r1)))), [.dead, .dead, .dead]⟩ => some r1
 | _ => none
theorem slices_ContainsFunc_int_int_130_i {r : Rs} {y : Bool} (h : slices_ContainsFunc_int_int_130_d r = some y) : r = ⟨(.a (.sc (.v (.bool y)))), [.dead, .dead, .dead]⟩ := by
 unfold slices_ContainsFunc_int_int_130_d at h; split at h
 · cases h; rfl
 · cases h
theorem slices_ContainsFunc_int_int_130_e (k : Nat) (s : (List Int)) (f_0 : Int) (f_1 : Int) : callF env (slices_ContainsFunc_int_int_130_O k) slices_ContainsFunc_int_int_130_v Tryz.f129 (k + 1) (slices_ContainsFunc_int_int_130_A s f_0 f_1) (fun r => slices_ContainsFunc_int_int_130_d (r.fin 3 [])) = slices_ContainsFunc_int_int_130 k s f_0 f_1 := by kernel_rfl
noncomputable def slices_ContainsFunc_int_int_130_x (k : Nat) : Ent1 := fun A R Q => match A with
 | ⟨[(.sc (.sl 0)), (.sc (.fn 130 [1, 2]))], [(.row false K.ki64 a1), (.box false [(.v (.int .i64 a2))]), (.box false [(.v (.int .i64 a3))])]⟩ => (slices_ContainsFunc_int_int_130 k a1 a2 a3).bind fun y => Q ⟨(.a (.sc (.v (.bool y)))), [.dead, .dead, .dead]⟩
 | _ => none
theorem slices_ContainsFunc_int_int_130_ok (k : Nat) : OkE Tryz.prog 129 (slices_ContainsFunc_int_int_130_x k) := by
 intro A R Q x h
 unfold slices_ContainsFunc_int_int_130_x at h
 split at h
 · obtain ⟨y, hy, hK⟩ := Option.bind_eq_some_iff.1 h
   obtain ⟨r, hr, hd⟩ := callF_ok envOk (slices_ContainsFunc_int_int_130_Ok k) follows Tryz.func129 (by kernel_rfl) ((slices_ContainsFunc_int_int_130_e k _ _ _).trans hy)
   exact ⟨_, slices_ContainsFunc_int_int_130_i hd ▸ hr.fin [], hK⟩
 · cases h
/-! ### impl.allIn: function 100 -/
noncomputable def impl_allIn (k : Nat)  (list : (List Int)) (low : Int) (high : Int) : Option (Bool) :=
 (slices_ContainsFunc_int_int_130 k list low high).bind fun y1 =>
 some (!y1)
noncomputable def impl_allIn_v : Nat → List Nat := fun t => match t with | _ => []
noncomputable def impl_allIn_O (k : Nat) : Oracle := ofL [(129, slices_ContainsFunc_int_int_130_x k)]
theorem impl_allIn_Ok (k : Nat) : OkO (Ct Tryz.prog) (impl_allIn_O k) := okO_cons (slices_ContainsFunc_int_int_130_ok k) (okO_nil)
noncomputable def impl_allIn_A (list : (List Int)) (low : Int) (high : Int) : Pk := ⟨[(.sc (.sl 0)), (.sc (.v (.int .i64 low))), (.sc (.v (.int .i64 high)))], [(.row false K.ki64 list)]⟩
noncomputable def impl_allIn_d : Rs → Option (Bool)
 | ⟨(.a (.sc (.v (.bool r1)))), [.dead]⟩ => some r1
 | _ => none
theorem impl_allIn_i {r : Rs} {y : Bool} (h : impl_allIn_d r = some y) : r = ⟨(.a (.sc (.v (.bool y)))), [.dead]⟩ := by
 unfold impl_allIn_d at h; split at h
 · cases h; rfl
 · cases h
theorem impl_allIn_e (k : Nat) (list : (List Int)) (low : Int) (high : Int) : callF env (impl_allIn_O k) impl_allIn_v Tryz.f100 (k + 1) (impl_allIn_A list low high) (fun r => impl_allIn_d (r.fin 1 [])) = impl_allIn k list low high := by kernel_rfl
noncomputable def impl_allIn_x (k : Nat) : Ent1 := fun A R Q => match A with
 | ⟨[(.sc (.sl 0)), (.sc (.v (.int .i64 a2))), (.sc (.v (.int .i64 a3)))], [(.row false K.ki64 a1)]⟩ => (impl_allIn k a1 a2 a3).bind fun y => Q ⟨(.a (.sc (.v (.bool y)))), [.dead]⟩
 | _ => none
theorem impl_allIn_ok (k : Nat) : OkE Tryz.prog 100 (impl_allIn_x k) := by
 intro A R Q x h
 unfold impl_allIn_x at h
 split at h
 · obtain ⟨y, hy, hK⟩ := Option.bind_eq_some_iff.1 h
   obtain ⟨r, hr, hd⟩ := callF_ok envOk (impl_allIn_Ok k) follows Tryz.func100 (by kernel_rfl) ((impl_allIn_e k _ _ _).trans hy)
   exact ⟨_, impl_allIn_i hd ▸ hr.fin [], hK⟩
 · cases h
/-! ### impl.StoreOk: function 64 -/
noncomputable def impl_StoreOk (k : Nat)  (s : Stock) : Option (Bool) :=
 cond (decide ((((s.Grams).length : Int) : Int) = 4))
 ((impl_allIn k s.Grams 0 1000000).bind fun y1 =>
  some y1)
 (some false)
noncomputable def impl_StoreOk_v : Nat → List Nat := fun t => match t with | _ => []
noncomputable def impl_StoreOk_O (k : Nat) : Oracle := ofL [(100, impl_allIn_x k)]
theorem impl_StoreOk_Ok (k : Nat) : OkO (Ct Tryz.prog) (impl_StoreOk_O k) := okO_cons (impl_allIn_ok k) (okO_nil)
noncomputable def impl_StoreOk_A (s : Stock) : Pk := ⟨[(.ag [(.sl 0)])], [(.row false K.ki64 s.Grams)]⟩
noncomputable def impl_StoreOk_d : Rs → Option (Bool)
 | ⟨(.a (.sc (.v (.bool r1)))), [.dead]⟩ => some r1
 | _ => none
theorem impl_StoreOk_i {r : Rs} {y : Bool} (h : impl_StoreOk_d r = some y) : r = ⟨(.a (.sc (.v (.bool y)))), [.dead]⟩ := by
 unfold impl_StoreOk_d at h; split at h
 · cases h; rfl
 · cases h
theorem impl_StoreOk_e (k : Nat) (s : Stock) : callF env (impl_StoreOk_O k) impl_StoreOk_v Tryz.f64 (k + 1) (impl_StoreOk_A s) (fun r => impl_StoreOk_d (r.fin 1 [])) = impl_StoreOk k s := by kernel_rfl
noncomputable def impl_StoreOk_x (k : Nat) : Ent1 := fun A R Q => match A with
 | ⟨[(.ag [(.sl 0)])], [(.row false K.ki64 a1)]⟩ => (impl_StoreOk k (⟨a1⟩ : Stock)).bind fun y => Q ⟨(.a (.sc (.v (.bool y)))), [.dead]⟩
 | _ => none
theorem impl_StoreOk_ok (k : Nat) : OkE Tryz.prog 64 (impl_StoreOk_x k) := by
 intro A R Q x h
 unfold impl_StoreOk_x at h
 split at h
 · obtain ⟨y, hy, hK⟩ := Option.bind_eq_some_iff.1 h
   obtain ⟨r, hr, hd⟩ := callF_ok envOk (impl_StoreOk_Ok k) follows Tryz.func64 (by kernel_rfl) ((impl_StoreOk_e k _).trans hy)
   exact ⟨_, impl_StoreOk_i hd ▸ hr.fin [], hK⟩
 · cases h
/-! ### impl.DoughOk: function 65 -/
noncomputable def impl_DoughOk (k : Nat)  (d : Dough) : Option (Bool) :=
 (impl_in k d.Water 300 1200).bind fun y1 =>
 cond y1
  ((impl_in k d.Salt 0 50).bind fun y2 =>
   cond y2
    ((impl_in k d.Leaven 0 500).bind fun y3 =>
     some y3)
    (some false))
  (some false)
noncomputable def impl_DoughOk_v : Nat → List Nat := fun t => match t with | _ => []
noncomputable def impl_DoughOk_O (k : Nat) : Oracle := ofL [(68, impl_in_x k)]
theorem impl_DoughOk_Ok (k : Nat) : OkO (Ct Tryz.prog) (impl_DoughOk_O k) := okO_cons (impl_in_ok k) (okO_nil)
noncomputable def impl_DoughOk_A (d : Dough) : Pk := ⟨[(.ag [(.v (.int .i64 d.Water)), (.v (.int .i64 d.Salt)), (.v (.int .i64 d.Leaven))])], []⟩
noncomputable def impl_DoughOk_d : Rs → Option (Bool)
 | ⟨(.a (.sc (.v (.bool r1)))), []⟩ => some r1
 | _ => none
theorem impl_DoughOk_i {r : Rs} {y : Bool} (h : impl_DoughOk_d r = some y) : r = ⟨(.a (.sc (.v (.bool y)))), []⟩ := by
 unfold impl_DoughOk_d at h; split at h
 · cases h; rfl
 · cases h
theorem impl_DoughOk_e (k : Nat) (d : Dough) : callF env (impl_DoughOk_O k) impl_DoughOk_v Tryz.f65 (k + 1) (impl_DoughOk_A d) (fun r => impl_DoughOk_d (r.fin 0 [])) = impl_DoughOk k d := by kernel_rfl
noncomputable def impl_DoughOk_x (k : Nat) : Ent1 := fun A R Q => match A with
 | ⟨[(.ag [(.v (.int .i64 a1)), (.v (.int .i64 a2)), (.v (.int .i64 a3))])], []⟩ => (impl_DoughOk k (⟨a1, a2, a3⟩ : Dough)).bind fun y => Q ⟨(.a (.sc (.v (.bool y)))), []⟩
 | _ => none
theorem impl_DoughOk_ok (k : Nat) : OkE Tryz.prog 65 (impl_DoughOk_x k) := by
 intro A R Q x h
 unfold impl_DoughOk_x at h
 split at h
 · obtain ⟨y, hy, hK⟩ := Option.bind_eq_some_iff.1 h
   obtain ⟨r, hr, hd⟩ := callF_ok envOk (impl_DoughOk_Ok k) follows Tryz.func65 (by kernel_rfl) ((impl_DoughOk_e k _).trans hy)
   exact ⟨_, impl_DoughOk_i hd ▸ hr.fin [], hK⟩
 · cases h
/-! ### impl.LoafOk: function 66 -/
noncomputable def impl_LoafOk (k : Nat)  (l : Loaf) : Option (Bool) :=
 (impl_in k l.Weight 10 5000).bind fun y1 =>
 cond y1
  ((impl_in k l.Loss 0 40).bind fun y2 =>
   some y2)
  (some false)
noncomputable def impl_LoafOk_v : Nat → List Nat := fun t => match t with | _ => []
noncomputable def impl_LoafOk_O (k : Nat) : Oracle := ofL [(68, impl_in_x k)]
theorem impl_LoafOk_Ok (k : Nat) : OkO (Ct Tryz.prog) (impl_LoafOk_O k) := okO_cons (impl_in_ok k) (okO_nil)
noncomputable def impl_LoafOk_A (l : Loaf) : Pk := ⟨[(.ag [(.v (.int .i64 l.Weight)), (.v (.int .i64 l.Loss))])], []⟩
noncomputable def impl_LoafOk_d : Rs → Option (Bool)
 | ⟨(.a (.sc (.v (.bool r1)))), []⟩ => some r1
 | _ => none
theorem impl_LoafOk_i {r : Rs} {y : Bool} (h : impl_LoafOk_d r = some y) : r = ⟨(.a (.sc (.v (.bool y)))), []⟩ := by
 unfold impl_LoafOk_d at h; split at h
 · cases h; rfl
 · cases h
theorem impl_LoafOk_e (k : Nat) (l : Loaf) : callF env (impl_LoafOk_O k) impl_LoafOk_v Tryz.f66 (k + 1) (impl_LoafOk_A l) (fun r => impl_LoafOk_d (r.fin 0 [])) = impl_LoafOk k l := by kernel_rfl
noncomputable def impl_LoafOk_x (k : Nat) : Ent1 := fun A R Q => match A with
 | ⟨[(.ag [(.v (.int .i64 a1)), (.v (.int .i64 a2))])], []⟩ => (impl_LoafOk k (⟨a1, a2⟩ : Loaf)).bind fun y => Q ⟨(.a (.sc (.v (.bool y)))), []⟩
 | _ => none
theorem impl_LoafOk_ok (k : Nat) : OkE Tryz.prog 66 (impl_LoafOk_x k) := by
 intro A R Q x h
 unfold impl_LoafOk_x at h
 split at h
 · obtain ⟨y, hy, hK⟩ := Option.bind_eq_some_iff.1 h
   obtain ⟨r, hr, hd⟩ := callF_ok envOk (impl_LoafOk_Ok k) follows Tryz.func66 (by kernel_rfl) ((impl_LoafOk_e k _).trans hy)
   exact ⟨_, impl_LoafOk_i hd ▸ hr.fin [], hK⟩
 · cases h
/-! ### impl.RackOk: function 158 -/
noncomputable def impl_RackOk (k : Nat)  (r : Rack) : Option (Bool) :=
 (impl_allIn k ([r.Fresh, r.Day, r.Old]) 0 10000).bind fun y1 =>
 some y1
noncomputable def impl_RackOk_v : Nat → List Nat := fun t => match t with | _ => []
noncomputable def impl_RackOk_O (k : Nat) : Oracle := ofL [(100, impl_allIn_x k)]
theorem impl_RackOk_Ok (k : Nat) : OkO (Ct Tryz.prog) (impl_RackOk_O k) := okO_cons (impl_allIn_ok k) (okO_nil)
noncomputable def impl_RackOk_A (r : Rack) : Pk := ⟨[(.ag [(.v (.int .i64 r.Fresh)), (.v (.int .i64 r.Day)), (.v (.int .i64 r.Old))])], []⟩
noncomputable def impl_RackOk_d : Rs → Option (Bool)
 | ⟨(.a (.sc (.v (.bool r1)))), []⟩ => some r1
 | _ => none
theorem impl_RackOk_i {r : Rs} {y : Bool} (h : impl_RackOk_d r = some y) : r = ⟨(.a (.sc (.v (.bool y)))), []⟩ := by
 unfold impl_RackOk_d at h; split at h
 · cases h; rfl
 · cases h
theorem impl_RackOk_e (k : Nat) (r : Rack) : callF env (impl_RackOk_O k) impl_RackOk_v Tryz.f158 (k + 1) (impl_RackOk_A r) (fun r => impl_RackOk_d (r.fin 0 [])) = impl_RackOk k r := by kernel_rfl
noncomputable def impl_RackOk_x (k : Nat) : Ent1 := fun A R Q => match A with
 | ⟨[(.ag [(.v (.int .i64 a1)), (.v (.int .i64 a2)), (.v (.int .i64 a3))])], []⟩ => (impl_RackOk k (⟨a1, a2, a3⟩ : Rack)).bind fun y => Q ⟨(.a (.sc (.v (.bool y)))), []⟩
 | _ => none
theorem impl_RackOk_ok (k : Nat) : OkE Tryz.prog 158 (impl_RackOk_x k) := by
 intro A R Q x h
 unfold impl_RackOk_x at h
 split at h
 · obtain ⟨y, hy, hK⟩ := Option.bind_eq_some_iff.1 h
   obtain ⟨r, hr, hd⟩ := callF_ok envOk (impl_RackOk_Ok k) follows Tryz.func158 (by kernel_rfl) ((impl_RackOk_e k _).trans hy)
   exact ⟨_, impl_RackOk_i hd ▸ hr.fin [], hK⟩
 · cases h
/-! ### impl.taken: function 179 -/
noncomputable def impl_taken (k : Nat)  (first : Int) (second : Int) (n : Int) : Option (Int × Int × Int) :=
 some ((wr (first - (mn first n))), (wr (second - (mn second (wr (n - (mn first n)))))), (wr ((mn first n) + (mn second (wr (n - (mn first n)))))))
noncomputable def impl_taken_v : Nat → List Nat := fun t => match t with | _ => []
noncomputable def impl_taken_O (k : Nat) : Oracle := ofL []
theorem impl_taken_Ok (k : Nat) : OkO (Ct Tryz.prog) (impl_taken_O k) := okO_nil
noncomputable def impl_taken_A (first : Int) (second : Int) (n : Int) : Pk := ⟨[(.sc (.v (.int .i64 first))), (.sc (.v (.int .i64 second))), (.sc (.v (.int .i64 n)))], []⟩
noncomputable def impl_taken_d : Rs → Option (Int × Int × Int)
 | ⟨(.tp [(.sc (.v (.int .i64 r1))), (.sc (.v (.int .i64 r2))), (.sc (.v (.int .i64 r3)))]), []⟩ => some (r1, r2, r3)
 | _ => none
theorem impl_taken_i {r : Rs} {y : Int × Int × Int} (h : impl_taken_d r = some y) : r = ⟨(.tp [(.sc (.v (.int .i64 y.1))), (.sc (.v (.int .i64 y.2.1))), (.sc (.v (.int .i64 y.2.2)))]), []⟩ := by
 unfold impl_taken_d at h; split at h
 · cases h; rfl
 · cases h
theorem impl_taken_e (k : Nat) (first : Int) (second : Int) (n : Int) : callF env (impl_taken_O k) impl_taken_v Tryz.f179 (k + 1) (impl_taken_A first second n) (fun r => impl_taken_d (r.fin 0 [])) = impl_taken k first second n := by kernel_rfl
noncomputable def impl_taken_x (k : Nat) : Ent1 := fun A R Q => match A with
 | ⟨[(.sc (.v (.int .i64 a1))), (.sc (.v (.int .i64 a2))), (.sc (.v (.int .i64 a3)))], []⟩ => (impl_taken k a1 a2 a3).bind fun y => Q ⟨(.tp [(.sc (.v (.int .i64 y.1))), (.sc (.v (.int .i64 y.2.1))), (.sc (.v (.int .i64 y.2.2)))]), []⟩
 | _ => none
theorem impl_taken_ok (k : Nat) : OkE Tryz.prog 179 (impl_taken_x k) := by
 intro A R Q x h
 unfold impl_taken_x at h
 split at h
 · obtain ⟨y, hy, hK⟩ := Option.bind_eq_some_iff.1 h
   obtain ⟨r, hr, hd⟩ := callF_ok envOk (impl_taken_Ok k) follows Tryz.func179 (by kernel_rfl) ((impl_taken_e k _ _ _).trans hy)
   exact ⟨_, impl_taken_i hd ▸ hr.fin [], hK⟩
 · cases h
end Go.Proofs.YtlenacakmmikiaaGreatDoorX
