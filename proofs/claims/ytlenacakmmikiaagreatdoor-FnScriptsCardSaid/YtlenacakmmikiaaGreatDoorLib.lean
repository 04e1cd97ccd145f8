/- What functions of the library compute, out of the shelf's contracts. (The file is written by wip/x/vxp.py of this repository.) -/
import Derived.Test.YtlenacakmmikiaaGreatDoorX18
import Derived.Test.YtlenacakmmikiaaGreatDoorZ
import Derived.WalkKit
import Derived.BigCall
import Derived.Lib.AtoiErrMem
import Derived.Test.YtlenacakmmikiaaGreatDoorShelf
namespace Go.Proofs.YtlenacakmmikiaaGreatDoorX
open Go Go.Proofs Go.RowKit
set_option linter.unusedVariables false
set_option maxRecDepth 100000
theorem cell_at {w : World} {g : Nat} {cs : Array Value} {e : TypeId} {f : Nat × Nat} (h : w.heap[g]? = some (.cells cs e f)) : w.cell? ⟨g, 0, none⟩ = cs[0]? := by simp [World.cell?, h]
theorem below_grow (w : World) (q : Nat) (os : Array Obj) : Below w.heap.size w (Go.Sort.grow (w.drewN q) os) := by
  refine ⟨rfl, rfl, rfl, ?_, fun k hk => ?_⟩
  · simp [Go.Sort.grow]
  · simp [Go.Sort.grow, Array.getElem?_append_left hk]
theorem below_drew (w : World) (q : Nat) : Below w.heap.size w (w.drewN q) := by
  exact ⟨by first | rfl | simp, by first | rfl | simp, by first | rfl | simp, by first | rfl | simp, fun k hk => by first | rfl | simp⟩
theorem tab_is {ow : Nat → Option Nat} {w : World} (h : TB ow w) : Lib.TabIs Tryz.prog w "internal/strconv.uint64pow10" .u64 Lib.pow10Tab := by
  obtain ⟨_, cs, e, f, h1, h2⟩ := h _ ((List.Mem.head _) : (1, _) ∈ tabs)
  have h3 : cs = (Lib.pow10Tab.map fun z => Value.int .u64 z).toArray := h2
  have hg : Tryz.prog.globalNamed "internal/strconv.uint64pow10" = some 1 := by kernel_rfl
  unfold Lib.TabIs World.var?
  rw [hg, Option.bind_some]
  simp only [h1, h3]
theorem tab_lt {ow : Nat → Option Nat} {w : World} (h : TB ow w) : 1 < w.heap.size := by
  obtain ⟨_, cs, e, f, h1, h2⟩ := h _ ((List.Mem.head _) : (1, _) ∈ tabs)
  exact (Array.getElem?_eq_some_iff.1 h1).1
theorem tab_below {w w' : World} (h : Below w.heap.size w w') (hlt : 1 < w.heap.size) (htab : Lib.TabIs Tryz.prog w "internal/strconv.uint64pow10" .u64 Lib.pow10Tab) : Lib.TabIs Tryz.prog w' "internal/strconv.uint64pow10" .u64 Lib.pow10Tab := by
  have hg : Tryz.prog.globalNamed "internal/strconv.uint64pow10" = some 1 := by kernel_rfl
  unfold Lib.TabIs World.var? at *
  rw [hg, Option.bind_some] at *
  rw [h.block 1 hlt]; exact htab
theorem syn_is {ow : Nat → Option Nat} {w : World} (h : TB ow w) : ∃ ev, w.cell? ⟨4, 0, none⟩ = some ev ∧ (ev = .nilIface ∨ ∃ te pe, ev = .iface te pe) := by
  obtain ⟨_, cs, e, f, h1, h2⟩ := h _ ((List.Mem.tail _ (List.Mem.head _)) : (4, _) ∈ tabs)
  rw [cell_at h1]; exact h2
theorem rng_is {ow : Nat → Option Nat} {w : World} (h : TB ow w) : ∃ ev, w.cell? ⟨5, 0, none⟩ = some ev ∧ (ev = .nilIface ∨ ∃ te pe, ev = .iface te pe) := by
  obtain ⟨_, cs, e, f, h1, h2⟩ := h _ ((List.Mem.tail _ (List.Mem.tail _ (List.Mem.head _))) : (5, _) ∈ tabs)
  rw [cell_at h1]; exact h2
theorem max_is {ow : Nat → Option Nat} {w : World} (h : TB ow w) : ∃ m, w.cell? ⟨0, 0, none⟩ = some (.int .i64 m) := by
  obtain ⟨_, cs, e, f, h1, h2⟩ := h _ ((List.Mem.tail _ (List.Mem.tail _ (List.Mem.tail _ (List.Mem.head _)))) : (0, _) ∈ tabs)
  rw [cell_at h1]; exact h2
theorem flat_str (xs : List ByteArray) : flat K.kstr xs = xs.map Value.string := by
  induction xs with
  | nil => rfl
  | cons a r ih => show Value.string a :: flat K.kstr r = _; rw [ih]; rfl
/-! ### strconv.Itoa: function 38 -/
noncomputable def strconv_Itoa (k : Nat) (n : Int) : Option (ByteArray) := if -9223372036854775808 ≤ n ∧ n ≤ 9223372036854775807 then some (⟨(Lib.itoa n).toArray⟩) else none
noncomputable def strconv_Itoa_x (k : Nat) : Ent1 := fun A R Q => match A with
 | ⟨[(.sc (.v (.int .i64 a1)))], []⟩ => (strconv_Itoa k a1).bind fun y => Q ⟨(.a (.sc (.v (.string y)))), []⟩
 | _ => none
theorem strconv_Itoa_ok (k : Nat) : OkE Tryz.prog 38 (strconv_Itoa_x k) := by
 intro A R Q x h
 unfold strconv_Itoa_x at h
 split at h
 · rename_i a1
   obtain ⟨y, hy, hK⟩ := Option.bind_eq_some_iff.1 h
   unfold strconv_Itoa at hy; split at hy
   · rename_i hn; cases hy
     refine ⟨_, ct_plain (u := (.string ((⟨(Lib.itoa a1).toArray⟩ : ByteArray)))) Tryz.func38 (by kernel_rfl) (by kernel_rfl) (vv_one _) (fun w ρ ow vs htb hB hF => ?_), hK⟩
     rw [one_v hF]
     exact (Tryz.strconv_Itoa a1 hn.1 hn.2 w (tab_is htb)).mono fun e w' ⟨he, q, os, hw⟩ => ⟨he, hw ▸ below_grow w q os⟩
   · cases hy
 · cases h
/-! ### strings.Join: function 75 -/
noncomputable def strings_Join (k : Nat) (elems : (List ByteArray)) (sep : ByteArray) : Option (ByteArray × List ByteArray) := if elems.length ≤ 140737488355328 ∧ (Lib.join (elems.map (·.data.toList)) sep.data.toList).length ≤ 140737488355328 then some ((⟨(Lib.join (elems.map (·.data.toList)) sep.data.toList).toArray⟩, elems)) else none
noncomputable def strings_Join_x (k : Nat) : Ent1 := fun A R Q => match A with
 | ⟨[(.sc (.sl 0)), (.sc (.v (.string a2)))], [(.row true K.kstr a1)]⟩ => (strings_Join k a1 a2).bind fun y => Q ⟨(.a (.sc (.v (.string y.1)))), [(.row true K.kstr y.2)]⟩
 | _ => none
theorem strings_Join_ok (k : Nat) : OkE Tryz.prog 75 (strings_Join_x k) := by
 intro A R Q x h
 unfold strings_Join_x at h
 split at h
 · rename_i a2 a1
   obtain ⟨y, hy, hK⟩ := Option.bind_eq_some_iff.1 h
   unfold strings_Join at hy; split at hy
   · rename_i hn; cases hy
     refine ⟨_, ct_plain (u := (.string (((⟨(Lib.join (a1.map (·.data.toList)) a2.data.toList).toArray⟩, a1) : ByteArray × List ByteArray).1))) Tryz.func75 (by kernel_rfl) (by kernel_rfl) (vv_one _) (fun w ρ ow vs htb hB hF => ?_), hK⟩
     rw [row_v hF]
     exact by
       have hb : BlkOk _ w ρ ow 0 (.row true K.kstr a1) := hB 0
       obtain ⟨A', cap, e1, hcap, hnil, hz⟩ := row_hdr hb
       rw [e1]
       rcases hb.1.2 with ⟨e, hl⟩ | ⟨g, cap', cur, e, _, hg, _⟩
       · have : a1 = [] := List.eq_nil_of_length_eq_zero hl
         subst this
         rw [e1] at e; cases e
         exact (Tryz.strings_Join_none none 0 a2 w).mono fun e w' ⟨he, hw⟩ => ⟨by rw [he]; rfl, hw ▸ Below.refl _ _⟩
       · rw [e1] at e; cases e
         refine Tryz.strings_Join g 0 cap a1 a2 w (fun j x hx => ?_) (Array.getElem?_eq_some_iff.1 hg).1 hn.1 hcap hn.2
         have hc := row_cell hb e1 j (.string x) (by rw [flat_str, List.getElem?_map, hx]; rfl)
         have he : (⟨g, 0, none⟩ : Addr).add j = ⟨g, 0 + j, none⟩ := by
           unfold Addr.add; split
           · rename_i hj; subst hj; rfl
           · rfl
         rw [← he]; exact hc
   · cases hy
 · cases h
/-! ### strings.Split: function 24 -/
noncomputable def strings_Split (k : Nat) (s : ByteArray) (p : ByteArray) : Option (List ByteArray) := if s.size < 4294967281 ∧ 1 ≤ p.size then some (Lib.splitB p 0 (Lib.countB s p) s) else none
noncomputable def strings_Split_x (k : Nat) : Ent1 := fun A R Q => match A with
 | ⟨[(.sc (.v (.string a1))), (.sc (.v (.string a2)))], []⟩ => (strings_Split k a1 a2).bind fun y => Q ⟨(.a (.sc (.sl 0))), [(.row true K.kstr y)]⟩
 | _ => none
theorem strings_Split_ok (k : Nat) : OkE Tryz.prog 24 (strings_Split_x k) := by
 intro A R Q x h
 unfold strings_Split_x at h
 split at h
 · rename_i a1 a2
   obtain ⟨y, hy, hK⟩ := Option.bind_eq_some_iff.1 h
   unfold strings_Split at hy; split at hy
   · rename_i hn; cases hy
     refine ⟨_, ct_row Tryz.func24 (by kernel_rfl) (by kernel_rfl) (fun w ρ ow vs htb hF => ?_), hK⟩
     rw [two_v hF]
     exact (max_is htb).elim fun m hm => (Tryz.strings_Split a1 a2 m w hn.1 hm hn.2).mono fun e w' ⟨he, hw⟩ => by
       have hl : (Lib.splitB a2 0 (Lib.countB a1 a2) a1).length = Lib.countB a1 a2 + 1 := Lib.splitB_all a2 hn.2 0 _ a1 rfl
       have hc := Lib.countB_le a2 hn.2 a1.size a1 (Nat.le_refl _)
       rw [← hl] at he
       refine ⟨_, he, rfl, ?_, ?_⟩
       · rw [hw, flat_str]; exact owns_alloc w K.kstr _ _ (by simp [sz]) (by rw [hl]; simp only [maxLen]; omega)
       · rw [hw]; exact below_alloc _ _
   · cases hy
 · cases h
/-! ### strings.FieldsFunc: function 50 -/
def isSp (x : Nat) : Bool := decide (x = 32)
theorem isSp_pays (w : World) : PredGrows Tryz.prog 51 #[] isSp w := by
  intro W x hx hb
  show Calls Tryz.prog 51 #[.int .i32 (x : Int)] W _
  by_cases h : (x : Int) = 32
  · have e : isSp x = true := by unfold isSp; exact decide_eq_true (by omega)
    rw [e]
    go_enter Tryz.func51, Tryz.ntmps51
    go_wp2
    go_ret
    exact ⟨by simp [h], Below.refl _ _⟩
  · have e : isSp x = false := by unfold isSp; exact decide_eq_false (by omega)
    rw [e]
    go_enter Tryz.func51, Tryz.ntmps51
    go_wp2
    go_ret
    exact ⟨by simp [h], Below.refl _ _⟩
noncomputable def strings_FieldsFunc (k : Nat) (s : ByteArray) : Option (List ByteArray) := if s.size ≤ 4294967296 then some (Lib.goFieldsP isSp s) else none
noncomputable def strings_FieldsFunc_x (k : Nat) : Ent1 := fun A R Q => match A with
 | ⟨[(.sc (.v (.string a1))), (.sc (.fn 51 []))], []⟩ => (strings_FieldsFunc k a1).bind fun y => Q ⟨(.a (.sc (.sl 0))), [(.row true K.kstr y)]⟩
 | _ => none
theorem strings_FieldsFunc_ok (k : Nat) : OkE Tryz.prog 50 (strings_FieldsFunc_x k) := by
 intro A R Q x h
 unfold strings_FieldsFunc_x at h
 split at h
 · rename_i a1
   obtain ⟨y, hy, hK⟩ := Option.bind_eq_some_iff.1 h
   unfold strings_FieldsFunc at hy; split at hy
   · rename_i hn; cases hy
     refine ⟨_, ct_row Tryz.func50 (by kernel_rfl) (by kernel_rfl) (fun w ρ ow vs htb hF => ?_), hK⟩
     rw [one_f hF]
     exact (Tryz.strings_FieldsFunc_grows 51 #[] (enters_of Tryz.func51 (by kernel_rfl) rfl) isSp a1 w hn (isSp_pays w)).mono fun e w' ⟨A', he, _, ho, hb⟩ => ⟨_, he, rfl, by rw [flat_str]; exact ho, hb⟩
   · cases hy
 · cases h
/-! ### slices.Index[[]string,string]: function 52 -/
noncomputable def slices_Index_string_string (k : Nat) (ss : (List ByteArray)) (x : ByteArray) : Option (Int × List ByteArray) := if ss.length ≤ 9223372036854775807 then some ((Lib.idxOfS ss x, ss)) else none
noncomputable def slices_Index_string_string_x (k : Nat) : Ent1 := fun A R Q => match A with
 | ⟨[(.sc (.sl 0)), (.sc (.v (.string a2)))], [(.row true K.kstr a1)]⟩ => (slices_Index_string_string k a1 a2).bind fun y => Q ⟨(.a (.sc (.v (.int .i64 y.1)))), [(.row true K.kstr y.2)]⟩
 | _ => none
theorem slices_Index_string_string_ok (k : Nat) : OkE Tryz.prog 52 (slices_Index_string_string_x k) := by
 intro A R Q x h
 unfold slices_Index_string_string_x at h
 split at h
 · rename_i a2 a1
   obtain ⟨y, hy, hK⟩ := Option.bind_eq_some_iff.1 h
   unfold slices_Index_string_string at hy; split at hy
   · rename_i hn; cases hy
     refine ⟨_, ct_plain (u := (.int .i64 (((Lib.idxOfS a1 a2, a1) : Int × List ByteArray).1))) Tryz.func52 (by kernel_rfl) (by kernel_rfl) (vv_one _) (fun w ρ ow vs htb hB hF => ?_), hK⟩
     rw [row_v hF]
     exact by
       have hb : BlkOk _ w ρ ow 0 (.row true K.kstr a1) := hB 0
       obtain ⟨A', cap, e1, hcap, hnil, hz⟩ := row_hdr hb
       rw [e1]
       rcases hb.1.2 with ⟨e, hl⟩ | ⟨g, cap', cur, e, _, hg, _⟩
       · have : a1 = [] := List.eq_nil_of_length_eq_zero hl
         subst this
         exact (Tryz.slices_Index_string_empty _ _ a2 w).mono fun e w' ⟨he, hw⟩ => ⟨by rw [he], hw ▸ Below.refl _ _⟩
       · rw [e1] at e; cases e
         have h := Tryz.slices_Index_string g 0 a1.length cap a1 a2 w (Nat.le_refl _) hn (fun j hj => ?_)
         · rw [List.take_length] at h
           exact h.mono fun e w' ⟨he, hw⟩ => ⟨he, hw ▸ Below.refl _ _⟩
         · have hc := row_cell hb e1 j (.string (a1.getD j ByteArray.empty)) (by rw [flat_str, List.getElem?_map, List.getElem?_eq_getElem hj]; simp [List.getD, List.getElem?_eq_getElem hj])
           have he : (⟨g, 0, none⟩ : Addr).add j = ⟨g, 0 + j, none⟩ := by
             unfold Addr.add; split
             · rename_i hj; subst hj; rfl
             · rfl
           rw [← he]; exact hc
   · cases hy
 · cases h
/-! ### loop.example/g03310/impl.ParseUint: function 55 -/
theorem atoiAll_range {l : List UInt8} {v : Int} (h : Lib.atoiAll l = .ok v) : -9223372036854775808 ≤ v ∧ v ≤ 9223372036854775807 := by
  unfold Lib.atoiAll at h
  split at h
  · cases h
  · simp only at h
    split at h
    · cases h
    · cases h
    · rename_i u hu
      split at h
      · cases h
      · split at h
        · cases h
        · cases h
          split <;> omega
noncomputable def pu (s : ByteArray) : Int × Bool := match Lib.atoiAll s.data.toList with
  | .ok v => if (⟨(Lib.itoa v).toArray⟩ : ByteArray) = s ∧ 0 ≤ v ∧ v ≤ 1000000000 then (v, true) else (0, false)
  | _ => (0, false)
theorem formatInt_calls (n : Int) (h0 : -9223372036854775808 ≤ n) (h1 : n ≤ 9223372036854775807) (w : World) (htab : Lib.TabIs Tryz.prog w "internal/strconv.uint64pow10" .u64 Lib.pow10Tab) :
    Calls Tryz.prog 15 #[.int .i64 n] w fun e w' => e = .returned (.string ⟨(Lib.itoa n).toArray⟩) ∧ Below w.heap.size w w' := by
  go_enter Tryz.func15, Tryz.ntmps15
  go_wp2_with (go_at_call 38; refine (Tryz.strconv_Itoa n h0 h1 _ htab).mono ?_; rintro e w' ⟨rfl, q, os, rfl⟩)
  go_ret
  exact ⟨rfl, below_grow _ _ _⟩
theorem in_calls (n a b : Int) (w : World) : Calls Tryz.prog 68 #[.int .i64 n, .int .i64 a, .int .i64 b] w fun e w' => e = .returned (.bool (decide (a ≤ n) && decide (n ≤ b))) ∧ w' = w := by
  by_cases h1 : a ≤ n <;> by_cases h2 : n ≤ b <;> simp only [h1, h2, decide_true, decide_false, Bool.and_true, Bool.and_false]
  all_goals
    go_enter Tryz.func68, Tryz.ntmps68
    go_wp2
    go_ret
    exact ⟨rfl, rfl⟩
theorem parseUint_calls (s : ByteArray) (hlim : s.size ≤ 281474976710656) (ev0 ev1 : Value) (w : World) (hlt : 1 < w.heap.size) (htab : Lib.TabIs Tryz.prog w "internal/strconv.uint64pow10" .u64 Lib.pow10Tab)
    (hs0 : w.cell? ⟨4, 0, none⟩ = some ev0) (he0 : ev0 = .nilIface ∨ ∃ te pe, ev0 = .iface te pe) (hs1 : w.cell? ⟨5, 0, none⟩ = some ev1) (he1 : ev1 = .nilIface ∨ ∃ te pe, ev1 = .iface te pe) :
    Calls Tryz.prog 55 #[.string s] w fun e w' => e = .returned (.tuple #[.int .i64 (pu s).1, .bool (pu s).2]) ∧ Below w.heap.size w w' := by
  rcases h : Lib.atoiAll s.data.toList with v | _ | _
  · obtain ⟨hv0, hv1⟩ := atoiAll_range h
    have hA : Calls Tryz.prog 93 #[.string s] w fun e w' => e = .returned (.tuple #[.int .i64 v, .nilIface]) ∧ Below w.heap.size w w' := by
      refine (Tryz.strconv_Atoi_ok s (by omega) v h w).mono fun e w' ⟨he, hw⟩ => ⟨he, ?_⟩
      rcases hw with rfl | ⟨t, rfl⟩
      · exact Below.refl _ _
      · exact Lib.bytesWorld_below _ _ _
    have hF : ∀ W, Below w.heap.size w W → Calls Tryz.prog 15 #[.int .i64 v] W fun e w' => e = .returned (.string ⟨(Lib.itoa v).toArray⟩) ∧ Below W.heap.size W w' := fun W hb => formatInt_calls v hv0 hv1 W (tab_below hb hlt htab)
    have hN := fun W => in_calls v 0 1000000000 W
    by_cases e1 : (⟨(Lib.itoa v).toArray⟩ : ByteArray) = s
    · have hp : pu s = if 0 ≤ v ∧ v ≤ 1000000000 then (v, true) else (0, false) := by unfold pu; rw [h]; simp only [e1, true_and]
      by_cases e2 : 0 ≤ v ∧ v ≤ 1000000000
      · rw [if_pos e2] at hp; rw [hp]
        have eb : (decide (0 ≤ v) && decide (v ≤ 1000000000)) = true := by simp [e2]
        rw [eb] at hN
        go_enter Tryz.func55, Tryz.ntmps55
        go_wp2_with (first
          | (go_at_call 93; refine hA.mono ?_; rintro e W1 ⟨rfl, hb1⟩)
          | (go_at_call 15; refine (hF _ hb1).mono ?_; rintro e W2 ⟨rfl, hb2⟩)
          | (go_at_call 68; refine (hN _).mono ?_; rintro e W3 ⟨rfl, rfl⟩))
        go_ret2
        exact ⟨rfl, hb1.trans (hb2.mono hb1.size)⟩
      · rw [if_neg e2] at hp; rw [hp]
        have eb : (decide (0 ≤ v) && decide (v ≤ 1000000000)) = false := by rw [← Bool.not_eq_true]; simpa using e2
        rw [eb] at hN
        go_enter Tryz.func55, Tryz.ntmps55
        go_wp2_with (first
          | (go_at_call 93; refine hA.mono ?_; rintro e W1 ⟨rfl, hb1⟩)
          | (go_at_call 15; refine (hF _ hb1).mono ?_; rintro e W2 ⟨rfl, hb2⟩)
          | (go_at_call 68; refine (hN _).mono ?_; rintro e W3 ⟨rfl, rfl⟩))
        go_ret2
        exact ⟨rfl, hb1.trans (hb2.mono hb1.size)⟩
    · have hp : pu s = (0, false) := by unfold pu; rw [h]; simp only [e1, false_and, if_false]
      rw [hp]
      have e1' : (Lib.itoa v = s.toList) = False := eq_false fun q => e1 (by rw [q, ByteArray.toList_eq])
      go_enter Tryz.func55, Tryz.ntmps55
      go_wp2_with (first
        | (go_at_call 93; refine hA.mono ?_; rintro e W1 ⟨rfl, hb1⟩)
        | (go_at_call 15; refine (hF _ hb1).mono ?_; rintro e W2 ⟨rfl, hb2⟩)
        | (go_at_call 68; refine (hN _).mono ?_; rintro e W3 ⟨rfl, rfl⟩))
      all_goals first
        | exact absurd (by assumption) (of_eq_false e1')
        | (go_ret2; exact ⟨rfl, hb1.trans (hb2.mono hb1.size)⟩)
  · have hp : pu s = (0, false) := by unfold pu; rw [h]
    rw [hp]
    go_enter Tryz.func55, Tryz.ntmps55
    go_wp2_with (go_at_call 93; refine (Any.strconv_Atoi_syntax Tryz.laysC172 s hlim h ev0 _ ?_ he0).mono ?_)
    · exact hs0
    rintro e W1 ⟨N, rfl, -, -, hb⟩
    go_wp2
    go_ret2
    exact ⟨rfl, hb⟩
  · have hp : pu s = (0, false) := by unfold pu; rw [h]
    rw [hp]
    go_enter Tryz.func55, Tryz.ntmps55
    go_wp2_with (go_at_call 93; refine (Tryz.strconv_Atoi_range s hlim h ev1 _ ?_ he1).mono ?_)
    · exact hs1
    rintro e W1 ⟨N, rfl, -, -, hb⟩
    go_wp2
    go_ret2
    exact ⟨rfl, hb⟩
noncomputable def impl_ParseUint (k : Nat) (s : ByteArray) : Option (Int × Bool) := if s.size ≤ 281474976710656 then some (pu s) else none
noncomputable def impl_ParseUint_x (k : Nat) : Ent1 := fun A R Q => match A with
 | ⟨[(.sc (.v (.string a1)))], []⟩ => (impl_ParseUint k a1).bind fun y => Q ⟨(.tp [(.sc (.v (.int .i64 y.1))), (.sc (.v (.bool y.2)))]), []⟩
 | _ => none
theorem impl_ParseUint_ok (k : Nat) : OkE Tryz.prog 55 (impl_ParseUint_x k) := by
 intro A R Q x h
 unfold impl_ParseUint_x at h
 split at h
 · rename_i a1
   obtain ⟨y, hy, hK⟩ := Option.bind_eq_some_iff.1 h
   unfold impl_ParseUint at hy; split at hy
   · rename_i hn; cases hy
     refine ⟨_, ct_plain (u := (.tuple #[(.int .i64 ((pu a1 : Int × Bool).1)), (.bool ((pu a1 : Int × Bool).2))])) Tryz.func55 (by kernel_rfl) (by kernel_rfl) (vv_two _ _) (fun w ρ ow vs htb hB hF => ?_), hK⟩
     rw [one_v hF]
     exact (syn_is htb).elim fun ev0 h0 => (rng_is htb).elim fun ev1 h1 => parseUint_calls a1 hn ev0 ev1 w (tab_lt htb) (tab_is htb) h0.1 h0.2 h1.1 h1.2
   · cases hy
 · cases h
end Go.Proofs.YtlenacakmmikiaaGreatDoorX
