/- What functions of the library compute, out of the shelf's contracts. (The file is written by wip/x/vxp.py of this repository.) -/
import Derived.Test.YtdgkohichikpdaaDoorX18
import Derived.Test.YtdgkohichikpdaaDoorZ
import Derived.WalkKit
import Derived.BigCall
import Derived.Lib.AtoiErrMem
import Derived.Test.YtdgkohichikpdaaDoorShelf
namespace Go.Proofs.YtdgkohichikpdaaDoorX
open Go Go.Proofs Go.RowKit
set_option linter.unusedVariables false
set_option maxRecDepth 100000
theorem cell_at {w : World} {g : Nat} {cs : Array Value} {e : TypeId} {f : Nat × Nat} (h : w.heap[g]? = some (.cells cs e f)) : w.cell? ⟨g, 0, none⟩ = cs[0]? := by simp [World.cell?, h]
theorem below_grow (w : World) (q : Nat) (os : Array Obj) : Below w.heap.size w (Go.Sort.grow (w.drewN q) os) := by
  refine ⟨rfl, rfl, rfl, ?_, fun k hk => ?_⟩
  · simp [Go.Sort.grow]
  · simp [Go.Sort.grow, Array.getElem?_append_left hk]
theorem below_drew (w : World) (q : Nat) : Below w.heap.size w (w.drewN q) := by
  exact ⟨by first | rfl | simp, by first | rfl | simp, by first | rfl | simp, by first | rfl | simp, fun k hk => by first | rfl | simp⟩
theorem tab_is {ow : Nat → Option Nat} {w : World} (h : TB ow w) : Lib.TabIs Tryd.prog w "internal/strconv.uint64pow10" .u64 Lib.pow10Tab := by
  obtain ⟨_, cs, e, f, h1, h2⟩ := h _ ((List.Mem.head _) : (1, _) ∈ tabs)
  have h3 : cs = (Lib.pow10Tab.map fun z => Value.int .u64 z).toArray := h2
  have hg : Tryd.prog.globalNamed "internal/strconv.uint64pow10" = some 1 := by kernel_rfl
  unfold Lib.TabIs World.var?
  rw [hg, Option.bind_some]
  simp only [h1, h3]
theorem tab_lt {ow : Nat → Option Nat} {w : World} (h : TB ow w) : 1 < w.heap.size := by
  obtain ⟨_, cs, e, f, h1, h2⟩ := h _ ((List.Mem.head _) : (1, _) ∈ tabs)
  exact (Array.getElem?_eq_some_iff.1 h1).1
theorem tab_below {w w' : World} (h : Below w.heap.size w w') (hlt : 1 < w.heap.size) (htab : Lib.TabIs Tryd.prog w "internal/strconv.uint64pow10" .u64 Lib.pow10Tab) : Lib.TabIs Tryd.prog w' "internal/strconv.uint64pow10" .u64 Lib.pow10Tab := by
  have hg : Tryd.prog.globalNamed "internal/strconv.uint64pow10" = some 1 := by kernel_rfl
  unfold Lib.TabIs World.var? at *
  rw [hg, Option.bind_some] at *
  rw [h.block 1 hlt]; exact htab
theorem flat_str (xs : List ByteArray) : flat K.kstr xs = xs.map Value.string := by
  induction xs with
  | nil => rfl
  | cons a r ih => show Value.string a :: flat K.kstr r = _; rw [ih]; rfl
/-! ### strconv.Itoa: function 28 -/
noncomputable def strconv_Itoa (k : Nat) (n : Int) : Option (ByteArray) := if -9223372036854775808 ≤ n ∧ n ≤ 9223372036854775807 then some (⟨(Lib.itoa n).toArray⟩) else none
noncomputable def strconv_Itoa_x (k : Nat) : Ent1 := fun A R Q => match A with
 | ⟨[(.sc (.v (.int .i64 a1)))], []⟩ => (strconv_Itoa k a1).bind fun y => Q ⟨(.a (.sc (.v (.string y)))), []⟩
 | _ => none
theorem strconv_Itoa_ok (k : Nat) : OkE Tryd.prog 28 (strconv_Itoa_x k) := by
 intro A R Q x h
 unfold strconv_Itoa_x at h
 split at h
 · rename_i a1
   obtain ⟨y, hy, hK⟩ := Option.bind_eq_some_iff.1 h
   unfold strconv_Itoa at hy; split at hy
   · rename_i hn; cases hy
     refine ⟨_, ct_plain (u := (.string ((⟨(Lib.itoa a1).toArray⟩ : ByteArray)))) Tryd.func28 (by kernel_rfl) (by kernel_rfl) (vv_one _) (fun w ρ ow vs htb hB hF => ?_), hK⟩
     rw [one_v hF]
     exact (Tryd.strconv_Itoa a1 hn.1 hn.2 w (tab_is htb)).mono fun e w' ⟨he, q, os, hw⟩ => ⟨he, hw ▸ below_grow w q os⟩
   · cases hy
 · cases h
/-! ### strings.Join: function 26 -/
noncomputable def strings_Join (k : Nat) (elems : (List ByteArray)) (sep : ByteArray) : Option (ByteArray × List ByteArray) := if elems.length ≤ 140737488355328 ∧ (Lib.join (elems.map (·.data.toList)) sep.data.toList).length ≤ 140737488355328 then some ((⟨(Lib.join (elems.map (·.data.toList)) sep.data.toList).toArray⟩, elems)) else none
noncomputable def strings_Join_x (k : Nat) : Ent1 := fun A R Q => match A with
 | ⟨[(.sc (.sl 0)), (.sc (.v (.string a2)))], [(.row true K.kstr a1)]⟩ => (strings_Join k a1 a2).bind fun y => Q ⟨(.a (.sc (.v (.string y.1)))), [(.row true K.kstr y.2)]⟩
 | _ => none
theorem strings_Join_ok (k : Nat) : OkE Tryd.prog 26 (strings_Join_x k) := by
 intro A R Q x h
 unfold strings_Join_x at h
 split at h
 · rename_i a2 a1
   obtain ⟨y, hy, hK⟩ := Option.bind_eq_some_iff.1 h
   unfold strings_Join at hy; split at hy
   · rename_i hn; cases hy
     refine ⟨_, ct_plain (u := (.string (((⟨(Lib.join (a1.map (·.data.toList)) a2.data.toList).toArray⟩, a1) : ByteArray × List ByteArray).1))) Tryd.func26 (by kernel_rfl) (by kernel_rfl) (vv_one _) (fun w ρ ow vs htb hB hF => ?_), hK⟩
     rw [row_v hF]
     exact by
       have hb : BlkOk _ w ρ ow 0 (.row true K.kstr a1) := hB 0
       obtain ⟨A', cap, e1, hcap, hnil, hz⟩ := row_hdr hb
       rw [e1]
       rcases hb.1.2 with ⟨e, hl⟩ | ⟨g, cap', cur, e, _, hg, _⟩
       · have : a1 = [] := List.eq_nil_of_length_eq_zero hl
         subst this
         rw [e1] at e; cases e
         exact (Tryd.strings_Join_none none 0 a2 w).mono fun e w' ⟨he, hw⟩ => ⟨by rw [he]; rfl, hw ▸ Below.refl _ _⟩
       · rw [e1] at e; cases e
         refine Tryd.strings_Join g 0 cap a1 a2 w (fun j x hx => ?_) (Array.getElem?_eq_some_iff.1 hg).1 hn.1 hcap hn.2
         have hc := row_cell hb e1 j (.string x) (by rw [flat_str, List.getElem?_map, hx]; rfl)
         have he : (⟨g, 0, none⟩ : Addr).add j = ⟨g, 0 + j, none⟩ := by
           unfold Addr.add; split
           · rename_i hj; subst hj; rfl
           · rfl
         rw [← he]; exact hc
   · cases hy
 · cases h
end Go.Proofs.YtdgkohichikpdaaDoorX
