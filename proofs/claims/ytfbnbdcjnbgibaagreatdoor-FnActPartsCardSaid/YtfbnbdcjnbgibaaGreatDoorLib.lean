/- What functions of the library compute, out of the shelf's contracts. (The file is written by wip/x/vxp.py of this repository.) -/
import Derived.Test.YtfbnbdcjnbgibaaGreatDoorX16
import Derived.Test.YtfbnbdcjnbgibaaGreatDoorZ
import Derived.Test.YtfbnbdcjnbgibaaGreatDoorShelf
namespace Go.Proofs.YtfbnbdcjnbgibaaGreatDoorX
open Go Go.Proofs Go.RowKit
set_option linter.unusedVariables false
set_option maxRecDepth 100000
theorem tab_is {ow : Nat → Option Nat} {w : World} (h : TB ow w) : Lib.TabIs Tryz.prog w "internal/strconv.uint64pow10" .u64 Lib.pow10Tab := by
  obtain ⟨_, e, f, h1⟩ := h (1, (Lib.pow10Tab.map fun z => Value.int .u64 z).toArray) (List.mem_singleton.2 rfl)
  have hg : Tryz.prog.globalNamed "internal/strconv.uint64pow10" = some 1 := by kernel_rfl
  unfold Lib.TabIs World.var?
  rw [hg, Option.bind_some]
  simp only [h1]
theorem below_grow (w : World) (q : Nat) (os : Array Obj) : Below w.heap.size w (Go.Sort.grow (w.drewN q) os) := by
  refine ⟨rfl, rfl, rfl, ?_, fun k hk => ?_⟩
  · simp [Go.Sort.grow]
  · simp [Go.Sort.grow, Array.getElem?_append_left hk]
theorem flat_str (xs : List ByteArray) : flat K.kstr xs = xs.map Value.string := by
  induction xs with
  | nil => rfl
  | cons a r ih => show Value.string a :: flat K.kstr r = _; rw [ih]; rfl
/-! ### strconv.Itoa: function 57 -/
noncomputable def strconv_Itoa (k : Nat) (n : Int) : Option (ByteArray) := if -9223372036854775808 ≤ n ∧ n ≤ 9223372036854775807 then some ⟨(Lib.itoa n).toArray⟩ else none
noncomputable def strconv_Itoa_x (k : Nat) : Ent1 := fun A R Q => match A with
 | ⟨[(.sc (.v (.int .i64 a1)))], []⟩ => (strconv_Itoa k a1).bind fun y => Q ⟨(.a (.sc (.v (.string y)))), []⟩
 | _ => none
theorem strconv_Itoa_ok (k : Nat) : OkE Tryz.prog 57 (strconv_Itoa_x k) := by
 intro A R Q x h
 unfold strconv_Itoa_x at h
 split at h
 · rename_i a1
   obtain ⟨y, hy, hK⟩ := Option.bind_eq_some_iff.1 h
   unfold strconv_Itoa at hy; split at hy
   · rename_i hn; cases hy
     refine ⟨_, ct_keep (u := .string ⟨(Lib.itoa a1).toArray⟩) Tryz.func57 (by kernel_rfl) (by kernel_rfl) (fun w ρ ow vs htb hB hF => ?_), hK⟩
     rw [one_v hF]
     exact (Tryz.strconv_Itoa a1 hn.1 hn.2 w (tab_is htb)).mono fun e w' ⟨he, q, os, hw⟩ => ⟨he, hw ▸ below_grow w q os⟩
   · cases hy
 · cases h
/-! ### strings.Join: function 38 -/
noncomputable def strings_Join (k : Nat) (elems : List ByteArray) (sep : ByteArray) : Option (ByteArray × List ByteArray) := if elems.length ≤ 140737488355328 ∧ (Lib.join (elems.map (·.data.toList)) sep.data.toList).length ≤ 140737488355328 then some (⟨(Lib.join (elems.map (·.data.toList)) sep.data.toList).toArray⟩, elems) else none
noncomputable def strings_Join_x (k : Nat) : Ent1 := fun A R Q => match A with
 | ⟨[(.sc (.sl 0)), (.sc (.v (.string a2)))], [(.row true K.kstr a1)]⟩ => (strings_Join k a1 a2).bind fun y => Q ⟨(.a (.sc (.v (.string y.1)))), [(.row true K.kstr y.2)]⟩
 | _ => none
theorem strings_Join_ok (k : Nat) : OkE Tryz.prog 38 (strings_Join_x k) := by
 intro A R Q x h
 unfold strings_Join_x at h
 split at h
 · rename_i a2 a1
   obtain ⟨y, hy, hK⟩ := Option.bind_eq_some_iff.1 h
   unfold strings_Join at hy; split at hy
   · rename_i hn; cases hy
     refine ⟨_, ct_keep (u := .string ⟨(Lib.join (a1.map (·.data.toList)) a2.data.toList).toArray⟩) Tryz.func38 (by kernel_rfl) (by kernel_rfl) (fun w ρ ow vs htb hB hF => ?_), hK⟩
     rw [row_v hF]
     have hb : BlkOk _ w ρ ow 0 (.row true K.kstr a1) := hB 0
     obtain ⟨A', cap, e1, hcap, hnil, hz⟩ := row_hdr hb
     rw [e1]
     rcases hb.1.2 with ⟨e, hl⟩ | ⟨g, cap', cur, e, _, hg, _⟩
     · have : a1 = [] := List.eq_nil_of_length_eq_zero hl
       subst this
       rw [e1] at e; cases e
       exact (Tryz.strings_Join_none none 0 a2 w).mono fun e w' ⟨he, hw⟩ => ⟨by rw [he]; rfl, hw ▸ Below.refl _ _⟩
     · rw [e1] at e; cases e
       refine Tryz.strings_Join g 0 cap a1 a2 w (fun j x hx => ?_) (Array.getElem?_eq_some_iff.1 hg).1 hn.1 hcap hn.2
       have hc := row_cell hb e1 j (.string x) (by rw [flat_str, List.getElem?_map, hx]; rfl)
       have he : (⟨g, 0, none⟩ : Addr).add j = ⟨g, 0 + j, none⟩ := by
         unfold Addr.add; split
         · rename_i hj; subst hj; rfl
         · rfl
       rw [← he]; exact hc
   · cases hy
 · cases h
end Go.Proofs.YtfbnbdcjnbgibaaGreatDoorX
