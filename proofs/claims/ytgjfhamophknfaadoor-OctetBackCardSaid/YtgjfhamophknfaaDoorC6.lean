/- Walks: strings.Trim at the printable octets, printable. -/
import Derived.Test.YtgjfhamophknfaaDoorC0
import Derived.Test.YtgjfhamophknfaaDoorBuilder
namespace Go.Proofs.YtgjfhamophknfaaDoor
open Go.RowKit

theorem bwith {w w1 w2 : World} (h1 : Below w.heap.size w w1) (h2 : Below w1.heap.size w1 w2) : Below w.heap.size w w2 := h1.trans (h2.mono h1.size)
/-- There is an octet that is not among cs. -/
def Bad (cs : List UInt8) (s : ByteArray) : Prop := ∃ c ∈ s.data.toList, cs.contains c = false
theorem Bad.pos {cs : List UInt8} {s : ByteArray} (h : Bad cs s) : 0 < s.size := by
  obtain ⟨c, hc, _⟩ := h
  have : 0 < s.data.toList.length := List.length_pos_of_mem hc
  rw [Array.length_toList] at this
  exact this
theorem list_at (s : ByteArray) (k : Nat) (h : k < s.size) : s.data.toList[k]? = some (s[k]'h) := by
  rw [Array.getElem?_toList]
  exact Array.getElem?_eq_getElem h
theorem Bad.init {cs : List UInt8} {s : ByteArray} (h : Bad cs s) (x : UInt8) (hx : s.data.toList[s.size - 1]? = some x) (hc : cs.contains x = true) : Bad cs (s.extract 0 (s.size - 1)) := by
  have hp := h.pos
  obtain ⟨c, hm, hcc⟩ := h
  refine ⟨c, ?_, hcc⟩
  rw [data_extract, List.drop_zero, Nat.sub_zero]
  obtain ⟨i, hi, rfl⟩ := List.getElem_of_mem hm
  have hl : s.data.toList.length = s.size := by rw [Array.length_toList]; rfl
  have hne : i ≠ s.size - 1 := by
    rintro rfl
    rw [List.getElem?_eq_getElem (by omega)] at hx
    rw [Option.some.inj hx] at hcc
    rw [hc] at hcc; cases hcc
  have : (s.data.toList.take (s.size - 1))[i]? = some s.data.toList[i] := by rw [List.getElem?_take_of_lt (by omega), List.getElem?_eq_getElem hi]
  exact List.mem_of_getElem? this
theorem Bad.tail {cs : List UInt8} {s : ByteArray} (h : Bad cs s) (x : UInt8) (hx : s.data.toList[0]? = some x) (hc : cs.contains x = true) : Bad cs (s.extract 1 s.size) := by
  have hp := h.pos
  obtain ⟨c, hm, hcc⟩ := h
  refine ⟨c, ?_, hcc⟩
  have hl : s.data.toList.length = s.size := by rw [Array.length_toList]; rfl
  rw [data_extract, List.take_of_length_le (by rw [List.length_drop]; omega)]
  obtain ⟨i, hi, rfl⟩ := List.getElem_of_mem hm
  have hne : i ≠ 0 := by
    rintro rfl
    rw [List.getElem?_eq_getElem (by omega)] at hx
    rw [Option.some.inj hx] at hcc
    rw [hc] at hcc; cases hcc
  have : (s.data.toList.drop 1)[i - 1]? = some s.data.toList[i] := by rw [List.getElem?_drop, show 1 + (i - 1) = i by omega, List.getElem?_eq_getElem hi]
  exact List.mem_of_getElem? this
theorem Bad.ne {cs : List UInt8} {s : ByteArray} (h : Bad cs s) : s ≠ ⟨#[]⟩ := by
  rintro rfl
  have := h.pos
  exact absurd this (by decide)

set_option maxRecDepth 100000 in
set_option maxHeartbeats 1000000 in
theorem trimR_any (cs : List UInt8) (s : ByteArray) (hs : s.size ≤ 1000) (hbad : Bad cs s) (b : Nat) (w : World) (hb : w.heap[b]? = some (.cells (Lib.setCells cs) 56 (0, 0))) :
    Calls Tryd.prog 43 #[.string s, .pointer (some ⟨b, 0, none⟩)] w fun e w' => ∃ r, e = .returned (.string r) ∧ r.size ≤ s.size ∧ Bad cs r ∧ w' = w := by
  have HB := Lib.hid hb
  have HBad := Lib.hid hbad
  clear hb hbad
  go_enter Tryd.func43, Tryd.ntmps43
  go_wp2_with fail
  go_loopw [0] (fun x0 W => ∃ q : ByteArray, x0 = .string q ∧ q.size ≤ s.size ∧ Bad cs q ∧ W = w) (fun x0 _ => match x0 with | .string q => q.size | _ => 0)
  case atStart => exact ⟨s, rfl, Nat.le_refl _, HBad.out, rfl⟩
  case round =>
    obtain ⟨q, rfl, hq, hbq, rfl⟩ := hrel
    have hpos := hbq.pos
    have h1 : (0 : Int) < q.size := by omega
    have hx := list_at q (q.size - 1) (by omega)
    have HQ := Lib.hid hbq
    have hsub : ((q.size : Int) - 1).toNat = q.size - 1 := by omega
    clear hbq
    go_wp2_with fail
    generalize q[q.size - 1] = x at *
    have hcell : wr.cell? ⟨b, x.toNat, none⟩ = some (.bool (cs.contains x)) := cell_of_row _ _ _ _ _ _ HB.out |>.trans (Lib.setCells_at cs x)
    have HC : Hid (∀ v, cs.contains x = v → Calls Tryd.prog 61 #[.pointer (some ⟨b, 0, none⟩), .int .u8 x.toNat] wr fun e w' => e = .returned (.bool v) ∧ w' = wr) := Lib.hid (fun v hv => hv ▸ Tryd.asciiSet_contains b x _ wr hcell)
    have HX := Lib.hid hx
    clear hcell hx
    rcases hv : cs.contains x with _ | _
    · refine (HC.out _ hv).mono ?_
      rintro e w1 ⟨rfl, rfl⟩
      clear hv
      go_wp2_with fail
      go_ret
      exact ⟨_, rfl, hq, HQ.out, rfl⟩
    · refine (HC.out _ hv).mono ?_
      rintro e w1 ⟨rfl, rfl⟩
      have HT := Lib.hid (HQ.out.init x HX.out hv)
      clear hv
      go_wp2_with fail
      go_roundw
      case rel => exact ⟨_, rfl, by rw [ByteArray.size_extract]; omega, HT.out, trivial⟩
      case measure => simp [ByteArray.size_extract]; omega
set_option maxRecDepth 100000 in
set_option maxHeartbeats 1000000 in
theorem trimL_any (cs : List UInt8) (s : ByteArray) (_hs : s.size ≤ 1000) (hbad : Bad cs s) (b : Nat) (w : World) (hb : w.heap[b]? = some (.cells (Lib.setCells cs) 56 (0, 0))) :
    Calls Tryd.prog 42 #[.string s, .pointer (some ⟨b, 0, none⟩)] w fun e w' => ∃ r, e = .returned (.string r) ∧ r.size ≤ s.size ∧ Bad cs r ∧ w' = w := by
  have HB := Lib.hid hb
  have HBad := Lib.hid hbad
  clear hb hbad
  go_enter Tryd.func42, Tryd.ntmps42
  go_wp2_with fail
  go_loopw [0] (fun x0 W => ∃ q : ByteArray, x0 = .string q ∧ q.size ≤ s.size ∧ Bad cs q ∧ W = w) (fun x0 _ => match x0 with | .string q => q.size | _ => 0)
  case atStart => exact ⟨s, rfl, Nat.le_refl _, HBad.out, rfl⟩
  case round =>
    obtain ⟨q, rfl, hq, hbq, rfl⟩ := hrel
    have hpos := hbq.pos
    have h1 : (0 : Int) < q.size := by omega
    have h1' : (1 : Int) ≤ q.size := by omega
    have hx := list_at q 0 (by omega)
    have HQ := Lib.hid hbq
    clear hbq
    go_wp2_with fail
    generalize q[0] = x at *
    have hcell : wr.cell? ⟨b, x.toNat, none⟩ = some (.bool (cs.contains x)) := cell_of_row _ _ _ _ _ _ HB.out |>.trans (Lib.setCells_at cs x)
    have HC : Hid (∀ v, cs.contains x = v → Calls Tryd.prog 61 #[.pointer (some ⟨b, 0, none⟩), .int .u8 x.toNat] wr fun e w' => e = .returned (.bool v) ∧ w' = wr) := Lib.hid (fun v hv => hv ▸ Tryd.asciiSet_contains b x _ wr hcell)
    have HX := Lib.hid hx
    clear hcell hx
    rcases hv : cs.contains x with _ | _
    · refine (HC.out _ hv).mono ?_
      rintro e w1 ⟨rfl, rfl⟩
      clear hv
      go_wp2_with fail
      go_ret
      exact ⟨_, rfl, hq, HQ.out, rfl⟩
    · refine (HC.out _ hv).mono ?_
      rintro e w1 ⟨rfl, rfl⟩
      have HT := Lib.hid (HQ.out.tail x HX.out hv)
      clear hv
      go_wp2_with fail
      go_roundw
      case rel => exact ⟨_, rfl, by rw [ByteArray.size_extract]; omega, HT.out, trivial⟩
      case measure => simp [ByteArray.size_extract]; omega

theorem one_set (cs : List UInt8) : (Lib.setCells cs).toList.all (·.oneCell') = true := by
  rw [Lib.setCells_eq, Array.toList_map, List.all_map, List.all_eq_true]
  intro x _
  rfl
set_option maxRecDepth 100000 in
set_option maxHeartbeats 1000000 in
theorem trimA_any (cs : List UInt8) (h2 : 2 ≤ cs.length) (h3 : cs.length ≤ 1000) (hascii : ∀ (j : Nat) b, cs[j]? = some b → b.toNat < 128) (s : ByteArray) (hs : s.size ≤ 1000) (hbad : Bad cs s) (w : World) :
    Calls Tryd.prog 15 #[.string s, .string ⟨cs.toArray⟩] w fun e w' => ∃ r, e = .returned (.string r) ∧ r ≠ ⟨#[]⟩ ∧ Below w.heap.size w w' := by
  have HBad := Lib.hid hbad
  have hse := ne_empty hbad.ne
  obtain ⟨c, hc⟩ : ∃ c : ByteArray, c = ⟨cs.toArray⟩ := ⟨_, rfl⟩
  have hcd : c.data.toList = cs := by rw [hc]
  have hcs : c.size = cs.length := by rw [hc]; simp [ByteArray.size]
  have hc1 : ¬ (c.size : Int) = 1 := by omega
  have hc1b : ((c.size : Int) == 1) = false := by rw [beq_eq_false_iff_ne]; exact hc1
  have hce := ne_empty (show c ≠ ⟨#[]⟩ by rintro rfl; rw [show (⟨#[]⟩ : ByteArray).size = 0 from rfl] at hcs; omega)
  have HM : Hid (∀ W : World, Calls Tryd.prog 41 #[.string c] W fun e w' => e = .returned (.tuple #[.agg (Lib.setCells cs), .bool true]) ∧ w' = W.alloc (.cells (Lib.setCells cs) 56)) := fun W => by
    have := Tryd.strings_makeASCIISet Tryd.zeroValue56 c W (by omega) (by rw [hcd]; exact hascii)
    rwa [hcd] at this
  have HSz := Lib.hid (Lib.setCells_size cs)
  rw [← hc]
  have hcz : (c.size : Int) ≤ 4294967280 := by omega
  clear hbad hc hcd hascii hcs
  go_enter Tryd.func15, Tryd.ntmps15
  go_wp2_with fail
  refine (HM.out _).mono ?_
  rintro e w1 ⟨rfl, hw1⟩
  have J1 : Hid (Below w.heap.size w w1) := Lib.hid (hw1 ▸ ((Below.refl _ _).alloc (Nat.le_refl _) _))
  clear hw1
  have J2 := Lib.hid ((Iv.start w1).new (Lib.setCells cs) 56)
  go_wp2_with ((with_reducible refine wpList_store_new rfl 56 _ _ rfl _ (Lib.setCells cs) ?_ ?_ 256 ?_ ?_ ?_ ?_ ?_); (next => rfl); (next => rfl); (next => kernel_rfl); (next => kernel_rfl); (next => exact HSz.out); (next => exact one_set _))
  have HR : Hid (∀ W : World, W.heap[w1.heap.size]? = some (.cells (Lib.setCells cs) 56 (0, 0)) → _) := fun (W : World) hW => trimR_any cs s hs HBad.out w1.heap.size W hW
  refine (HR.out _ (J2.out.get 0 rfl)).mono ?_
  rintro e w2 ⟨r, rfl, hr, hbr, rfl⟩
  have HBr := Lib.hid hbr
  have HL : Hid (∀ W : World, W.heap[w1.heap.size]? = some (.cells (Lib.setCells cs) 56 (0, 0)) → _) := fun (W : World) hW => trimL_any cs r (by omega) HBr.out w1.heap.size W hW
  clear hbr HR
  go_wp2_with fail
  refine (HL.out _ (J2.out.get 0 rfl)).mono ?_
  rintro e w2 ⟨r2, rfl, hr2, hbr, rfl⟩
  have HN := Lib.hid hbr.ne
  clear hbr HL
  go_wp2_with fail
  go_ret
  exact ⟨_, rfl, HN.out, bwith J1.out J2.out.below⟩

/-- The text octets, the first k. -/
def prs (k : Nat) : List UInt8 := (List.range k).map fun i => UInt8.ofNat (32 + i)
theorem prs_len (k : Nat) : (prs k).length = k := by simp [prs]
theorem prs_succ (k : Nat) : prs (k + 1) = prs k ++ [UInt8.ofNat (32 + k)] := by simp [prs, List.range_succ]

set_option maxRecDepth 100000 in
set_option maxHeartbeats 1000000 in
theorem printable_any (w : World) :
    Calls Tryd.prog 34 #[] w fun e w' => e = .returned (.string ⟨(prs 95).toArray⟩) ∧ Below w.heap.size w w' := by
  go_enter Tryd.func34, Tryd.ntmps34
  go_wp2_with fail
  have Hf := Lib.hid (Lib.fresh_isBuilder 70 5 w)
  obtain ⟨W1, hW1⟩ : ∃ W1, W1 = w.alloc (.cells #[.pointer none, .slice none 0 0] 70) := ⟨_, rfl⟩
  have hB1' : Hid (Below w.heap.size w W1) := hW1 ▸ (Below.refl _ _).alloc (Nat.le_refl _) _
  have hI1 : Hid (IsBd w.heap.size w.heap.size [] W1) := hW1 ▸ Hf.out
  have Hs1 : Hid (W1.heap.size = w.heap.size + 1) := Lib.hid (by rw [hW1]; simp)
  rw [← hW1]
  clear hW1 Hf
  go_loopw [2] (fun x2 wr => ∃ k : Nat, k ≤ 95 ∧ x2 = .int .u8 (32 + k : Nat) ∧ Below w.heap.size W1 wr ∧ IsBd w.heap.size w.heap.size (Lib.byteCells (prs k)) wr) (fun x2 _ => 127 - (intOf x2).toNat)
  case atStart => exact ⟨0, by omega, rfl, Below.refl _ _, hI1.out⟩
  case round =>
    obtain ⟨k, hk, rfl, hB, hI⟩ := hrel
    have HI := Lib.hid hI
    have HBB := Lib.hid hB
    have Hsz : Hid (w.heap.size ≤ wr.heap.size) := by have := hB.size; have := Hs1.out; exact Lib.hid (by omega)
    clear hI hB
    by_cases hlt : k < 95
    · have h1 : ((32 + k : Nat) : Int) < 127 := by omega
      have h2 : IntKind.u8.wrap (((32 + k : Nat) : Int) + 1) = ((32 + (k + 1) : Nat) : Int) := by simp [IntKind.wrap, IntKind.bits, IntKind.signed]; omega
      have Hl : Hid ((Lib.byteCells (prs k)).length + 1 ≤ 140737488355328) := Lib.hid (by rw [Lib.byteCells_length, prs_len]; omega)
      have hcc : Lib.byteCells (prs (k + 1)) = Lib.byteCells (prs k) ++ [.int .u8 ((32 + k : Nat) : Int)] := by
        rw [prs_succ]
        simp [Lib.byteCells]
        omega
      have Hcc := Lib.hid hcc
      clear hcc
      generalize hv : 32 + k = v at *
      go_wp2_with fail
      refine (writeByte_any _ _ _ _ _ HI.out Hl.out Hsz.out).mono ?_
      rintro e w1 ⟨rfl, hI1, hB1⟩
      have HI1 : Hid (IsBd _ _ _ w1) := Lib.hid (.inr hI1)
      have HB1 := Lib.hid hB1
      clear hI1 hB1
      go_wp2_with fail
      go_roundw
      case rel =>
        refine ⟨k + 1, by omega, by go_num, HBB.out.trans HB1.out, ?_⟩
        rw [Hcc.out]
        exact HI1.out
      case measure => simp [intOf]; omega
    · obtain rfl : k = 95 := by omega
      clear hlt hk
      go_wp2_with fail
      refine (Tryd.Builder_String_any _ _ _ _ HI.out Hsz.out).mono ?_
      rintro e w1 ⟨rfl, hB1⟩
      go_wp2_with fail
      go_ret
      exact ⟨rfl, hB1'.out.trans (HBB.out.trans hB1)⟩
end Go.Proofs.YtgjfhamophknfaaDoor
