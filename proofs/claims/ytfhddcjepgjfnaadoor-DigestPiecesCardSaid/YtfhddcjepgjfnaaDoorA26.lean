/- Walks: the statements' is and fails. -/
import Derived.Test.YtfhddcjepgjfnaaDoorA12
import Derived.Test.YtfhddcjepgjfnaaDoorEq
namespace Go.Proofs.YtfhddcjepgjfnaaDoor
open Go.RowKit Md

/-- A whole aggregate out of a block that is known whole, in an operation whose guard says yes. -/
theorem wpList_load_wanted {P : Program} {ops : Array Oper} {rest : List Oper} {op : Oper} {a : Act} {w : World} {Q : Exit → Act → World → Prop} (hgd : Region.wanted op (yielded ops a.tmps) = true) (ty : TypeId) (x : Operand) (ho : op.op = .load ty x)
    (g : Nat) (hx : a.eval x = .pointer (some ⟨g, 0, none⟩)) (t : TypeId) (cs : Array Value) (d : TypeDesc) (hg : w.heap[g]? = some (.cells cs t (0, 0)))
    (hu : P.underlying ty = some d) (hd : (match d with | .struct _ | .array _ _ => true | _ => false) = true) (n : Nat) (hi : (P.info? ty).map (·.size) = some n) (hcs : cs.size = n)
    (h : wpList P ops Q rest (a.put op.dst (.agg cs)) w) : wpList P ops Q (op :: rest) a w :=
  wpList_step fun K hK => by
    rw [hgd, if_pos rfl]
    exact wp_load_row ty x ho g hx t cs (0, 0) d hg hu hd (by rw [hcs]; exact hi) (hK _ _ h)
theorem told_lt (s : St) (i : Nat) : (told s).getD i 0 < 256 := by
  by_cases h : i < 16
  · rw [told_get s i h]; exact Nat.mod_lt _ (by decide)
  · rw [List.getD_eq_getElem?_getD, List.getElem?_eq_none (by rw [told_length]; omega)]; decide
theorem mapInt_beq : ∀ l m : List Nat, (l.map (fun n : Nat => (n : Int)) == m.map (fun n : Nat => (n : Int))) = (l == m)
  | [], [] => rfl
  | [], _ :: _ => rfl
  | _ :: _, [] => rfl
  | a :: l, b :: m => by
    rw [List.map_cons, List.map_cons, List.cons_beq_cons, List.cons_beq_cons, mapInt_beq l m]
    congr 1
    rw [Bool.eq_iff_iff, beq_iff_eq, beq_iff_eq]; omega
theorem eq28 (l m : List Nat) (hl : l.length = 16) (hm : m.length = 16) (w : World) : (Op.equalIn 10000 28 (.agg (ob l)) (.agg (ob m))).run Tryd.prog w = .ok (l == m) w := by
  have := run_equalIn_array (P := Tryd.prog) (k := .u8) (k' := .u8) Tryd.underlying28 Tryd.underlying5 Tryd.isAgg5 Tryd.sizeOf5 9998 (l.map fun n : Nat => (n : Int)) (m.map fun n : Nat => (n : Int)) (by simpa using hl) (by simpa using hm) w
  rw [mapInt_beq, List.map_map, List.map_map] at this
  exact this
theorem z16_ob : z16 = ob (List.replicate 16 0) := rfl
theorem eq28z (w : World) : (Op.equalIn 10000 28 (.agg z16) (.agg z16)).run Tryd.prog w = .ok true w := by
  have := eq28 (List.replicate 16 0) (List.replicate 16 0) rfl rfl w
  rw [← z16_ob] at this
  exact this

set_option maxRecDepth 100000 in
set_option maxHeartbeats 1000000 in
theorem is_yes (s want : ByteArray) (hs : s.size ≤ 65536) (h : ByteArray.mk (hexOf (md5 (asc s.data.toList))).toArray = want) (w : World) (hK : HasK w) :
    Calls Tryd.prog 28 #[.string s, .string want] w fun e w' => e = .returned (.bool true) ∧ Below w.heap.size w w' := by
  have HK := Lib.hid hK
  subst h
  obtain ⟨l, hl⟩ : ∃ l, md5 (asc s.data.toList) = l := ⟨_, rfl⟩
  have hlen : l.length = 16 := hl ▸ told_length _
  have hb : ∀ i, l.getD i 0 < 256 := fun i => hl ▸ told_lt _ i
  have HS : Hid (Calls Tryd.prog 12 #[.string s] w fun e w' => e = .returned (.tuple #[.agg (ob l), .int .i64 0]) ∧ Below w.heap.size w w') := Lib.hid (by
    have := sum_short s hs w hK
    rw [hl] at this; exact this)
  rw [hl]
  have HL := Lib.hid hlen
  have HB := Lib.hid hb
  clear hK hl hlen hb
  go_enter Tryd.func28, Tryd.ntmps28
  go_wp2_with fail
  refine HS.out.mono ?_
  rintro e w1 ⟨rfl, hB1⟩
  have HB1 := Lib.hid hB1
  have HA := Lib.hid (heap_alloc_at w1 (.cells (ob l) 28) w1.heap.size rfl)
  clear hB1
  go_wp2_with (first | ((with_reducible refine wpList_store_new rfl 28 _ _ rfl _ (ob l) ?_ ?_ 16 ?_ ?_ ?_ ?_ ?_); (next => rfl); (next => rfl); (next => kernel_rfl); (next => rfl); (next => exact ob_size16 _ HL.out); (next => exact ob_one _)) | ((with_reducible refine wpList_load_wanted ?_ 28 _ rfl (w1.heap.size) ?_ 28 (ob l) _ HA.out Tryd.underlying28 ?_ 16 ?_ ?_ ?_); (next => rfl); (next => rfl); (next => rfl); (next => kernel_rfl); (next => exact ob_size16 _ HL.out)))
  refine (hex_any l HL.out HB.out _).mono ?_
  rintro e w2 ⟨rfl, hB2⟩
  have HB2 : Hid (Below w.heap.size w w2) := Lib.hid ((HB1.out.alloc HB1.out.size _).trans (hB2.mono (by have := HB1.out.size; simp; omega)))
  obtain ⟨q, hq⟩ : ∃ q : ByteArray, ⟨(hexOf l).toArray⟩ = q := ⟨_, rfl⟩
  rw [hq]
  clear hB2 hq
  go_wp2_with fail
  go_ret
  exact ⟨rfl, HB2.out⟩

set_option maxRecDepth 100000 in
set_option maxHeartbeats 1000000 in
theorem fails_yes (t : ByteArray) (ht : t.size ≤ 140737488355328) (h : unhexRes (asc t.data.toList) = .tuple #[.agg z16, .int .i64 5]) (w : World) :
    Calls Tryd.prog 29 #[.string t] w fun e w' => e = .returned (.bool true) ∧ Below w.heap.size w w' := by
  have HS : Hid (Calls Tryd.prog 15 #[.string t] w fun e w' => e = .returned (.tuple #[.agg z16, .int .i64 5]) ∧ Below w.heap.size w w') := Lib.hid (by
    have := unhex_any t ht w
    rw [h] at this; exact this)
  clear h
  go_enter Tryd.func29, Tryd.ntmps29
  go_wp2_with fail
  refine HS.out.mono ?_
  rintro e w1 ⟨rfl, hB1⟩
  have HB1 := Lib.hid hB1
  have HA := Lib.hid (heap_alloc_at w1 (.cells z16 28) w1.heap.size rfl)
  have he := eq28z
  clear hB1
  go_wp2_with (first | ((with_reducible refine wpList_store_new rfl 28 _ _ rfl _ z16 ?_ ?_ 16 ?_ ?_ ?_ ?_ ?_); (next => rfl); (next => rfl); (next => kernel_rfl); (next => rfl); (next => rfl); (next => rfl)) | ((with_reducible refine wpList_load_whole rfl 28 _ rfl (w1.heap.size) ?_ 28 z16 _ HA.out Tryd.underlying28 ?_ 16 ?_ ?_ ?_); (next => rfl); (next => rfl); (next => kernel_rfl); (next => rfl)))
  go_ret
  exact ⟨rfl, HB1.out.alloc HB1.out.size _⟩
end Go.Proofs.YtfhddcjepgjfnaaDoor
