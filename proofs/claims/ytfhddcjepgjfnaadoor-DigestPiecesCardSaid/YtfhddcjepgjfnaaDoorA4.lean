/- The walk of 'more': octets added to a digest in progress. -/
import Derived.Test.YtfhddcjepgjfnaaDoorA2
import Derived.Test.YtfhddcjepgjfnaaDoorA3
namespace Go.Proofs.YtfhddcjepgjfnaaDoor
open Go.RowKit Md Go.Shelf
attribute [local go_sem] Oper.semAt_some

/-- The four words of a state, as values. -/
def vw (s : St) : List Value := [.int .u32 s.a, .int .u32 s.b, .int .u32 s.c, .int .u32 s.d]
/-- A digest in progress, as values. -/
def vd (s : St) (n : Int) (b : ByteArray) : Array Value := #[.int .u32 s.a, .int .u32 s.b, .int .u32 s.c, .int .u32 s.d, .int .i64 n, .string b]
def chB : St → List ByteArray → St
  | s, [] => s
  | s, x :: r => chB (blk s (asc x.data.toList)) r
theorem chB_append (s : St) (l r : List ByteArray) : chB s (l ++ r) = chB (chB s l) r := by
  induction l generalizing s with
  | nil => rfl
  | cons x l ih => exact ih _
theorem blk_ok (s : St) (l : List Nat) : (blk s l).ok := ⟨Nat.mod_lt _ (by decide), Nat.mod_lt _ (by decide), Nat.mod_lt _ (by decide), Nat.mod_lt _ (by decide)⟩
theorem chB_ok (s : St) (h : s.ok) : ∀ l, (chB s l).ok
  | [] => h
  | _x :: r => chB_ok _ (blk_ok s _) r
theorem blocksOf_size : ∀ (n : Nat) (t : ByteArray), n ≤ t.size / 64 → ∀ x ∈ blocksOf n t, x.size = 64
  | 0, _, _, x, h => by cases h
  | n+1, t, hn, x, h => by
    rw [blocksOf, List.mem_cons] at h
    rcases h with rfl | h
    · rw [ByteArray.size_extract]; omega
    · exact blocksOf_size n _ (by rw [ByteArray.size_extract]; omega) x h

theorem asc_append (r s : ByteArray) : asc (r ++ s).data.toList = asc r.data.toList ++ asc s.data.toList := by
  simp [asc]
theorem asc_extract (s : ByteArray) (i j : Nat) : asc (s.extract i j).data.toList = ((asc s.data.toList).drop i).take (j - i) := by
  simp [asc, ByteArray.data_extract, Array.toList_extract, List.map_take, List.map_drop]
theorem asc_length (s : ByteArray) : (asc s.data.toList).length = s.size := by
  simp [asc]
theorem chB_blocks : ∀ (n : Nat) (t : ByteArray) (st : St), chB st (blocksOf n t) = chg n st (asc t.data.toList)
  | 0, _, _ => rfl
  | n+1, t, st => by
    rw [blocksOf, chB, chg, chB_blocks n, asc_extract, asc_extract]
    congr 2
    rw [List.take_of_length_le]
    rw [List.length_drop, asc_length]; omega
theorem keeps_of_below {W W' : World} (h : Below W.heap.size W W') : KeepsOthers W W' := ⟨h.size, fun k _o hk _ => (h.block k (Array.getElem?_eq_some_iff.1 hk).1).trans hk⟩

theorem blocks_any (t : ByteArray) (w : World) :
    Calls Tryd.prog 51 #[.string t] w fun e w' => e = .returned (.func (.func 63) #[] #[.pointer (some ⟨w.heap.size, 0, none⟩)]) ∧ w.alloc (.cells #[.string t] 9) = w' := by
  go_enter Tryd.func51, Tryd.ntmps51
  go_wp2
  go_ret
  exact ⟨rfl, rfl⟩

set_option maxRecDepth 100000 in
set_option maxHeartbeats 1000000 in
theorem more_any (st : St) (hst : st.ok) (len : Int) (h0 : 0 ≤ len) (h1 : len ≤ 1000000) (r s : ByteArray) (hr : r.size ≤ 1000000) (hs : s.size ≤ 1000000) (w : World) (hK : HasK w) :
    Calls Tryd.prog 32 #[.agg #[.int .u32 st.a, .int .u32 st.b, .int .u32 st.c, .int .u32 st.d, .int .i64 len, .string r], .string s] w fun e w' => e = .returned (.agg (vd (changed st (asc r.data.toList ++ asc s.data.toList)) (len + s.size) ((r ++ s).extract (r.size + s.size - (r.size + s.size) % 64) (r.size + s.size)))) ∧ Below w.heap.size w w' := by
  refine (callsIn_wide (n := 3)).1 ?_
  refine callsIn_of_wp_marks Tryd.func32 rfl trivial ?_ rfl
  simp only [Tryd.ntmps32, List.size_toArray, List.length_cons, List.length_nil, Nat.reduceAdd, Nat.reduceSub, Array.replicate_succ, Array.replicate_zero, List.push_toArray, List.append_toArray, List.nil_append, List.cons_append]
  gi_wp2_with fail
  refine ⟨trivial, ?_⟩
  refine (callsIn_wide.2 (blocks_any _ _)).mono ?_
  rintro e w' ⟨rfl, rfl⟩
  gi_wp2_with fail
  obtain ⟨W0, hW0⟩ : ∃ W0, W0 = (((w.alloc (.cells #[.int .u32 st.a, .int .u32 st.b, .int .u32 st.c, .int .u32 st.d, .int .i64 len, .string r] 61)).alloc (.cells #[.int .u32 0, .int .u32 0, .int .u32 0, .int .u32 0, .int .i64 0, .string ⟨#[]⟩] 61)).alloc (.cells #[.int .u32 st.a, .int .u32 st.b, .int .u32 st.c, .int .u32 st.d, .int .i64 (len + s.size), .string ⟨#[]⟩] 61)).alloc (.cells #[.string (r ++ s)] 9) := ⟨_, rfl⟩
  rw [← hW0]
  have hz : W0.heap.size = w.heap.size + 4 := by rw [hW0]; simp
  have hB0 : Below w.heap.size w W0 := by
    rw [hW0]; exact ((((Below.refl _ _).alloc (Nat.le_refl _) _).alloc (by simp only [World.size_alloc]; omega) _).alloc (by simp only [World.size_alloc]; omega) _).alloc (by simp only [World.size_alloc]; omega) _
  have hE : W0.heap[w.heap.size + 1]? = some (.cells #[.int .u32 0, .int .u32 0, .int .u32 0, .int .u32 0, .int .i64 0, .string ⟨#[]⟩] 61) := by
    rw [hW0, heap_alloc_lt _ _ _ (by simp only [World.size_alloc]; omega), heap_alloc_lt _ _ _ (by simp only [World.size_alloc]; omega)]; exact heap_alloc_at _ _ _ (by simp)
  have hO : W0.heap[w.heap.size + 2]? = some (.cells (vd st (len + s.size) ⟨#[]⟩) 61) := by
    rw [hW0, heap_alloc_lt _ _ _ (by simp only [World.size_alloc]; omega)]; exact heap_alloc_at _ _ _ (by simp)
  have hS : W0.cell? ⟨w.heap.size + 3, 0, none⟩ = some (.string (r ++ s)) := by
    rw [hW0]; exact cell_of_row _ _ 0 _ _ _ (heap_alloc_at _ _ _ (by simp))
  have hF : W0.frozen? ⟨w.heap.size + 3, 0, none⟩ = false := by
    rw [hW0]; exact frozen_of_row _ _ 0 _ _ (heap_alloc_at _ _ _ (by simp))
  clear hW0
  refine wpIn_rangeFunc_state rfl (by omega) (gf := 63) (lb := #[.pointer (some ⟨w.heap.size + 1 + 1 + 1, 0, none⟩)]) rfl trivial (enters_of Tryd.func63 (by kernel_rfl) rfl)
    (blocks1_in Fence.wide _ trivial rfl (by omega) (r ++ s) (w.heap.size + 3)) rfl hS hF
    (fun pre W => Below w.heap.size w W ∧ w.heap.size + 4 ≤ W.heap.size ∧ W.heap[w.heap.size + 1]? = some (.cells #[.int .u32 0, .int .u32 0, .int .u32 0, .int .u32 0, .int .i64 0, .string ⟨#[]⟩] 61) ∧ W.heap[w.heap.size + 2]? = some (.cells (vd (chB st pre) (len + s.size) ⟨#[]⟩) 61))
    ?ha ?hp ?hs ⟨hB0, by omega, hE, hO⟩
    (fun x => { tmps := #[Value.agg #[Value.int IntKind.u32 ↑st.a, Value.int IntKind.u32 ↑st.b, Value.int IntKind.u32 ↑st.c, Value.int IntKind.u32 ↑st.d, Value.int IntKind.i64 len, Value.string r],
          Value.string s, Value.pointer (some { block := w.heap.size, off := 0 }), undef,
          Value.pointer (some { block := w.heap.size + 1, off := 0 }),
          Value.pointer (some { block := w.heap.size + 1 + 1, off := 0 }), Value.string (r ++ s), Value.string x,
          Value.pointer (some { block := w.heap.size, off := 0 }),
          Value.agg #[Value.int IntKind.u32 ↑st.a, Value.int IntKind.u32 ↑st.b, Value.int IntKind.u32 ↑st.c, Value.int IntKind.u32 ↑st.d],
          Value.pointer (some { block := w.heap.size, off := 4 }), Value.int IntKind.i64 len, Value.string s,
          Value.int IntKind.i64 ↑s.size, Value.int IntKind.i64 (len + ↑s.size),
          Value.agg #[Value.int IntKind.u32 ↑st.a, Value.int IntKind.u32 ↑st.b, Value.int IntKind.u32 ↑st.c, Value.int IntKind.u32 ↑st.d, Value.int IntKind.i64 (len + ↑s.size), Value.string { data := #[] }],
          Value.pointer (some { block := w.heap.size, off := 5 }), Value.string r, Value.string s,
          Value.string (r ++ s), Value.string (r ++ s),
          Value.func (Fn.func 63) #[] #[Value.pointer (some { block := w.heap.size + 1 + 1 + 1, off := 0 })], Value.string x,
          undef, undef, undef, undef, undef, undef, undef, undef, undef, undef, undef, undef, undef, undef, undef], defers := [] }) ?assign ?body ?done
  case ha => exact fun W o hle h => ⟨h.1.alloc (by omega) o, by have := h.2.1; simp; omega, (heap_alloc_lt _ _ _ (by omega)).trans h.2.2.1, (heap_alloc_lt _ _ _ (by omega)).trans h.2.2.2⟩
  case hp =>
    exact fun pre W l o o' hl h _ _ => ⟨below_putObj h.1 (by omega) _, by simpa using h.2.1, (World.putObj_heap_other (by omega)).trans h.2.2.1, (World.putObj_heap_other (by omega)).trans h.2.2.2⟩
  case hs =>
    exact fun pre W v h => ⟨h.1.setCell (by simp) _, by simpa using h.2.1, (Below.heap_setCell _ _ _ _ (by simp)).trans h.2.2.1, (Below.heap_setCell _ _ _ _ (by simp)).trans h.2.2.2⟩
  case assign =>
    intro l x W K hK
    gi_wp2
    exact hK
  case body =>
    rintro l pre x W ⟨hB, hle, hE, hO⟩ hpre
    have hx : x.size = 64 := blocksOf_size _ _ (Nat.le_refl _) x (hpre.subset (by simp))
    obtain ⟨t, ht⟩ : ∃ t, chB st pre = t := ⟨_, rfl⟩
    have hok : t.ok := ht ▸ chB_ok st hst pre
    rw [ht] at hO
    obtain ⟨ta, tb, tc, td⟩ := t
    obtain ⟨hta, htb, htc, htd⟩ := hok
    have hKW : HasK W := hK.below hB hK.pos
    have cc : ∀ j v, (vd ⟨ta, tb, tc, td⟩ (len + s.size) ⟨#[]⟩)[j]? = some v → W.cell? ⟨w.heap.size + 1 + 1, j, none⟩ = some v := fun j v hv => by
      rw [cell_of_row _ (w.heap.size + 2) j _ _ _ hO]; exact hv
    have c0 := cc 0 _ rfl
    have c1 := cc 1 _ rfl
    have c2 := cc 2 _ rfl
    have c3 := cc 3 _ rfl
    have HKW := Lib.hid hKW
    have Ht := Lib.hid ht
    have HO := Lib.hid hO
    have HE := Lib.hid hE
    have Hx := Lib.hid hx
    clear cc ht hKW hO hE hpre hK hx hS hF hz hB0
    gi_wp2_with fail
    refine ⟨trivial, ?_⟩
    refine (CallsIn.inRound l (callsIn_wide.2 (changed_any ta tb tc td hta htb htc htd x Hx.out W HKW.out))).mono ?_
    rintro e w2 ⟨rfl, hB2⟩
    have hO2 := (hB2.block _ (by omega)).trans HO.out
    have hE2 := (hB2.block _ (by omega)).trans HE.out
    have cc : ∀ j v, (vd ⟨ta, tb, tc, td⟩ (len + s.size) ⟨#[]⟩)[j]? = some v → w2.cell? ⟨w.heap.size + 1 + 1, j, none⟩ = some v := fun j v hv => by
      rw [cell_of_row _ (w.heap.size + 2) j _ _ _ hO2]; exact hv
    have ff : ∀ j, w2.frozen? ⟨w.heap.size + 1 + 1, j, none⟩ = false := fun j => frozen_of_row _ _ _ _ _ hO2
    have c0' := cc 0 _ rfl
    have c1' := cc 1 _ rfl
    have c2' := cc 2 _ rfl
    have c3' := cc 3 _ rfl
    have f0 := ff 0
    have f1 := ff 1
    have f2 := ff 2
    have f3 := ff 3
    have HO2 := Lib.hid hO2
    have HE2 := Lib.hid hE2
    obtain ⟨t2, ht2⟩ : ∃ t2, blk ⟨ta, tb, tc, td⟩ (asc x.data.toList) = t2 := ⟨_, rfl⟩
    rw [ht2]
    have Ht2 := Lib.hid ht2
    clear cc ff hO2 hE2 c0 c1 c2 c3 ht2
    gi_wp2
    have hch : chB st (pre ++ [x]) = t2 := by rw [chB_append, Ht.out]; exact Ht2.out
    have hoth : ∀ k, k ≠ w.heap.size + 2 → ((((w2.setCell ⟨w.heap.size + 1 + 1, 0, none⟩ (.int .u32 t2.a)).setCell ⟨w.heap.size + 1 + 1, 1, none⟩ (.int .u32 t2.b)).setCell ⟨w.heap.size + 1 + 1, 2, none⟩ (.int .u32 t2.c)).setCell ⟨w.heap.size + 1 + 1, 3, none⟩ (.int .u32 t2.d)).heap[k]? = w2.heap[k]? := fun k hk => by
      rw [Below.heap_setCell _ _ _ _ hk, Below.heap_setCell _ _ _ _ hk, Below.heap_setCell _ _ _ _ hk, Below.heap_setCell _ _ _ _ hk]
    have hsame : ((((w2.setCell ⟨w.heap.size + 1 + 1, 0, none⟩ (.int .u32 t2.a)).setCell ⟨w.heap.size + 1 + 1, 1, none⟩ (.int .u32 t2.b)).setCell ⟨w.heap.size + 1 + 1, 2, none⟩ (.int .u32 t2.c)).setCell ⟨w.heap.size + 1 + 1, 3, none⟩ (.int .u32 t2.d)).heap[w.heap.size + 2]? = some (.cells (vd t2 (len + s.size) ⟨#[]⟩) 61) := by
      have e1 := heap_setCell_same w2 (w.heap.size + 2) 0 _ 61 (.int .u32 t2.a) HO2.out
      have e2 := heap_setCell_same _ (w.heap.size + 2) 1 _ 61 (.int .u32 t2.b) e1
      have e3 := heap_setCell_same _ (w.heap.size + 2) 2 _ 61 (.int .u32 t2.c) e2
      exact heap_setCell_same _ (w.heap.size + 2) 3 _ 61 (.int .u32 t2.d) e3
    refine ⟨((((keeps_of_below hB2).trans (KeepsOthers.setCell _ _ _)).trans (KeepsOthers.setCell _ _ _)).trans (KeepsOthers.setCell _ _ _)).trans (KeepsOthers.setCell _ _ _), ⟨?_, ?_, ?_, ?_⟩, ?_, ?_⟩
    · exact ((((hB.trans (hB2.mono (by omega))).setCell (by show _ ≤ w.heap.size + 1 + 1; omega) _).setCell (by show _ ≤ w.heap.size + 1 + 1; omega) _).setCell (by show _ ≤ w.heap.size + 1 + 1; omega) _).setCell (by show _ ≤ w.heap.size + 1 + 1; omega) _
    · have := hB2.size
      simp only [World.size_setCell]; omega
    · exact (hoth _ (by omega)).trans HE2.out
    · rw [hch]; exact hsame
    · exact (World.cell?_of_block (hoth _ (by simp))).trans (hB2.cell (p := ⟨w.heap.size + 3, 0, none⟩) (by simp; omega))
    · exact (World.frozen?_of_block (hoth _ (by simp))).trans (hB2.frozen (p := ⟨w.heap.size + 3, 0, none⟩) (by simp; omega))
  case done =>
    rintro D W hD ⟨hB, hle, hE, hO⟩ hK2
    obtain ⟨t, hgt⟩ : ∃ t, chB st (blocksOf ((r ++ s).size / 64) (r ++ s)) = t := ⟨_, rfl⟩
    rw [hgt] at hO
    have hsz : (r ++ s).size = r.size + s.size := ByteArray.size_append
    have HE := Lib.hid hE
    have HO := Lib.hid hO
    have HK2 := Lib.hid hK2
    have hD' : w.heap.size + 4 ≤ D := by omega
    have Hch : Hid (chB st (blocksOf ((r ++ s).size / 64) (r ++ s)) = t) := Lib.hid hgt
    have Hsz := Lib.hid hsz
    have cc : ∀ j v, (vd t (len + s.size) ⟨#[]⟩)[j]? = some v → W.cell? ⟨w.heap.size + 1 + 1, j, none⟩ = some v := fun j v hv => by
      rw [cell_of_row _ (w.heap.size + 2) j _ _ _ hO]; exact hv
    have ee : ∀ j v, (#[.int .u32 0, .int .u32 0, .int .u32 0, .int .u32 0, .int .i64 0, .string ⟨#[]⟩] : Array Value)[j]? = some v → W.cell? ⟨w.heap.size + 1, j, none⟩ = some v := fun j v hv => by
      rw [cell_of_row _ _ j _ _ _ hE]; exact hv
    have gg : ∀ j, W.frozen? ⟨w.heap.size + 1, j, none⟩ = false := fun j => frozen_of_row _ _ _ _ _ hE
    have c0 : W.cell? ⟨w.heap.size + 1 + 1, 0, none⟩ = some (.int .u32 t.a) := cc 0 _ rfl
    have c1 : W.cell? ⟨w.heap.size + 1 + 1, 1, none⟩ = some (.int .u32 t.b) := cc 1 _ rfl
    have c2 : W.cell? ⟨w.heap.size + 1 + 1, 2, none⟩ = some (.int .u32 t.c) := cc 2 _ rfl
    have c3 : W.cell? ⟨w.heap.size + 1 + 1, 3, none⟩ = some (.int .u32 t.d) := cc 3 _ rfl
    have c4 : W.cell? ⟨w.heap.size + 1 + 1, 4, none⟩ = some (.int .i64 (len + s.size)) := cc 4 _ rfl
    have c5 : W.cell? ⟨w.heap.size + 1 + 1, 5, none⟩ = some (.string ⟨#[]⟩) := cc 5 _ rfl
    have e0 : W.cell? ⟨w.heap.size + 1, 0, none⟩ = some (.int .u32 0) := ee 0 _ rfl
    have g0 := gg 0
    have e1 : W.cell? ⟨w.heap.size + 1, 1, none⟩ = some (.int .u32 0) := ee 1 _ rfl
    have g1 := gg 1
    have e2 : W.cell? ⟨w.heap.size + 1, 2, none⟩ = some (.int .u32 0) := ee 2 _ rfl
    have g2 := gg 2
    have e3 : W.cell? ⟨w.heap.size + 1, 3, none⟩ = some (.int .u32 0) := ee 3 _ rfl
    have g3 := gg 3
    have e4 : W.cell? ⟨w.heap.size + 1, 4, none⟩ = some (.int .i64 0) := ee 4 _ rfl
    have g4 := gg 4
    have e5 : W.cell? ⟨w.heap.size + 1, 5, none⟩ = some (.string ⟨#[]⟩) := ee 5 _ rfl
    have g5 := gg 5
    have f5 : W.frozen? ⟨w.heap.size + 1 + 1, 5, none⟩ = false := frozen_of_row _ (w.heap.size + 2) _ _ _ hO
    clear hE hO hK2 hsz hgt hK hS hF hz hB0 cc ee gg
    gi_wp2
    obtain ⟨q, hq⟩ : ∃ q, (r ++ s).extract (r.size + s.size - (r.size + s.size) % 64) (r.size + s.size) = q := ⟨_, rfl⟩
    rw [hq]
    have Hq := Lib.hid hq
    clear hq
    obtain ⟨Wa, hWa⟩ : ∃ Wa, Wa = W.setCell ⟨w.heap.size + 1 + 1, 5, none⟩ (.string q) := ⟨_, rfl⟩
    rw [← hWa]
    have hBa : Below w.heap.size w Wa := hWa ▸ hB.setCell (by show _ ≤ w.heap.size + 1 + 1; omega) _
    have hEa : Wa.heap[w.heap.size + 1]? = _ := hWa ▸ (Below.heap_setCell _ _ _ _ (by show w.heap.size + 1 ≠ w.heap.size + 1 + 1; omega)).trans HE.out
    have hKa : Wa.heap[D]? = some (.deferred (some [])) := hWa ▸ (KeepsOthers.setCell W _ _).same D _ HK2.out rfl
    clear hWa
    have e1 := heap_setCell_same _ _ 0 _ 61 (.int .u32 t.a) hEa
    have e2 := heap_setCell_same _ _ 1 _ 61 (.int .u32 t.b) e1
    have e3 := heap_setCell_same _ _ 2 _ 61 (.int .u32 t.c) e2
    have e4 := heap_setCell_same _ _ 3 _ 61 (.int .u32 t.d) e3
    have e5 := heap_setCell_same _ _ 4 _ 61 (.int .i64 (len + s.size)) e4
    have e6 := heap_setCell_same _ _ 5 _ 61 (.string q) e5
    have k6 := (((((((KeepsOthers.setCell Wa ⟨w.heap.size + 1, 0, none⟩ (.int .u32 t.a)).trans (KeepsOthers.setCell _ ⟨w.heap.size + 1, 1, none⟩ (.int .u32 t.b))).trans (KeepsOthers.setCell _ ⟨w.heap.size + 1, 2, none⟩ (.int .u32 t.c))).trans (KeepsOthers.setCell _ ⟨w.heap.size + 1, 3, none⟩ (.int .u32 t.d))).trans (KeepsOthers.setCell _ ⟨w.heap.size + 1, 4, none⟩ (.int .i64 (len + s.size)))).trans (KeepsOthers.setCell _ ⟨w.heap.size + 1, 5, none⟩ (.string q)))).same D _ hKa rfl
    have hl : ∀ j, w.heap.size ≤ (⟨w.heap.size + 1, j, none⟩ : Addr).block := fun j => by show _ ≤ w.heap.size + 1; omega
    have hB6 := (((((hBa.setCell (hl 0) (.int .u32 t.a)).setCell (hl 1) (.int .u32 t.b)).setCell (hl 2) (.int .u32 t.c)).setCell (hl 3) (.int .u32 t.d)).setCell (hl 4) (.int .i64 (len + s.size))).setCell (hl 5) (.string q)
    generalize (((((Wa.setCell ⟨w.heap.size + 1, 0, none⟩ (.int .u32 t.a)).setCell ⟨w.heap.size + 1, 1, none⟩ (.int .u32 t.b)).setCell ⟨w.heap.size + 1, 2, none⟩ (.int .u32 t.c)).setCell ⟨w.heap.size + 1, 3, none⟩ (.int .u32 t.d)).setCell ⟨w.heap.size + 1, 4, none⟩ (.int .i64 (len + s.size))).setCell ⟨w.heap.size + 1, 5, none⟩ (.string q) = W6 at e6 k6 hB6 ⊢
    clear e1 e2 e3 e4 e5
    refine ⟨by simp, .inl ⟨_, _, rfl, run_takeDeferred k6, ?_⟩⟩
    refine ⟨.agg (vd t (len + s.size) q), ?_, ?_⟩
    · exact results_cell_row rfl _ _ (w.heap.size + 1) 61 _ (0, 0) _ rfl ((World.putObj_heap_other (by omega)).trans e6) Tryd.underlying61 rfl (by kernel_rfl)
    · exact ⟨by rw [← Hch.out, chB_blocks, asc_append, ← Hq.out, changed, List.length_append, asc_length, asc_length, ByteArray.size_append], below_putObj hB6 (by omega) _⟩
end Go.Proofs.YtfhddcjepgjfnaaDoor
