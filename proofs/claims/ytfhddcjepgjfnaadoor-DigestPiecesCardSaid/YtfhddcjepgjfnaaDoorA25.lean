/- Walks: the reference's Done. -/
import Derived.Test.YtfhddcjepgjfnaaDoorA24
import Derived.Test.YtfhddcjepgjfnaaDoorA18
import Derived.Test.YtfhddcjepgjfnaaDoorA12
namespace Go.Proofs.YtfhddcjepgjfnaaDoor
open Go.RowKit Md

/-- Values written one by one. -/
def setL (old : Array Value) : Nat → List Value → Array Value
  | _, [] => old
  | o, v :: r => setL (old.setIfInBounds o v) (o + 1) r
theorem heap_setCells (b : Nat) (ty : TypeId) : ∀ (vs : List Value) (o : Nat) (old : Array Value) (w : World), w.heap[b]? = some (.cells old ty (0, 0)) → (w.setCells b o vs).heap[b]? = some (.cells (setL old o vs) ty (0, 0))
  | [], _, _, _, h => h
  | v :: r, o, old, w, h => heap_setCells b ty r (o + 1) (old.setIfInBounds o v) (w.setCell ⟨b, o, none⟩ v) (heap_setCell_same _ b o _ ty v h)
theorem setL_get : ∀ (vs : List Value) (o : Nat) (old : Array Value) (j : Nat), (setL old o vs)[j]? = if j < o ∨ o + vs.length ≤ j then old[j]? else if j < old.size then vs[j - o]? else none
  | [], o, old, j => by simp [setL]; omega
  | v :: r, o, old, j => by
    rw [setL, setL_get r (o + 1) _ j, List.length_cons, Array.size_setIfInBounds]
    by_cases h1 : j < o
    · rw [if_pos (by omega), if_pos (by omega), Array.getElem?_setIfInBounds_ne (by omega)]
    by_cases h2 : j = o
    · subst h2
      rw [if_pos (by omega), if_neg (by omega)]
      simp [Array.getElem?_setIfInBounds]
    by_cases h3 : o + (r.length + 1) ≤ j
    · rw [if_pos (by omega), if_pos (by omega), Array.getElem?_setIfInBounds_ne (by omega)]
    · rw [if_neg (show ¬ (j < o + 1 ∨ o + 1 + r.length ≤ j) by omega), if_neg (show ¬ (j < o ∨ o + (r.length + 1) ≤ j) by omega), show j - o = (j - (o + 1)) + 1 by omega, List.getElem?_cons_succ]
theorem setL_all (vs : List Value) (old : Array Value) (h : old.size = vs.length) : setL old 0 vs = vs.toArray := by
  apply Array.ext_getElem?
  intro j
  rw [setL_get]
  have e : vs.toArray[j]? = vs[j]? := by simp
  rw [e]
  by_cases hj : j < vs.length
  · rw [if_neg (show ¬ (j < 0 ∨ 0 + vs.length ≤ j) by omega), if_pos (show j < old.size by omega), Nat.sub_zero]
  · rw [if_pos (show j < 0 ∨ 0 + vs.length ≤ j by omega), Array.getElem?_eq_none (show old.size ≤ j by omega), List.getElem?_eq_none (show vs.length ≤ j by omega)]
theorem heap_setCells_other (b c : Nat) (h : c ≠ b) : ∀ (vs : List Value) (o : Nat) (w : World), (w.setCells b o vs).heap[c]? = w.heap[c]?
  | [], _, _ => rfl
  | _v :: r, o, _w => (heap_setCells_other b c h r (o + 1) _).trans (Below.heap_setCell _ _ _ _ h)
theorem Below.setCells {B b : Nat} (h : B ≤ b) {w1 : World} : ∀ (vs : List Value) (o : Nat) (W : World), Below B w1 W → Below B w1 (W.setCells b o vs)
  | [], _, _, hW => hW
  | v :: r, o, W, hW => Below.setCells h r (o + 1) _ (hW.setCell (by show B ≤ b; exact h) _)
theorem Kp.cells {B : Nat} {w1 W : World} (h : Kp B w1 W) (vs : List Value) : Kp B w1 (W.setCells (B + 1) 0 vs) :=
  ⟨(heap_setCells_other _ _ (by omega) vs 0 W).trans h.1, Below.setCells (by omega) vs 0 W h.2⟩
theorem there_of_row (w : World) (b : Nat) (cs : Array Value) (ty : TypeId) (h : w.heap[b]? = some (.cells cs ty (0, 0))) (n : Nat) (hn : n = cs.size) : w.there b 0 n := fun j hj => by
  rw [Nat.zero_add, cell_of_row _ _ _ _ _ _ h, frozen_of_row _ _ _ _ _ h]
  exact ⟨by simp; omega, rfl⟩
theorem ob_each (l : List Nat) : ∀ v ∈ List.map (fun n : Nat => Value.int .u8 (n : Int)) l, v.oneCell' = true := by
  intro v hv
  obtain ⟨n, _, rfl⟩ := List.mem_map.1 hv
  rfl

set_option maxRecDepth 100000 in
set_option maxHeartbeats 1000000 in
theorem doneI_no (a b c d n : Int) (r : ByteArray) (h : vald a b c d n r = false) (w : World) :
    Calls Tryd.prog 24 #[.agg #[.int .i64 a, .int .i64 b, .int .i64 c, .int .i64 d, .int .i64 n, .string r]] w fun e w' => e = .returned (.tuple #[.agg z16, .int .i64 80]) ∧ Below w.heap.size w w' := by
  have H := Lib.hid h
  clear h
  go_enter Tryd.func24, Tryd.ntmps24
  go_wp2_with fail
  refine (right_any a b c d n r _).mono ?_
  rintro e w1 ⟨rfl, hB1⟩
  rw [H.out]
  have HB1 : Hid (Below w.heap.size w w1) := Lib.hid ((((Below.refl _ w).alloc (Nat.le_refl _) _).alloc (by simp) _).trans (hB1.mono (by simp; omega)))
  have HZ1 : Hid (w1.heap[w.heap.size + 1]? = some (.cells z16 28 (0, 0))) := Lib.hid ((hB1.block _ (by simp)).trans (heap_alloc_at _ _ _ (by simp)))
  clear hB1
  go_wp2_with ((with_reducible refine wpList_store_row rfl 28 _ _ rfl (w.heap.size + 1) (z16) ?_ ?_ 28 _ HZ1.out 16 ?_ ?_ ?_ ?_ ?_); (next => rfl); (next => rfl); (next => kernel_rfl); (next => rfl); (next => rfl); (next => rfl))
  exact bodyPost_ret (v := .tuple #[.agg z16, .int .i64 80]) (results_row2 rfl _ _ (w.heap.size + 1) 28 z16 _ rfl (setRow_heap _ _ _ _ _ _ HZ1.out) Tryd.underlying28 rfl 16 (by kernel_rfl) rfl (.int .i64 80) rfl) rfl ⟨rfl, below_setRow HB1.out (by omega) _⟩

set_option maxRecDepth 100000 in
set_option maxHeartbeats 1000000 in
theorem doneI_yes (s : St) (hs : s.ok) (n : Nat) (hn : n ≤ 65536) (r : ByteArray) (hr : r.size = n % 64) (w : World) :
    Calls Tryd.prog 24 #[.agg #[.int .i64 s.a, .int .i64 s.b, .int .i64 s.c, .int .i64 s.d, .int .i64 n, .string r]] w fun e w' => e = .returned (.tuple #[.agg (ob (told (changed s (ended (asc r.data.toList) n)))), .int .i64 0]) ∧ Below w.heap.size w w' := by
  have HS := Lib.hid hs
  have H := Lib.hid (vald_nat s hs n hn r hr)
  have hrs : r.size < 64 := by omega
  clear hs hr
  obtain ⟨u, hu⟩ : ∃ u, changed s (ended (asc r.data.toList) n) = u := ⟨_, rfl⟩
  have hok : u.ok := hu ▸ changed_ok _ HS.out _
  obtain ⟨l, hl⟩ : ∃ l, told u = l := ⟨_, rfl⟩
  rw [hu, hl]
  have hlen : l.length = 16 := hl ▸ told_length u
  obtain ⟨cs, hcs⟩ : ∃ cs : List Value, List.map (fun n : Nat => Value.int .u8 (n : Int)) l = cs := ⟨_, rfl⟩
  have hob : ob l = cs.toArray := by rw [← hcs]; rfl
  have hone : ∀ v ∈ cs, v.oneCell' = true := hcs ▸ ob_each l
  have hc16 : cs.length = 16 := by rw [← hcs, List.length_map]; exact hlen
  have hinf : (Tryd.prog.info? 28).map (·.size) = some cs.length := by rw [hc16]; kernel_rfl
  rw [hob]
  have HT : Hid (∀ W : World, Calls Tryd.prog 34 #[.agg (sI u)] W fun e w' => e = .returned (.agg cs.toArray) ∧ Below W.heap.size W w') := fun W => by
    have := toldI_any u hok W
    rw [hl, hob] at this
    exact this
  have HE : Hid (∀ W : World, _) := fun (W : World) => endedI_any r n (by omega) (by omega) W
  have HC : Hid (∀ (t : ByteArray) (W : World), asc t.data.toList = ended (asc r.data.toList) n → Calls Tryd.prog 35 #[.agg (sI s), .string t] W fun e w' => e = .returned (.agg (sI u)) ∧ Below W.heap.size W w') := fun t W ht => by
    have := changedI_any s HS.out t W
    rw [ht, hu] at this
    exact this
  have H16 := Lib.hid hc16
  have HONE := Lib.hid hone
  have HINF := Lib.hid hinf
  clear hu hl hlen hok hob hcs hone hc16 hinf
  go_enter Tryd.func24, Tryd.ntmps24
  go_wp2_with fail
  refine (right_any s.a s.b s.c s.d n r _).mono ?_
  rintro e w1 ⟨rfl, hB1⟩
  rw [H.out]
  have HB1 : Hid (Below w.heap.size w w1) := Lib.hid ((((Below.refl _ w).alloc (Nat.le_refl _) _).alloc (by simp) _).trans (hB1.mono (by simp; omega)))
  have HZ1 : Hid (w1.heap[w.heap.size + 1]? = some (.cells z16 28 (0, 0))) := Lib.hid ((hB1.block _ (by simp)).trans (heap_alloc_at _ _ _ (by simp)))
  have HD1 : Hid (w1.heap[w.heap.size]? = some (.cells #[.int .i64 s.a, .int .i64 s.b, .int .i64 s.c, .int .i64 s.d, .int .i64 n, .string r] 41 (0, 0))) := Lib.hid ((hB1.block _ (by simp; omega)).trans ((heap_alloc_lt _ _ _ (by simp)).trans (heap_alloc_at _ _ _ rfl)))
  have hlt1 : w.heap.size + 1 < w1.heap.size := (Array.getElem?_eq_some_iff.1 HZ1.out).1
  have hlt0 : w.heap.size < w1.heap.size := by omega
  clear hB1
  go_wp2_with fail
  have D0 : ∀ W, Kp w.heap.size w1 W → W.cell? ⟨w.heap.size, 0, none⟩ = some (.int .i64 s.a) := fun W h => h.at HD1.out 0
  have D1 : ∀ W, Kp w.heap.size w1 W → W.cell? ⟨w.heap.size, 1, none⟩ = some (.int .i64 s.b) := fun W h => h.at HD1.out 1
  have D2 : ∀ W, Kp w.heap.size w1 W → W.cell? ⟨w.heap.size, 2, none⟩ = some (.int .i64 s.c) := fun W h => h.at HD1.out 2
  have D3 : ∀ W, Kp w.heap.size w1 W → W.cell? ⟨w.heap.size, 3, none⟩ = some (.int .i64 s.d) := fun W h => h.at HD1.out 3
  have D4 : ∀ W, Kp w.heap.size w1 W → W.cell? ⟨w.heap.size, 4, none⟩ = some (.int .i64 n) := fun W h => h.at HD1.out 4
  have D5 : ∀ W, Kp w.heap.size w1 W → W.cell? ⟨w.heap.size, 5, none⟩ = some (.string r) := fun W h => h.at HD1.out 5
  have hrefl : Kp w.heap.size w1 w1 := Kp.refl _ _
  have hreflD : Kp w.heap.size w1 w1.drew := (Kp.refl _ _).drew
  go_cut [3] (fun x3 W => x3 = .int .i64 0 ∧ Below w.heap.size w1 W ∧ W.heap[w.heap.size + 1]? = some (.cells cs.toArray 28 (0, 0)))
  case first =>
    go_region_held3 (fun W => Kp w.heap.size w1 W) (first | with_reducible exact HB4 | with_reducible exact HB3 | with_reducible exact HB2 | with_reducible exact hrefl | with_reducible exact hreflD | (refine Kp.cells ?_ _; with_reducible exact HB4)) ((first | (go_at_call 37; refine (HE.out _).mono ?_; rintro e w2 ⟨t, rfl, ht, _, hB2⟩; have HB2 : Kp w.heap.size w1 w2 := hreflD.call hlt0 hB2; have hlt2 : w.heap.size < w2.heap.size := Nat.lt_of_lt_of_le hlt0 hB2.size; have hlt2' : w.heap.size + 1 < w2.heap.size := Nat.lt_of_lt_of_le hlt1 hB2.size; have HZ2 : Hid (w2.heap[w.heap.size + 1]? = some (.cells z16 28 (0, 0))) := (hB2.block _ hlt1).trans HZ1.out; have HT2 := Lib.hid ht; clear hB2 ht) | (go_at_call 35; refine (HC.out _ _ HT2.out).mono ?_; rintro e w3 ⟨rfl, hB3⟩; have HB3 : Kp w.heap.size w1 w3 := HB2.call hlt2 hB3; have hlt3 : w.heap.size < w3.heap.size := Nat.lt_of_lt_of_le hlt2 hB3.size; have hlt3' : w.heap.size + 1 < w3.heap.size := Nat.lt_of_lt_of_le hlt2' hB3.size; have HZ3 : Hid (w3.heap[w.heap.size + 1]? = some (.cells z16 28 (0, 0))) := (hB3.block _ hlt2').trans HZ2.out; clear hB3) | (go_at_call 34; refine (HT.out _).mono ?_; rintro e w4 ⟨rfl, hB4⟩; have HB4 : Kp w.heap.size w1 w4 := HB3.call hlt3 hB4; have HZ4 : Hid (w4.heap[w.heap.size + 1]? = some (.cells z16 28 (0, 0))) := (hB4.block _ hlt3').trans HZ3.out; clear hB4; have hone := HONE.out; have hinf := HINF.out; have hth : w4.there (w.heap.size + 1) 0 cs.length := there_of_row _ _ _ _ HZ4.out _ H16.out)))
    all_goals go_wp2_with fail
    go_meet
    exact ⟨rfl, (HB4.cells _).2, by rw [heap_setCells _ 28 _ 0 _ _ HZ4.out, setL_all _ _ (by rw [H16.out]; rfl)]⟩
  case rest =>
    obtain ⟨rfl, hB5, hO⟩ := hcut
    have HO := Lib.hid hO
    have HB5 := Lib.hid hB5
    clear hB5 hO D0 D1 D2 D3 D4 D5
    go_wp2_with fail
    exact bodyPost_ret (v := .tuple #[.agg cs.toArray, .int .i64 0]) (results_row2 rfl _ _ (w.heap.size + 1) 28 _ _ rfl HO.out Tryd.underlying28 rfl 16 (by kernel_rfl) (by rw [List.size_toArray]; exact H16.out) (.int .i64 0) rfl) rfl ⟨rfl, HB1.out.trans HB5.out⟩
end Go.Proofs.YtfhddcjepgjfnaaDoor
