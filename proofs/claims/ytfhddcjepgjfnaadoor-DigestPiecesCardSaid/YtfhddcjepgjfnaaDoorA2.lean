/- The walk of a block's change. -/
import Derived.Test.YtfhddcjepgjfnaaDoorA1
namespace Go.Proofs.YtfhddcjepgjfnaaDoor
open Go.RowKit Md

/-- The first t octets of word j. -/
def le (l : List Nat) (j : Nat) : Nat → Nat
  | 0 => 0
  | t+1 => le l j t + l.getD (4*j+t) 0 * 256^t
/-- Word j after k octets. -/
def xk (l : List Nat) (k j : Nat) : Nat := le l j (min 4 (k - 4*j))
def FX (l : List Nat) (k : Nat) : Array Value := ((List.range 16).map fun j => Value.int .u32 (xk l k j : Nat)).toArray

theorem le_lt (l : List Nat) (hl : ∀ i, l.getD i 0 < 256) (j : Nat) : ∀ t, le l j t < 256 ^ t
  | 0 => by simp [le]
  | t+1 => by
    have := le_lt l hl j t
    have h2 := hl (4*j+t)
    have h3 : l.getD (4*j+t) 0 * 256 ^ t ≤ 255 * 256 ^ t := Nat.mul_le_mul_right _ (by omega)
    rw [le, Nat.pow_succ]; omega
theorem le_lt32 (l : List Nat) (hl : ∀ i, l.getD i 0 < 256) (j t : Nat) (ht : t ≤ 4) : le l j t < 4294967296 :=
  Nat.lt_of_lt_of_le (le_lt l hl j t) (Nat.pow_le_pow_right (n := 256) (by decide) ht)
theorem xk_lt (l : List Nat) (hl : ∀ i, l.getD i 0 < 256) (k j : Nat) : xk l k j < 4294967296 := le_lt32 l hl _ _ (Nat.min_le_left _ _)
theorem xk_at (l : List Nat) (k : Nat) : xk l k (k / 4) = le l (k / 4) (k % 4) := by
  unfold xk; congr 1; omega
theorem xk_succ_at (l : List Nat) (k : Nat) : xk l (k + 1) (k / 4) = le l (k / 4) (k % 4 + 1) := by
  unfold xk; congr 1; omega
theorem xk_succ_other (l : List Nat) (k j : Nat) (h : j ≠ k / 4) : xk l (k + 1) j = xk l k j := by
  unfold xk; congr 1; omega
theorem le_four (l : List Nat) (j : Nat) : le l j 4 = X l j := by simp [le, X]
theorem xk_end (l : List Nat) (j : Nat) (h : j < 16) : xk l 64 j = X l j := by
  rw [← le_four]; unfold xk; congr 1; omega
theorem xk_zero (l : List Nat) (j : Nat) : xk l 0 j = 0 := by
  unfold xk; rw [show min 4 (0 - 4 * j) = 0 by omega]; rfl
theorem asc_lt (s : List UInt8) (i : Nat) : (asc s).getD i 0 < 256 := by
  unfold asc
  rw [List.getD_eq_getElem?_getD, List.getElem?_map]
  cases h : s[i]? with
  | none => simp
  | some x => simpa using x.toNat_lt
theorem asc_at (s : ByteArray) (k : Nat) (h : k < s.size) : (asc s.data.toList).getD k 0 = s[k].toNat := by
  unfold asc
  rw [List.getD_eq_getElem?_getD, List.getElem?_map]
  have : s.data.toList[k]? = some s[k] := by
    rw [Array.getElem?_toList]
    exact Array.getElem?_eq_getElem (by simpa using h)
  rw [this]; rfl
/-- An octet more into a word. -/
theorem or_step (x o t : Nat) (hx : x < 256 ^ t) (ho : o < 256) (ht : t < 4) :
    bits .or .u32 (x : Int) ((o : Int) % 4294967296 * 2 ^ (8 * t) % 4294967296) = ((x + o * 256 ^ t : Nat) : Int) := by
  have hp : (256 : Nat) ^ t = 2 ^ (8 * t) := by rw [Nat.pow_mul]
  have hle : (256 : Nat) ^ t ≤ 256 ^ 3 := Nat.pow_le_pow_right (by decide) (by omega)
  have h1 : o * 256 ^ t ≤ 255 * 256 ^ t := Nat.mul_le_mul_right _ (by omega)
  have h2 : o * 256 ^ t < 4294967296 := by omega
  have e : ((o : Int) % 4294967296 * 2 ^ (8 * t) % 4294967296) = ((o * 256 ^ t : Nat) : Int) := by
    rw [Int.emod_eq_of_lt (by omega) (by omega : (o : Int) < 4294967296)]
    have e2 : ((o : Int) * 2 ^ (8 * t)) = ((o * 256 ^ t : Nat) : Int) := by rw [hp]; simp
    rw [e2]; omega
  rw [e, or32 (by omega) h2]
  congr 1
  rw [Nat.or_comm, hp, Nat.mul_comm o, Nat.add_comm]
  exact (Nat.two_pow_add_eq_or_of_lt (by rw [← hp]; exact hx) _).symm
theorem FX_set (l : List Nat) (k : Nat) : (FX l k).setIfInBounds (k / 4) (.int .u32 (xk l (k+1) (k/4) : Nat)) = FX l (k + 1) := by
  apply Array.ext_getElem?
  intro j
  simp only [FX, Array.getElem?_setIfInBounds, List.getElem?_toArray, List.getElem?_map, List.size_toArray, List.length_map, List.length_range]
  by_cases hj : k / 4 = j
  · subst hj
    by_cases h16 : k / 4 < 16
    · simp [h16]
    · simp [h16]
  · simp only [hj, if_false]
    by_cases h16 : j < 16
    · simp [h16, xk_succ_other l k j (fun e => hj e.symm)]
    · simp [h16]
theorem FX_zero (l : List Nat) : FX l 0 = #[.int .u32 0, .int .u32 0, .int .u32 0, .int .u32 0, .int .u32 0, .int .u32 0, .int .u32 0, .int .u32 0, .int .u32 0, .int .u32 0, .int .u32 0, .int .u32 0, .int .u32 0, .int .u32 0, .int .u32 0, .int .u32 0] := by
  unfold FX
  simp only [xk_zero]; rfl
theorem wd_lt (r i : Nat) (h : i / 16 = r) : wd r i < 16 := by
  unfold wd
  split
  · omega
  · split
    · omega
    · split <;> omega
theorem step_ok (x : Nat → Nat) (s : St) (h : s.ok) (i : Nat) : (Md.step x s i).ok := ⟨h.2.2.2, Nat.mod_lt _ (by decide), h.2.1, h.2.2.1⟩
theorem steps_zero (x : Nat → Nat) (s : St) : steps x s 0 = s := rfl
theorem steps_succ (x : Nat → Nat) (s : St) (n : Nat) : steps x s (n + 1) = Md.step x (steps x s n) n := by
  simp [steps, List.range_succ]
theorem rr_lt (r j : Nat) : (R.getD r []).getD j 0 < 32 := by
  match r with
  | 0 => match j with
    | 0 | 1 | 2 | 3 => decide
    | n+4 => simp [R]
  | 1 => match j with
    | 0 | 1 | 2 | 3 => decide
    | n+4 => simp [R]
  | 2 => match j with
    | 0 | 1 | 2 | 3 => decide
    | n+4 => simp [R]
  | 3 => match j with
    | 0 | 1 | 2 | 3 => decide
    | n+4 => simp [R]
  | n+4 => simp [R]
theorem sum_eq (x : Nat → Nat) (s : St) (i r : Nat) (h : i / 16 = r) :
    (((s.a : Nat) : Int) + (mix r s.b s.c s.d : Nat) + (Md.K.getD i 0 : Nat) + (x (wd r i) : Nat)) % 4294967296 = (sumOf x s i : Nat) := by
  unfold sumOf
  rw [h]; omega
theorem step_eq (x : Nat → Nat) (s : St) (i r : Nat) (h : i / 16 = r) :
    Md.step x s i = ⟨s.d, (s.b + rot (sumOf x s i) ((R.getD r []).getD (i % 4) 0)) % 4294967296, s.b, s.c⟩ := by
  unfold Md.step
  rw [h]
theorem steps_ok (x : Nat → Nat) (s : St) (h : s.ok) : ∀ n, (steps x s n).ok
  | 0 => h
  | n+1 => by rw [steps_succ]; exact step_ok x _ (steps_ok x s h n) n
theorem FX_get (l : List Nat) (k j : Nat) (h : j < 16) : (FX l k)[j]? = some (.int .u32 (xk l k j : Nat)) := by
  simp [FX, h]

/-- The program's constants lie in memory. -/
def HasK (w : World) : Prop := ∀ i, i < 64 → w.cell? ⟨0, i, none⟩ = some (.int .u32 (Md.K.getD i 0 : Nat))
theorem HasK.pos {w : World} (h : HasK w) : 0 < w.heap.size := World.block_lt_of_cell? w _ (h 0 (by decide))
theorem HasK.below {w w' : World} {B : Nat} (h : HasK w) (hb : Below B w w') (hB : 0 < B) : HasK w' := fun i hi => (hb.cell (p := ⟨0, i, none⟩) hB).trans (h i hi)

theorem idx0 (w : World) : (Instr.index 106 (.agg #[.func (.func 72) #[] #[], .func (.func 73) #[] #[], .int .i64 7, .int .i64 12, .int .i64 17, .int .i64 22, .func (.func 74) #[] #[], .func (.func 75) #[] #[], .int .i64 5, .int .i64 9, .int .i64 14, .int .i64 20, .func (.func 76) #[] #[], .func (.func 77) #[] #[], .int .i64 4, .int .i64 11, .int .i64 16, .int .i64 23, .func (.func 78) #[] #[], .func (.func 79) #[] #[], .int .i64 6, .int .i64 10, .int .i64 15, .int .i64 21]) (.int .i64 0)).run Tryd.prog w = .ok (.agg #[.func (.func 72) #[] #[], .func (.func 73) #[] #[], .int .i64 7, .int .i64 12, .int .i64 17, .int .i64 22]) w := by kernel_rfl
theorem idx1 (w : World) : (Instr.index 106 (.agg #[.func (.func 72) #[] #[], .func (.func 73) #[] #[], .int .i64 7, .int .i64 12, .int .i64 17, .int .i64 22, .func (.func 74) #[] #[], .func (.func 75) #[] #[], .int .i64 5, .int .i64 9, .int .i64 14, .int .i64 20, .func (.func 76) #[] #[], .func (.func 77) #[] #[], .int .i64 4, .int .i64 11, .int .i64 16, .int .i64 23, .func (.func 78) #[] #[], .func (.func 79) #[] #[], .int .i64 6, .int .i64 10, .int .i64 15, .int .i64 21]) (.int .i64 1)).run Tryd.prog w = .ok (.agg #[.func (.func 74) #[] #[], .func (.func 75) #[] #[], .int .i64 5, .int .i64 9, .int .i64 14, .int .i64 20]) w := by kernel_rfl
theorem idx2 (w : World) : (Instr.index 106 (.agg #[.func (.func 72) #[] #[], .func (.func 73) #[] #[], .int .i64 7, .int .i64 12, .int .i64 17, .int .i64 22, .func (.func 74) #[] #[], .func (.func 75) #[] #[], .int .i64 5, .int .i64 9, .int .i64 14, .int .i64 20, .func (.func 76) #[] #[], .func (.func 77) #[] #[], .int .i64 4, .int .i64 11, .int .i64 16, .int .i64 23, .func (.func 78) #[] #[], .func (.func 79) #[] #[], .int .i64 6, .int .i64 10, .int .i64 15, .int .i64 21]) (.int .i64 2)).run Tryd.prog w = .ok (.agg #[.func (.func 76) #[] #[], .func (.func 77) #[] #[], .int .i64 4, .int .i64 11, .int .i64 16, .int .i64 23]) w := by kernel_rfl
theorem idx3 (w : World) : (Instr.index 106 (.agg #[.func (.func 72) #[] #[], .func (.func 73) #[] #[], .int .i64 7, .int .i64 12, .int .i64 17, .int .i64 22, .func (.func 74) #[] #[], .func (.func 75) #[] #[], .int .i64 5, .int .i64 9, .int .i64 14, .int .i64 20, .func (.func 76) #[] #[], .func (.func 77) #[] #[], .int .i64 4, .int .i64 11, .int .i64 16, .int .i64 23, .func (.func 78) #[] #[], .func (.func 79) #[] #[], .int .i64 6, .int .i64 10, .int .i64 15, .int .i64 21]) (.int .i64 3)).run Tryd.prog w = .ok (.agg #[.func (.func 78) #[] #[], .func (.func 79) #[] #[], .int .i64 6, .int .i64 10, .int .i64 15, .int .i64 21]) w := by kernel_rfl

set_option maxRecDepth 100000 in
set_option maxHeartbeats 4000000 in
theorem changed_any (a b c d : Nat) (ha : a < 4294967296) (hb : b < 4294967296) (hc : c < 4294967296) (hd : d < 4294967296) (s : ByteArray) (hs : s.size = 64) (w : World) (hK : HasK w) :
    Calls Tryd.prog 52 #[.agg #[.int .u32 a, .int .u32 b, .int .u32 c, .int .u32 d], .string s] w fun e w' => e = .returned (.agg #[.int .u32 (blk ⟨a, b, c, d⟩ (asc s.data.toList)).a, .int .u32 (blk ⟨a, b, c, d⟩ (asc s.data.toList)).b, .int .u32 (blk ⟨a, b, c, d⟩ (asc s.data.toList)).c, .int .u32 (blk ⟨a, b, c, d⟩ (asc s.data.toList)).d]) ∧ Below w.heap.size w w' := by
  have HK : Hid (HasK w) := hK
  have OK : Hid (St.ok ⟨a, b, c, d⟩) := Lib.hid ⟨ha, hb, hc, hd⟩
  clear hK
  have Hs := Lib.hid hs
  clear hs
  obtain ⟨l, hl⟩ : ∃ l : List Nat, asc s.data.toList = l := ⟨_, rfl⟩
  have Hl := Lib.hid hl
  have HL : Hid (∀ i, l.getD i 0 < 256) := Lib.hid (hl ▸ asc_lt _)
  clear hl
  go_enter Tryd.func52, Tryd.ntmps52
  go_wp2
  go_loopw [6, 15] (fun x6 x15 wr => ∃ k : Nat, k ≤ 64 ∧ x15 = .int .i64 k ∧ Below (w.heap.size + 2) ((w.alloc (.cells #[.int .u32 a, .int .u32 b, .int .u32 c, .int .u32 d] 59)).alloc (.cells #[.int .u32 0, .int .u32 0, .int .u32 0, .int .u32 0] 59)) wr ∧ wr.heap[w.heap.size + 2]? = some (.cells (FX l k) 101 (0, 0))) (fun _ i _ => 64 - (intOf i).toNat)
  case atStart => exact ⟨0, by omega, rfl, (Below.refl _ _).alloc (by simp) _, by rw [FX_zero]; exact heap_alloc_at _ _ _ (by simp)⟩
  case round =>
    obtain ⟨k, hk, rfl, hB, hh⟩ := hrel
    by_cases hlt : k < 64
    · have hcell := (cell_of_row _ _ (k / 4) _ _ _ hh).trans (FX_get l k (k / 4) (by omega))
      have hfr := frozen_of_row wr (w.heap.size + 2) (k / 4) _ _ hh
      have hsz : k < s.size := by rw [Hs.out]; exact hlt
      have hst := or_step (xk l k (k / 4)) s[k].toNat (k % 4) (by rw [xk_at]; exact le_lt l HL.out _ _) (s[k].toNat_lt) (by omega)
      have hst' : bits BinOp.or IntKind.u32 (xk l k (k / 4) : Int) ((s[k].toNat : Int) % 4294967296 * 2 ^ (8 * (k % 4)) % 4294967296) = (xk l (k + 1) (k / 4) : Nat) := by
        rw [hst, xk_succ_at, xk_at, le, ← asc_at s k hsz, Hl.out, show 4 * (k / 4) + k % 4 = k by omega]
      clear hst
      have Hh := Lib.hid hh
      have Hst := Lib.hid hst'
      clear hh hst'
      go_wp2
      go_region
      go_wp2
      go_roundw
      case rel => exact ⟨k + 1, by omega, by go_num, (hB.setCell (by simp) _).drew, by rw [Hst.out, heap_drew, heap_setCell_same _ _ _ _ _ _ Hh.out, FX_set]⟩
      case measure => simp [intOf]; omega
    · obtain rfl : k = 64 := by omega
      clear hlt
      have hc0 : wr.cell? ⟨w.heap.size, 0, none⟩ = some (.int .u32 a) := by rw [hB.cell (p := ⟨w.heap.size, 0, none⟩) (by simp)]; simp
      have hc1 : wr.cell? ⟨w.heap.size, 1, none⟩ = some (.int .u32 b) := by rw [hB.cell (p := ⟨w.heap.size, 1, none⟩) (by simp)]; simp
      have hc2 : wr.cell? ⟨w.heap.size, 2, none⟩ = some (.int .u32 c) := by rw [hB.cell (p := ⟨w.heap.size, 2, none⟩) (by simp)]; simp
      have hc3 : wr.cell? ⟨w.heap.size, 3, none⟩ = some (.int .u32 d) := by rw [hB.cell (p := ⟨w.heap.size, 3, none⟩) (by simp)]; simp
      have Hh := Lib.hid hh
      clear hh
      go_wp2
      go_quiet (fail)
      go_wp2_with fail
      refine (rounds_any _).mono ?_
      rintro e w1 ⟨rfl, hB1⟩
      unfold rnds
      have hB1' : Below wr.heap.size wr w1 := undrewN hB1
      have h2 : w.heap.size + 2 < wr.heap.size := (Array.getElem?_eq_some_iff.1 Hh.out).1
      have hsz : w.heap.size + 2 < w1.heap.size := Nat.lt_of_lt_of_le h2 hB1'.size
      have hB' : Below (w.heap.size + 2) ((w.alloc (.cells #[.int .u32 a, .int .u32 b, .int .u32 c, .int .u32 d] 59)).alloc (.cells #[.int .u32 0, .int .u32 0, .int .u32 0, .int .u32 0] 59)) w1 := hB.trans (hB1'.mono (by omega))
      have hBB : Below w.heap.size w w1 := (((Below.refl _ w).alloc (Nat.le_refl _) _).alloc (by simp) _).trans (hB'.mono (by omega))
      have hX : Hid (w1.heap[w.heap.size + 2]? = some (.cells (FX l 64) 101 (0, 0))) := Lib.hid ((hB1'.block _ h2).trans Hh.out)
      have hW : Hid (w1.heap[w.heap.size]? = some (.cells #[.int .u32 a, .int .u32 b, .int .u32 c, .int .u32 d] 59 (0, 0))) := Lib.hid ((hB'.block _ (by omega)).trans (by rw [heap_alloc_lt _ _ _ (by simp)]; exact heap_alloc_at _ _ _ rfl))
      have hE : Hid (w1.heap[w.heap.size + 1]? = some (.cells #[.int .u32 0, .int .u32 0, .int .u32 0, .int .u32 0] 59 (0, 0))) := Lib.hid ((hB'.block _ (by omega)).trans (heap_alloc_at _ _ _ (by simp)))
      have hK1 : Hid (HasK w1) := Lib.hid (HK.out.below hBB HK.out.pos)
      clear hB Hh hc0 hc1 hc2 hc3 hB1 hB1' hB' h2
      go_wp2_with fail
      go_loopw [7, 8, 9, 10, 42] (fun x7 x8 x9 x10 x42 wr => ∃ n : Int, 0 ≤ n ∧ n ≤ 4 ∧ x42 = .int .i64 n ∧ Below w1.heap.size w1 wr ∧
          x7 = .int .u32 (steps (X l) ⟨a, b, c, d⟩ (16 * n.toNat)).a ∧ x8 = .int .u32 (steps (X l) ⟨a, b, c, d⟩ (16 * n.toNat)).b ∧ x9 = .int .u32 (steps (X l) ⟨a, b, c, d⟩ (16 * n.toNat)).c ∧ x10 = .int .u32 (steps (X l) ⟨a, b, c, d⟩ (16 * n.toNat)).d) (fun _ _ _ _ i _ => 4 - (intOf i).toNat)
      case atStart => exact ⟨0, by omega, by omega, rfl, Below.refl _ _, rfl, rfl, rfl, rfl⟩
      case round =>
        obtain ⟨n, hn0, hn, rfl, hB2, rfl, rfl, rfl, rfl⟩ := hrel
        by_cases hlt : n < 4
        · obtain rfl | rfl | rfl | rfl : n = 0 ∨ n = 1 ∨ n = 2 ∨ n = 3 := by omega
          · as_aux_lemma =>
            have i0 := idx0
            obtain ⟨st, hst⟩ : ∃ st, steps (X l) ⟨a, b, c, d⟩ (16 * (0 : Int).toNat) = st := ⟨_, rfl⟩
            rw [hst]
            have Hst := Lib.hid hst
            clear hst hlt hn0 hn
            go_wp2_with fail
            obtain ⟨W, hWe⟩ : ∃ W, W = wr.alloc (.cells #[.func (.func 72) #[] #[], .func (.func 73) #[] #[], .int .i64 7, .int .i64 12, .int .i64 17, .int .i64 22] 105) := ⟨_, rfl⟩
            have hBW : Below w1.heap.size w1 W := hWe ▸ hB2.alloc hB2.size _
            have hrow : Hid (W.heap[wr.heap.size]? = some (.cells #[.func (.func 72) #[] #[], .func (.func 73) #[] #[], .int .i64 7, .int .i64 12, .int .i64 17, .int .i64 22] 105 (0, 0))) := Lib.hid (hWe ▸ heap_alloc_at _ _ _ rfl)
            rw [← hWe]
            clear hWe i0
            go_loopw [7, 8, 9, 10, 13] (fun x7 x8 x9 x10 x13 wi => ∃ i m : Nat, 0 ≤ i ∧ i ≤ 16 ∧ x13 = .int .i64 i ∧ wi = W.drewN m ∧
              x7 = .int .u32 (steps (X l) ⟨a, b, c, d⟩ i).a ∧ x8 = .int .u32 (steps (X l) ⟨a, b, c, d⟩ i).b ∧ x9 = .int .u32 (steps (X l) ⟨a, b, c, d⟩ i).c ∧ x10 = .int .u32 (steps (X l) ⟨a, b, c, d⟩ i).d) (fun _ _ _ _ i _ => 16 - (intOf i).toNat)
            case atStart => exact ⟨0, 0, by omega, by omega, rfl, rfl, by rw [← Hst.out]; rfl, by rw [← Hst.out]; rfl, by rw [← Hst.out]; rfl, by rw [← Hst.out]; rfl⟩
            case round =>
              obtain ⟨i, m, hi0, hi, rfl, rfl, rfl, rfl, rfl, rfl⟩ := hrel
              by_cases hlt : i < 16
              · have hw := wd_lt 0 i (by omega)
                have hok := steps_ok (X l) ⟨a, b, c, d⟩ OK.out i
                have c0 : (W.drewN m).cell? ⟨wr.heap.size, 0, none⟩ = some (.func (.func 72) #[] #[]) := cell_of_row _ _ 0 _ _ _ hrow.out
                have c1 : (W.drewN m).cell? ⟨wr.heap.size, 1, none⟩ = some (.func (.func 73) #[] #[]) := cell_of_row _ _ 1 _ _ _ hrow.out
                have hK3 : (W.drewN m).cell? ⟨0, i, none⟩ = some (.int .u32 (Md.K.getD i 0 : Nat)) := hK1.out.below hBW hK1.out.pos i (by omega)
                have hx3 : (W.drewN m).cell? ⟨w.heap.size + 1 + 1, wd 0 i, none⟩ = some (.int .u32 (X l (wd 0 i) : Nat)) := by
                  rw [World.cell?_drewN, hBW.cell (by simpa using hsz), cell_of_row _ _ _ _ _ _ hX.out, FX_get l 64 _ hw, xk_end l _ hw]
                have hr3 : (W.drewN m).cell? ⟨wr.heap.size, 2 + i % 4, none⟩ = some (.int .i64 ((R.getD 0 []).getD (i % 4) 0 : Nat)) := by
                  rw [World.cell?_drewN, cell_of_row _ _ _ _ _ _ hrow.out]
                  have : ∀ j : Fin 4, (#[.func (.func 72) #[] #[], .func (.func 73) #[] #[], .int .i64 7, .int .i64 12, .int .i64 17, .int .i64 22] : Array Value)[2 + j.val]? = some (.int .i64 ((R.getD 0 []).getD j.val 0 : Nat)) := by
                    intro j; match j with
                    | 0 => rfl
                    | 1 => rfl
                    | 2 => rfl
                    | 3 => rfl
                  exact this ⟨i % 4, by omega⟩
                obtain ⟨Wm, hWm⟩ : ∃ Wm, W.drewN m = Wm := ⟨_, rfl⟩
                rw [hWm] at c0 c1 hK3 hx3 hr3 ⊢
                have HWm := Lib.hid hWm
                clear hWm
                have hst1 := steps_succ (X l) ⟨a, b, c, d⟩ i
                generalize steps (X l) ⟨a, b, c, d⟩ i = t at *
                obtain ⟨ta, tb, tc, td⟩ := t
                obtain ⟨hta, htb, htc, htd⟩ := hok
                have hrr := rr_lt 0 (i % 4)
                have hS := sum_eq (X l) ⟨ta, tb, tc, td⟩ i 0 (by omega)
                rw [step_eq (X l) ⟨ta, tb, tc, td⟩ i 0 (by omega)] at hst1
                generalize (R.getD 0 []).getD (i % 4) 0 = rr at *
                generalize Md.K.getD i 0 = kk at *
                generalize X l (wd 0 i) = xx at *
                have hsl : sumOf (X l) ⟨ta, tb, tc, td⟩ i < 4294967296 := Nat.mod_lt _ (by decide)
                generalize sumOf (X l) ⟨ta, tb, tc, td⟩ i = sm at *
                have Hst1 := Lib.hid hst1
                have HS := Lib.hid hS
                clear hst1 hS
                go_wp2_with fail
                go_quiet ((first | (go_at_call 72; exact quiet_same (r1_any tb tc td htb htc htd _)) | (go_at_call 73; exact quiet_same (w1_any i (by omega) _))))
                go_wp2_with fail
                rw [HS.out]
                refine (rot_any sm rr hsl hrr _).mono ?_
                rintro e w2 ⟨rfl, rfl⟩
                go_wp2_with fail
                go_roundw
                case rel => exact ⟨i + 1, m + nq, by omega, by omega, by go_num, by rw [← HWm.out, World.drewN_drewN], by rw [Hst1.out], by rw [Hst1.out]; exact int_eq (by simp), by rw [Hst1.out], by rw [Hst1.out]⟩
                case measure => simp [intOf]; omega
              · obtain rfl : i = 16 := by omega
                clear hlt
                go_wp2_with fail
                go_roundw
                case rel => exact ⟨1, by omega, by omega, rfl, below_drewN hBW _, rfl, rfl, rfl, rfl⟩
                case measure => simp [intOf]
          · as_aux_lemma =>
            have i0 := idx1
            obtain ⟨st, hst⟩ : ∃ st, steps (X l) ⟨a, b, c, d⟩ (16 * (1 : Int).toNat) = st := ⟨_, rfl⟩
            rw [hst]
            have Hst := Lib.hid hst
            clear hst hlt hn0 hn
            go_wp2_with fail
            obtain ⟨W, hWe⟩ : ∃ W, W = wr.alloc (.cells #[.func (.func 74) #[] #[], .func (.func 75) #[] #[], .int .i64 5, .int .i64 9, .int .i64 14, .int .i64 20] 105) := ⟨_, rfl⟩
            have hBW : Below w1.heap.size w1 W := hWe ▸ hB2.alloc hB2.size _
            have hrow : Hid (W.heap[wr.heap.size]? = some (.cells #[.func (.func 74) #[] #[], .func (.func 75) #[] #[], .int .i64 5, .int .i64 9, .int .i64 14, .int .i64 20] 105 (0, 0))) := Lib.hid (hWe ▸ heap_alloc_at _ _ _ rfl)
            rw [← hWe]
            clear hWe i0
            go_loopw [7, 8, 9, 10, 13] (fun x7 x8 x9 x10 x13 wi => ∃ i m : Nat, 16 ≤ i ∧ i ≤ 32 ∧ x13 = .int .i64 i ∧ wi = W.drewN m ∧
              x7 = .int .u32 (steps (X l) ⟨a, b, c, d⟩ i).a ∧ x8 = .int .u32 (steps (X l) ⟨a, b, c, d⟩ i).b ∧ x9 = .int .u32 (steps (X l) ⟨a, b, c, d⟩ i).c ∧ x10 = .int .u32 (steps (X l) ⟨a, b, c, d⟩ i).d) (fun _ _ _ _ i _ => 32 - (intOf i).toNat)
            case atStart => exact ⟨16, 0, by omega, by omega, rfl, rfl, by rw [← Hst.out]; rfl, by rw [← Hst.out]; rfl, by rw [← Hst.out]; rfl, by rw [← Hst.out]; rfl⟩
            case round =>
              obtain ⟨i, m, hi0, hi, rfl, rfl, rfl, rfl, rfl, rfl⟩ := hrel
              by_cases hlt : i < 32
              · have hw := wd_lt 1 i (by omega)
                have hok := steps_ok (X l) ⟨a, b, c, d⟩ OK.out i
                have c0 : (W.drewN m).cell? ⟨wr.heap.size, 0, none⟩ = some (.func (.func 74) #[] #[]) := cell_of_row _ _ 0 _ _ _ hrow.out
                have c1 : (W.drewN m).cell? ⟨wr.heap.size, 1, none⟩ = some (.func (.func 75) #[] #[]) := cell_of_row _ _ 1 _ _ _ hrow.out
                have hK3 : (W.drewN m).cell? ⟨0, i, none⟩ = some (.int .u32 (Md.K.getD i 0 : Nat)) := hK1.out.below hBW hK1.out.pos i (by omega)
                have hx3 : (W.drewN m).cell? ⟨w.heap.size + 1 + 1, wd 1 i, none⟩ = some (.int .u32 (X l (wd 1 i) : Nat)) := by
                  rw [World.cell?_drewN, hBW.cell (by simpa using hsz), cell_of_row _ _ _ _ _ _ hX.out, FX_get l 64 _ hw, xk_end l _ hw]
                have hr3 : (W.drewN m).cell? ⟨wr.heap.size, 2 + i % 4, none⟩ = some (.int .i64 ((R.getD 1 []).getD (i % 4) 0 : Nat)) := by
                  rw [World.cell?_drewN, cell_of_row _ _ _ _ _ _ hrow.out]
                  have : ∀ j : Fin 4, (#[.func (.func 74) #[] #[], .func (.func 75) #[] #[], .int .i64 5, .int .i64 9, .int .i64 14, .int .i64 20] : Array Value)[2 + j.val]? = some (.int .i64 ((R.getD 1 []).getD j.val 0 : Nat)) := by
                    intro j; match j with
                    | 0 => rfl
                    | 1 => rfl
                    | 2 => rfl
                    | 3 => rfl
                  exact this ⟨i % 4, by omega⟩
                obtain ⟨Wm, hWm⟩ : ∃ Wm, W.drewN m = Wm := ⟨_, rfl⟩
                rw [hWm] at c0 c1 hK3 hx3 hr3 ⊢
                have HWm := Lib.hid hWm
                clear hWm
                have hst1 := steps_succ (X l) ⟨a, b, c, d⟩ i
                generalize steps (X l) ⟨a, b, c, d⟩ i = t at *
                obtain ⟨ta, tb, tc, td⟩ := t
                obtain ⟨hta, htb, htc, htd⟩ := hok
                have hrr := rr_lt 1 (i % 4)
                have hS := sum_eq (X l) ⟨ta, tb, tc, td⟩ i 1 (by omega)
                rw [step_eq (X l) ⟨ta, tb, tc, td⟩ i 1 (by omega)] at hst1
                generalize (R.getD 1 []).getD (i % 4) 0 = rr at *
                generalize Md.K.getD i 0 = kk at *
                generalize X l (wd 1 i) = xx at *
                have hsl : sumOf (X l) ⟨ta, tb, tc, td⟩ i < 4294967296 := Nat.mod_lt _ (by decide)
                generalize sumOf (X l) ⟨ta, tb, tc, td⟩ i = sm at *
                have Hst1 := Lib.hid hst1
                have HS := Lib.hid hS
                clear hst1 hS
                go_wp2_with fail
                go_quiet ((first | (go_at_call 74; exact quiet_same (r2_any tb tc td htb htc htd _)) | (go_at_call 75; exact quiet_same (w2_any i (by omega) _))))
                go_wp2_with fail
                rw [HS.out]
                refine (rot_any sm rr hsl hrr _).mono ?_
                rintro e w2 ⟨rfl, rfl⟩
                go_wp2_with fail
                go_roundw
                case rel => exact ⟨i + 1, m + nq, by omega, by omega, by go_num, by rw [← HWm.out, World.drewN_drewN], by rw [Hst1.out], by rw [Hst1.out]; exact int_eq (by simp), by rw [Hst1.out], by rw [Hst1.out]⟩
                case measure => simp [intOf]; omega
              · obtain rfl : i = 32 := by omega
                clear hlt
                go_wp2_with fail
                go_roundw
                case rel => exact ⟨2, by omega, by omega, rfl, below_drewN hBW _, rfl, rfl, rfl, rfl⟩
                case measure => simp [intOf]
          · as_aux_lemma =>
            have i0 := idx2
            obtain ⟨st, hst⟩ : ∃ st, steps (X l) ⟨a, b, c, d⟩ (16 * (2 : Int).toNat) = st := ⟨_, rfl⟩
            rw [hst]
            have Hst := Lib.hid hst
            clear hst hlt hn0 hn
            go_wp2_with fail
            obtain ⟨W, hWe⟩ : ∃ W, W = wr.alloc (.cells #[.func (.func 76) #[] #[], .func (.func 77) #[] #[], .int .i64 4, .int .i64 11, .int .i64 16, .int .i64 23] 105) := ⟨_, rfl⟩
            have hBW : Below w1.heap.size w1 W := hWe ▸ hB2.alloc hB2.size _
            have hrow : Hid (W.heap[wr.heap.size]? = some (.cells #[.func (.func 76) #[] #[], .func (.func 77) #[] #[], .int .i64 4, .int .i64 11, .int .i64 16, .int .i64 23] 105 (0, 0))) := Lib.hid (hWe ▸ heap_alloc_at _ _ _ rfl)
            rw [← hWe]
            clear hWe i0
            go_loopw [7, 8, 9, 10, 13] (fun x7 x8 x9 x10 x13 wi => ∃ i m : Nat, 32 ≤ i ∧ i ≤ 48 ∧ x13 = .int .i64 i ∧ wi = W.drewN m ∧
              x7 = .int .u32 (steps (X l) ⟨a, b, c, d⟩ i).a ∧ x8 = .int .u32 (steps (X l) ⟨a, b, c, d⟩ i).b ∧ x9 = .int .u32 (steps (X l) ⟨a, b, c, d⟩ i).c ∧ x10 = .int .u32 (steps (X l) ⟨a, b, c, d⟩ i).d) (fun _ _ _ _ i _ => 48 - (intOf i).toNat)
            case atStart => exact ⟨32, 0, by omega, by omega, rfl, rfl, by rw [← Hst.out]; rfl, by rw [← Hst.out]; rfl, by rw [← Hst.out]; rfl, by rw [← Hst.out]; rfl⟩
            case round =>
              obtain ⟨i, m, hi0, hi, rfl, rfl, rfl, rfl, rfl, rfl⟩ := hrel
              by_cases hlt : i < 48
              · have hw := wd_lt 2 i (by omega)
                have hok := steps_ok (X l) ⟨a, b, c, d⟩ OK.out i
                have c0 : (W.drewN m).cell? ⟨wr.heap.size, 0, none⟩ = some (.func (.func 76) #[] #[]) := cell_of_row _ _ 0 _ _ _ hrow.out
                have c1 : (W.drewN m).cell? ⟨wr.heap.size, 1, none⟩ = some (.func (.func 77) #[] #[]) := cell_of_row _ _ 1 _ _ _ hrow.out
                have hK3 : (W.drewN m).cell? ⟨0, i, none⟩ = some (.int .u32 (Md.K.getD i 0 : Nat)) := hK1.out.below hBW hK1.out.pos i (by omega)
                have hx3 : (W.drewN m).cell? ⟨w.heap.size + 1 + 1, wd 2 i, none⟩ = some (.int .u32 (X l (wd 2 i) : Nat)) := by
                  rw [World.cell?_drewN, hBW.cell (by simpa using hsz), cell_of_row _ _ _ _ _ _ hX.out, FX_get l 64 _ hw, xk_end l _ hw]
                have hr3 : (W.drewN m).cell? ⟨wr.heap.size, 2 + i % 4, none⟩ = some (.int .i64 ((R.getD 2 []).getD (i % 4) 0 : Nat)) := by
                  rw [World.cell?_drewN, cell_of_row _ _ _ _ _ _ hrow.out]
                  have : ∀ j : Fin 4, (#[.func (.func 76) #[] #[], .func (.func 77) #[] #[], .int .i64 4, .int .i64 11, .int .i64 16, .int .i64 23] : Array Value)[2 + j.val]? = some (.int .i64 ((R.getD 2 []).getD j.val 0 : Nat)) := by
                    intro j; match j with
                    | 0 => rfl
                    | 1 => rfl
                    | 2 => rfl
                    | 3 => rfl
                  exact this ⟨i % 4, by omega⟩
                obtain ⟨Wm, hWm⟩ : ∃ Wm, W.drewN m = Wm := ⟨_, rfl⟩
                rw [hWm] at c0 c1 hK3 hx3 hr3 ⊢
                have HWm := Lib.hid hWm
                clear hWm
                have hst1 := steps_succ (X l) ⟨a, b, c, d⟩ i
                generalize steps (X l) ⟨a, b, c, d⟩ i = t at *
                obtain ⟨ta, tb, tc, td⟩ := t
                obtain ⟨hta, htb, htc, htd⟩ := hok
                have hrr := rr_lt 2 (i % 4)
                have hS := sum_eq (X l) ⟨ta, tb, tc, td⟩ i 2 (by omega)
                rw [step_eq (X l) ⟨ta, tb, tc, td⟩ i 2 (by omega)] at hst1
                generalize (R.getD 2 []).getD (i % 4) 0 = rr at *
                generalize Md.K.getD i 0 = kk at *
                generalize X l (wd 2 i) = xx at *
                have hsl : sumOf (X l) ⟨ta, tb, tc, td⟩ i < 4294967296 := Nat.mod_lt _ (by decide)
                generalize sumOf (X l) ⟨ta, tb, tc, td⟩ i = sm at *
                have Hst1 := Lib.hid hst1
                have HS := Lib.hid hS
                clear hst1 hS
                go_wp2_with fail
                go_quiet ((first | (go_at_call 76; exact quiet_same (r3_any tb tc td htb htc htd _)) | (go_at_call 77; exact quiet_same (w3_any i (by omega) _))))
                go_wp2_with fail
                rw [HS.out]
                refine (rot_any sm rr hsl hrr _).mono ?_
                rintro e w2 ⟨rfl, rfl⟩
                go_wp2_with fail
                go_roundw
                case rel => exact ⟨i + 1, m + nq, by omega, by omega, by go_num, by rw [← HWm.out, World.drewN_drewN], by rw [Hst1.out], by rw [Hst1.out]; exact int_eq (by simp), by rw [Hst1.out], by rw [Hst1.out]⟩
                case measure => simp [intOf]; omega
              · obtain rfl : i = 48 := by omega
                clear hlt
                go_wp2_with fail
                go_roundw
                case rel => exact ⟨3, by omega, by omega, rfl, below_drewN hBW _, rfl, rfl, rfl, rfl⟩
                case measure => simp [intOf]
          · as_aux_lemma =>
            have i0 := idx3
            obtain ⟨st, hst⟩ : ∃ st, steps (X l) ⟨a, b, c, d⟩ (16 * (3 : Int).toNat) = st := ⟨_, rfl⟩
            rw [hst]
            have Hst := Lib.hid hst
            clear hst hlt hn0 hn
            go_wp2_with fail
            obtain ⟨W, hWe⟩ : ∃ W, W = wr.alloc (.cells #[.func (.func 78) #[] #[], .func (.func 79) #[] #[], .int .i64 6, .int .i64 10, .int .i64 15, .int .i64 21] 105) := ⟨_, rfl⟩
            have hBW : Below w1.heap.size w1 W := hWe ▸ hB2.alloc hB2.size _
            have hrow : Hid (W.heap[wr.heap.size]? = some (.cells #[.func (.func 78) #[] #[], .func (.func 79) #[] #[], .int .i64 6, .int .i64 10, .int .i64 15, .int .i64 21] 105 (0, 0))) := Lib.hid (hWe ▸ heap_alloc_at _ _ _ rfl)
            rw [← hWe]
            clear hWe i0
            go_loopw [7, 8, 9, 10, 13] (fun x7 x8 x9 x10 x13 wi => ∃ i m : Nat, 48 ≤ i ∧ i ≤ 64 ∧ x13 = .int .i64 i ∧ wi = W.drewN m ∧
              x7 = .int .u32 (steps (X l) ⟨a, b, c, d⟩ i).a ∧ x8 = .int .u32 (steps (X l) ⟨a, b, c, d⟩ i).b ∧ x9 = .int .u32 (steps (X l) ⟨a, b, c, d⟩ i).c ∧ x10 = .int .u32 (steps (X l) ⟨a, b, c, d⟩ i).d) (fun _ _ _ _ i _ => 64 - (intOf i).toNat)
            case atStart => exact ⟨48, 0, by omega, by omega, rfl, rfl, by rw [← Hst.out]; rfl, by rw [← Hst.out]; rfl, by rw [← Hst.out]; rfl, by rw [← Hst.out]; rfl⟩
            case round =>
              obtain ⟨i, m, hi0, hi, rfl, rfl, rfl, rfl, rfl, rfl⟩ := hrel
              by_cases hlt : i < 64
              · have hw := wd_lt 3 i (by omega)
                have hok := steps_ok (X l) ⟨a, b, c, d⟩ OK.out i
                have c0 : (W.drewN m).cell? ⟨wr.heap.size, 0, none⟩ = some (.func (.func 78) #[] #[]) := cell_of_row _ _ 0 _ _ _ hrow.out
                have c1 : (W.drewN m).cell? ⟨wr.heap.size, 1, none⟩ = some (.func (.func 79) #[] #[]) := cell_of_row _ _ 1 _ _ _ hrow.out
                have hK3 : (W.drewN m).cell? ⟨0, i, none⟩ = some (.int .u32 (Md.K.getD i 0 : Nat)) := hK1.out.below hBW hK1.out.pos i (by omega)
                have hx3 : (W.drewN m).cell? ⟨w.heap.size + 1 + 1, wd 3 i, none⟩ = some (.int .u32 (X l (wd 3 i) : Nat)) := by
                  rw [World.cell?_drewN, hBW.cell (by simpa using hsz), cell_of_row _ _ _ _ _ _ hX.out, FX_get l 64 _ hw, xk_end l _ hw]
                have hr3 : (W.drewN m).cell? ⟨wr.heap.size, 2 + i % 4, none⟩ = some (.int .i64 ((R.getD 3 []).getD (i % 4) 0 : Nat)) := by
                  rw [World.cell?_drewN, cell_of_row _ _ _ _ _ _ hrow.out]
                  have : ∀ j : Fin 4, (#[.func (.func 78) #[] #[], .func (.func 79) #[] #[], .int .i64 6, .int .i64 10, .int .i64 15, .int .i64 21] : Array Value)[2 + j.val]? = some (.int .i64 ((R.getD 3 []).getD j.val 0 : Nat)) := by
                    intro j; match j with
                    | 0 => rfl
                    | 1 => rfl
                    | 2 => rfl
                    | 3 => rfl
                  exact this ⟨i % 4, by omega⟩
                obtain ⟨Wm, hWm⟩ : ∃ Wm, W.drewN m = Wm := ⟨_, rfl⟩
                rw [hWm] at c0 c1 hK3 hx3 hr3 ⊢
                have HWm := Lib.hid hWm
                clear hWm
                have hst1 := steps_succ (X l) ⟨a, b, c, d⟩ i
                generalize steps (X l) ⟨a, b, c, d⟩ i = t at *
                obtain ⟨ta, tb, tc, td⟩ := t
                obtain ⟨hta, htb, htc, htd⟩ := hok
                have hrr := rr_lt 3 (i % 4)
                have hS := sum_eq (X l) ⟨ta, tb, tc, td⟩ i 3 (by omega)
                rw [step_eq (X l) ⟨ta, tb, tc, td⟩ i 3 (by omega)] at hst1
                generalize (R.getD 3 []).getD (i % 4) 0 = rr at *
                generalize Md.K.getD i 0 = kk at *
                generalize X l (wd 3 i) = xx at *
                have hsl : sumOf (X l) ⟨ta, tb, tc, td⟩ i < 4294967296 := Nat.mod_lt _ (by decide)
                generalize sumOf (X l) ⟨ta, tb, tc, td⟩ i = sm at *
                have Hst1 := Lib.hid hst1
                have HS := Lib.hid hS
                clear hst1 hS
                go_wp2_with fail
                go_quiet ((first | (go_at_call 78; exact quiet_same (r4_any tb tc td htb htc htd _)) | (go_at_call 79; exact quiet_same (w4_any i (by omega) _))))
                go_wp2_with fail
                rw [HS.out]
                refine (rot_any sm rr hsl hrr _).mono ?_
                rintro e w2 ⟨rfl, rfl⟩
                go_wp2_with fail
                go_roundw
                case rel => exact ⟨i + 1, m + nq, by omega, by omega, by go_num, by rw [← HWm.out, World.drewN_drewN], by rw [Hst1.out], by rw [Hst1.out]; exact int_eq (by simp), by rw [Hst1.out], by rw [Hst1.out]⟩
                case measure => simp [intOf]; omega
              · obtain rfl : i = 64 := by omega
                clear hlt
                go_wp2_with fail
                go_roundw
                case rel => exact ⟨4, by omega, by omega, rfl, below_drewN hBW _, rfl, rfl, rfl, rfl⟩
                case measure => simp [intOf]
        · as_aux_lemma =>
          obtain rfl : n = 4 := by omega
          clear hlt hn0 hn
          have hB3 : ∀ j, wr.cell? ⟨w.heap.size, j, none⟩ = (#[.int .u32 a, .int .u32 b, .int .u32 c, .int .u32 d] : Array Value)[j]? := fun j => by
            rw [hB2.cell (by simp; omega), cell_of_row _ _ _ _ _ _ hW.out]
          have c0 := hB3 0
          have c1 := hB3 1
          have c2 := hB3 2
          have c3 := hB3 3
          simp at c0 c1 c2 c3
          have hrow : Hid (wr.heap[w.heap.size + 1]? = some (.cells #[.int .u32 0, .int .u32 0, .int .u32 0, .int .u32 0] 59 (0, 0))) := Lib.hid ((hB2.block _ (by omega)).trans hE.out)
          clear hB3
          have hfin : blk ⟨a, b, c, d⟩ l = add4 ⟨a, b, c, d⟩ (steps (X l) ⟨a, b, c, d⟩ (16 * (4 : Int).toNat)) := rfl
          generalize steps (X l) ⟨a, b, c, d⟩ (16 * (4 : Int).toNat) = st at *
          have Hfin := Lib.hid hfin
          clear hfin
          go_wp2_with (refine wpList_store_row rfl 59 _ _ rfl (w.heap.size + 1) #[.int .u32 (((a : Int) + st.a) % 4294967296), .int .u32 (((b : Int) + st.b) % 4294967296), .int .u32 (((c : Int) + st.c) % 4294967296), .int .u32 (((d : Int) + st.d) % 4294967296)] rfl rfl 59 _ hrow.out 4 (by kernel_rfl) rfl rfl rfl ?_)
          refine bodyPost_ret (v := .agg #[.int .u32 (blk ⟨a, b, c, d⟩ l).a, .int .u32 (blk ⟨a, b, c, d⟩ l).b, .int .u32 (blk ⟨a, b, c, d⟩ l).c, .int .u32 (blk ⟨a, b, c, d⟩ l).d]) ?_ rfl ⟨by rw [Hl.out], ?_⟩
          · rw [Hfin.out]
            refine (results_cell_row rfl _ _ (w.heap.size + 1) 59 _ (0, 0) (.array 4 57) rfl (setRow_heap _ _ _ _ _ _ hrow.out) Tryd.underlying59 rfl (by kernel_rfl)).trans ?_
            simp [add4]
          · exact below_setRow (hBB.trans (hB2.mono (by omega))) (by omega) _
end Go.Proofs.YtfhddcjepgjfnaaDoor
