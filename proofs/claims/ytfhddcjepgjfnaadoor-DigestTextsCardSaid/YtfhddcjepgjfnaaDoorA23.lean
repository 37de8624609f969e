/- Walks: the reference's Unhex. -/
import Derived.Test.YtfhddcjepgjfnaaDoorA20
import Derived.Test.YtfhddcjepgjfnaaDoorA12
namespace Go.Proofs.YtfhddcjepgjfnaaDoor
open Go.RowKit Md

/-- The number of a digit, -1 if it is none. -/
def dI (c : Nat) : Int := if nib c < 16 then (nib c : Int) else -1
theorem digitI_any (c : Nat) (w : World) :
    Calls Tryd.prog 39 #[.int .u8 c] w fun e w' => e = .returned (.int .i64 (dI c)) ∧ w = w' := by
  by_cases h1 : 48 ≤ c ∧ c ≤ 57
  · have e : dI c = (c - 48 : Nat) := by unfold dI nib; rw [if_pos h1, if_pos (by omega)]
    rw [e]; exact digitI_num c h1.1 h1.2 w
  by_cases h2 : 97 ≤ c ∧ c ≤ 102
  · have e : dI c = (c - 87 : Nat) := by unfold dI nib; rw [if_neg h1, if_pos h2, if_pos (by omega)]
    rw [e]; exact digitI_let c h2.1 h2.2 w
  · have e : dI c = -1 := by unfold dI nib; rw [if_neg h1, if_neg h2, if_neg (by omega)]
    rw [e]; exact digitI_none c h1 h2 w
theorem dI_neg (c : Nat) (h : ¬ nib c < 16) : dI c < 0 := by unfold dI; rw [if_neg h]; omega
theorem dI_pos (c : Nat) (h : nib c < 16) : dI c = nib c := by unfold dI; rw [if_pos h]
theorem str_at (t : ByteArray) (i : Int) (j : Nat) (hi : i = j) (h : j < t.size) (W : World) :
    (Instr.index 9 (.string t) (.int .i64 i)).run Tryd.prog W = .ok (.int .u8 ((asc t.data.toList).getD j 0 : Nat)) W := by
  subst hi
  rw [run_index_string W 9 t .i64 _ Tryd.underlying9, dif_pos ⟨by omega, by omega⟩, asc_at t j h]
  rfl
theorem UB_get2 (l : List Nat) (k : Nat) (h : k < 16) : (UB l (2 * k))[k]? = some (.int .u8 0) := by
  have := UB_get l (2 * k) (by omega)
  rw [show 2 * k / 2 = k by omega] at this
  rw [this, old, if_pos (by omega)]; rfl
theorem UB_set2 (l : List Nat) (k : Nat) (h : k < 16) : (UB l (2 * k)).setIfInBounds k (.int .u8 (16 * nb l (2 * k) + nb l (2 * k + 1) : Nat)) = UB l (2 * (k + 1)) := by
  apply Array.ext_getElem?
  intro j
  simp only [UB, Array.getElem?_setIfInBounds, List.getElem?_toArray, List.getElem?_map, List.size_toArray, List.length_map, List.length_range]
  by_cases hj : k = j
  · subst hj
    simp only [if_true, h, List.getElem?_range h, Option.map_some]
    rw [if_pos (by omega)]
  · by_cases h16 : j < 16
    · have a1 : (2 * j + 1 < 2 * (k + 1)) ↔ (2 * j + 1 < 2 * k) := by omega
      have a2 : (2 * j < 2 * (k + 1)) ↔ (2 * j < 2 * k) := by omega
      have p1 := propext a1
      have p2 := propext a2
      rw [if_neg hj, List.getElem?_range h16]
      simp only [Option.map_some, p1, p2]
    · simp [hj, h16]

set_option maxRecDepth 100000 in
set_option maxHeartbeats 1000000 in
theorem unhexI_any (t : ByteArray) (ht : t.size ≤ 140737488355328) (w : World) :
    Calls Tryd.prog 16 #[.string t] w fun e w' => e = .returned (unhexRes (asc t.data.toList)) ∧ Below w.heap.size w w' := by
  obtain ⟨l, hl⟩ : ∃ l, asc t.data.toList = l := ⟨_, rfl⟩
  have hlen : l.length = t.size := hl ▸ asc_length t
  have hat : Hid (∀ (i : Int) (j : Nat) (_ : i = j) (_ : j < t.size) (W : World), (Instr.index 9 (.string t) (.int .i64 i)).run Tryd.prog W = .ok (.int .u8 (l.getD j 0 : Nat)) W) := Lib.hid (fun i j hi h W => by rw [← hl]; exact str_at t i j hi h W)
  rw [hl]
  clear hl
  have Hlen := Lib.hid hlen
  clear hlen
  have HR := Lib.hid (heap_alloc_at (w.alloc (.cells z16 28)) (.cells z16 28) (w.heap.size + 1) (by simp))
  have HE := Lib.hid ((heap_alloc_lt (w.alloc (.cells z16 28)) (.cells z16 28) w.heap.size (by simp)).trans (heap_alloc_at w (.cells z16 28) w.heap.size rfl))
  have HBw : Hid (Below w.heap.size w ((w.alloc (.cells z16 28)).alloc (.cells z16 28))) := Lib.hid (((Below.refl _ _).alloc (Nat.le_refl _) _).alloc (by simp) _)
  by_cases h32 : t.size = 32
  · have h32' : ((t.size : Int) != 32) = false := by simp [h32]
    have H32 := Lib.hid h32
    have h32a : 32 ≤ t.size := by omega
    clear h32
    go_enter Tryd.func16, Tryd.ntmps16
    go_wp2_with fail
    go_loopw [5, 6, 7] (fun x5 _ _ wr => ∃ k : Nat, k ≤ 16 ∧ x5 = .int .i64 k ∧ Below w.heap.size w wr ∧ wr.heap[w.heap.size]? = some (.cells z16 28 (0, 0)) ∧ wr.heap[w.heap.size + 1]? = some (.cells (UB l (2 * k)) 28 (0, 0)) ∧ digs l (2 * k)) (fun i _ _ _ => 16 - (intOf i).toNat)
    case atStart => exact ⟨0, by omega, rfl, HBw.out, HE.out, by rw [UB_zero]; exact HR.out, fun i hi => by omega⟩
    case round =>
      obtain ⟨k, hk, rfl, hB, hE, hU, hd⟩ := hrel
      have HB := Lib.hid hB
      have HE' := Lib.hid hE
      have HU := Lib.hid hU
      have HD := Lib.hid hd
      clear hB hE hU hd HE HR HBw
      by_cases hlt : k < 16
      · have hk1 : 2 * k < t.size := by omega
        have hk2 : 2 * k + 1 < t.size := by omega
        have hc : wr.cell? ⟨w.heap.size + 1, k, none⟩ = some (.int .u8 0) := (cell_of_row _ _ _ _ _ _ HU.out).trans (UB_get2 l k hlt)
        have hf : wr.frozen? ⟨w.heap.size + 1, k, none⟩ = false := frozen_of_row _ _ _ _ _ HU.out
        have s1 : IntKind.i64.wrap (2 * (k : Int)) = 2 * (k : Int) := IntWalk.i64_in _ (by omega)
        have s2 : IntKind.i64.wrap (2 * (k : Int) + 1) = 2 * (k : Int) + 1 := IntWalk.i64_in _ (by omega)
        have i1 := hat.out (2 * (k : Int)) (2 * k) (by omega) hk1
        have i2 := hat.out (2 * (k : Int) + 1) (2 * k + 1) (by omega) hk2
        obtain ⟨c1, hc1⟩ : ∃ c1, l.getD (2 * k) 0 = c1 := ⟨_, rfl⟩
        obtain ⟨c2, hc2⟩ : ∃ c2, l.getD (2 * k + 1) 0 = c2 := ⟨_, rfl⟩
        rw [hc1] at i1
        rw [hc2] at i2
        have Hc1 := Lib.hid hc1
        have Hc2 := Lib.hid hc2
        clear hc1 hc2
        by_cases h1 : nib c1 < 16
        · have p1 : 0 ≤ dI c1 := by rw [dI_pos _ h1]; omega
          have p1' : dI c1 ≤ 15 := by rw [dI_pos _ h1]; omega
          by_cases h2 : nib c2 < 16
          · have p2 : 0 ≤ dI c2 := by rw [dI_pos _ h2]; omega
            have p2' : dI c2 ≤ 15 := by rw [dI_pos _ h2]; omega
            have H1 := Lib.hid h1
            have H2 := Lib.hid h2
            clear h1 h2
            go_wp2_with fail
            go_quiet ((go_at_call 39; exact quiet_same (digitI_any _ _)))
            go_wp2_with fail
            go_roundw
            case rel =>
              refine ⟨k + 1, by omega, by go_num, (below_drewN HB.out _).setCell (by show _ ≤ w.heap.size + 1; omega) _, (Below.heap_setCell _ _ _ _ (by show w.heap.size ≠ w.heap.size + 1; omega)).trans HE'.out, ?_, ?_⟩
              · have hu : (wr.drewN nq).heap[w.heap.size + 1]? = some (.cells (UB l (2 * k)) 28 (0, 0)) := HU.out
                have := heap_setCell_same _ (w.heap.size + 1) k _ 28 (.int .u8 (16 * nb l (2 * k) + nb l (2 * k + 1) : Nat)) hu
                rw [UB_set2 l k hlt] at this
                rw [← this, nb, nb, Hc1.out, Hc2.out, dI_pos _ H1.out, dI_pos _ H2.out]
                simp
              · intro i hi
                by_cases e1 : i = 2 * k
                · rw [e1, Hc1.out]; exact H1.out
                by_cases e2 : i = 2 * k + 1
                · rw [e2, Hc2.out]; exact H2.out
                · exact HD.out i (by omega)
            case measure => simp [intOf]; omega
          · have p2 := dI_neg _ h2
            have H2 := Lib.hid h2
            clear h1 h2
            have HES : Hid (∀ n, (wr.drewN n).heap[w.heap.size]? = some (.cells z16 28 (0, 0))) := fun _ => HE'.out
            go_wp2_with fail
            go_quiet ((go_at_call 39; exact quiet_same (digitI_any _ _)))
            go_wp2_with ((with_reducible refine wpList_store_row rfl 28 _ _ rfl (w.heap.size) (z16) ?_ ?_ 28 _ (HES.out _) 16 ?_ ?_ ?_ ?_ ?_); (next => rfl); (next => rfl); (next => kernel_rfl); (next => rfl); (next => rfl); (next => rfl))
            exact bodyPost_ret (v := .tuple #[.agg z16, .int .i64 5]) (results_row2 rfl _ _ w.heap.size 28 z16 _ rfl (setRow_heap _ _ _ _ _ _ (HES.out _)) Tryd.underlying28 rfl 16 (by kernel_rfl) rfl (.int .i64 5) rfl) rfl ⟨by rw [unhexRes, if_neg (fun h => H2.out (Hc2.out ▸ h.2 (2 * k + 1) (by omega)))], below_setRow (below_drewN HB.out _) (Nat.le_refl _) _⟩
        · have p1 := dI_neg _ h1
          have H1 := Lib.hid h1
          clear h1
          have HES : Hid (∀ n, (wr.drewN n).heap[w.heap.size]? = some (.cells z16 28 (0, 0))) := fun _ => HE'.out
          go_wp2_with fail
          go_quiet ((go_at_call 39; exact quiet_same (digitI_any _ _)))
          go_wp2_with ((with_reducible refine wpList_store_row rfl 28 _ _ rfl (w.heap.size) (z16) ?_ ?_ 28 _ (HES.out _) 16 ?_ ?_ ?_ ?_ ?_); (next => rfl); (next => rfl); (next => kernel_rfl); (next => rfl); (next => rfl); (next => rfl))
          exact bodyPost_ret (v := .tuple #[.agg z16, .int .i64 5]) (results_row2 rfl _ _ w.heap.size 28 z16 _ rfl (setRow_heap _ _ _ _ _ _ (HES.out _)) Tryd.underlying28 rfl 16 (by kernel_rfl) rfl (.int .i64 5) rfl) rfl ⟨by rw [unhexRes, if_neg (fun h => H1.out (Hc1.out ▸ h.2 (2 * k) (by omega)))], below_setRow (below_drewN HB.out _) (Nat.le_refl _) _⟩
      · obtain rfl : k = 16 := by omega
        rw [UB_end] at HU
        clear hlt hk
        go_wp2_with (first | ((with_reducible refine wpList_load_whole rfl 28 _ rfl (w.heap.size + 1) ?_ 28 (ob (unhexL l)) _ HU.out Tryd.underlying28 ?_ 16 ?_ ?_ ?_); (next => rfl); (next => rfl); (next => kernel_rfl); (next => exact ob_size16 _ (unhexL_length l))) | ((with_reducible refine wpList_store_row rfl 28 _ _ rfl (w.heap.size) (ob (unhexL l)) ?_ ?_ 28 _ HE'.out 16 ?_ ?_ ?_ ?_ ?_); (next => rfl); (next => rfl); (next => kernel_rfl); (next => rfl); (next => exact ob_size16 _ (unhexL_length l)); (next => exact ob_one _)))
        exact bodyPost_ret (v := .tuple #[.agg (ob (unhexL l)), .int .i64 0]) (results_row2 rfl _ _ w.heap.size 28 _ _ rfl (setRow_heap _ _ _ _ _ _ HE'.out) Tryd.underlying28 rfl 16 (by kernel_rfl) (ob_size16 _ (unhexL_length l)) (.int .i64 0) rfl) rfl ⟨by rw [unhexRes, if_pos ⟨by rw [Hlen.out, H32.out], HD.out⟩], below_setRow HB.out (Nat.le_refl _) _⟩
  · have h32' : ((t.size : Int) != 32) = true := by simp; omega
    have H32 := Lib.hid h32
    clear h32
    go_enter Tryd.func16, Tryd.ntmps16
    go_wp2_with (first | ((with_reducible refine wpList_load_whole rfl 28 _ rfl (w.heap.size + 1) ?_ 28 z16 _ HR.out Tryd.underlying28 ?_ 16 ?_ ?_ ?_); (next => rfl); (next => rfl); (next => kernel_rfl); (next => rfl)) | ((with_reducible refine wpList_store_row rfl 28 _ _ rfl (w.heap.size) (z16) ?_ ?_ 28 _ HE.out 16 ?_ ?_ ?_ ?_ ?_); (next => rfl); (next => rfl); (next => kernel_rfl); (next => rfl); (next => rfl); (next => rfl)))
    exact bodyPost_ret (v := .tuple #[.agg z16, .int .i64 5]) (results_row2 rfl _ _ w.heap.size 28 z16 _ rfl (setRow_heap _ _ _ _ _ _ HE.out) Tryd.underlying28 rfl 16 (by kernel_rfl) rfl (.int .i64 5) rfl) rfl ⟨by rw [unhexRes, if_neg (by rw [Hlen.out]; exact fun h => H32.out h.1)], below_setRow HBw.out (Nat.le_refl _) _⟩
end Go.Proofs.YtfhddcjepgjfnaaDoor
