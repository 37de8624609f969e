/- Walks: zeros and octets of the reference. -/
import Derived.Test.YtgjfhamophknfaaDoorB5
import Derived.OwnWalk
import Derived.Laws.OwnMore
namespace Go.Proofs.YtgjfhamophknfaaDoor
open Go.RowKit

theorem info5 : (Tryd.prog.info? 5).map (fun i => (i.zero, i.size, i.bytes)) = some (some (.int .u8 0), 1, 1) := by kernel_rfl
/-- A row of zeros. -/
def zrow (n : Nat) : Array Value := madeCells (Value.int .u8 0).cells n
theorem make_bytes (n : Nat) (hn : n ≤ 1000000) (w : World) : (Instr.makeSlice 68 (.int .i64 n) (.int .i64 n)).run Tryd.prog w = .ok (.slice (some ⟨w.heap.size, 0, none⟩) n n) (w.alloc (.cells (zrow n) 5)) := by
  obtain ⟨i0, hi, hz0, hz1, hz2⟩ := info_parts info5
  have h := run_makeSlice (P := Tryd.prog) (w := w) 68 5 i0 (.int .u8 0) Tryd.underlying68 hi hz0 .i64 .i64 n n (by omega) (by omega) (by rw [hz1]; simp; omega) (by rw [hz2]; omega) (by omega)
  rw [hz1] at h
  simp only [Int.toNat_natCast, Nat.mul_one] at h
  exact h
theorem zrow_size (n : Nat) : (zrow n).size = n := size_madeCells _ _
theorem zrow_get (n j : Nat) (h : j < n) : (zrow n)[j]? = some (.int .u8 0) := by
  have e : (zrow n).toList = List.replicate n (Value.int .u8 0) := toList_madeCells_one _ _
  rw [← Array.getElem?_toList, e]
  simp [h]

set_option maxRecDepth 100000 in
set_option maxHeartbeats 1000000 in
theorem zeros_any (n : Nat) (hn : n ≤ 65536) (w : World) :
    Calls Tryd.prog 50 #[.int .i64 n] w fun e w' => e = .returned (.string ⟨(List.replicate n 0).toArray⟩) ∧ Below w.heap.size w w' := by
  have hmk := make_bytes n (by omega) w
  have I1 := (Iv.start w).new (zrow n) 5
  have hcv := run_convert_bytes_back (P := Tryd.prog) (w.alloc (.cells (zrow n) 5)) 68 9 5 ⟨w.heap.size, 0, none⟩ n (List.replicate n 0) Tryd.underlying68 Tryd.underlying5 Tryd.underlying9 (by
    intro j hj
    have hj' : j < n := by simpa using hj
    rw [Addr.add_mid, Nat.zero_add, cell_of_row _ _ _ _ _ _ (I1.get 0 rfl), zrow_get n j hj']
    simp)
  rw [List.length_replicate] at hcv
  have I2 := Lib.hid I1
  obtain ⟨q, hq⟩ : ∃ q : ByteArray, ⟨(List.replicate n 0).toArray⟩ = q := ⟨_, rfl⟩
  rw [hq] at hcv
  rw [hq]
  clear hq I1
  go_enter Tryd.func50, Tryd.ntmps50
  go_wp2_with fail
  go_ret
  exact ⟨rfl, I2.out.below⟩
/-- The n lowest octets of a number, the most significant one first. -/
def octs (x : Nat) : Nat → List Nat
  | 0 => []
  | n+1 => octs (x / 256) n ++ [x % 256]
theorem octs_length (x n : Nat) : (octs x n).length = n := by
  induction n generalizing x with
  | zero => rfl
  | succ n ih => simp [octs, ih]
theorem octs_lt (x n : Nat) : ∀ c ∈ octs x n, c < 256 := by
  induction n generalizing x with
  | zero => intro c hc; cases hc
  | succ n ih =>
    intro c hc
    rcases List.mem_append.1 hc with hc | hc
    · exact ih _ c hc
    · rw [List.mem_singleton.1 hc]; exact Nat.mod_lt _ (by decide)
/-- A text of octets. -/
def txtN (l : List Nat) : ByteArray := ⟨(l.map UInt8.ofNat).toArray⟩
/-- The row of n octets, those from the k-th on written. -/
def orow (x n k : Nat) : Array Value := ((List.range n).map fun j => Value.int .u8 (if k ≤ j then (octs x n).getD j 0 else 0 : Nat)).toArray
end Go.Proofs.YtgjfhamophknfaaDoor
