/- Walks: gathered, number. -/
import Derived.Test.YtgjfhamophknfaaDoorB1
import Derived.Test.YtgjfhamophknfaaDoorBits
import Derived.Lib.LazyBuf
namespace Go.Proofs.YtgjfhamophknfaaDoor
open Go.RowKit

def asc (l : List UInt8) : List Nat := l.map (·.toNat)
/-- The number of the first k octets, the most significant one first. -/
def num (l : List Nat) : Nat → Nat
  | 0 => 0
  | k+1 => num l k * 256 + l.getD k 0
theorem num_lt (l : List Nat) (h : ∀ i, l.getD i 0 < 256) : ∀ k, num l k < 256 ^ k
  | 0 => by simp [num]
  | k+1 => by
    have h1 := num_lt l h k
    have h2 := h k
    rw [num, Nat.pow_succ]; omega
theorem or8 (v o : Nat) (hv : v < 16777216) (ho : o < 256) : bits .or .i64 ((v : Int) * 256) (o : Int) = ((v * 256 + o : Nat) : Int) := by
  have e : ((v : Int) * 256) = ((v * 256 : Nat) : Int) := by simp
  rw [e, or64 (by omega) (by omega)]
  congr 1
  rw [Nat.mul_comm v 256]
  exact (Nat.two_pow_add_eq_or_of_lt (i := 8) (b := o) ho v).symm

set_option maxRecDepth 100000 in
set_option maxHeartbeats 1000000 in
theorem gathered_any (q0 q1 q2 q3 : Nat) (n : Nat) (hn : n ≤ 4) (hq : ∀ i, [q0, q1, q2, q3].getD i 0 < 256) (w : World) :
    Calls Tryd.prog 60 #[.agg #[.int .u8 q0, .int .u8 q1, .int .u8 q2, .int .u8 q3], .int .i64 n] w fun e w' => e = .returned (.int .i64 (num [q0, q1, q2, q3] n : Nat)) ∧ Below w.heap.size w w' := by
  have I0 := Lib.hid ((Iv.start w).new (#[.int .u8 q0, .int .u8 q1, .int .u8 q2, .int .u8 q3]) 80)
  have harr : (n : Int) ≤ Tryd.prog.arrayLen 80 := by rw [show Tryd.prog.arrayLen 80 = 4 by kernel_rfl]; omega
  have hn4 : (n : Int) ≤ 4 := by omega
  have hn0 : (0 : Int) ≤ n := by omega
  have Hq := Lib.hid hq
  have hcell : Hid (∀ i, i < 4 → (w.alloc (.cells #[.int .u8 q0, .int .u8 q1, .int .u8 q2, .int .u8 q3] 80)).cell? ⟨w.heap.size, i, none⟩ = some (.int .u8 ([q0, q1, q2, q3].getD i 0 : Nat))) := Lib.hid (fun i hi => I0.out.cell 0 rfl i (by
    match i, hi with
    | 0, _ => rfl
    | 1, _ => rfl
    | 2, _ => rfl
    | 3, _ => rfl))
  generalize hl : [q0, q1, q2, q3] = l at *
  clear hl hq
  go_enter Tryd.func60, Tryd.ntmps60
  go_wp2_with fail
  go_loop [5, 7, 11] (fun x5 _ x11 => ∃ k : Nat, k ≤ n ∧ x11 = .int .i64 k ∧ x5 = .int .i64 (num l k : Nat)) (fun _ _ x11 => n - (intOf x11).toNat)
  case atStart => exact ⟨0, by omega, rfl, rfl⟩
  case round =>
    obtain ⟨k, hk, rfl, rfl⟩ := hrel
    by_cases hlt : k < n
    · have hc := hcell.out k (by omega)
      have ho := Hq.out k
      have hv := num_lt l Hq.out k
      have hs : num l (k + 1) = num l k * 256 + l.getD k 0 := rfl
      have Hs := Lib.hid hs
      generalize l.getD k 0 = o at *
      generalize num l k = v at *
      have hv2 : v < 16777216 := Nat.lt_of_lt_of_le hv (Nat.pow_le_pow_right (n := 256) (by decide) (show k ≤ 3 by omega))
      clear hs hv
      go_wp2_with fail
      go_round
      case rel => exact ⟨k + 1, by omega, by go_num, by rw [Hs.out, or8 v o hv2 ho]⟩
      case measure => simp [intOf]; omega
    · obtain rfl : k = n := by omega
      clear hlt hk
      go_wp2_with fail
      go_ret
      exact ⟨rfl, I0.out.below⟩

/-- The number of n octets at a place, and the error. -/
def numS (s : ByteArray) (at' : Int) (n : Nat) : Nat := if partE s at' n = 0 then num (asc (partS s at' n).data.toList) n else 0
theorem asc_lt (s : List UInt8) (i : Nat) : (asc s).getD i 0 < 256 := by
  unfold asc
  rw [List.getD_eq_getElem?_getD, List.getElem?_map]
  cases h : s[i]? with
  | none => simp
  | some x => simpa using x.toNat_lt

set_option maxRecDepth 100000 in
set_option maxHeartbeats 1000000 in
theorem number_any (s : ByteArray) (at' : Int) (n : Nat) (hn : n = 1 ∨ n = 2 ∨ n = 4) (w : World) :
    Calls Tryd.prog 36 #[.string s, .int .i64 at', .int .i64 n] w fun e w' => e = .returned (.tuple #[.int .i64 (numS s at' n : Nat), .int .i64 (partE s at' n)]) ∧ Below w.heap.size w w' := by
  have hP := fun W => part_any s at' n W
  have hsz := partS_size s at' n
  unfold numS
  generalize partS s at' n = p at *
  generalize partE s at' n = c at *
  by_cases hc : c = 0
  · rw [if_pos hc]
    have hps : p.size = n := by have := (hsz hc).1; simpa using this
    subst hc
    have hcp := fun (W : World) (h1 : ∀ j, j < p.size → (W.cell? ⟨w.heap.size, 0 + j, none⟩).isSome = true) (h2 : ∀ j, j < p.size → W.frozen? ⟨w.heap.size, 0 + j, none⟩ = false) => run_copy_string (P := Tryd.prog) W 68 9 3 5 w.heap.size 0 4 4 p Tryd.underlying68 Tryd.sizeOf5 (by omega) h1 h2
    have I1 := (Iv.start w).new (#[.int .u8 0, .int .u8 0, .int .u8 0, .int .u8 0]) 80
    have hcp2 := hcp (w.alloc (.cells #[.int .u8 0, .int .u8 0, .int .u8 0, .int .u8 0] 80)) (fun j hj => by
      have : j < 4 := by omega
      rw [Nat.zero_add, cell_of_row _ _ _ _ _ _ (I1.get 0 rfl)]
      simp; omega) (fun j _ => by rw [Nat.zero_add]; exact I1.free 0 rfl j)
    have hpl : p.data.toList.length = n := hps
    have HP := Lib.hid hP
    clear hcp hP hsz I1 hps
    rcases hn with rfl | rfl | rfl
    · obtain ⟨x0, hx⟩ : ∃ x0 : UInt8, p.data.toList = [x0] := by
        match p.data.toList, hpl with
        | [x0], _ => exact ⟨x0, rfl⟩
      have hw : (w.alloc (.cells #[.int .u8 0, .int .u8 0, .int .u8 0, .int .u8 0] 80)).setCells w.heap.size 0 ([x0].map fun x => Value.int .u8 (x.toNat : Int)) = w.alloc (.cells #[.int .u8 (x0.toNat : Nat), .int .u8 0, .int .u8 0, .int .u8 0] 80) := by
        simp [World.setCells, go_sem]
      have hb : ∀ i, [x0.toNat, 0, 0, 0].getD i 0 < 256 := fun i => by
        match i with
        | 0 => exact x0.toNat_lt
        | 1 => exact (show 0 < 256 by omega)
        | 2 => exact (show 0 < 256 by omega)
        | 3 => exact (show 0 < 256 by omega)
        | i + 4 => exact (by simp)
      have hg := fun W => gathered_any (x0.toNat) (0) (0) (0) 1 (by omega) hb W
      have he : num [x0.toNat, 0, 0, 0] 1 = num (asc p.data.toList) 1 := by rw [hx]; rfl
      rw [he] at hg
      rw [hx, hw] at hcp2
      obtain ⟨N, hN⟩ : ∃ N, num (asc p.data.toList) 1 = N := ⟨_, rfl⟩
      rw [hN] at hg
      rw [hN]
      have HG := Lib.hid hg
      have I2 := Lib.hid ((Iv.start w).new (#[.int .u8 (x0.toNat : Nat), .int .u8 0, .int .u8 0, .int .u8 0]) 80)
      clear hw hb he hx hN hg hpl
      go_enter Tryd.func36, Tryd.ntmps36
      go_wp2_with fail
      refine (HP.out _).mono ?_
      rintro e w1 ⟨rfl, rfl⟩
      go_wp2_with fail
      refine (HG.out _).mono ?_
      rintro e w2 ⟨rfl, hb2⟩
      have I3 := Lib.hid (I2.out.call hb2)
      clear hb2
      go_wp2_with fail
      go_ret2
      exact ⟨rfl, I3.out.below⟩
    · obtain ⟨x0, x1, hx⟩ : ∃ x0 x1 : UInt8, p.data.toList = [x0, x1] := by
        match p.data.toList, hpl with
        | [x0, x1], _ => exact ⟨x0, x1, rfl⟩
      have hw : (w.alloc (.cells #[.int .u8 0, .int .u8 0, .int .u8 0, .int .u8 0] 80)).setCells w.heap.size 0 ([x0, x1].map fun x => Value.int .u8 (x.toNat : Int)) = w.alloc (.cells #[.int .u8 (x0.toNat : Nat), .int .u8 (x1.toNat : Nat), .int .u8 0, .int .u8 0] 80) := by
        simp [World.setCells, go_sem]
      have hb : ∀ i, [x0.toNat, x1.toNat, 0, 0].getD i 0 < 256 := fun i => by
        match i with
        | 0 => exact x0.toNat_lt
        | 1 => exact x1.toNat_lt
        | 2 => exact (show 0 < 256 by omega)
        | 3 => exact (show 0 < 256 by omega)
        | i + 4 => exact (by simp)
      have hg := fun W => gathered_any (x0.toNat) (x1.toNat) (0) (0) 2 (by omega) hb W
      have he : num [x0.toNat, x1.toNat, 0, 0] 2 = num (asc p.data.toList) 2 := by rw [hx]; rfl
      rw [he] at hg
      rw [hx, hw] at hcp2
      obtain ⟨N, hN⟩ : ∃ N, num (asc p.data.toList) 2 = N := ⟨_, rfl⟩
      rw [hN] at hg
      rw [hN]
      have HG := Lib.hid hg
      have I2 := Lib.hid ((Iv.start w).new (#[.int .u8 (x0.toNat : Nat), .int .u8 (x1.toNat : Nat), .int .u8 0, .int .u8 0]) 80)
      clear hw hb he hx hN hg hpl
      go_enter Tryd.func36, Tryd.ntmps36
      go_wp2_with fail
      refine (HP.out _).mono ?_
      rintro e w1 ⟨rfl, rfl⟩
      go_wp2_with fail
      refine (HG.out _).mono ?_
      rintro e w2 ⟨rfl, hb2⟩
      have I3 := Lib.hid (I2.out.call hb2)
      clear hb2
      go_wp2_with fail
      go_ret2
      exact ⟨rfl, I3.out.below⟩
    · obtain ⟨x0, x1, x2, x3, hx⟩ : ∃ x0 x1 x2 x3 : UInt8, p.data.toList = [x0, x1, x2, x3] := by
        match p.data.toList, hpl with
        | [x0, x1, x2, x3], _ => exact ⟨x0, x1, x2, x3, rfl⟩
      have hw : (w.alloc (.cells #[.int .u8 0, .int .u8 0, .int .u8 0, .int .u8 0] 80)).setCells w.heap.size 0 ([x0, x1, x2, x3].map fun x => Value.int .u8 (x.toNat : Int)) = w.alloc (.cells #[.int .u8 (x0.toNat : Nat), .int .u8 (x1.toNat : Nat), .int .u8 (x2.toNat : Nat), .int .u8 (x3.toNat : Nat)] 80) := by
        simp [World.setCells, go_sem]
      have hb : ∀ i, [x0.toNat, x1.toNat, x2.toNat, x3.toNat].getD i 0 < 256 := fun i => by
        match i with
        | 0 => exact x0.toNat_lt
        | 1 => exact x1.toNat_lt
        | 2 => exact x2.toNat_lt
        | 3 => exact x3.toNat_lt
        | i + 4 => exact (by simp)
      have hg := fun W => gathered_any (x0.toNat) (x1.toNat) (x2.toNat) (x3.toNat) 4 (by omega) hb W
      have he : num [x0.toNat, x1.toNat, x2.toNat, x3.toNat] 4 = num (asc p.data.toList) 4 := by rw [hx]; rfl
      rw [he] at hg
      rw [hx, hw] at hcp2
      obtain ⟨N, hN⟩ : ∃ N, num (asc p.data.toList) 4 = N := ⟨_, rfl⟩
      rw [hN] at hg
      rw [hN]
      have HG := Lib.hid hg
      have I2 := Lib.hid ((Iv.start w).new (#[.int .u8 (x0.toNat : Nat), .int .u8 (x1.toNat : Nat), .int .u8 (x2.toNat : Nat), .int .u8 (x3.toNat : Nat)]) 80)
      clear hw hb he hx hN hg hpl
      go_enter Tryd.func36, Tryd.ntmps36
      go_wp2_with fail
      refine (HP.out _).mono ?_
      rintro e w1 ⟨rfl, rfl⟩
      go_wp2_with fail
      refine (HG.out _).mono ?_
      rintro e w2 ⟨rfl, hb2⟩
      have I3 := Lib.hid (I2.out.call hb2)
      clear hb2
      go_wp2_with fail
      go_ret2
      exact ⟨rfl, I3.out.below⟩
  · rw [if_neg hc]
    have hc' : (c != 0) = true := by simp [hc]
    have HP := Lib.hid hP
    clear hP hsz hc
    go_enter Tryd.func36, Tryd.ntmps36
    go_wp2_with fail
    refine (HP.out _).mono ?_
    rintro e w1 ⟨rfl, rfl⟩
    go_wp2_with fail
    go_ret2
    exact ⟨rfl, Below.refl _ _⟩
end Go.Proofs.YtgjfhamophknfaaDoor
