/- Walks: plain. -/
import Derived.Test.YtgjfhamophknfaaDoorB4
import Derived.Laws.RangeString
import Derived.Lib.OthersKept
namespace Go.Proofs.YtgjfhamophknfaaDoor
open Go.RowKit

theorem decode_big (s : ByteArray) (k : Nat) (h : k < s.size) (hb : 128 ≤ (s[k]'h).toNat) : 128 ≤ (Utf8.decode s k).1 ∧ (Utf8.decode s k).1 < 2147483648 := by
  have e : s.get! (k + 0) = s[k]'h := by
    show s.get! k = _
    simp [ByteArray.get!, getElem!_pos, h]
    rfl
  have hl := (s[k]'h).toNat_lt
  simp only [Utf8.decode, e]
  rw [if_neg (by omega)]
  split
  · split
    · simp only; omega
    · simp only [Utf8.runeError]; omega
  · split
    · split
      · rename_i h1
        simp only [Bool.and_eq_true, decide_eq_true_eq] at h1
        simp only; omega
      · simp only [Utf8.runeError]; omega
    · split
      · split
        · rename_i h1
          simp only [Bool.and_eq_true, decide_eq_true_eq] at h1
          simp only; omega
        · simp only [Utf8.runeError]; omega
      · simp only [Utf8.runeError]; omega
theorem below_iterAt {B : Nat} {a w : World} (h : Below B a w) {k : Nat} (hk : B ≤ k) (s : ByteArray) (p : Nat) : Below B a (w.iterAt k s p) :=
  h.trans ⟨rfl, rfl, rfl, by simp [World.iterAt], fun j hj => by
    simp only [World.iterAt, Array.getElem?_setIfInBounds]
    rw [if_neg (by omega)]⟩

set_option maxRecDepth 100000 in
set_option maxHeartbeats 1000000 in
theorem plain_any (s : ByteArray) (hs : s.size ≤ 140737488355328) (w : World) :
    Calls Tryd.prog 48 #[.string s] w fun e w' => e = .returned (.bool (prn (asc s.data.toList))) ∧ Below w.heap.size w w' := by
  obtain ⟨l, hl⟩ : ∃ l, asc s.data.toList = l := ⟨_, rfl⟩
  have hlen : l.length = s.size := hl ▸ asc_length s
  have hat : Hid (∀ k (h : k < s.size), s[k].toNat = l.getD k 0) := Lib.hid (fun k h => by rw [← hl]; exact (asc_at s k h).symm)
  rw [hl]
  have HL := Lib.hid hlen
  clear hl hlen
  go_enter Tryd.func48, Tryd.ntmps48
  go_wp2_with fail
  go_step3
  go_wp2_with fail
  go_step3
  go_wp2_with fail
  go_loopw [3, 5] (fun x3 _ W => ∃ k : Nat, k ≤ s.size ∧ x3 = .bool true ∧ W = w.iter s k ∧ ∀ j, j < k → 32 ≤ l.getD j 0 ∧ l.getD j 0 ≤ 126) (fun _ _ W => match W.heap[w.heap.size]? with | some (.stringIter _ p) => s.size - p | _ => 0)
  case atStart => exact ⟨0, by omega, rfl, rfl, fun j hj => by omega⟩
  case round =>
    obtain ⟨k, hk, rfl, rfl, hall⟩ := hrel
    have HA := Lib.hid hall
    have hBi : Below w.heap.size w (w.iter s k) := (Below.refl _ _).alloc (Nat.le_refl _) _
    clear hall
    by_cases hlt : k < s.size
    · have hc := hat.out k hlt
      have Hc := Lib.hid hc
      by_cases hb : s[k].toNat < 128
      · have hnx := fun ty => run_next_ascii (P := Tryd.prog) w s k ty hlt hb
        clear hc
        by_cases h1 : s[k].toNat < 32
        · go_wp2_with fail
          go_ret
          exact ⟨ret_eq (bool_eq (prn_no l k (by rw [HL.out]; exact hlt) (.inl (by rw [← Hc.out]; exact h1))).symm), (Below.refl _ _).alloc (Nat.le_refl _) _⟩
        · have h1' : 32 ≤ s[k].toNat := by omega
          by_cases h2 : 126 < s[k].toNat
          · clear h1
            go_wp2_with fail
            rw [Exit.noGoto_ret]; go_ret
            exact ⟨ret_eq (bool_eq (prn_no l k (by rw [HL.out]; exact hlt) (.inr (by rw [← Hc.out]; exact h2))).symm), (Below.refl _ _).alloc (Nat.le_refl _) _⟩
          · have h2' : s[k].toNat ≤ 126 := by omega
            clear h1 h2
            go_wp2_with fail
            go_roundw
            case rel =>
              refine ⟨k + 1, by omega, rfl, rfl, fun j hj => ?_⟩
              by_cases hjk : j = k
              · rw [hjk, ← Hc.out]; exact ⟨h1', h2'⟩
              · exact HA.out j (by omega)
            case measure =>
              rw [World.iter_heap, World.iter_heap]
              show s.size - (k + 1) < s.size - k
              omega
      · have hb' : 128 ≤ s[k].toNat := by omega
        have hd := decode_big s k hlt hb'
        have hnx := fun ty => Lib.run_next_any_at (P := Tryd.prog) (w.iter s k) w.heap.size s k ty (World.iter_heap w s k) hlt
        have hbw := below_iterAt hBi (Nat.le_refl _) s (k + (Utf8.decode s k).2)
        generalize (Utf8.decode s k).1 = r at *
        generalize (w.iter s k).iterAt w.heap.size s (k + (Utf8.decode s k).2) = W2 at *
        have hd1 : 128 ≤ r := hd.1
        have hd3 : ¬ ((r : Int) < 32) := by omega
        have hd4 : (126 : Int) < r := by omega
        have HBW := Lib.hid hbw
        clear hc hb hd hbw
        go_wp2_with fail
        go_ret
        exact ⟨ret_eq (bool_eq (prn_no l k (by rw [HL.out]; exact hlt) (.inr (by rw [← Hc.out]; omega))).symm), HBW.out⟩
    · obtain rfl : k = s.size := by omega
      have hnx := fun ty => run_next_end (P := Tryd.prog) w s s.size ty (by omega)
      clear hlt hk
      go_wp2_with fail
      rw [Exit.noGoto_ret]; go_ret
      exact ⟨ret_eq (bool_eq (prn_yes l (fun k hk => HA.out k (by rw [← HL.out]; exact hk))).symm), (Below.refl _ _).alloc (Nat.le_refl _) _⟩
end Go.Proofs.YtgjfhamophknfaaDoor
