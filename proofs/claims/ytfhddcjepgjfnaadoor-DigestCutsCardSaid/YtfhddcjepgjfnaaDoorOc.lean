/- A slice of octets that came in. -/
import Derived.Test.YtfhddcjepgjfnaaDoorL0
namespace Go.Proofs.YtfhddcjepgjfnaaDoor
open Go.ChangeShapes Go.WideShapes Go.ChangeAt Go.RowKit

set_option maxRecDepth 100000 in
theorem open_octs {H : Type} {enc : TypeId × Value → H} {w : World} {r : Reach} {b0 : Nat} {sp : Nat → Bool} {held : Bool} {v : Value} {d : DataW H} {p : List MemPlace} (hv : Value.okWide Tryd.prog w r b0 34 v) (h : DataW.Trod enc Tryd.prog w 0 sp held 34 v d p) :
    ∃ (ad : Option Addr) (len cap : Nat), v = .slice ad len cap ∧ len ≤ cap ∧ cap ≤ maxLen ∧ (ad = none → cap = 0) ∧
      (len = 0 ∨ ∃ (b off : Nat) (c : Nat → Nat), ad = some ⟨b, off, none⟩ ∧ b < w.heap.size ∧ ∀ i, i < len → c i < 256 ∧ w.cell? ⟨b, off + i, none⟩ = some (.int .u8 (c i : Nat))) := by
  obtain ⟨ad, len, cap, rfl⟩ := okWide_slice Tryd.underlying34 hv
  obtain ⟨fuel, hf⟩ := h
  rcases open_ints Tryd.underlying34 Tryd.underlying5 (by kernel_rfl) hf with ⟨hcs, _⟩ | ⟨x, le, c, zs, hcs, _, hl, hm, hz, _, hcell, hwz⟩
  · simp [Value.cells] at hcs
    obtain ⟨rfl, rfl, rfl⟩ := hcs
    exact ⟨none, 0, 0, rfl, by omega, by omega, fun _ => rfl, .inl rfl⟩
  · simp [Value.cells] at hcs
    obtain ⟨rfl, rfl, rfl⟩ := hcs
    refine ⟨some x, len, cap, rfl, hl, hm, (fun h => nomatch h), ?_⟩
    by_cases h0 : len = 0
    · exact .inl h0
    · right
      have hzl : len ≤ zs.length := by rw [hz]; split <;> omega
      obtain ⟨b, off, spot⟩ := x
      have hc := hcell 0 (by omega)
      have hspot : spot = none := by simpa [Addr.add] using World.cell?_spot hc
      subst hspot
      have hadd : ∀ i, (⟨b, off, none⟩ : Addr).add i = ⟨b, off + i, none⟩ := fun i => Addr.add_mid b off i
      rw [hadd] at hc
      refine ⟨b, off, fun i => (zs.getD i 0).toNat, rfl, World.block_lt_of_cell? w _ hc, fun i hi => ?_⟩
      have hci := hcell i (by omega)
      rw [hadd] at hci
      have hmem : zs.getD i 0 ∈ zs := by
        have e : zs.getD i 0 = zs[i]'(by omega) := by simp [List.getD, show i < zs.length by omega]
        rw [e]; exact List.getElem_mem _
      obtain ⟨k, hk, hk2⟩ := wf_u8 (hwz _ hmem)
      rw [hk] at hci
      refine ⟨?_, ?_⟩
      · show (zs.getD i 0).toNat < 256
        rw [hk]; simpa using hk2
      · rw [hci]
        show some (Value.int .u8 (k : Int)) = some (.int .u8 ((zs.getD i 0).toNat : Int))
        rw [hk]; simp
theorem Tryd.laidOut : laidOutB Tryd.prog = true := by kernel_rfl
end Go.Proofs.YtfhddcjepgjfnaaDoor
