/- Aa, part 47: Tim -/
import Derived.Deep.RegionHeld3
import Derived.Test.YtfminfgabiipjaaGreatDoorAa0
import Derived.Test.YtfminfgabiipjaaGreatDoorAa19
import Derived.Test.YtfminfgabiipjaaGreatDoorAa28
import Derived.Test.YtfminfgabiipjaaGreatDoorAa42
set_option maxRecDepth 100000
set_option maxHeartbeats 16000000
namespace Go.Proofs.YtfminfgabiipjaaGreatDoor
open Go.RowKit
theorem qdm (q : Rat) : ∃ s t, ftxt q = (s, t) := ⟨_, _, rfl⟩
theorem qjA {p q : Rat} {p1 p2 q1 q2 z1 z2 : ByteArray} (hp : ftxt p = (p1, p2)) (hq : ftxt q = (q1, q2)) (hz : ftxt (p * q) = (z1, z2)) (sp : Short p) (sq : Short q) (sz : Short (p * q)) (w : World) (hT : HasT w) :
  Calls Tryz.prog 42 #[.agg #[.string p1, .string p2], .agg #[.string q1, .string q2]] w fun e w' => e = .returned (.tuple #[.agg #[.string z1, .string z2], .int .i64 0]) ∧ Below w.heap.size w w' := by
 have e1 : p1 = (ftxt p).1 := by rw [hp]
 have e2 : p2 = (ftxt p).2 := by rw [hp]
 have e3 : q1 = (ftxt q).1 := by rw [hq]
 have e4 : q2 = (ftxt q).2 := by rw [hq]
 have f1 : z1 = (ftxt (p * q)).1 := by rw [hz]
 have f2 : z2 = (ftxt (p * q)).2 := by rw [hz]
 subst e1 e2 e3 e4 f1 f2
 refine (fmul_any _ _ _ _ w hT).mono ?_
 rintro e w' ⟨⟨_, h⟩ | ⟨h, _⟩, hb⟩
 ·rw [qde, qde] at h
  rcases h with ⟨_, h⟩ | ⟨h, _⟩
  ·exact ⟨h, hb⟩
  ·exact absurd sz h
 ·exact absurd ⟨qeb sp, qeb sq⟩ h
theorem qjl {p q : Rat} {p1 p2 q1 q2 z1 z2 : ByteArray} (hp : ftxt p = (p1, p2)) (hq : ftxt q = (q1, q2)) (hz : ftxt (p + q) = (z1, z2)) (sp : Short p) (sq : Short q) (sz : Short (p + q)) (w : World) (hT : HasT w) :
  Calls Tryz.prog 41 #[.agg #[.string p1, .string p2], .agg #[.string q1, .string q2]] w fun e w' => e = .returned (.tuple #[.agg #[.string z1, .string z2], .int .i64 0]) ∧ Below w.heap.size w w' := by
 have e1 : p1 = (ftxt p).1 := by rw [hp]
 have e2 : p2 = (ftxt p).2 := by rw [hp]
 have e3 : q1 = (ftxt q).1 := by rw [hq]
 have e4 : q2 = (ftxt q).2 := by rw [hq]
 have f1 : z1 = (ftxt (p + q)).1 := by rw [hz]
 have f2 : z2 = (ftxt (p + q)).2 := by rw [hz]
 subst e1 e2 e3 e4 f1 f2
 refine (fadd_any _ _ _ _ w hT).mono ?_
 rintro e w' ⟨⟨_, h⟩ | ⟨h, _⟩, hb⟩
 ·rw [qde, qde] at h
  rcases h with ⟨_, h⟩ | ⟨h, _⟩
  ·exact ⟨h, hb⟩
  ·exact absurd sz h
 ·exact absurd ⟨qeb sp, qeb sq⟩ h
theorem qcL {W : World} {ao : Option Addr} {b off n : Nat} {x : Nat → Rat} {j : Nat} {x1 x2 : ByteArray} (hf : FCells W ao b off (told n x)) (hj : j < n) (hx : ftxt (x j) = (x1, x2)) : W.cell? ⟨b, off + j * 2, none⟩ = some (.string x1) ∧ W.cell? ⟨b, off + j * 2 + 1, none⟩ = some (.string x2) := by
 have h := hf.cell j (by rw [qb2]; exact hj)
 rw [qdP hj, hx] at h
 exact h
end Go.Proofs.YtfminfgabiipjaaGreatDoor
