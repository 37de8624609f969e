/- Rk, part 0: short words -/
import Derived.Lib.Hide
namespace Go.Proofs.YtfminfgabiipjaaGreatDoor
theorem qN {n : Nat} : n ≤ n := Nat.le_refl n
theorem qH {p : Prop} (h : p) : RowKit.Hid p := Lib.hid h
theorem qA {a b : Prop} (h : a) (k : b) : a ∧ b := ⟨h, k⟩
theorem qB {B : Nat} {w : World} : RowKit.Below B w w := RowKit.Below.refl B w
theorem qG {α : Type} {xs : Array α} {i : Nat} {b : α} (h : xs[i]? = some b) : ∃ k : i < xs.size, xs[i] = b := Array.getElem?_eq_some_iff.1 h
end Go.Proofs.YtfminfgabiipjaaGreatDoor
