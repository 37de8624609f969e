/- Sixteen octets that came in, as a list of natural numbers. -/
import Derived.Test.YtfhddcjepgjfnaaDoorL0
import Derived.Test.YtfhddcjepgjfnaaDoorA5
namespace Go.Proofs.YtfhddcjepgjfnaaDoor
theorem ob_ofInts : ∀ (zs : List Int), (∀ z ∈ zs, (Lit.int .u8 z).wf = true) → ∃ l : List Nat, l.length = zs.length ∧ (∀ i, l.getD i 0 < 256) ∧ zs.map (Value.int .u8) = l.map fun n : Nat => Value.int .u8 (n : Int)
  | [], _ => ⟨[], rfl, fun i => by simp, rfl⟩
  | z :: zs, h => by
    obtain ⟨l, h1, h2, h3⟩ := ob_ofInts zs (fun x hx => h x (List.mem_cons_of_mem _ hx))
    obtain ⟨k, rfl, hk⟩ := wf_u8 (h z (List.mem_cons_self ..))
    refine ⟨k :: l, by simp [h1], fun i => ?_, by rw [List.map_cons, List.map_cons, h3]⟩
    cases i with
    | zero => exact hk
    | succ i => exact h2 i
end Go.Proofs.YtfhddcjepgjfnaaDoor
