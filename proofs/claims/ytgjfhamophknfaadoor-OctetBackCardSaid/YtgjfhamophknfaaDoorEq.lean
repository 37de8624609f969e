/- Equality of arrays of integers. No program in sight. -/
import Derived.Test.YtgjfhamophknfaaDoorKit
namespace Go.Proofs.YtgjfhamophknfaaDoor
open Go.RowKit
section
variable {P : Program}
theorem run_part_one {e : TypeId} (ha : ∀ w, (isAgg e).run P w = .ok false w) (cs : Array Value) (i : Nat) (v : Value) (h : cs[i]? = some v) (w : World) : (part e cs i).run P w = .ok v w := by
  simp [part, Sem.run_bind, ha, h]
/-- An element of an array by value, of one cell. -/
theorem run_index_one {t e : TypeId} {n : Nat} (ht : P.underlying t = some (.array n e)) (ha : ∀ w, (isAgg e).run P w = .ok false w) (hz : ∀ w, (sizeOf e).run P w = .ok 1 w)
    (cs : Array Value) (k : Nat) (v : Value) (hk : k < n) (h : cs[k]? = some v) (w : World) : (Instr.index t (.agg cs) (.int .i64 k)).run P w = .ok v w := by
  have h1 : (0 : Int) ≤ k ∧ (k : Int) < n := by omega
  simp only [Instr.index, asIntOf, Sem.run_bind, Sem.run_pure, Result.andThen_ok, run_underlying ht]
  rw [if_pos h1]
  simp only [Sem.run_bind, hz, Result.andThen_ok, Int.toNat_natCast, Nat.mul_one]
  exact run_part_one ha cs k v h w
/-- The loop of '==' over an array, whatever its body's text: it goes on while the elements are alike. -/
theorem run_eqLoop {β : Type} (f : Nat → β → Sem (ForInStep β)) (g : β → Sem Bool) (b0 b1 : β) (l m : List Int) (n : Nat) (hl : l.length = n) (hm : m.length = n)
    (hf : ∀ i b w, i < n → (f i b).run P w = .ok (if l[i]? == m[i]? then .yield b0 else .done b1) w) (h0 : ∀ w, (g b0).run P w = .ok true w) (h1 : ∀ w, (g b1).run P w = .ok false w) (w : World) :
    ∀ r s, s + r = n → ((Sem.run P (forIn (List.range' s r) b0 fun i b => f i b) w).andThen fun a w' => Sem.run P (g a) w') = .ok (l.drop s == m.drop s) w := by
  intro r
  induction r with
  | zero =>
    intro s hs
    have h1 : l.drop s = [] := List.drop_eq_nil_of_le (by omega)
    have h2 : m.drop s = [] := List.drop_eq_nil_of_le (by omega)
    simp [h1, h2, h0]
  | succ r ih =>
    intro s hs
    have hsl : s < l.length := by omega
    have hsm : s < m.length := by omega
    rw [List.range'_succ, List.forIn_cons]
    simp only [Sem.run_bind]
    rw [hf s b0 w (by omega)]
    simp only [Result.andThen_ok]
    rw [List.drop_eq_getElem_cons hsl, List.drop_eq_getElem_cons hsm, List.cons_beq_cons, List.getElem?_eq_getElem hsl, List.getElem?_eq_getElem hsm]
    by_cases h : l[s] = m[s]
    · have e : (some l[s] == some m[s]) = true := by simp [h]
      have e' : (l[s] == m[s]) = true := by simp [h]
      rw [e, e', Bool.true_and]
      exact ih (s + 1) (by omega)
    · have e : (some l[s] == some m[s]) = false := by simp [h]
      have e' : (l[s] == m[s]) = false := by simp [h]
      rw [e, e', Bool.false_and]
      simp [h1]
/-- '==' on two arrays of integers. -/
theorem run_equalIn_array {t e : TypeId} {n : Nat} {k k' : IntKind} (ht : P.underlying t = some (.array n e)) (he : P.underlying e = some (.int k')) (ha : ∀ w, (isAgg e).run P w = .ok false w) (hz : ∀ w, (sizeOf e).run P w = .ok 1 w)
    (d : Nat) (l m : List Int) (hl : l.length = n) (hm : m.length = n) (w : World) :
    (Op.equalIn (d + 2) t (.agg (l.map (Value.int k)).toArray) (.agg (m.map (Value.int k)).toArray)).run P w = .ok (l == m) w := by
  rw [Op.equalIn]
  simp only [Sem.run_bind, run_underlying ht, Result.andThen_ok, hz]
  simp only [Std.Legacy.Range.forIn_eq_forIn_range', Std.Legacy.Range.size, Nat.sub_zero, Nat.add_sub_cancel, Nat.div_one]
  refine (run_eqLoop _ _ _ (some false, ()) l m n hl hm ?_ ?_ ?_ w n 0 (by omega))
  · intro i b w hi
    have hsl : i < l.length := by omega
    have hsm : i < m.length := by omega
    simp only [Sem.run_bind, Nat.mul_one]
    rw [run_part_one ha _ i (.int k l[i]) (by simp [hsl])]
    simp only [Result.andThen_ok]
    rw [run_part_one ha _ i (.int k m[i]) (by simp [hsm])]
    simp only [Result.andThen_ok]
    rw [run_equalIn_int w d e k k' l[i] m[i] he]
    simp only [Result.andThen_ok]
    rw [List.getElem?_eq_getElem hsl, List.getElem?_eq_getElem hsm]
    by_cases h : l[i] = m[i]
    · simp [h]
    · have hb : (l[i] == m[i]) = false := by simpa using h
      simp [hb]
  · intro w; rfl
  · intro w; rfl
end
end Go.Proofs.YtgjfhamophknfaaDoor
