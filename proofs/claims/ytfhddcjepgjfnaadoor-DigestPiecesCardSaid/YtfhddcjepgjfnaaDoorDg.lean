/- A digest in progress, and a change of one, that came in. -/
import Derived.Test.YtfhddcjepgjfnaaDoorL0
import Derived.Test.YtfhddcjepgjfnaaDoorArr
import Derived.Deep.Strs
namespace Go.Proofs.YtfhddcjepgjfnaaDoor
open Go.ChangeShapes Go.WideShapes Go.ChangeAt Go.RowKit

theorem arr_cells {H : Type} {enc : TypeId × Value → H} {P : Program} {w : World} {base : Nat} {sp : Nat → Bool} {held : Bool} {fuel : Nat} {t e : TypeId} {n : Nat} {k : IntKind} {cs : List Value} {d : DataW H} {p : List MemPlace} (ht : P.underlying t = some (.array n e)) (he : P.underlying e = some (.int k)) (hce : P.cellsOf e = 1)
    (hlen : cs.length = n) (hf' : DataW.trod enc P w base sp held fuel t cs = some (d, p)) :
    ∃ zs : List Int, cs = zs.map (Value.int k) ∧ zs.length = n ∧ p = [] := by
  obtain ⟨xs, m, _, hx, _, hn, hel⟩ := DataW.trod_array ht hf'
  have hcell : ∀ i, i < n → ∃ z, cs[i]? = some (Value.int k z) ∧ xs[i]? = some (.lit (.int k z), []) := fun i hi => by
    have h1 := hel i hi
    rw [hce, Nat.mul_one, List.drop_eq_getElem_cons (by omega)] at h1
    have hxi : xs[i]? = some xs[i] := List.getElem?_eq_getElem (by omega)
    rw [hxi] at h1
    obtain ⟨z, e1, e2, _⟩ := DataW.trod_int he h1
    have e5 : [cs[i]'(by omega)] = [Value.int k z] := e1
    have e4 : cs[i]'(by omega) = Value.int k z := (List.cons.inj e5).1
    exact ⟨z, by rw [List.getElem?_eq_getElem (by omega), e4], by rw [hxi, e2]⟩
  let f : Value → Int := fun v => match v with | .int _ z => z | _ => 0
  refine ⟨cs.map f, ?_, by rw [List.length_map]; exact hlen, ?_⟩
  · apply List.ext_getElem?
    intro i
    by_cases hi : i < n
    · obtain ⟨z, e1, _⟩ := hcell i hi
      rw [List.getElem?_map, List.getElem?_map, e1]; rfl
    · rw [List.getElem?_eq_none (by omega), List.getElem?_eq_none (by rw [List.length_map, List.length_map]; omega)]
  · simp only [Prod.mk.injEq] at hx
    rw [hx.2, List.flatMap_eq_nil_iff]
    intro x hxm
    obtain ⟨i, hi, rfl⟩ := List.getElem_of_mem hxm
    obtain ⟨z, _, e3⟩ := hcell i (by omega)
    rw [List.getElem?_eq_getElem hi] at e3
    rw [Option.some.inj e3]
set_option maxRecDepth 100000 in
theorem open_digest {H : Type} {enc : TypeId × Value → H} {w : World} {r : Reach} {b0 base : Nat} {sp : Nat → Bool} {held : Bool} {v : Value} {d : DataW H} {p : List MemPlace} (hv : Value.okWide Tryd.prog w r b0 41 v) (h : DataW.Trod enc Tryd.prog w base sp held 41 v d p) :
    ∃ (a b c e n : Int) (q : ByteArray) (d0 d1 : DataW H), v = .agg #[.int .i64 a, .int .i64 b, .int .i64 c, .int .i64 e, .int .i64 n, .string q] ∧ p = [] ∧ d = .agg [d0, d1, .lit (.string q.data.toList)] := by
  obtain ⟨cs, rfl, hsz⟩ := okWide_struct Tryd.underlying41 hv
  have h6 : cs.size = 6 := hsz.trans (by kernel_rfl)
  obtain ⟨fuel, hf⟩ := h
  have hf' : DataW.trod enc Tryd.prog w base sp held fuel 41 cs.toList = some (d, p) := hf
  obtain ⟨l⟩ := cs
  match l, h6, hf' with
  | [c0, c1, c2, c3, c4, c5], _, hf' =>
    obtain ⟨y0, y1, y2, n, hx, _, h0, h1, h2⟩ := Deep.trod_struct3 Tryd.underlying41 hf'
    have k39 : Tryd.prog.cellsOf 39 = 4 := by kernel_rfl
    have k3 : Tryd.prog.cellsOf 3 = 1 := by kernel_rfl
    have k9 : Tryd.prog.cellsOf 9 = 1 := by kernel_rfl
    have g0 : DataW.trod enc Tryd.prog w base sp held n 39 [c0, c1, c2, c3] = some y0 := by
      have := h0
      simp only [k39] at this
      exact this
    have g1 : DataW.trod enc Tryd.prog w base sp held n 3 [c4] = some y1 := by
      have := h1
      simp only [k3] at this
      exact this
    have g2 : DataW.trod enc Tryd.prog w base sp held n 9 [c5] = some y2 := by
      have := h2
      simp only [k9] at this
      exact this
    obtain ⟨z0, p0⟩ := y0
    obtain ⟨zs, hz, hzl, rfl⟩ := arr_cells Tryd.underlying39 Tryd.underlying3 k3 rfl g0
    obtain ⟨m, e1, rfl, _⟩ := DataW.trod_int Tryd.underlying3 g1
    obtain ⟨q, e2, rfl, _⟩ := DataW.trod_string Tryd.underlying9 g2
    match zs, hzl, hz with
    | [za, zb, zc, zd], _, hz =>
      simp only [List.map_cons, List.map_nil, List.cons.injEq, and_true] at hz e1 e2
      obtain ⟨rfl, rfl, rfl, rfl⟩ := hz
      subst e1 e2
      simp only [Prod.mk.injEq] at hx
      exact ⟨za, zb, zc, zd, m, q, _, _, rfl, by rw [hx.2]; rfl, hx.1⟩
set_option maxRecDepth 100000 in
/-- A change of a digest in progress that came in. -/
theorem open_bend {H : Type} {enc : TypeId × Value → H} {w : World} {r : Reach} {b0 base : Nat} {sp : Nat → Bool} {held : Bool} {v : Value} {d : DataW H} {p : List MemPlace} (hv : Value.okWide Tryd.prog w r b0 38 v) (h : DataW.Trod enc Tryd.prog w base sp held 38 v d p) :
    ∃ (A B : Nat) (N : Int), v = .agg #[.int .u8 A, .int .u8 B, .int .i64 N] ∧ A < 256 ∧ B < 256 ∧ p = [] := by
  obtain ⟨v0, v1, v2, y0, y1, y2, n, rfl, rfl, rfl, h0, h1, h2⟩ := Joins.open_agg3 Tryd.underlying38 (by kernel_rfl) (by kernel_rfl) hv h
  obtain ⟨A, e0, rfl, hA⟩ := DataW.trod_int Tryd.underlying5 h0
  obtain ⟨B, e1, rfl, hB⟩ := DataW.trod_int Tryd.underlying5 h1
  obtain ⟨N, e2, rfl, _⟩ := DataW.trod_int Tryd.underlying3 h2
  simp only [List.cons.injEq, and_true] at e0 e1 e2
  subst e0 e1 e2
  obtain ⟨a, rfl, ha⟩ := wf_u8 hA
  obtain ⟨b, rfl, hb⟩ := wf_u8 hB
  exact ⟨a, b, N, rfl, ha, hb, rfl⟩
theorem Tryd.laidOut2 : laidOutB Tryd.prog = true := by kernel_rfl
end Go.Proofs.YtfhddcjepgjfnaaDoor
