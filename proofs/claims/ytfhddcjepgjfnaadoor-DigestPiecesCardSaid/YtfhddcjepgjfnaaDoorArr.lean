/- Arguments that are arrays of integers: opened into a list of integers, and shut again in any world. No program in sight. -/
import Derived.ProofKit
import Derived.OpenShut
import Derived.ChangeArms
import Derived.Lib.LaidTab
namespace Go.Proofs.YtfhddcjepgjfnaaDoor
section
variable {H : Type} {enc : TypeId × Value → H} {P : Program}
theorem mapM_range' {β : Type} : ∀ (g : List β) (s : Nat) (f : Nat → Option β), (∀ i (h : i < g.length), f (s + i) = some g[i]) → (List.range' s g.length).mapM f = some g
  | [], _, _, _ => rfl
  | a :: g, s, f, h => by
    rw [List.length_cons, List.range'_succ, List.mapM_cons]
    have h0 : f s = some a := h 0 (by simp)
    have h1 := mapM_range' g (s + 1) f (fun i hi => by
      have := h (i + 1) (by simpa using hi)
      rw [show s + 1 + i = s + (i + 1) by omega]
      exact this)
    rw [h0, h1]; rfl
theorem trod_arr_ints {w : World} {base : Nat} {sp : Nat → Bool} {held : Bool} {t e : TypeId} {n : Nat} {k : IntKind} (ht : P.underlying t = some (.array n e)) (he : P.underlying e = some (.int k)) (hce : P.cellsOf e = 1) (hct : P.cellsOf t = n)
    (zs : List Int) (hn : zs.length = n) (hwf : ∀ z ∈ zs, (Lit.int k z).wf = true) :
    DataW.trod enc P w base sp held 2 t (zs.map (Value.int k)) = some (.agg (zs.map fun z => .lit (.int k z)), []) := by
  subst hn
  unfold DataW.trod
  simp only [ht]
  rw [if_pos (by rw [List.length_map, hct]), hce, List.range_eq_range']
  have hm := mapM_range' (zs.map fun z => ((.lit (.int k z) : DataW H), ([] : List MemPlace))) 0 (fun i => DataW.trod enc P w base sp held 1 e (((zs.map (Value.int k)).drop (i * 1)).take 1)) (fun i hi => by
    have hi' : i < zs.length := by simpa using hi
    have hd : ((zs.map (Value.int k)).drop (i * 1)).take 1 = [Value.int k zs[i]] := by
      rw [Nat.mul_one, ← List.map_drop, List.drop_eq_getElem_cons hi']; rfl
    simp only [Nat.zero_add]
    rw [hd, List.getElem_map]
    have hw := hwf zs[i] (List.getElem_mem hi')
    unfold DataW.trod
    simp [he, hw])
  rw [List.length_map] at hm
  rw [hm]
  simp [List.flatMap_eq_nil_iff, Function.comp_def]
/-- An argument that is an array of integers. -/
theorem open_arr_ints {w : World} {r : Reach} {b0 base : Nat} {sp : Nat → Bool} {held : Bool} {t e : TypeId} {n : Nat} {k : IntKind} {v : Value} {d : DataW H} {p : List MemPlace} (ht : P.underlying t = some (.array n e)) (he : P.underlying e = some (.int k)) (hce : P.cellsOf e = 1) (hct : P.cellsOf t = n)
    (hv : Value.okWide P w r b0 t v) (h : DataW.Trod enc P w base sp held t v d p) :
    ∃ zs : List Int, v = .agg (zs.map (Value.int k)).toArray ∧ zs.length = n ∧ (∀ z ∈ zs, (Lit.int k z).wf = true) ∧ d = .agg (zs.map fun z => .lit (.int k z)) ∧ p = [] ∧
      ∀ (w' : World) (base' : Nat) (sp' : Nat → Bool) (held' : Bool), DataW.Trod enc P w' base' sp' held' t v d p := by
  simp only [Value.okWide, ht] at hv
  obtain ⟨cs, rfl, hsz, _⟩ := hv
  obtain ⟨fuel, hf⟩ := h
  have hlen : cs.toList.length = n := by rw [Array.length_toList, hsz, hct]
  have hf' : DataW.trod enc P w base sp held fuel t cs.toList = some (d, p) := hf
  obtain ⟨xs, m, _, hx, _, hn, hel⟩ := DataW.trod_array ht hf'
  have hcell : ∀ i, i < n → ∃ z, cs.toList[i]? = some (Value.int k z) ∧ (Lit.int k z).wf = true ∧ xs[i]? = some (.lit (.int k z), []) := fun i hi => by
    have h1 := hel i hi
    rw [hce, Nat.mul_one, List.drop_eq_getElem_cons (by omega)] at h1
    have hxi : xs[i]? = some xs[i] := List.getElem?_eq_getElem (by omega)
    rw [hxi] at h1
    obtain ⟨z, e1, e2, e3⟩ := DataW.trod_int he h1
    have e4 : cs.toList[i]'(by omega) = Value.int k z := by
      simpa using e1
    exact ⟨z, by rw [List.getElem?_eq_getElem (by omega), e4], e3, by rw [hxi, e2]⟩
  let f : Value → Int := fun v => match v with | .int _ z => z | _ => 0
  have hzl : (cs.toList.map f).length = n := by rw [List.length_map]; exact hlen
  have hcs : cs.toList = (cs.toList.map f).map (Value.int k) := by
    apply List.ext_getElem?
    intro i
    by_cases hi : i < n
    · obtain ⟨z, e1, _, _⟩ := hcell i hi
      rw [List.getElem?_map, List.getElem?_map, e1]; rfl
    · rw [List.getElem?_eq_none (by omega), List.getElem?_eq_none (by rw [List.length_map]; omega)]
  have hwf : ∀ z ∈ cs.toList.map f, (Lit.int k z).wf = true := by
    intro z hz
    obtain ⟨i, hi, rfl⟩ := List.getElem_of_mem hz
    rw [hzl] at hi
    obtain ⟨z', e1, e2, _⟩ := hcell i hi
    have : (cs.toList.map f)[i]? = some z' := by rw [List.getElem?_map, e1]; rfl
    rw [List.getElem?_eq_getElem (by rw [hzl]; exact hi)] at this
    rw [Option.some.inj this]; exact e2
  have hxs : xs = (cs.toList.map f).map fun z => ((.lit (.int k z) : DataW H), ([] : List MemPlace)) := by
    apply List.ext_getElem?
    intro i
    by_cases hi : i < n
    · obtain ⟨z, e1, _, e3⟩ := hcell i hi
      rw [List.getElem?_map, List.getElem?_map, e1, e3]; rfl
    · rw [List.getElem?_eq_none (by omega), List.getElem?_eq_none (by rw [List.length_map]; omega)]
  generalize cs.toList.map f = zs at *
  have hd : d = .agg (zs.map fun z => .lit (.int k z)) ∧ p = [] := by
    rw [hxs] at hx
    simp only [Prod.mk.injEq] at hx
    exact ⟨by rw [hx.1, List.map_map]; rfl, by rw [hx.2]; simp [List.flatMap_eq_nil_iff]⟩
  refine ⟨zs, ?_, hzl, hwf, hd.1, hd.2, fun w' base' sp' held' => ⟨2, ?_⟩⟩
  · rw [← hcs]
  · rw [hd.1, hd.2]
    show DataW.trod enc P w' base' sp' held' 2 t cs.toList = _
    rw [hcs]
    exact trod_arr_ints ht he hce hct zs hzl hwf
end
end Go.Proofs.YtfhddcjepgjfnaaDoor
