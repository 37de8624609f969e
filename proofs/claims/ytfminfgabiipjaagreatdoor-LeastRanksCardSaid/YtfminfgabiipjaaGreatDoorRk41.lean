/- Rk, part 41: Gr -/
import Derived.Test.YtfminfgabiipjaaGreatDoorRk0
import Derived.Test.YtfminfgabiipjaaGreatDoorRk25
import Derived.Test.YtfminfgabiipjaaGreatDoorRk30
import Derived.Test.YtfminfgabiipjaaGreatDoorRk31
section
namespace Go.Proofs.YtfminfgabiipjaaGreatDoor
open Go.RowKit
theorem infoFs : (Tryz.prog.info? 23).map (fun i => (i.zero, i.size, i.bytes)) = some (some (.slice none 0 0), 1, 24) := by kernel_rfl
theorem fown_cells {W : World} {B : Nat} {v : Value} {n : Nat} {l : List FT} (h : Rws W B 46 2 v n (fflat l)) (hl : l.length = n) : ∃ (ao : Option Addr) (g cap : Nat), v = .slice ao n cap ∧ FCells W ao g 0 l ∧ n ≤ cap := by
 have hown := h.own
 rcases h.2 with ⟨rfl, rfl⟩ | ⟨g, cap, cur, rfl, _, _, hc, _⟩
 ·exact ⟨none, 0, 0, rfl, ⟨fun h0 => absurd h0 (by omega), fun k hk => absurd hk (by omega)⟩, Nat.le_refl _⟩
 ·refine ⟨some ⟨g, 0, none⟩, g, cap, rfl, ⟨fun _ => rfl, fun k hk => ?_⟩, hc⟩
  have hx : l[k]? = some (l.getD k fd0) := by rw [List.getD_eq_getElem?_getD, List.getElem?_eq_getElem hk]; rfl
  obtain ⟨h1, h2⟩ := fflat_get l k _ hx
  have e1 := hown.cells (g := g) rfl _ _ h1
  have e2 := hown.cells (g := g) rfl _ _ h2
  rw [Addr.add_mid] at e1 e2
  refine ⟨e1, ?_⟩
  rw [← Nat.add_assoc] at e2
  exact e2
theorem str_not (x : ByteArray) : NotInt (.string x) := fun k d h => by cases h
theorem slice_not (a : Option Addr) (n c : Nat) : NotInt (.slice a n c) := fun k d h => by cases h
theorem wpList_frac {ops : Array Oper} {rest : List Oper} {o : Oper} {a : Act} {w : World} {Q : Exit → Act → World → Prop} (hgd : o.guard = none) (s x : Operand)
  (ho : o.op = .call { callee := .builtin .append, args := #[s, x], argTypes := #[23, 23] }) {W0 : World} {B : Nat} {v : Value} {n : Nat} {l : List FT} {x1 x2 : ByteArray}
  (hB : Below B W0 w) (hB0 : B = W0.heap.size) (hown : Rws w B 46 2 v n (fflat l)) (hs : a.eval s = v) {g : Nat} (hx : a.eval x = .slice (some ⟨g, 0, none⟩) 1 1) (hgs : g = w.heap.size) (hn : n < 1000000)
  (h : ∀ v' w', Hid (Rws w' B 46 2 v' (n + 1) (fflat (l ++ [(x1, x2)]))) → Hid (Below B W0 w') → wpList Tryz.prog ops Q rest (a.put o.dst v') w') :
  wpList Tryz.prog ops Q (o :: rest) a (w.alloc (.cells #[.string x1, .string x2] 46)) := by
 subst hgs
 obtain ⟨i0, hi, hz0, hz1, hz2⟩ := info_parts infoF
 have hsz := hB.size
 have hba : Below w.heap.size w (w.alloc (.cells #[.string x1, .string x2] 46)) := balloc qB qN
 have hown2 := hown.below hba
 have hg := heap_alloc_new w (.cells #[.string x1, .string x2] 46)
 refine wpList_append_rws hgd s x 23 ho B 46 i0 _ 2 32 Tryz.underlying23 hi hz0 hz1 hz2 rfl (by decide) ?nz v n (fflat l) hs hown2 ⟨w.heap.size, 0, none⟩ 1 1 [.string x1, .string x2] hx rfl ?c1 ?c2 ?c3 (by decide) (by unfold maxLen; omega) (by omega) (by simp only [World.size_alloc]; omega) ?_
 case nz =>
  intro y hy
  rcases List.mem_cons.1 (show y ∈ [Value.string ⟨#[]⟩, Value.string ⟨#[]⟩] from hy) with rfl | hy
  ·exact str_not _
  ·rw [List.mem_singleton.1 hy]; exact str_not _
 case c1 =>
  intro j u hj
  rw [Addr.add_mid]
  match j, hj with
  | 0, hj => exact (cell_of_row _ _ _ _ _ _ hg).trans hj
  | 1, hj => exact (cell_of_row _ _ _ _ _ _ hg).trans hj
 case c2 =>
  intro u hu
  rcases List.mem_cons.1 hu with rfl | hu
  ·rfl
  ·rw [List.mem_singleton.1 hu]; rfl
 case c3 =>
  intro u hu
  rcases List.mem_cons.1 hu with rfl | hu
  ·exact str_not _
  ·rw [List.mem_singleton.1 hu]; exact str_not _
 intro v' w' hown' hgrow _
 refine h v' w' (qH ?_) (qH ?_)
 ·rw [fflat_app]; exact hown'
 ·exact hown2.old hgrow (hB.alloc (by omega) _) qN (by simp only [World.size_alloc]; omega)
theorem wpList_row {ops : Array Oper} {rest : List Oper} {o : Oper} {a : Act} {w : World} {Q : Exit → Act → World → Prop} (hgd : o.guard = none) (s x : Operand)
  (ho : o.op = .call { callee := .builtin .append, args := #[s, x], argTypes := #[22, 22] }) {W0 : World} {B : Nat} {v : Value} {n : Nat} {vs : List Value} {ao : Option Addr} {m c : Nat}
  (hB : Below B W0 w) (hB0 : B = W0.heap.size) (hown : Rws w B 23 1 v n vs) (hs : a.eval s = v) {g : Nat} (hx : a.eval x = .slice (some ⟨g, 0, none⟩) 1 1) (hgs : g = w.heap.size) (hn : n < 1000000)
  (h : ∀ v' w', Hid (Rws w' B 23 1 v' (n + 1) (vs ++ [.slice ao m c])) → Hid (Below B W0 w') → (∀ (B' : Nat) (vi : Value) (ni : Nat) (xi : List Value), Rws w B' 46 2 vi ni xi → Rws w' B' 46 2 vi ni xi) → wpList Tryz.prog ops Q rest (a.put o.dst v') w') :
  wpList Tryz.prog ops Q (o :: rest) a (w.alloc (.cells #[.slice ao m c] 23)) := by
 subst hgs
 obtain ⟨i0, hi, hz0, hz1, hz2⟩ := info_parts infoFs
 have hsz := hB.size
 have hba : Below w.heap.size w (w.alloc (.cells #[.slice ao m c] 23)) := balloc qB qN
 have hown2 := hown.below hba
 have hg := heap_alloc_new w (.cells #[.slice ao m c] 23)
 refine wpList_append_rws hgd s x 22 ho B 23 i0 _ 1 24 Tryz.underlying22 hi hz0 hz1 hz2 rfl (by decide) ?nz v n vs hs hown2 ⟨w.heap.size, 0, none⟩ 1 1 [.slice ao m c] hx rfl ?c1 ?c2 ?c3 (by decide) (by unfold maxLen; omega) (by omega) (by simp only [World.size_alloc]; omega) ?_
 case nz =>
  intro y hy
  rw [List.mem_singleton.1 (show y ∈ [Value.slice none 0 0] from hy)]; exact slice_not _ _ _
 case c1 =>
  intro j u hj
  rw [Addr.add_mid]
  match j, hj with
  | 0, hj => exact (cell_of_row _ _ _ _ _ _ hg).trans hj
 case c2 => intro u hu; rw [List.mem_singleton.1 hu]; rfl
 case c3 => intro u hu; rw [List.mem_singleton.1 hu]; exact slice_not _ _ _
 intro v' w' hown' hgrow _
 refine h v' w' (qH hown') (qH ?_) fun B' vi ni xi hi => ?_
 ·exact hown2.old hgrow (hB.alloc (by omega) _) qN (by simp only [World.size_alloc]; omega)
 ·exact (hi.below hba).kept hgrow ((hi.below hba).ne hown2 (by decide))
theorem town_cells {W : World} {B : Nat} {v : Value} {n m : Nat} {vs : List Value} {t : Tbl} (h : Rws W B 23 1 v n vs) (ht : t.length = n) (hr : ∀ k, k < n → ∃ B', (t.getD k []).length = m ∧ Rws W B' 46 2 (vs.getD k undef) m (fflat (t.getD k []))) : ∃ (ao : Option Addr) (g cap : Nat), v = .slice ao n cap ∧ TCells W ao g 0 t ∧ n ≤ cap := by
 obtain ⟨ao, g, cap, rfl, hv, hc⟩ := h.vcells
 have hl := h.1
 rw [Nat.mul_one] at hl
 refine ⟨ao, g, cap, rfl, ⟨fun h0 => hv.addr (by omega), fun k hk => ?_⟩, hc⟩
 obtain ⟨B', hm, hR⟩ := hr k (by omega)
 obtain ⟨ra, rg, rc, e, hF, _⟩ := fown_cells hR hm
 refine ⟨ra, rg, 0, rc, ?_, hF⟩
 rw [hm, ← e]
 exact hv.cell k (by omega)
end Go.Proofs.YtfminfgabiipjaaGreatDoor
end
