/- Rk, part 30: Tbl Lsa Lsb Lsc -/
import Derived.Test.YtfminfgabiipjaaGreatDoorRk0
import Derived.Test.YtfminfgabiipjaaGreatDoorRk29
section
namespace Go.Proofs.YtfminfgabiipjaaGreatDoor
open Go.RowKit
abbrev Tbl := List (List FT)
structure TCells (W : World) (ao : Option Addr) (b off : Nat) (t : Tbl) : Prop where
 addr : 0 < t.length → ao = some ⟨b, off, none⟩
 row : ∀ k, k < t.length → ∃ (ra : Option Addr) (rb ro rc : Nat), W.cell? ⟨b, off + k, none⟩ = some (.slice ra (t.getD k []).length rc) ∧ FCells W ra rb ro (t.getD k [])
theorem TCells.below {W W' : World} {ao : Option Addr} {b off : Nat} {t : Tbl} (h : TCells W ao b off t) (hb : Below W.heap.size W W') : TCells W' ao b off t :=
 ⟨h.addr, fun k hk => by
  obtain ⟨ra, rb, ro, rc, h1, h2⟩ := h.row k hk
  exact ⟨ra, rb, ro, rc, (hb.cell (World.block_lt_of_cell? W _ h1)).trans h1, h2.below hb⟩⟩
def wid (t : Tbl) : Nat := (t.getD 0 []).length
structure TOk (t : Tbl) : Prop where
 r1 : 1 ≤ t.length
 r2 : t.length ≤ 40
 c1 : 1 ≤ wid t
 c2 : wid t ≤ 10
 rows : ∀ k, k < t.length → (t.getD k []).length = wid t ∧ FAll (t.getD k [])
set_option maxRecDepth 100000 in
set_option maxHeartbeats 4000000 in
theorem check_any (ao : Option Addr) (b off R c : Nat) (t : Tbl) (w : World) (hR : t.length = R) (hl : R ≤ 4611686018427387904) (hw : ∀ k, k < R → (t.getD k []).length ≤ 4611686018427387904) (hc : TCells w ao b off t) :
  Calls Tryz.prog 12 #[.slice ao R c] w fun e w' => ChecksAs w (TOk t) 60 e w' := by
 have HC := qH (qA hc (qA hR hw))
 by_cases h1 : 1 ≤ R
 case neg =>
  have hlt : (R : Int) < 1 := by omega
  clear hc hR
  go_enter Tryz.func12, Tryz.ntmps12
  go_wp2_with fail
  go_ret
  exact ⟨60, rfl, Or.inr ⟨rfl, fun h => by have := h.r1; have := HC.out.2.1; omega⟩, Below.refl _ _⟩
 have h1i : ¬ (R : Int) < 1 := by omega
 by_cases h2 : R ≤ 40
 case neg =>
  have hlt : (40 : Int) < R := by omega
  clear hc hR
  go_enter Tryz.func12, Tryz.ntmps12
  go_wp2_with fail
  go_ret
  exact ⟨60, rfl, Or.inr ⟨rfl, fun h => by have := h.r2; have := HC.out.2.1; omega⟩, Below.refl _ _⟩
 have h2i : ¬ (40 : Int) < R := by omega
 have h0i : (0 : Int) < R := by omega
 have haw := hc.addr (by omega)
 subst haw
 obtain ⟨ra0, rb0, ro0, rc0, hc0, _⟩ := hc.row 0 (by omega)
 rw [Nat.add_zero] at hc0
 obtain ⟨n, hn⟩ : ∃ n, wid t = n := ⟨_, rfl⟩
 have hn' : (t.getD 0 []).length = n := hn
 have hnl := hw 0 (by omega)
 rw [hn'] at hc0 hnl
 have HN := qH hn
 have hw0 : b < w.heap.size := World.block_lt_of_cell? w _ hc0
 clear hc hR hn hn' hw
 by_cases h3 : 1 ≤ n
 case neg =>
  have hlt : (n : Int) < 1 := by omega
  go_enter Tryz.func12, Tryz.ntmps12
  go_wp2_with fail
  go_ret
  exact ⟨60, rfl, Or.inr ⟨rfl, fun h => by have := h.c1; have := HN.out; omega⟩, Below.refl _ _⟩
 have h3i : ¬ (n : Int) < 1 := by omega
 by_cases h4 : n ≤ 10
 case neg =>
  have hlt : (10 : Int) < n := by omega
  go_enter Tryz.func12, Tryz.ntmps12
  go_wp2_with fail
  go_ret
  exact ⟨60, rfl, Or.inr ⟨rfl, fun h => by have := h.c2; have := HN.out; omega⟩, Below.refl _ _⟩
 have h4i : ¬ (10 : Int) < n := by omega
 go_enter Tryz.func12, Tryz.ntmps12
 go_wp2_with fail
 go_loopw [31] (fun x31 W => ∃ k : Nat, k ≤ R ∧ x31 = .int .i64 k ∧ Hid (∀ i, i < k → (t.getD i []).length = n ∧ FAll (t.getD i [])) ∧ Hid (Below w.heap.size w W)) (fun x31 _ => R - (intOf x31).toNat)
 case atStart => exact ⟨0, Nat.zero_le _, rfl, qH (fun i hi => absurd hi (by omega)), qH qB⟩
 case round =>
  obtain ⟨k, hk, rfl, hI, hB⟩ := hrel
  by_cases hkR : k < R
  ·have hki : (k : Int) < R := by omega
   have hcr := (hB.out.cell (p := ⟨b, off, none⟩) hw0).trans hc0
   obtain ⟨ra, rb, ro, rc, hck, hfk⟩ := (HC.out.1.below hB.out).row k (by have := HC.out.2.1; omega)
   have HF := qH hfk
   obtain ⟨row, hrow⟩ : ∃ row, t.getD k [] = row := ⟨_, rfl⟩
   obtain ⟨l, hl2⟩ : ∃ l, row.length = l := ⟨_, rfl⟩
   have hll := HC.out.2.2 k hkR
   rw [hrow] at hck HF hll
   rw [hl2] at hck hll
   have HR := qH (qA hrow hl2)
   clear hrow hl2 hfk
   by_cases hln : l = n
   case neg =>
    have hne : ((l : Int) != (n : Int)) = true := by rw [bne_iff_ne]; omega
    have HL := qH hln
    clear hln
    go_wp2_with fail
    go_ret
    exact ⟨60, rfl, Or.inr ⟨rfl, fun h => HL.out (by rw [← HR.out.2, ← HR.out.1, ← HN.out]; exact (h.rows k (by have := HC.out.2.1; omega)).1)⟩, hB.out⟩
   have hne : ((l : Int) != (n : Int)) = false := by simp [hln]
   have HL := qH hln
   clear hln
   obtain ⟨wo, hwo⟩ : ∃ wo : World, wo = wr := ⟨_, rfl⟩
   subst hwo
   go_wp2_with fail
   go_loopw [44] (fun x44 W => ∃ j : Nat, j ≤ l ∧ x44 = .int .i64 j ∧ Hid (∀ i, i < j → FOk (row.getD i fd0).1.data.toList (row.getD i fd0).2.data.toList) ∧ Hid (Below wo.heap.size wo W)) (fun x44 _ => l - (intOf x44).toNat)
   case atStart => exact ⟨0, Nat.zero_le _, rfl, qH (fun i hi => absurd hi (by omega)), qH qB⟩
   case round =>
    obtain ⟨j, hj, rfl, hJ, hB2⟩ := hrel
    by_cases hjl : j < l
    ·have hji : (j : Int) < l := by omega
     have har := HF.out.addr (by have := HR.out.2; omega)
     subst har
     obtain ⟨d0, d1⟩ := (HF.out.below hB2.out).cell j (by have := HR.out.2; omega)
     obtain ⟨N, hN⟩ : ∃ N, (row.getD j fd0).1 = N := ⟨_, rfl⟩
     obtain ⟨D, hD⟩ : ∃ D, (row.getD j fd0).2 = D := ⟨_, rfl⟩
     rw [hN] at d0
     rw [hD] at d1
     have HX := qH (qA hN hD)
     clear hN hD
     go_wp2_with fail
     refine (fcheck_any N D _).mono ?_
     rintro e w2 ⟨cc, rfl, hcc, hb2⟩
     have HB2 := qH (hB2.out.trans ((qB.alloc qN _ |>.trans (hb2.mono (by simp only [World.size_alloc]; omega))).mono hB2.out.size))
     clear hb2
     rcases hcc with ⟨rfl, hf⟩ | ⟨rfl, hf⟩
     ·have Hf := qH hf
      clear hf
      go_wp2_with fail
      go_roundw
      case rel => exact ⟨j + 1, hjl, by go_num, qH (fun i hi => by
       rcases (show i < j ∨ i = j by omega) with h | h
       ·exact hJ.out i h
       ·rw [h, HX.out.1, HX.out.2]; exact Hf.out), HB2⟩
      case measure => simp [intOf]; omega
     ·have Hf := qH hf
      clear hf
      go_wp2_with fail
      go_ret
      exact ⟨60, rfl, Or.inr ⟨rfl, fun h => Hf.out (by
       have := (h.rows k (by have := HC.out.2.1; omega)).2 j (by rw [HR.out.1, HR.out.2]; exact hjl)
       rw [HR.out.1, HX.out.1, HX.out.2] at this
       exact this)⟩, hB.out.trans (HB2.out.mono hB.out.size)⟩
    ·obtain rfl : j = l := by omega
     go_wp2_with fail
     go_roundw
     case rel => exact ⟨k + 1, hkR, by go_num, qH (fun i hi => by
      rcases (show i < k ∨ i = k by omega) with h | h
      ·exact hI.out i h
      ·rw [h, HR.out.1, HR.out.2]; exact ⟨HL.out, fun x hx => hJ.out x (by rw [← HR.out.2]; exact hx)⟩), qH (hB.out.trans (hB2.out.mono hB.out.size))⟩
     case measure => simp [intOf]; omega
  ·obtain rfl : k = R := by omega
   go_wp2_with fail
   go_ret
   exact ⟨0, rfl, Or.inl ⟨rfl, ⟨by have := HC.out.2.1; omega, by have := HC.out.2.1; omega, by rw [HN.out]; exact h3, by rw [HN.out]; exact h4, fun i hi => by rw [HN.out]; exact hI.out i (by have := HC.out.2.1; omega)⟩⟩, hB.out⟩
def CLAs (w : World) (t L : Tbl) (e : Ending) (w' : World) : Prop :=
 ∃ c : Int, e = .returned (.int .i64 c) ∧ (c = 60 ∧ ¬ TOk t ∨ c = 20 ∧ TOk t ∧ ¬ (∀ k, k < L.length → FAll (L.getD k [])) ∨ c = 0 ∧ TOk t ∧ ∀ k, k < L.length → FAll (L.getD k [])) ∧ Below w.heap.size w w'
set_option maxRecDepth 100000 in
set_option maxHeartbeats 4000000 in
theorem checkLists_any (ao : Option Addr) (b off R c : Nat) (t : Tbl) (ao2 : Option Addr) (b2 off2 R2 c2 : Nat) (L : Tbl) (w : World) (hR : t.length = R) (hl : R ≤ 4611686018427387904) (hw : ∀ k, k < R → (t.getD k []).length ≤ 4611686018427387904) (hc : TCells w ao b off t)
  (hR2 : L.length = R2) (hl2 : R2 ≤ 4611686018427387904) (hw2 : ∀ k, k < R2 → (L.getD k []).length ≤ 4611686018427387904) (hc2 : TCells w ao2 b2 off2 L) :
  Calls Tryz.prog 54 #[.slice ao R c, .slice ao2 R2 c2] w fun e w' => CLAs w t L e w' := by
 have HK := qH (check_any ao b off R c t w hR hl hw hc)
 have HL := qH (qA hc2 (qA hR2 hw2))
 clear hR hw hc hR2 hw2 hc2
 go_enter Tryz.func54, Tryz.ntmps54
 go_wp2_with fail
 refine HK.out.mono ?_
 rintro e w2 ⟨cc, rfl, hcc, hb2⟩
 have HB := qH hb2
 clear hb2
 rcases hcc with ⟨rfl, hT⟩ | ⟨rfl, hT⟩
 case inr =>
  have HT := qH hT
  clear hT
  go_wp2_with fail
  go_ret
  exact ⟨60, rfl, Or.inl ⟨rfl, HT.out⟩, HB.out⟩
 have HT := qH hT
 clear hT
 go_wp2_with fail
 go_loopw [17] (fun x17 W => ∃ k : Nat, k ≤ R2 ∧ x17 = .int .i64 k ∧ Hid (∀ i, i < k → FAll (L.getD i [])) ∧ Hid (Below w.heap.size w W)) (fun x17 _ => R2 - (intOf x17).toNat)
 case atStart => exact ⟨0, Nat.zero_le _, rfl, qH (fun i hi => absurd hi (by omega)), HB⟩
 case round =>
  obtain ⟨k, hk, rfl, hI, hB⟩ := hrel
  by_cases hkR : k < R2
  ·have hki : (k : Int) < R2 := by omega
   have haw := HL.out.1.addr (by have := HL.out.2.1; omega)
   subst haw
   obtain ⟨ra, rb, ro, rc, hck, hfk⟩ := (HL.out.1.below hB.out).row k (by have := HL.out.2.1; omega)
   have HF := qH hfk
   obtain ⟨row, hrow⟩ : ∃ row, L.getD k [] = row := ⟨_, rfl⟩
   obtain ⟨l, hl2⟩ : ∃ l, row.length = l := ⟨_, rfl⟩
   have hll := HL.out.2.2 k hkR
   rw [hrow] at hck HF hll
   rw [hl2] at hck hll
   have HR := qH (qA hrow hl2)
   clear hrow hl2 hfk
   obtain ⟨wo, hwo⟩ : ∃ wo : World, wo = wr := ⟨_, rfl⟩
   subst hwo
   go_wp2_with fail
   go_loopw [23] (fun x23 W => ∃ j : Nat, j ≤ l ∧ x23 = .int .i64 j ∧ Hid (∀ i, i < j → FOk (row.getD i fd0).1.data.toList (row.getD i fd0).2.data.toList) ∧ Hid (Below wo.heap.size wo W)) (fun x23 _ => l - (intOf x23).toNat)
   case atStart => exact ⟨0, Nat.zero_le _, rfl, qH (fun i hi => absurd hi (by omega)), qH qB⟩
   case round =>
    obtain ⟨j, hj, rfl, hJ, hB2⟩ := hrel
    by_cases hjl : j < l
    ·have hji : (j : Int) < l := by omega
     have har := HF.out.addr (by have := HR.out.2; omega)
     subst har
     obtain ⟨d0, d1⟩ := (HF.out.below hB2.out).cell j (by have := HR.out.2; omega)
     obtain ⟨N, hN⟩ : ∃ N, (row.getD j fd0).1 = N := ⟨_, rfl⟩
     obtain ⟨D, hD⟩ : ∃ D, (row.getD j fd0).2 = D := ⟨_, rfl⟩
     rw [hN] at d0
     rw [hD] at d1
     have HX := qH (qA hN hD)
     clear hN hD
     go_wp2_with fail
     refine (fcheck_any N D _).mono ?_
     rintro e w2 ⟨cc, rfl, hcc, hb2⟩
     have HB2 := qH (hB2.out.trans ((qB.alloc qN _ |>.trans (hb2.mono (by simp only [World.size_alloc]; omega))).mono hB2.out.size))
     clear hb2
     rcases hcc with ⟨rfl, hf⟩ | ⟨rfl, hf⟩
     ·have Hf := qH hf
      clear hf
      go_wp2_with fail
      go_roundw
      case rel => exact ⟨j + 1, hjl, by go_num, qH (fun i hi => by
       rcases (show i < j ∨ i = j by omega) with h | h
       ·exact hJ.out i h
       ·rw [h, HX.out.1, HX.out.2]; exact Hf.out), HB2⟩
      case measure => simp [intOf]; omega
     ·have Hf := qH hf
      clear hf
      go_wp2_with fail
      go_ret
      exact ⟨20, rfl, Or.inr (Or.inl ⟨rfl, HT.out, fun h => Hf.out (by
       have := h k (by have := HL.out.2.1; omega) j (by rw [HR.out.1, HR.out.2]; exact hjl)
       rw [HR.out.1, HX.out.1, HX.out.2] at this
       exact this)⟩), hB.out.trans (HB2.out.mono hB.out.size)⟩
    ·obtain rfl : j = l := by omega
     go_wp2_with fail
     go_roundw
     case rel => exact ⟨k + 1, hkR, by go_num, qH (fun i hi => by
      rcases (show i < k ∨ i = k by omega) with h | h
      ·exact hI.out i h
      ·rw [h, HR.out.1]; exact fun x hx => hJ.out x (by rw [← HR.out.2]; exact hx)), qH (hB.out.trans (hB2.out.mono hB.out.size))⟩
     case measure => simp [intOf]; omega
  ·obtain rfl : k = R2 := by omega
   go_wp2_with fail
   go_ret
   exact ⟨0, rfl, Or.inr (Or.inr ⟨rfl, HT.out, fun i hi => hI.out i (by have := HL.out.2.1; omega)⟩), hB.out⟩
def Neg (l : List FT) : Prop := ∃ k, k < l.length ∧ ival (l.getD k fd0).1.data.toList < 0
def NegAs (w : World) (l : List FT) (e : Ending) (w' : World) : Prop := ∃ x : Bool, e = .returned (.bool x) ∧ (x = true ↔ Neg l) ∧ Below w.heap.size w w'
set_option maxRecDepth 100000 in
set_option maxHeartbeats 4000000 in
theorem negative_any (ao : Option Addr) (b off n c : Nat) (l : List FT) (w : World) (hn : l.length = n) (hl : n ≤ 4611686018427387904) (hc : FCells w ao b off l) (hf : FAll l) :
  Calls Tryz.prog 61 #[.slice ao n c] w fun e w' => NegAs w l e w' := by
 have HF := qH (qA hc (qA hn hf))
 have hfi := fieldI
 clear hc hn hf
 go_enter Tryz.func61, Tryz.ntmps61
 go_wp2_with fail
 go_loopw [7] (fun x7 W => ∃ j : Nat, j ≤ n ∧ x7 = .int .i64 j ∧ Hid (∀ i, i < j → 0 ≤ ival (l.getD i fd0).1.data.toList) ∧ Hid (Below w.heap.size w W)) (fun x7 _ => n - (intOf x7).toNat)
 case atStart => exact ⟨0, Nat.zero_le _, rfl, qH (fun i hi => absurd hi (by omega)), qH qB⟩
 case round =>
  obtain ⟨j, hj, rfl, hJ, hB2⟩ := hrel
  by_cases hjl : j < n
  ·have hji : (j : Int) < n := by omega
   have har := HF.out.1.addr (by have := HF.out.2.1; omega)
   subst har
   obtain ⟨d0, d1⟩ := (HF.out.1.below hB2.out).cell j (by have := HF.out.2.1; omega)
   have hok := (HF.out.2.2 j (by have := HF.out.2.1; omega)).vn
   obtain ⟨N, hN⟩ : ∃ N, (l.getD j fd0).1 = N := ⟨_, rfl⟩
   obtain ⟨D, hD⟩ : ∃ D, (l.getD j fd0).2 = D := ⟨_, rfl⟩
   rw [hN] at d0 hok
   rw [hD] at d1
   have HX := qH (qA hN hok)
   clear hN hD hok
   go_wp2_with fail
   refine (least.number_any N HX.out.2 _).mono ?_
   rintro e w2 ⟨v2, rfl, hb2, hv2⟩
   have HB2 := qH (hB2.out.trans ((qB.alloc qN _ |>.trans (hb2.mono (by simp only [World.size_alloc]; omega))).mono hB2.out.size))
   obtain ⟨m2, rfl, hg2⟩ := hv2
   have hfb : ∀ b W, (Instr.field 105 (.agg #[m2, .bool b]) 1).run Tryz.prog W = .ok (.bool b) W := by
    obtain ⟨_, _, _, _, _, _, rfl, _, _⟩ := hg2
    intro b W; kernel_rfl
   clear hb2 hg2
   by_cases hz : ival N.data.toList < 0
   ·rw [decide_eq_true hz]
    have HZ := qH hz
    clear hz
    go_wp2_with fail
    go_ret
    exact ⟨true, rfl, ⟨fun _ => ⟨j, by have := HF.out.2.1; omega, by rw [HX.out.1]; exact HZ.out⟩, fun _ => rfl⟩, HB2.out⟩
   ·rw [decide_eq_false hz]
    have HZ := qH (Int.not_lt.1 hz)
    clear hz
    go_wp2_with fail
    go_roundw
    case rel => exact ⟨j + 1, hjl, by go_num, qH (fun i hi => by
     rcases (show i < j ∨ i = j by omega) with h | h
     ·exact hJ.out i h
     ·rw [h, HX.out.1]; exact HZ.out), HB2⟩
    case measure => simp [intOf]; omega
  ·obtain rfl : j = n := by omega
   go_wp2_with fail
   go_ret
   exact ⟨false, rfl, ⟨fun h => absurd h (by decide), fun ⟨k, hk, hz⟩ => absurd hz (Int.not_lt.2 (hJ.out k (by have := HF.out.2.1; omega)))⟩, hB2.out⟩
end Go.Proofs.YtfminfgabiipjaaGreatDoor
end
section
namespace Go.Proofs.YtfminfgabiipjaaGreatDoor
open Go.RowKit
def lval (l : List FT) (k : Nat) : Rat := fval (l.getD k fd0).1.data.toList (l.getD k fd0).2.data.toList
def tval (t : Tbl) (i : Nat) : Nat → Rat := lval (t.getD i [])
theorem fval_eq (n d : List UInt8) : fval n d = (ival n : Rat) / ((ival d).natAbs : Rat) := by
 unfold fval
 rw [← Rat.divInt_ofNat, Rat.divInt_eq_div]; rfl
theorem flcd_dvd {l : List FT} {k : Nat} (hk : k < l.length) : fden (l.getD k fd0) ∣ flcd l := by
 have h := lcms_dvd (l.map fden) (l.map fden).length k (by rw [List.length_map]; exact hk) qN
 rw [List.take_length] at h
 have e : (l.map fden).getD k 0 = fden (l.getD k fd0) := by
  rw [List.getD_eq_getElem?_getD, List.getElem?_map, List.getD_eq_getElem?_getD, List.getElem?_eq_getElem hk]; rfl
 rw [e] at h
 exact h
theorem dens_at {l : List FT} {j : Nat} (hj : j < (l.map fden).length) : (l.map fden).getD j 0 = fden (l.getD j fd0) := by
 have hj' : j < l.length := by rw [List.length_map] at hj; exact hj
 rw [List.getD_eq_getElem?_getD, List.getElem?_map, List.getD_eq_getElem?_getD, List.getElem?_eq_getElem hj']; rfl
theorem flcd_pos {l : List FT} (h : FAll l) : 0 < flcd l := by
 have := lcms_pos (l.map fden) (fun j hj => by rw [dens_at hj]; exact (fnum_dpos h (by rw [List.length_map] at hj; exact hj)).1) (l.map fden).length qN
 rw [List.take_length] at this
 exact this
theorem flcd_fit {l : List FT} (h : FAll l) {m : Nat} (hm : l.length ≤ m) : Fit (flcd l) (m * 67 + 1) := by
 have := lcms_fit (l.map fden) 67 (fun j hj => by rw [dens_at hj]; exact fnum_dpos h (by rw [List.length_map] at hj; exact hj)) (l.map fden).length qN
 rw [List.take_length, List.length_map] at this
 exact this.mono (by omega)
theorem ftop_val {l : List FT} (h : FAll l) {k : Nat} (hk : k < l.length) : ((ftop l k : Int) : Rat) = (flcd l : Rat) * lval l k := by
 obtain ⟨q, hq⟩ := flcd_dvd hk
 have hd := (fnum_dpos h hk).1
 have e : flcd l / fden (l.getD k fd0) = q := by rw [hq]; exact Nat.mul_div_cancel_left _ hd
 unfold ftop lval
 rw [fval_eq, e, hq]
 have hd' : ((fden (l.getD k fd0) : Nat) : Rat) ≠ 0 := by
  have := Nat.ne_of_gt hd
  exact_mod_cast this
 show _ = _ * ((ival _ : Rat) / ((fden (l.getD k fd0) : Nat) : Rat))
 push_cast
 grind
theorem ftop_fit {l : List FT} (h : FAll l) {m : Nat} (hm : l.length ≤ m) {k : Nat} (hk : k < l.length) : Fit (ftop l k).natAbs (67 + (m * 67 + 1)) := by
 unfold ftop
 rw [Int.natAbs_mul, Int.natAbs_natCast]
 exact (h k hk).vn.fit.mul ((flcd_fit h hm).le (Nat.div_le_self _ _))
theorem flcd_ne {l : List FT} (h : FAll l) : (flcd l : Rat) ≠ 0 := by
 have := Nat.ne_of_gt (flcd_pos h)
 exact_mod_cast this
theorem span_scale {R n : Nat} {A B : Nat → Nat → Rat} (s : Nat → Rat) (hs : ∀ i, i < R → s i ≠ 0) (h : ∀ i, i < R → ∀ j, j < n → A i j = s i * B i j) : SpanEq R R n A B := by
 refine ⟨fun i hi => ?_, fun i hi => ?_⟩
 ·exact Span.congr (Span.comb (Span.row (A := B) hi) (Span.row (A := B) hi) (s i) 0) (fun _ _ _ _ => rfl) fun j hj => by rw [h i hi j hj]; grind
 ·refine Span.congr (Span.comb (Span.row (A := A) hi) (Span.row (A := A) hi) (1 / s i) 0) (fun _ _ _ _ => rfl) fun j hj => ?_
  have := hs i hi
  rw [h i hi j hj]; grind
theorem RankIs.scale {R n k : Nat} {A B : Nat → Nat → Rat} (s : Nat → Rat) (hs : ∀ i, i < R → s i ≠ 0) (h : ∀ i, i < R → ∀ j, j < n → A i j = s i * B i j) (hr : RankIs R n A k) : RankIs R n B k := by
 obtain ⟨v, iv, sv⟩ := hr
 exact ⟨v, iv, (span_scale s hs h).symm.trans sv⟩
theorem Sing.scale {R : Nat} {A B : Nat → Nat → Rat} (s : Nat → Rat) (hs : ∀ i, i < R → s i ≠ 0) (h : ∀ i, i < R → ∀ j, j < R → A i j = s i * B i j) : Sing R A ↔ Sing R B := by
 have key : ∀ (y : Nat → Rat) i, i < R → sumQ R (fun j => A i j * y j) = s i * sumQ R (fun j => B i j * y j) := fun y i hi => by
  rw [← sumQ_mul]; exact sumQ_congr fun j hj => by rw [h i hi j hj]; grind
 constructor
 ·rintro ⟨y, hy, h0⟩
  refine ⟨y, hy, fun i hi => ?_⟩
  have := h0 i hi
  rw [key y i hi] at this
  rcases Rat.mul_eq_zero.1 this with e | e
  ·exact absurd e (hs i hi)
  ·exact e
 ·rintro ⟨y, hy, h0⟩
  exact ⟨y, hy, fun i hi => by rw [key y i hi, h0 i hi]; grind⟩
theorem Solves.scale {R : Nat} {A B : Nat → Nat → Rat} {b c x : Nat → Rat} (s : Nat → Rat) (hs : ∀ i, i < R → s i ≠ 0) (h : ∀ i, i < R → ∀ j, j < R → A i j = s i * B i j) (hb : ∀ i, i < R → b i = s i * c i) (hx : Solves R A b x) : Solves R B c x := fun i hi => by
 have h1 := hx i hi
 have h2 : sumQ R (fun j => A i j * x j) = s i * sumQ R (fun j => B i j * x j) := by
  rw [← sumQ_mul]; exact sumQ_congr fun j hj => by rw [h i hi j hj]; grind
 rw [h2, hb i hi] at h1
 have := hs i hi
 grind
theorem getD_app_lt {l : List FT} {x : FT} {k : Nat} (hk : k < l.length) : (l ++ [x]).getD k fd0 = l.getD k fd0 := by
 rw [List.getD_eq_getElem?_getD, List.getElem?_append_left hk, ← List.getD_eq_getElem?_getD]
theorem getD_app_eq {l : List FT} {x : FT} : (l ++ [x]).getD l.length fd0 = x := by
 rw [List.getD_eq_getElem?_getD, List.getElem?_append_right qN, Nat.sub_self]; rfl
theorem FAll.snoc {l : List FT} {x : FT} (h : FAll l) (hx : FOk x.1.data.toList x.2.data.toList) : FAll (l ++ [x]) := fun k hk => by
 rw [List.length_append, List.length_singleton] at hk
 by_cases e : k < l.length
 ·rw [getD_app_lt e]; exact h k e
 ·obtain rfl : k = l.length := by omega
  rw [getD_app_eq]; exact hx
theorem lval_app_lt {l : List FT} {x : FT} {k : Nat} (hk : k < l.length) : lval (l ++ [x]) k = lval l k := by unfold lval; rw [getD_app_lt hk]
theorem lval_app_eq {l : List FT} {x : FT} : lval (l ++ [x]) l.length = fval x.1.data.toList x.2.data.toList := by unfold lval; rw [getD_app_eq]
structure MatPart (W : World) (tb R k n : Nat) (gs : Nat → Nat) (M : Nat → Nat → Int) : Prop where
 row : W.heap[tb]? = some (.cells (rowvs k n gs ++ List.replicate (R - k) zs0).toArray 79 (0, 0))
 rows : ∀ i, i < k → IntRow W (gs i) n (M i)
 le : k ≤ R
theorem MatPart.below {W W' : World} {tb R k n : Nat} {gs : Nat → Nat} {M : Nat → Nat → Int} (h : MatPart W tb R k n gs M) (hb : Below W.heap.size W W') : MatPart W' tb R k n gs M :=
 ⟨(hb.block _ (qG h.row).1).trans h.row, fun i hi => (h.rows i hi).below hb, h.le⟩
theorem part_not {R k n : Nat} {gs : Nat → Nat} : ∀ x ∈ (rowvs k n gs ++ List.replicate (R - k) zs0).toArray.toList, ∀ d, x ≠ .int .u32 d := by
 intro x hx d e
 rcases List.mem_append.1 (show x ∈ rowvs k n gs ++ List.replicate (R - k) zs0 from hx) with h | h
 ·exact rowvs_not x h d e
 ·rw [(List.mem_replicate.1 h).2] at e; cases e
theorem IntRow.keepRows {W W' : World} {tb g m' : Nat} {cs : Array Value} {m : Nat → Int} (h : IntRow W g m' m) (hk : W.grownBy W' (some tb)) (ht : W.heap[tb]? = some (.cells cs 79 (0, 0))) (hne : ∀ x ∈ cs.toList, ∀ d, x ≠ .int .u32 d) : IntRow W' g m' m := by
 obtain ⟨ps, h1, h2, h3⟩ := h
 have hne2 : g ≠ tb := by
  intro e
  subst e
  have := h2.1.symm.trans ht
  simp at this
 exact ⟨ps, h1, ⟨(hk.block _ (qG h2.1).1 (fun e => hne2 (Option.some.inj e))).trans h2.1, h2.2⟩, h3.keep hk ht hne⟩
theorem MatPart.at {W : World} {tb R k n : Nat} {gs : Nat → Nat} {M : Nat → Nat → Int} (h : MatPart W tb R k n gs M) (hk : k < R) : W.cell? ⟨tb, k, none⟩ = some zs0 ∧ W.frozen? ⟨tb, k, none⟩ = false := by
 refine ⟨(cell_of_row _ _ _ _ _ _ h.row).trans ?_, frozen_of_row _ _ _ _ _ h.row⟩
 rw [List.getElem?_toArray, List.getElem?_append_right (by rw [rowvs_len]; exact Nat.le_refl _), rowvs_len, Nat.sub_self, List.getElem?_replicate, if_pos (by omega)]
theorem MatPart.set {W : World} {tb R k n g : Nat} {gs : Nat → Nat} {M : Nat → Nat → Int} (h : MatPart W tb R k n gs M) (hk : k < R) (hg : IntRow W g n (M k)) : MatPart (W.setCell ⟨tb, k, none⟩ (rowv g n)) tb R (k + 1) n (fun j => if j = k then g else gs j) M := by
 refine ⟨?_, fun i hi => ?_, hk⟩
 ·rw [heap_setCell_same _ tb k _ _ _ h.row]
  congr 3
  obtain ⟨m, hm⟩ : ∃ m, R - k = m + 1 := ⟨R - k - 1, by omega⟩
  rw [List.setIfInBounds_toArray, hm, List.replicate_succ, List.set_append_right _ _ (by rw [rowvs_len]; exact Nat.le_refl _), rowvs_len, Nat.sub_self, List.set_cons_zero, show R - (k + 1) = m by omega]
  have e : rowvs (k + 1) n (fun j => if j = k then g else gs j) = rowvs k n gs ++ [rowv g n] := by
   unfold rowvs
   rw [List.range_succ, List.map_append]
   congr 1
   ·exact List.map_congr_left fun i hi => by
     have := List.mem_range.1 hi
     simp only [if_neg (show ¬ i = k by omega)]
   ·simp only [List.map_cons, List.map_nil, if_true]
  rw [e, List.append_assoc]; rfl
 ·by_cases e : i = k
  ·subst e; simp only [if_true]; exact hg.keepRows (least.set_keep _ _ _ _) h.row part_not
  ·simp only [if_neg e]; exact (h.rows i (by omega)).keepRows (least.set_keep _ _ _ _) h.row part_not
theorem MatPart.done {W : World} {tb R n : Nat} {gs : Nat → Nat} {M : Nat → Nat → Int} (h : MatPart W tb R R n gs M) : MatAt W tb R n gs M := by
 have := h.row
 rw [Nat.sub_self, List.replicate_zero, List.append_nil] at this
 exact ⟨this, h.rows⟩
theorem MatPart.made (W : World) (R n : Nat) (gs : Nat → Nat) (M : Nat → Nat → Int) : MatPart (W.alloc (.cells (madeCells #[zs0] R) 79)) W.heap.size R 0 n gs M := by
 refine ⟨?_, fun i hi => absurd hi (by omega), Nat.zero_le _⟩
 rw [qM _ _ _ rfl, Nat.sub_zero, show rowvs 0 n gs = [] from rfl, List.nil_append, ← toList_madeCells_one, Array.toArray_toList]
theorem infoRows : (Tryz.prog.info? 79).map (fun i => (i.zero, i.size, i.bytes)) = some (some (.slice none 0 0), 1, 24) := by kernel_rfl
theorem make_rows (n : Nat) (hn : n ≤ 1048576) (w : World) : (Instr.makeSlice 78 (.int .i64 (n : Int)) (.int .i64 (n : Int))).run Tryz.prog w = .ok (.slice (some ⟨w.heap.size, 0, none⟩) n n) (w.alloc (.cells (madeCells #[zs0] n) 79)) := by
 obtain ⟨i, hi, hz0, hz1, hz2⟩ := info_parts infoRows
 have h := run_make (P := Tryz.prog) w 78 79 i _ Tryz.underlying78 hi hz0 .i64 .i64 (n : Int) (n : Int) (by omega) (Int.le_refl _) (by rw [hz2]; omega) (by omega)
 rw [hz1, Int.toNat_natCast, Nat.mul_one] at h
 exact h
theorem below_of_keep {w a b : World} {g : Nat} (h : Below w.heap.size w a) (k : a.grownBy b (some g)) (hg : w.heap.size ≤ g := by omega) : Below w.heap.size w b :=
 h.trans ⟨k.os, k.tape, k.output, k.size, fun i hi => k.block i (Nat.lt_of_lt_of_le hi h.size) (fun e => by have := Option.some.inj e; omega)⟩
theorem keep_cellp {a b : World} {g : Nat} (h : a.grownBy b (some g)) {p : Addr} (hp : p.block < a.heap.size) (hne : p.block ≠ g) : b.cell? p = a.cell? p := World.cell?_of_block (h.block _ hp (fun e => hne (Option.some.inj e)))
end Go.Proofs.YtfminfgabiipjaaGreatDoor
end
section
namespace Go.Proofs.YtfminfgabiipjaaGreatDoor
open Go.RowKit
theorem integers_row {W : World} {ao : Option Addr} {b off n c : Nat} {l : List FT} (hl : l.length = n) (hn : n ≤ 64) (hcells : FCells W ao b off l) (hf : FAll l) :
  Calls Tryz.prog 50 #[.slice ao n c] W fun e W' => ∃ g v, e = .returned (.tuple #[rowv g n, v]) ∧ W.heap.size ≤ g ∧ Below W.heap.size W W' ∧ MagAt W' v (flcd l) ∧ IntRow W' g n (ftop l) := by
 refine (integers_any ao b off n c l W hl hn hcells hf).mono ?_
 rintro e W' ⟨g, v, ps, rfl, hg, hb, hm, hp, hr, hps⟩
 exact ⟨g, v, rfl, hg, hb, hm, ps, hp, hr, hps⟩
def RanksAs (w : World) (t : Tbl) (e : Ending) (w' : World) : Prop :=
 ((TOk t ∧ ∃ k : Nat, RankIs t.length (wid t) (tval t) k ∧ e = .returned (.tuple #[.int .i64 k, .int .i64 0])) ∨ (¬ TOk t ∧ e = .returned (.tuple #[.int .i64 0, .int .i64 60]))) ∧ Below w.heap.size w w'
set_option maxRecDepth 100000 in
set_option maxHeartbeats 4000000 in
theorem rank_call (ao : Option Addr) (b off R c : Nat) (t : Tbl) (w : World) (hR : t.length = R) (hl : R ≤ 4611686018427387904) (hw : ∀ k, k < R → (t.getD k []).length ≤ 4611686018427387904) (hc : TCells w ao b off t) :
  Calls Tryz.prog 16 #[.slice ao R c] w fun e w' => RanksAs w t e w' := by
 have HK := qH (check_any ao b off R c t w hR hl hw hc)
 have HC := qH (qA hc hR)
 clear hR hw hc
 go_enter Tryz.func16, Tryz.ntmps16
 go_wp2_with fail
 refine HK.out.mono ?_
 rintro e w2 ⟨cc, rfl, hcc, hb2⟩
 rcases hcc with ⟨rfl, hT⟩ | ⟨rfl, hT⟩
 case inr =>
  have HX := qH (qA hT hb2)
  clear hT hb2
  go_wp2_with fail
  go_ret2
  exact ⟨Or.inr ⟨HX.out.1, rfl⟩, HX.out.2⟩
 have hR40 : R ≤ 40 := by have := hT.r2; have := HC.out.2; omega
 have hR1 : 1 ≤ R := by have := hT.r1; have := HC.out.2; omega
 have haw := HC.out.1.addr (by have := HC.out.2; omega)
 subst haw
 obtain ⟨n, hn⟩ : ∃ n, wid t = n := ⟨_, rfl⟩
 have hn10 : n ≤ 10 := by have := hT.c2; omega
 have hn1 : 1 ≤ n := by have := hT.c1; omega
 have hmk := make_rows R (by omega) w2
 have HX := qH (qA hT (qA hb2 hn))
 clear hT hb2 hn
 go_wp2_with fail
 go_loopw [18] (fun x18 W => ∃ (k : Nat) (gs : Nat → Nat), k ≤ R ∧ x18 = .int .i64 k ∧ Hid (MatPart W w2.heap.size R k n gs (fun i => ftop (t.getD i []))) ∧ Hid (Below w2.heap.size w2 W)) (fun x18 _ => R - (intOf x18).toNat)
 case atStart => exact ⟨0, fun _ => 0, Nat.zero_le _, rfl, qH (MatPart.made _ _ _ _ _), qH (balloc qB qN)⟩
 case round =>
  clear hmk
  obtain ⟨k, gs, hk, rfl, hM, hB⟩ := hrel
  have hBw := HX.out.2.1.trans (hB.out.mono HX.out.2.1.size)
  by_cases hkR : k < R
  ·have hki : (k : Int) < R := by omega
   have hkl : k < t.length := by have := HC.out.2; omega
   obtain ⟨ra, rb, ro, rc, hck, hfk⟩ := (HC.out.1.below hBw).row k hkl
   have hrk := HX.out.1.rows k hkl
   rw [HX.out.2.2] at hrk
   rw [hrk.1] at hck
   have HI := qH (integers_row (c := rc) hrk.1 (show n ≤ 64 by omega) hfk hrk.2)
   clear hrk hfk hBw
   go_wp2_with fail
   refine HI.out.mono ?_
   rintro e w3 ⟨g, v, rfl, _, hb3, _, hg⟩
   have hM3 := hM.out.below hb3
   obtain ⟨q0, q1⟩ := hM3.at hkR
   have hset := hM3.set hkR hg
   have hbb := (hB.out.trans (hb3.mono hB.out.size)).setCell (p := ⟨w2.heap.size, k, none⟩) qN (rowv g n)
   have H3 := qH (qA hset hbb)
   clear hM3 hset hbb hb3 hg
   go_wp2_with fail
   go_roundw
   case rel => exact ⟨k + 1, _, hkR, by go_num, qH H3.out.1, qH H3.out.2⟩
   case measure => simp [intOf]; omega
  ·obtain rfl : k = R := by omega
   have hMd := hM.out.done
   have hrk := rank_any w2.heap.size k n 4356 gs (fun i => ftop (t.getD i [])) wr (by omega) (by omega) hn10 (by omega) (by omega) hMd (fun i hi => by
    obtain ⟨ps, _, h, _⟩ := hMd.rows i hi
    exact (qG h.1).1) (fun i hi j hj => by
    have hi' : i < t.length := by have := HC.out.2; omega
    have h := HX.out.1.rows i hi'
    have e := HX.out.2.2
    exact (ftop_fit h.2 (m := 63) (by omega) (show j < (t.getD i []).length by omega)).mono (by omega))
   have HR := qH hrk
   have HBw := qH hBw
   clear hMd hrk hBw
   go_wp2_with fail
   refine HR.out.mono ?_
   rintro e w3 ⟨r, rfl, hg3, hr3⟩
   have hr4 := RankIs.scale (B := tval t) (fun i => (flcd (t.getD i []) : Rat)) (fun i hi => flcd_ne (HX.out.1.rows i (by have := HC.out.2; omega)).2) (fun i hi j hj => by
    have h := HX.out.1.rows i (by have := HC.out.2; omega)
    have e := HX.out.2.2
    exact ftop_val h.2 (by omega)) hr3
   have H4 := qH (qA hr4 hg3)
   clear hr4 hg3 hr3
   go_wp2_with fail
   go_ret2
   exact ⟨Or.inl ⟨HX.out.1, r, by rw [HC.out.2, HX.out.2.2]; exact H4.out.1, rfl⟩, below_of_keep HX.out.2.1 (keep_trans (below_keep _ hB.out) H4.out.2) HX.out.2.1.size⟩
end Go.Proofs.YtfminfgabiipjaaGreatDoor
end
section
namespace Go.Proofs.YtfminfgabiipjaaGreatDoor
open Go.RowKit
def SolveAs (w : World) (t : Tbl) (l : List FT) (e : Ending) (w' : World) : Prop :=
  ((¬ TOk t ∧ e = .returned (.tuple #[.slice none 0 0, .int .i64 60])) ∨
   (TOk t ∧ ¬ FAll l ∧ e = .returned (.tuple #[.slice none 0 0, .int .i64 20])) ∨
   (TOk t ∧ FAll l ∧ ¬ (l.length = t.length ∧ t.length = wid t) ∧ e = .returned (.tuple #[.slice none 0 0, .int .i64 2])) ∨
   (TOk t ∧ FAll l ∧ l.length = t.length ∧ t.length = wid t ∧
     ((Sing t.length (tval t) ∧ e = .returned (.tuple #[.slice none 0 0, .int .i64 7])) ∨
      (¬ Sing t.length (tval t) ∧ ∃ x, Solves t.length (tval t) (lval l) x ∧ Tells t.length x e w')))) ∧ Below w.heap.size w w'
theorem one_list {W : World} {ao : Option Addr} {b off n c : Nat} {l : List FT} {g : Nat} {ty : TypeId} (hg : W.heap[g]? = some (.cells #[.slice ao n c] ty (0, 0))) (hn : l.length = n) (h : FCells W ao b off l) : TCells W (some ⟨g, 0, none⟩) g 0 [l] := by
 refine ⟨fun _ => rfl, fun k hk => ?_⟩
 obtain rfl : k = 0 := by simp at hk; omega
 exact ⟨ao, b, off, c, by rw [show ([l] : Tbl).getD 0 [] = l from rfl, hn]; exact cell_of_row _ _ 0 _ _ _ hg, h⟩
theorem all_one {l : List FT} : (∀ k, k < ([l] : Tbl).length → FAll (([l] : Tbl).getD k [])) ↔ FAll l :=
 ⟨fun h => h 0 (by simp), fun h k hk => by
  obtain rfl : k = 0 := by simp at hk; omega
  exact h⟩
def besides (t : Tbl) (l : List FT) (i : Nat) : List FT := t.getD i [] ++ [l.getD i fd0]
set_option maxRecDepth 100000 in
set_option maxHeartbeats 4000000 in
theorem solve_call (ao : Option Addr) (b off R c : Nat) (t : Tbl) (ao2 : Option Addr) (b2 off2 m c2 : Nat) (l : List FT) (w : World) (hR : t.length = R) (hl : R ≤ 4611686018427387904) (hw : ∀ k, k < R → (t.getD k []).length ≤ 4611686018427387904) (hc : TCells w ao b off t)
  (hm : l.length = m) (hl2 : m ≤ 4611686018427387904) (hc2 : FCells w ao2 b2 off2 l) (hT : HasT w) :
  Calls Tryz.prog 18 #[.slice ao R c, .slice ao2 m c2] w fun e w' => SolveAs w t l e w' := by
 obtain ⟨W1, hW1⟩ : ∃ W1, W1 = w.alloc (.cells #[.slice ao2 m c2] 23) := ⟨_, rfl⟩
 have hb1 : Below w.heap.size w W1 := hW1 ▸ balloc qB qN
 have hr1 : W1.heap[w.heap.size]? = some (.cells #[.slice ao2 m c2] 23 (0, 0)) := by rw [hW1]; exact qM _ _ _ rfl
 have HK := qH (checkLists_any ao b off R c t (some ⟨w.heap.size, 0, none⟩) w.heap.size 0 1 1 [l] W1 hR hl hw (hc.below hb1) rfl (by omega) (fun k hk => by
  obtain rfl : k = 0 := by omega
  show l.length ≤ _
  omega) (one_list hr1 hm (hc2.below hb1)))
 have HC := qH (qA hc (qA hR (qA hc2 (qA hm hT))))
 have HB1 := qH hb1
 clear hR hw hc hm hc2 hb1 hr1 hT
 go_enter Tryz.func18, Tryz.ntmps18
 go_wp2_with fail
 rw [← hW1]
 clear hW1
 refine HK.out.mono ?_
 rintro e w2 ⟨cc, rfl, hcc, hb2⟩
 have HB := qH (HB1.out.trans (hb2.mono HB1.out.size))
 clear hb2
 rcases hcc with ⟨rfl, hT⟩ | ⟨rfl, hT, hL⟩ | ⟨rfl, hT, hL⟩
 ·have HT := qH hT
  clear hT
  go_wp2_with fail
  go_ret2
  exact ⟨Or.inl ⟨HT.out, rfl⟩, HB.out⟩
 ·have HT := qH (qA hT hL)
  clear hT hL
  go_wp2_with fail
  go_ret2
  exact ⟨Or.inr (Or.inl ⟨HT.out.1, fun h => HT.out.2 (all_one.2 h), rfl⟩), HB.out⟩
 have hL := all_one.1 hL
 have hR40 : R ≤ 40 := by have := hT.r2; have := HC.out.2.1; omega
 have hR1 : 1 ≤ R := by have := hT.r1; have := HC.out.2.1; omega
 have hR0i : (0 : Int) < R := by omega
 have haw := HC.out.1.addr (by have := HC.out.2.1; omega)
 subst haw
 obtain ⟨n, hn⟩ : ∃ n, wid t = n := ⟨_, rfl⟩
 have hn10 : n ≤ 10 := by have := hT.c2; omega
 have hn1 : 1 ≤ n := by have := hT.c1; omega
 obtain ⟨ra0, rb0, ro0, rc0, hc0, _⟩ := (HC.out.1.below HB.out).row 0 (by have := HC.out.2.1; omega)
 rw [Nat.add_zero] at hc0
 have hn' : (t.getD 0 []).length = n := hn
 rw [hn'] at hc0
 have HX := qH (qA hT (qA hL hn))
 clear hT hL hn hn'
 by_cases e1 : m = R
 case neg =>
  have e1b : ((m : Int) != (R : Int)) = true := by rw [bne_iff_ne]; omega
  have He := qH e1
  clear e1
  go_wp2_with fail
  go_ret2
  exact ⟨Or.inr (Or.inr (Or.inl ⟨HX.out.1, HX.out.2.1, fun h => He.out (by rw [← HC.out.2.2.2.1, ← HC.out.2.1]; exact h.1), rfl⟩)), HB.out⟩
 by_cases e2 : R = n
 case neg =>
  have e1b : ((m : Int) != (R : Int)) = false := by simp [e1]
  have e2b : ((R : Int) != (n : Int)) = true := by rw [bne_iff_ne]; omega
  have He := qH e2
  clear e2 e1
  go_wp2_with fail
  go_ret2
  exact ⟨Or.inr (Or.inr (Or.inl ⟨HX.out.1, HX.out.2.1, fun h => He.out (by rw [← HX.out.2.2, ← HC.out.2.1]; exact h.2), rfl⟩)), HB.out⟩
 have e1b : ((m : Int) != (R : Int)) = false := by simp [e1]
 subst e2
 have e2b : ((R : Int) != (R : Int)) = false := by simp
 have He := qH e1
 have hmR : (m : Int) ≤ R ∧ (R : Int) ≤ m := by omega
 obtain ⟨hmR1, hmR2⟩ := hmR
 have haw2 := HC.out.2.2.1.addr (by have := HC.out.2.2.2.1; omega)
 subst haw2
 clear e1
 have hmk := make_rows R (by omega) w2
 obtain ⟨W3, hW3⟩ : ∃ W3, W3 = w2.alloc (.cells (madeCells #[zs0] R) 79) := ⟨_, rfl⟩
 have hm3 := MatPart.made w2 R (R + 1) (fun _ => 0) (fun i => ftop (besides t l i))
 rw [← hW3] at hm3 hmk
 have hs3 : W3.heap.size = w2.heap.size + 1 := by rw [hW3, World.size_alloc]
 have hb3 : Below w2.heap.size w2 W3 := hW3 ▸ balloc qB qN
 clear hW3
 obtain ⟨W4, hW4⟩ : ∃ W4, W4 = W3.alloc (.cells #[.slice (some ⟨w2.heap.size, 0, none⟩) R R] 92) := ⟨_, rfl⟩
 have hb4 : Below W3.heap.size W3 W4 := hW4 ▸ balloc qB qN
 have hr4 : W4.heap[W3.heap.size]? = some (.cells #[.slice (some ⟨w2.heap.size, 0, none⟩) R R] 92 (0, 0)) := by rw [hW4]; exact qM _ _ _ rfl
 have H4 := qH (qA (hm3.below hb4) (qA hr4 (hb3.trans (hb4.mono hb3.size))))
 have Hs3 := qH hs3
 clear hm3 hb3 hb4 hr4 hs3
 go_wp2_with fail
 rw [← hW4]
 go_loopw [37] (fun x37 W => ∃ (k : Nat) (gs : Nat → Nat), k ≤ R ∧ x37 = .int .i64 k ∧ Hid (MatPart W w2.heap.size R k (R + 1) gs (fun i => ftop (besides t l i))) ∧ Hid (W.heap[W3.heap.size]? = some (.cells #[.slice (some ⟨w2.heap.size, 0, none⟩) R R] 92 (0, 0))) ∧ Hid (Below w2.heap.size w2 W)) (fun x37 _ => R - (intOf x37).toNat)
 case atStart => exact ⟨0, fun _ => 0, Nat.zero_le _, rfl, qH H4.out.1, qH H4.out.2.1, qH H4.out.2.2⟩
 case round =>
  clear hmk hW4
  obtain ⟨k, gs, hk, rfl, hM, hr, hB⟩ := hrel
  have hBw := HB.out.trans (hB.out.mono HB.out.size)
  by_cases hkR : k < R
  ·have hki : (k : Int) < R := by omega
   have hkm : (k : Int) < m := by omega
   have hkt : k < t.length := by have := HC.out.2.1; omega
   have hkl : k < l.length := by have := HC.out.2.2.2.1; omega
   obtain ⟨ra, rb, ro, rc, hck, hfk⟩ := (HC.out.1.below hBw).row k hkt
   have hrk := HX.out.1.rows k hkt
   rw [HX.out.2.2] at hrk
   rw [hrk.1] at hck
   obtain ⟨d0, d1⟩ := (HC.out.2.2.1.below hBw).cell k hkl
   have hb2w : b2 < w2.heap.size := by
    obtain ⟨x0, _⟩ := (HC.out.2.2.1.below HB.out).cell k hkl
    exact World.block_lt_of_cell? w2 _ x0
   have hb2l := World.block_lt_of_cell? wr _ d0
   obtain ⟨N, hN⟩ : ∃ N, (l.getD k fd0).1 = N := ⟨_, rfl⟩
   obtain ⟨D, hD⟩ : ∃ D, (l.getD k fd0).2 = D := ⟨_, rfl⟩
   have hND : l.getD k fd0 = (N, D) := by rw [← hN, ← hD]
   have hok := HX.out.2.1 k hkl
   rw [hND] at hok
   rw [hN] at d0
   rw [hD] at d1
   have C0 : ∀ W, wr.grownBy W (some w2.heap.size) → W.cell? ⟨W3.heap.size, 0, none⟩ = some (.slice (some ⟨w2.heap.size, 0, none⟩) R R) := fun W h => keep_cell h hr.out (by have := Hs3.out; omega) 0
   have C1 : ∀ W, wr.grownBy W (some w2.heap.size) → W.cell? ⟨b2, off2 + k * 2, none⟩ = some (.string N) := fun W h => (keep_cellp h (p := ⟨b2, off2 + k * 2, none⟩) hb2l (Nat.ne_of_lt hb2w)).trans d0
   have C2 : ∀ W, wr.grownBy W (some w2.heap.size) → W.cell? ⟨b2, off2 + k * 2 + 1, none⟩ = some (.string D) := fun W h => (keep_cellp h (p := ⟨b2, off2 + k * 2 + 1, none⟩) hb2l (Nat.ne_of_lt hb2w)).trans d1
   have HBS := qH (fun W (h : Below wr.heap.size wr W) => beside_any ra rb ro R rc (t.getD k []) (N, D) W hrk.1 (by omega) (by omega) (hfk.below h))
   have HI := qH (fun W g (h : FCells W (some ⟨g, 0, none⟩) g 0 (t.getD k [] ++ [(N, D)])) => integers_row (c := R + 1) (show (t.getD k [] ++ [(N, D)]).length = R + 1 by rw [List.length_append, hrk.1]; rfl) (show R + 1 ≤ 64 by omega) h (FAll.snoc hrk.2 hok))
   have HE := qH (show besides t l k = t.getD k [] ++ [(N, D)] by unfold besides; rw [hND])
   have hst : Below wr.heap.size wr wr := Below.refl _ _
   have hstD : Below wr.heap.size wr wr.drew := hst.drew
   clear hrk hfk hBw hb2w hb2l hN hD hND hok d0 d1
   go_wp2_with fail
   go_region_held3 (fun W => wr.grownBy W (some w2.heap.size)) (first | with_reducible exact keep_refl _ _ | with_reducible exact below_keep _ hstD | with_reducible exact below_keep _ HB5 | with_reducible exact below_keep _ HB6 | exact keep_trans (below_keep _ HB6) (least.set_keep _ _ _ _)) (first | (go_at_call 55; refine (HBS.out _ hstD).mono ?_; rintro e w5 ⟨g5, rfl, hb5, hf5⟩; have HB5 : Below wr.heap.size wr w5 := bjoin hstD hb5; have HF5 := qH hf5; clear hb5 hf5) | (go_at_call 50; refine (HI.out _ _ HF5.out).mono ?_; rintro e w6 ⟨g6, v6, rfl, _, hb6, hm6, hg6⟩; have HB6 : Below wr.heap.size wr w6 := bjoin HB5 hb6; obtain ⟨q0, q1⟩ := (hM.out.below HB6).at hkR; have HG6 := qH hg6; obtain ⟨s6, _, _, u6, t6, _, rfl, _, _⟩ := hm6; clear hb6 hg6))
   all_goals go_wp2_with fail
   all_goals go_roundw
   all_goals first
    | exact ⟨k + 1, _, hkR, by go_num, qH ((hM.out.below HB6).set hkR (by show IntRow _ _ _ (ftop (besides t l k)); rw [HE.out]; exact HG6.out)), qH ((Below.heap_setCell _ _ _ _ (by have := Hs3.out; show W3.heap.size ≠ w2.heap.size; omega)).trans ((HB6.block _ (qG hr.out).1).trans hr.out)), qH ((hB.out.trans (HB6.mono hB.out.size)).setCell (p := ⟨w2.heap.size, k, none⟩) qN _)⟩
    | (simp [intOf]; omega)
  ·obtain rfl : k = R := by omega
   have hMd := hM.out.done
   have hfb : ∀ i, i < k → (besides t l i).length = k + 1 ∧ FAll (besides t l i) := fun i hi => by
    have h := HX.out.1.rows i (by have := HC.out.2.1; omega)
    rw [HX.out.2.2] at h
    exact ⟨by unfold besides; rw [List.length_append, h.1]; rfl, h.2.snoc (HX.out.2.1 i (by have := HC.out.2.2.2.1; omega))⟩
   have hsv := solve_any w2.heap.size k 4356 gs (fun i => ftop (besides t l i)) wr (by omega) hn10 (by omega) (by omega) hMd (fun i hi => by
    obtain ⟨ps, _, h, _⟩ := hMd.rows i hi
    exact (qG h.1).1) (fun i hi j hj => (ftop_fit (hfb i hi).2 (m := 63) (by have := (hfb i hi).1; omega) (by have := (hfb i hi).1; omega)).mono (by omega)) (HC.out.2.2.2.2.below hBw)
   have HS := qH hsv
   have HFB := qH hfb
   have bx := cell_of_row _ _ 0 _ _ _ hr.out
   clear hMd hsv hfb hBw
   go_wp2_with fail
   refine HS.out.mono ?_
   rintro e w7 ⟨hg7, h7⟩
   have hbb := below_of_keep HB.out (keep_trans (below_keep _ hB.out) hg7) HB.out.size
   have hA : ∀ i, i < k → ∀ j, j < k → castM (fun i => ftop (besides t l i)) i j = (flcd (besides t l i) : Rat) * tval t i j := fun i hi j hj => by
    have h := HX.out.1.rows i (by have := HC.out.2.1; omega)
    rw [HX.out.2.2] at h
    show ((ftop (besides t l i) j : Int) : Rat) = _
    rw [ftop_val (HFB.out i hi).2 (by have := (HFB.out i hi).1; omega)]
    congr 1
    exact lval_app_lt (by omega)
   have hAb : ∀ i, i < k → castM (fun i => ftop (besides t l i)) i k = (flcd (besides t l i) : Rat) * lval l i := fun i hi => by
    have h := HX.out.1.rows i (by have := HC.out.2.1; omega)
    rw [HX.out.2.2] at h
    show ((ftop (besides t l i) k : Int) : Rat) = _
    rw [ftop_val (HFB.out i hi).2 (by have := (HFB.out i hi).1; omega)]
    congr 1
    have := lval_app_eq (l := t.getD i []) (x := l.getD i fd0)
    rw [h.1] at this
    exact this
   have hne : ∀ i, i < k → (flcd (besides t l i) : Rat) ≠ 0 := fun i hi => flcd_ne (HFB.out i hi).2
   have hsg := Sing.scale (fun i => (flcd (besides t l i) : Rat)) hne hA
   have hsol : ∀ x, Solves k (castM (fun i => ftop (besides t l i))) (fun i => castM (fun i => ftop (besides t l i)) i k) x → Solves k (tval t) (lval l) x := fun x hx => Solves.scale (fun i => (flcd (besides t l i) : Rat)) hne hA hAb hx
   have HZ := qH (qA hbb (qA hsg hsol))
   clear hbb hA hAb hne hsg hsol hg7
   have fin : ∀ e, ((Sing k (castM fun i => ftop (besides t l i)) ∧ e = .returned (.tuple #[.slice none 0 0, .int .i64 7])) ∨
  (¬ Sing k (castM fun i => ftop (besides t l i)) ∧ ∃ x, Solves k (castM fun i => ftop (besides t l i)) (fun i => castM (fun i => ftop (besides t l i)) i k) x ∧ Tells k x e w7)) → SolveAs w t l e w7 := fun e h => by
    refine ⟨Or.inr (Or.inr (Or.inr ⟨HX.out.1, HX.out.2.1, by rw [HC.out.2.2.2.1, HC.out.2.1, He.out], by rw [HX.out.2.2, HC.out.2.1], ?_⟩)), HZ.out.1⟩
    rw [HC.out.2.1]
    rcases h with ⟨h, e⟩ | ⟨h, x, hx, ht⟩
    ·exact Or.inl ⟨HZ.out.2.1.1 h, e⟩
    ·exact Or.inr ⟨fun hs => h (HZ.out.2.1.2 hs), x, HZ.out.2.2 x hx, ht⟩
   have FIN := qH fin
   have h7' := h7
   rcases h7 with ⟨_, rfl⟩ | ⟨_, x, _, ⟨_, g, rfl, _⟩ | ⟨_, rfl⟩⟩
   all_goals
    have H7 := qH (FIN.out _ h7')
    clear h7' fin
    go_wp2_with fail
    go_ret2
    exact H7.out
end Go.Proofs.YtfminfgabiipjaaGreatDoor
end
