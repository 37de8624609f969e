/- Aa, part 50: Lk -/
import Derived.Test.YtfminfgabiipjaaGreatDoorAa0
import Derived.Test.YtfminfgabiipjaaGreatDoorAa43
import Derived.Test.YtfminfgabiipjaaGreatDoorAa48
set_option maxRecDepth 100000
set_option maxHeartbeats 16000000
namespace Go.Proofs.YtfminfgabiipjaaGreatDoor
open Go.RowKit
theorem qkX (hworks : ∀ W : World, HasT W → Calls Tryz.prog 10 #[] W fun e w' => e = .returned (.bool true) ∧ Below W.heap.size W w')
  (r1 c1 : Nat) (N1 : List Int) (D1 : List Nat) (v1 : Value) (r2 c2 : Nat) (N2 : List Int) (D2 : List Nat) (v2 : Value) (ti tk : Nat) (hti : ti < 256) (htk : tk < 256) (w : World) (h1 : qc6 w v1 r1 c1 N1 D1) (h2 : qc6 w v2 r2 c2 N2 D2) (hP : HasT w) :
  Calls Tryz.prog 8 #[v1, v2, .int .u8 (ti : Int), .int .u8 (tk : Int)] w fun e w' => e = .returned (.bool true) ∧ Below w.heap.size w w' := by
 have HW := qH hworks
 have HA := qH (qA h1 (qA h2 hP))
 obtain ⟨a, b, off, nn, cc, a', b', off', n', cc', rfl, _⟩ := h1
 obtain ⟨ax, bx, offx, nnx, ccx, ax', bx', offx', nx', ccx', rfl, _⟩ := h2
 obtain ⟨F, hF⟩ : ∃ F : Nat → Nat → Rat, F = fun i j => drq N1 D1 (5 * i + j) := ⟨_, rfl⟩
 obtain ⟨G, hG⟩ : ∃ G : Nat → Nat → Rat, G = fun i j => drq N2 D2 (5 * i + j) := ⟨_, rfl⟩
 obtain ⟨Y, hY⟩ : ∃ Y : Nat → Rat, Y = fun i => drq N2 D2 (0 + 3 * i) := ⟨_, rfl⟩
 obtain ⟨R, hR⟩ : ∃ R, 1 + r1 % 8 = R := ⟨_, rfl⟩
 obtain ⟨n, hn⟩ : ∃ n, 1 + c1 % 4 = n := ⟨_, rfl⟩
 have hR1 : 1 ≤ R := by omega
 have hR8 : R ≤ 8 := by omega
 have hn1 : 1 ≤ n := by omega
 have hn4 : n ≤ 4 := by omega
 have HT := qH (fun (W : World) (h : Below w.heap.size w W) => qhr r1 c1 N1 D1 _ W (HA.out.1.below h))
 have HL := qH (fun (W : World) (h : Below w.heap.size w W) => qfM 1 0 (by decide) (by decide) r2 c2 N2 D2 _ W (HA.out.2.1.below h))
 have HZ := qH (fun (W : World) (h : Below w.heap.size w W) => qgp 1 n (by decide) (by omega) r2 c2 N2 D2 _ W (HA.out.2.1.below h))
 rw [← hF, hR, hn] at HT
 rw [← hY] at HL
 rw [← hG] at HZ
 have hSF : ∀ i j, Sm (F i j) := fun i j => by rw [hF]; exact qdR _ _ _
 have hSG : ∀ i j, Sm (G i j) := fun i j => by rw [hG]; exact qdR _ _ _
 have hSY : ∀ i, Sm (Y i) := fun i => by rw [hY]; exact qdR _ _ _
 have HS := qH (qA hSF (qA hSG hSY))
 clear hF hG hY hSF hSG hSY hR hn hP hworks
 obtain ⟨fr, hfr⟩ : ∃ fr, ti % R = fr := ⟨_, rfl⟩
 obtain ⟨tz, htz⟩ : ∃ tz, tk % R = tz := ⟨_, rfl⟩
 have hfR : fr < R := by rw [← hfr]; exact qa7 _ (by omega)
 have htR : tz < R := by rw [← htz]; exact qa7 _ (by omega)
 have e5 : (ti : Int) % R = fr := by rw [← hfr]; exact (Int.natCast_emod ti R).symm ▸ rfl
 have e6 : (tk : Int) % R = tz := by rw [← htz]; exact (Int.natCast_emod tk R).symm ▸ rfl
 have hRi : (0 : Int) < R := by omega
 have hRn : 0 < R := by omega
 clear hfr htz
 obtain ⟨W1, hW1⟩ : ∃ W1, W1 = (w.alloc (.cells #[.int .u8 (r1 : Int), .int .u8 (c1 : Int), .slice a nn cc, .slice a' n' cc'] 29)).alloc (.cells #[.int .u8 (r2 : Int), .int .u8 (c2 : Int), .slice ax nnx ccx, .slice ax' nx' ccx'] 29) := ⟨_, rfl⟩
 have hb1 : Below w.heap.size w W1 := hW1 ▸ qb1 (qb1 qB qN) qN
 have hr1 : W1.heap[w.heap.size]? = some (.cells #[.int .u8 (r1 : Int), .int .u8 (c1 : Int), .slice a nn cc, .slice a' n' cc'] 29 (0, 0)) := by rw [hW1, qL _ _ _ (by simp only [qab]; omega)]; exact qM _ _ _ rfl
 have hr2 : W1.heap[w.heap.size + 1]? = some (.cells #[.int .u8 (r2 : Int), .int .u8 (c2 : Int), .slice ax nnx ccx, .slice ax' nx' ccx'] 29 (0, 0)) := by rw [hW1]; exact qM _ _ _ (by simp)
 have H1 := qH (qA hb1 (qA hr1 hr2))
 clear hb1 hr1 hr2
 go_enter Tryz.func8, Tryz.ntmps8
 go_wp2_with fail
 rw [← hW1]
 clear hW1
 refine (HW.out W1 (HA.out.2.2.below H1.out.1)).mono ?_
 rintro e w2 ⟨rfl, hb2⟩
 have H2 := qH (qA (H1.out.1.trans (hb2.mono H1.out.1.size)) (qA (zkeep hb2 _ _ H1.out.2.1) (zkeep hb2 _ _ H1.out.2.2)))
 clear hb2
 go_wp2_with ((with_reducible refine qb4 rfl 29 _ rfl (w.heap.size) ?_ 29 #[.int .u8 (r1 : Int), .int .u8 (c1 : Int), .slice a nn cc, .slice a' n' cc'] _ H2.out.2.1 Tryz.underlying29 ?_ 4 ?_ ?_ ?_); (next => rfl); (next => rfl); (next => kernel_rfl); (next => rfl))
 refine (HT.out _ H2.out.1).mono ?_
 rintro e w3 ⟨ao, g, cap, rfl, hT, hcap, hb3⟩
 have haddr := hT.addr (by rw [qch]; omega)
 subst haddr
 have H3 := qH (qA (H2.out.1.trans (hb3.mono H2.out.1.size)) (qA (zkeep hb3 _ _ H2.out.2.2) hT))
 clear hb3 hT
 go_wp2_with fail
 refine (qeg hR1 (by omega) hn1 (by omega) (fun i _ => fun j _ => (HS.out.1 i j).short) H3.out.2.2).mono ?_
 rintro e w4 ⟨⟨k0, hk0, rfl⟩, hb4⟩
 have H4 := qH (qA (H3.out.1.trans (hb4.mono H3.out.1.size)) (qA (zkeep hb4 _ _ H3.out.2.1) (H3.out.2.2.below hb4)))
 have HK0 := qH hk0
 clear hb4 hk0
 obtain ⟨vs, hrv, hvc⟩ := H4.out.2.2.vals
 have hvl : vs.length = R := by rw [hrv.1, qch]
 have HV := qH (qA hrv (qA hvc hvl))
 have hst : Below w4.heap.size w4 w4 := Below.refl _ _
 have hstD : Below w4.heap.size w4 w4.drew := hst.drew
 have R2 := H4.out.2.1
 have l0 := (qG R2).1
 obtain ⟨ra, rb, ro, rc, hrow, hrf⟩ := H4.out.2.2.row 0 (by rw [qch]; omega)
 rw [qda (by omega), qb2, qaD] at hrow
 have lr : g < w4.heap.size := qag w4 _ hrow
 have D0 : ∀ W, Below w4.heap.size w4 W → W.cell? ⟨w.heap.size + 1, 0, none⟩ = some (.int .u8 (r2 : Int)) := fun W h => (h.cell (p := ⟨w.heap.size + 1, 0, none⟩) l0).trans (cell_of_row _ _ 0 _ _ _ R2)
 have D1 : ∀ W, Below w4.heap.size w4 W → W.cell? ⟨w.heap.size + 1, 1, none⟩ = some (.int .u8 (c2 : Int)) := fun W h => (h.cell (p := ⟨w.heap.size + 1, 1, none⟩) l0).trans (cell_of_row _ _ 1 _ _ _ R2)
 have D2 : ∀ W, Below w4.heap.size w4 W → W.cell? ⟨w.heap.size + 1, 2, none⟩ = some (.slice ax nnx ccx) := fun W h => (h.cell (p := ⟨w.heap.size + 1, 2, none⟩) l0).trans (cell_of_row _ _ 2 _ _ _ R2)
 have D3 : ∀ W, Below w4.heap.size w4 W → W.cell? ⟨w.heap.size + 1, 3, none⟩ = some (.slice ax' nx' ccx') := fun W h => (h.cell (p := ⟨w.heap.size + 1, 3, none⟩) l0).trans (cell_of_row _ _ 3 _ _ _ R2)
 have DR : ∀ W, Below w4.heap.size w4 W → W.cell? ⟨g, 0, none⟩ = some (.slice ra n rc) := fun W h => (h.cell (p := ⟨g, 0, none⟩) lr).trans hrow
 clear hrv hvc hvl hrf R2 hrow
 go_wp2_with fail
 refine wp_region_held_drew (S := fun W => Below w4.heap.size w4 W) (by kernel_rfl) (hstD) (fun hS0 => ?_)
 refine qb3 0 (v := ?_) rfl (by kernel_rfl) (fun _ _ _ h => h) (by assumption) (by rfl) (fun w hSw => ?_) ?_
 rotate_left 1
 ·(try dsimp only at hSw); go_simp <;> with_reducible rfl
 try simp only [Act.put, qaa, qad, qae]
 refine qb3 2 (v := ?_) rfl (by kernel_rfl) (fun _ _ _ h => h) (by assumption) (by rfl) (fun w hSw => ?_) ?_
 rotate_left 1
 ·(try dsimp only at hSw); go_simp <;> with_reducible rfl
 try simp only [Act.put, qaa, qad, qae]
 refine qb3 3 (v := ?_) rfl (by kernel_rfl) (fun _ _ _ h => h) (by assumption) (by rfl) (fun w hSw => ?_) ?_
 rotate_left 1
 ·(try dsimp only at hSw); go_simp <;> with_reducible rfl
 try simp only [Act.put, qaa, qad, qae]
 refine qb3 4 (v := ?_) rfl (by kernel_rfl) (fun _ _ _ h => h) (by assumption) (by rfl) (fun w hSw => ?_) ?_
 rotate_left 1
 ·(try dsimp only at hSw); go_simp <;> with_reducible rfl
 try simp only [Act.put, qaa, qad, qae]
 refine qb3 5 (v := ?_) rfl (by kernel_rfl) (fun _ _ _ h => h) (by assumption) (by rfl) (fun w hSw => ?_) ?_
 rotate_left 1
 ·(try dsimp only at hSw); go_simp <;> with_reducible rfl
 try simp only [Act.put, qaa, qad, qae]
 refine qb3 6 (v := ?_) rfl (by kernel_rfl) (fun _ _ _ h => h) (by assumption) (by rfl) (fun w hSw => ?_) ?_
 rotate_left 1
 ·(try dsimp only at hSw); go_simp <;> with_reducible rfl
 try simp only [Act.put, qaa, qad, qae]
 refine qcq 1 rfl (by kernel_rfl) (fun K hK => ?_)
 go_simp
 (go_at_call 38; refine (qe8 (some ⟨g, 0, none⟩) g 0 R cap vs _ HV.out.2.2 (by omega) (by omega) (HV.out.2.1.below hstD) HV.out.1.not).mono ?_; rintro e w5 ⟨v5, rfl, hr5, hb5⟩)
 have V5 : Below w4.heap.size w4 w5 := hstD.trans (hb5.mono qN)
 have G5 := qH hr5
 clear hb5 hr5
 go_wp2_with fail
 refine Way.on hK (fun W => Below w4.heap.size w4 W) _ _ (fun W h => h) (V5) (fun hS0 => ?_)
 clear hK K
 try simp only [Act.put, qaa, qad, qae]
 refine qcq 7 rfl (by kernel_rfl) (fun K hK => ?_)
 go_simp
 (go_at_call 39; refine (HZ.out _ (H4.out.1.trans (V5.mono H4.out.1.size))).mono ?_; rintro e w6 ⟨v6, vs6, B6, rfl, _, hr6, hd6, hb6⟩)
 have V6 : Below w4.heap.size w4 w6 := V5.trans (hb6.mono V5.size)
 obtain ⟨a6, g6, c6, rfl, hv6, _⟩ := hr6.vcells
 obtain ⟨u6, rfl⟩ : ∃ u, vs6 = [u] := List.length_eq_one_iff.1 hd6.1
 have ha6 := hv6.addr (Nat.succ_pos _)
 subst ha6
 obtain ⟨B7, _, hu6⟩ := hd6.2 0 (by decide)
 obtain ⟨ra6, rc6, hu⟩ := hu6.shape
 have hu : u6 = .slice ra6 n rc6 := hu
 subst hu
 have hrow6 : w6.cell? ⟨g6, 0, none⟩ = some (.slice ra6 n rc6) := hv6.cell 0 (Nat.succ_pos _)
 have G6 := qH (qA (G5.out.below hb6) (show Rws w6 B7 46 2 (.slice ra6 n rc6) n (fflat (told n (G 0))) from hu6))
 clear hb6 hr6 hd6 hv6 hu6
 go_wp2_with fail
 refine Way.on hK (fun W => Below w4.heap.size w4 W) _ _ (fun W h => h) (V6) (fun hS0 => ?_)
 clear hK K
 try simp only [Act.put, qaa, qad, qae]
 refine qb3 8 (v := ?_) rfl (by kernel_rfl) (fun _ _ _ h => h) (by assumption) (by rfl) (fun w hSw => ?_) ?_
 rotate_left 1
 ·(try dsimp only at hSw); go_simp <;> with_reducible rfl
 try simp only [Act.put, qaa, qad, qae]
 refine qcq 9 rfl (by kernel_rfl) (fun K hK => ?_)
 go_simp
 refine Way.on hK (fun W => Below w4.heap.size w4 W) _ _ (fun W h => h) (V6) (fun hS0 => ?_)
 clear hK K
 try simp only [Act.put, qaa, qad, qae]
 refine qcq 10 rfl (by kernel_rfl) (fun K hK => ?_)
 go_simp
 refine Way.on hK (fun W => Below w4.heap.size w4 W) _ _ (fun W h => h) (qb1 V6 qN) (fun hS0 => ?_)
 clear hK K
 try simp only [Act.put, qaa, qad, qae]
 refine qcq 11 rfl (by kernel_rfl) (fun K hK => ?_)
 refine qmF rfl _ _ rfl (B := w4.heap.size) (m := 1) (n := R) (by rw [qab]; exact qam V6.size (qbb _)) (G6.out.1.below (qb1 qB qN)) (vnew1 w6 _ _ rfl) qhn rfl (by decide) rfl rfl (by omega) ?_
 intro v8 w8 ho8 hg8
 have hba : Below w6.heap.size w6 (w6.alloc (.cells #[.slice ra6 n rc6] 23)) := qb1 qB qN
 have V8 : Below w4.heap.size w4 w8 := (G6.out.1.below hba).old hg8 (qb1 V6 qN) qN (by rw [qab]; exact qam V6.size (qbb _))
 have hu8 := (G6.out.2.below hba).kept hg8 ((G6.out.2.below hba).ne (G6.out.1.below hba) (by decide))
 obtain ⟨_, rb8, hf8⟩ := hu8.told
 obtain ⟨ao8, g8, cp8, rfl, hv8, _⟩ := ho8.vcells
 have hT8 := ((HV.out.1.below V8).append (qcs.one (qb2 n (G 0)) hf8)).tcells hv8
 rw [show ttab R n F ++ [told n (G 0)] = _ from qir R n F G] at hT8
 have G8 := qH hT8
 clear hba hu8 hf8 hv8 hT8 ho8 hg8
 refine Way.on hK (fun W => Below w4.heap.size w4 W) _ _ (fun W h => h) (V8) (fun hS0 => ?_)
 clear hK K
 try simp only [Act.put, qaa, qad, qae]
 refine qcq 12 rfl (by kernel_rfl) (fun K hK => ?_)
 go_simp
 (go_at_call 16; refine (qeg (by omega) (by omega) hn1 (by omega) (fun i _ => fun j _ => by (split; exact (HS.out.1 _ _).short; exact (HS.out.2.1 _ _).short)) G8.out).mono ?_; rintro e w9 ⟨⟨k1, hk1, rfl⟩, hb9⟩)
 have V9 : Below w4.heap.size w4 w9 := V8.trans (hb9.mono V8.size)
 have hkk := qmj HK0.out hk1 (fun i hi j _ => by rw [if_pos hi])
 clear hb9 hk1
 go_wp2_with fail
 refine Way.on hK (fun W => Below w4.heap.size w4 W) _ _ (fun W h => h) (V9) (fun hS0 => ?_)
 clear hK K
 try simp only [Act.put, qaa, qad, qae]
 refine qb3 13 (v := ?_) rfl (by kernel_rfl) (fun _ _ _ h => h) (by assumption) (by rfl) (fun w hSw => ?_) ?_
 rotate_left 1
 ·(try dsimp only at hSw); go_simp <;> with_reducible rfl
 try simp only [Act.put, qaa, qad, qae]
 refine qb3 14 (v := ?_) rfl (by kernel_rfl) (fun _ _ _ h => h) (by assumption) (by rfl) (fun w hSw => ?_) ?_
 rotate_left 1
 ·(try dsimp only at hSw); go_simp <;> with_reducible rfl
 try simp only [Act.put, qaa, qad, qae]
 refine qb3 15 (v := ?_) rfl (by kernel_rfl) (fun _ _ _ h => h) (by assumption) (by rfl) (fun w hSw => ?_) ?_
 rotate_left 1
 ·(try dsimp only at hSw); go_simp <;> with_reducible rfl
 try simp only [Act.put, qaa, qad, qae]
 refine qb3 16 (v := ?_) rfl (by kernel_rfl) (fun _ _ _ h => h) (by assumption) (by rfl) (fun w hSw => ?_) ?_
 rotate_left 1
 ·(try dsimp only at hSw); go_simp <;> with_reducible rfl
 try simp only [Act.put, qaa, qad, qae]
 refine qb3 17 (v := ?_) rfl (by kernel_rfl) (fun _ _ _ h => h) (by assumption) (by rfl) (fun w hSw => ?_) ?_
 rotate_left 1
 ·(try dsimp only at hSw); go_simp <;> with_reducible rfl
 try simp only [Act.put, qaa, qad, qae]
 refine wpAnyH_done (by kernel_rfl) ?_ _
 have H9 := qH (qA (H4.out.1.trans (V9.mono H4.out.1.size)) (qA (zkeep V9 _ _ H4.out.2.1) (qA (HV.out.1.below V9) (HV.out.2.1.below V9))))
 have z0 := DR w9 V9
 have hk0R := HK0.out.le_rows
 have hk0n := HK0.out.le_cols
 have hHK := qH (qA HK0.out HV.out.2.2)
 have hkl : (k1 : Int) ≤ (k0 : Int) + 1 := by omega
 have hkm : ¬ (k1 : Int) < (k0 : Int) := by omega
 have hkn : (k0 : Int) ≤ n := by omega
 have hkR : (k0 : Int) ≤ R := by omega
 clear V5 V6 V8 V9 G5 G6 G8 hst hstD D0 D1 D2 D3 DR l0 lr HV hS0 hrow6 HK0
 have hRz : ¬ (R : Int) = 0 := by omega
 have hn0 : 0 < n := by omega
 go_wp2_with fail
 go_region
 go_wp2_with fail
 refine (qe8 (some ⟨g, 0, none⟩) g 0 R cap vs _ hHK.out.2 hRn (by omega) (by first | exact H9.out.2.2.2 | exact H9.out.2.2.2.below qB.drew) H9.out.2.2.1.not).mono ?_
 rintro e w10 ⟨v10, rfl, hr10, hb10⟩
 have hb10 : Below w9.heap.size w9 w10 := by first | exact hb10 | exact undrew hb10
 obtain ⟨g10, c10, rst, rfl, hbg, hcc, hcur, hre⟩ := hr10.open hRn
 have hbg : w9.heap.size ≤ g10 := hbg
 have H10 := qH (qA hb10 hr10)
 clear hb10 hr10 hcur hre z0
 go_wp2_with fail
 refine (qi1 (.slice (some ⟨g10, 0, none⟩) R c10) R _ vs w10 hRn (by omega) H10.out.2 H9.out.2.2.1.slices).mono ?_
 rintro e w11 ⟨rfl, hr11, hg11⟩
 have hb11 : Below w9.heap.size w9 w11 := H10.out.2.old hg11 H10.out.1 (by first | exact qaf _) H10.out.1.size
 have hv11 := (H9.out.2.2.1.below hb11).rev
 rw [ttab_rev] at hv11
 obtain ⟨gq, cq, rsq, heq, hbq, hcq, hcur, hre⟩ := hr11.open hRn
 cases heq
 have H11 := qH (qA (H9.out.1.trans (hb11.mono H9.out.1.size)) (qA (zkeep hb11 _ _ H9.out.2.1) (qA hv11 (qA hr11 (qA hcur hre)))))
 clear hg11 hb11 hv11 hr11 hcur hre hcq hbq
 by_cases hft : fr = tz
 ·have hfti : ((fr : Int) != (tz : Int)) = false := by rw [hft]; simp
  obtain ⟨gv, gg, gc, hve, hvc, _⟩ := H11.out.2.2.2.1.vcells
  cases hve
  have HTC := qH (H11.out.2.2.1.tcells hvc)
  have HRk := qH (qmh (B := fun i => F (R - 1 - i)) hHK.out.1 (fun i _ j _ => rfl))
  clear hvc
  subst hft
  go_wp2_with fail
  refine (qfS (k0 : Int) w11).mono ?_
  rintro e ws ⟨bs, rfl, hbs, hcs⟩
  have HQ1 := qH (qA hbs (qA hcs (HTC.out.below hbs)))
  clear hbs hcs
  go_wp2_with fail
  refine (qeg hR1 (by omega) hn1 (by omega) (fun i hi => fun j hj => (HS.out.1 _ _).short) HQ1.out.2.2).mono ?_
  rintro e wt ⟨⟨k2, hk2, rfl⟩, hbt⟩
  obtain rfl : k2 = k0 := hk2.uniq HRk.out (qcZ.refl _ _ _)
  have HQ2 := qH (qA (HQ1.out.1.trans (hbt.mono HQ1.out.1.size)) (zkeep hbt _ _ HQ1.out.2.1))
  clear hbt hk2
  go_wp2_with fail
  refine (qe1 _ bs wt HQ2.out.2).mono ?_
  rintro e wu ⟨rfl, rfl⟩
  go_wp2_with fail
  go_ret
  exact ⟨rfl, (H11.out.1).trans (HQ2.out.1.mono (H11.out.1).size)⟩
 ·have hfti : ((fr : Int) != (tz : Int)) = true := by rw [bne_iff_ne]; omega
  have hfi : (fr : Int) < R := by omega
  have hti2 : (tz : Int) < R := by omega
  obtain ⟨gv, gg, gc, hve, hvc, _⟩ := H11.out.2.2.2.1.vcells
  cases hve
  have hga := hvc.addr (by rw [qbS, hHK.out.2]; exact hRn)
  cases hga
  have hTC := H11.out.2.2.1.tcells hvc
  obtain ⟨rt, rtb, rto, rtc, ht0, ht1⟩ := hTC.row tz (by rw [qch]; exact htR)
  rw [qda htR, qb2, qaD] at ht0
  rw [qda htR] at ht1
  have HTC := qH hTC
  have Ht1 := qH ht1
  clear hvc hTC ht1
  have hft2 : ¬ fr = tz := hft
  go_wp2_with fail
  refine (qdX rt rtb rto n rtc (told n (F (R - 1 - tz))) _ (qb2 _ _) hn0 (by omega) Ht1.out).mono ?_
  rintro e w12 ⟨v12, rfl, hr12, hb12⟩
  obtain ⟨g12, c12, rst12, rfl, hbg12, hcc12, hcur12, hre12⟩ := hr12.open hn0
  have H12 := qH (qA hb12 (qA hcur12 hre12))
  clear hb12 hcur12 hre12 hr12 ht0
  obtain ⟨A, hA⟩ : ∃ A : Nat → Rat, A = F (R - 1 - tz) := ⟨_, rfl⟩
  obtain ⟨B, hB⟩ : ∃ B : Nat → Rat, B = F (R - 1 - fr) := ⟨_, rfl⟩
  obtain ⟨q, hq⟩ : ∃ q, q = Y 0 := ⟨_, rfl⟩
  have HQ := qH (qA hA (qA hB hq))
  have hSm := qA (fun j => HS.out.1 (R - 1 - tz) j) (qA (fun j => HS.out.1 (R - 1 - fr) j) (HS.out.2.2 0))
  rw [← hA, ← hB, ← hq] at hSm
  have HSm := qH hSm
  have h12 := H12.out.2.1
  have h12r := H12.out.2.2
  rw [← hA] at h12 h12r
  have HR12 := qH h12r
  have hc12 : (told n A) = told n fun c => if c < 0 then A c + B c * q else A c := by exact qcU fun i _ => by rw [if_neg (Nat.not_lt_zero _)]
  rw [hc12] at h12
  have HC12 := qH h12
  clear h12 h12r hc12 hA hB hq hSm
  go_wp2_with fail
  go_loopw [18, 19, 20, 98] (fun _ _ _ x98 W => ∃ j : Nat, j ≤ n ∧ x98 = .int .i64 j ∧ Hid (W.heap[g12]? = some (.cells (fflat (told n fun c => if c < j then A c + B c * q else A c) ++ rst12).toArray 46 (0, 0))) ∧ Hid (Below w11.heap.size w11 W)) (fun _ _ _ x98 _ => n - (intOf x98).toNat)
  case atStart => exact ⟨0, qar _, rfl, HC12, qH H12.out.1⟩
  case round =>
   obtain ⟨j, hj, rfl, hR, hB⟩ := hrel
   by_cases hjn : j < n
   case neg =>
    obtain rfl : j = n := by omega
    have hg10 := zkeep hB.out _ _ H11.out.2.2.2.2.1
    have hvl2 : vs.reverse.length = R := by rw [qbS, hHK.out.2]
    obtain ⟨u0, hu0⟩ : ∃ u, vs.reverse[tz]? = some u := ⟨_, qai (by omega)⟩
    obtain ⟨ua, um, uc, rfl⟩ := H9.out.2.2.1.slices u0 (List.mem_reverse.1 (qbB hu0))
    have cz := (cell_of_row _ _ tz _ _ _ hg10).trans (show (vs.reverse ++ rsq).toArray[tz]? = some (.slice ua um uc) by rw [qax, qay (by omega)]; exact hu0)
    have fz := frozen_of_row _ _ tz _ _ hg10
    have hrow := HR12.out wr (fflat (told j fun c => if c < j then A c + B c * q else A c)) (by rw [qcl, qcl, qb2, qb2]) (qeW _) hR.out
    obtain ⟨_, rb12, hrf⟩ := hrow.told
    rw [show (told j fun c => if c < j then A c + B c * q else A c) = told j fun c => A c + B c * q from qcU fun i hi => by rw [if_pos hi]] at hrf
    have hput := ((H11.out.2.2.1.below hB.out).stored cz (.slice (some ⟨g12, 0, none⟩) j c12)).put (i := tz) (qb2 j fun c => A c + B c * q) (hrf.stored cz (.slice (some ⟨g12, 0, none⟩) j c12)) (rc := c12)
    rw [ttab_set] at hput
    have hset := heap_setCell_same _ g10 tz _ _ (.slice (some ⟨g12, 0, none⟩) j c12) hg10
    rw [qaa, List.set_append_left _ _ (by omega)] at hset
    have hrs := H11.out.2.2.2.2.2 _ (vs.reverse.set tz (.slice (some ⟨g12, 0, none⟩) j c12)) (by rw [qaS]) (fun y hy => by
     rcases List.mem_or_eq_of_mem_set hy with h | h
     ·exact (H9.out.2.2.1.not y (List.mem_reverse.1 h)).1
     ·rw [h]; exact qd7 _ _ _) hset
    obtain ⟨gv, gg, gc, hve, hvc, _⟩ := hrs.vcells
    cases hve
    have HTC2 := qH (hput.tcells hvc)
    clear HTC
    have HTC := HTC2
    clear HTC2
    have HRk := qH (qml (B := fun i => if i = tz then fun c => A c + B c * q else F (R - 1 - i)) (c := q) hHK.out.1 htR hfR hft2 (fun i _ c _ => by
     by_cases h : i = tz
     ·subst h; rw [if_pos rfl, if_pos rfl, ← HQ.out.1, ← HQ.out.2.1]
      show A c + B c * q = A c + q * B c
      grind
     ·rw [if_neg h, if_neg h]
      show F (R - 1 - i) c = F (R - 1 - i) c + 0
      grind))
    obtain ⟨wS, hwS⟩ : ∃ W, W = wr.setCell ⟨g10, tz, none⟩ (.slice (some ⟨g12, 0, none⟩) j c12) := ⟨_, rfl⟩
    have hbS : Below w.heap.size w wS := by
     rw [hwS]
     exact (H11.out.1.trans (hB.out.mono H11.out.1.size)).setCell (p := ⟨g10, tz, none⟩) (qam H9.out.1.size hbg) _
    rw [← hwS] at HTC
    have HBS := qH (qA hbS hwS)
    clear hg10 hu0 hrow hrf hput hset hrs hvc hbS hwS
    go_wp2_with fail
    rw [← HBS.out.2]
    refine (qfS (k0 : Int) wS).mono ?_
    rintro e ws ⟨bs, rfl, hbs, hcs⟩
    have HQ1 := qH (qA hbs (qA hcs (HTC.out.below hbs)))
    clear hbs hcs
    go_wp2_with fail
    refine (qeg hR1 (by omega) hn1 (by omega) (fun i hi => fun j hj => (by split; exact (HSm.out.1 _).add_short (HSm.out.2.1 _) HSm.out.2.2; exact (HS.out.1 _ _).short)) HQ1.out.2.2).mono ?_
    rintro e wt ⟨⟨k2, hk2, rfl⟩, hbt⟩
    obtain rfl : k2 = k0 := hk2.uniq HRk.out (qcZ.refl _ _ _)
    have HQ2 := qH (qA (HQ1.out.1.trans (hbt.mono HQ1.out.1.size)) (zkeep hbt _ _ HQ1.out.2.1))
    clear hbt hk2
    go_wp2_with fail
    refine (qe1 _ bs wt HQ2.out.2).mono ?_
    rintro e wu ⟨rfl, rfl⟩
    go_wp2_with fail
    go_ret
    exact ⟨rfl, (HBS.out.1).trans (HQ2.out.1.mono (HBS.out.1).size)⟩
   have hji : (j : Int) < n := by omega
   obtain ⟨f0, fb, fo, fc, hf0, hf1⟩ := HTC.out.row fr (by rw [qch]; exact hfR)
   rw [qda hfR, qb2, qaD] at hf0
   rw [qda hfR, ← HQ.out.2.1] at hf1
   have hfa := hf1.addr (by rw [qb2]; exact hn0)
   subst hfa
   obtain ⟨a1, a2, ha⟩ := qdm (A j)
   obtain ⟨b1, b2, hb⟩ := qdm (B j)
   obtain ⟨q1, q2, hq⟩ := qdm q
   obtain ⟨t1, t2, ht⟩ := qdm (B j * q)
   obtain ⟨u1, u2, hu⟩ := qdm (A j + B j * q)
   have hst : Below wr.heap.size wr wr := Below.refl _ _
   have hstD : Below wr.heap.size wr wr.drew := hst.drew
   have hstA : Below wr.heap.size wr (wr.alloc (.cells #[.string ⟨#[]⟩, .string ⟨#[]⟩] 46)).drew := (qb1 hst qN).drew
   have C0 : ∀ W, Below wr.heap.size wr W → W.cell? ⟨g10, fr, none⟩ = some (.slice (some ⟨fb, fo, none⟩) n fc) := fun W h => ((hB.out.trans (h.mono hB.out.size)).cell (qag w11 _ hf0)).trans hf0
   have C1 : ∀ W, Below wr.heap.size wr W → W.cell? ⟨fb, fo + j * 2, none⟩ = some (.string b1) := fun W h => (qcL (hf1.below (hB.out.trans (h.mono hB.out.size))) hjn hb).1
   have C2 : ∀ W, Below wr.heap.size wr W → W.cell? ⟨fb, fo + j * 2 + 1, none⟩ = some (.string b2) := fun W h => (qcL (hf1.below (hB.out.trans (h.mono hB.out.size))) hjn hb).2
   have R2 := H11.out.2.1
   have l0 := (qG R2).1
   have D0 : ∀ W, Below wr.heap.size wr W → W.cell? ⟨w.heap.size + 1, 0, none⟩ = some (.int .u8 (r2 : Int)) := fun W h => ((hB.out.trans (h.mono hB.out.size)).cell (p := ⟨w.heap.size + 1, 0, none⟩) l0).trans (cell_of_row _ _ 0 _ _ _ R2)
   have D1 : ∀ W, Below wr.heap.size wr W → W.cell? ⟨w.heap.size + 1, 1, none⟩ = some (.int .u8 (c2 : Int)) := fun W h => ((hB.out.trans (h.mono hB.out.size)).cell (p := ⟨w.heap.size + 1, 1, none⟩) l0).trans (cell_of_row _ _ 1 _ _ _ R2)
   have D2 : ∀ W, Below wr.heap.size wr W → W.cell? ⟨w.heap.size + 1, 2, none⟩ = some (.slice ax nnx ccx) := fun W h => ((hB.out.trans (h.mono hB.out.size)).cell (p := ⟨w.heap.size + 1, 2, none⟩) l0).trans (cell_of_row _ _ 2 _ _ _ R2)
   have D3 : ∀ W, Below wr.heap.size wr W → W.cell? ⟨w.heap.size + 1, 3, none⟩ = some (.slice ax' nx' ccx') := fun W h => ((hB.out.trans (h.mono hB.out.size)).cell (p := ⟨w.heap.size + 1, 3, none⟩) l0).trans (cell_of_row _ _ 3 _ _ _ R2)
   have HM := qH (fun (W : World) (h : Below wr.heap.size wr W) => qjA hb hq ht (HSm.out.2.1 j).short HSm.out.2.2.short ((HSm.out.2.1 j).mul_short HSm.out.2.2) W (HA.out.2.2.below (H11.out.1.trans ((hB.out.trans (h.mono hB.out.size)).mono H11.out.1.size))))
   have HAd := qH (fun (W : World) (h : Below wr.heap.size wr W) => qjl ha ht hu (HSm.out.1 j).short ((HSm.out.2.1 j).mul_short HSm.out.2.2) ((HSm.out.1 j).add_short (HSm.out.2.1 j) HSm.out.2.2) W (HA.out.2.2.below (H11.out.1.trans ((hB.out.trans (h.mono hB.out.size)).mono H11.out.1.size))))
   have HLi := qH (fun (W : World) (h : Below wr.heap.size wr W) => HL.out W (H11.out.1.trans ((hB.out.trans (h.mono hB.out.size)).mono H11.out.1.size)))
   have HX := qH (qA ha (qA hu (show ftxt (Y 0) = (q1, q2) by rw [← HQ.out.2.2]; exact hq)))
   clear hf0 hf1 R2 ha hb hq ht hu
   go_wp2_with fail
   go_cut [19, 20] (fun x19 x20 W => ∃ g7 : Nat, x19 = .pointer (some ⟨g7, 0, none⟩) ∧ x20 = .int .i64 0 ∧ FOne wr W g7 (t1, t2))
   case first =>
    refine wp_region_held_drew (S := fun W => Below wr.heap.size wr W) (by kernel_rfl) (hstD) (fun hS0 => ?_)
    refine qb3 0 (v := ?_) rfl (by kernel_rfl) (fun _ _ _ h => h) (by assumption) (by rfl) (fun w hSw => ?_) ?_
    rotate_left 1
    ·(try dsimp only at hSw); go_simp <;> with_reducible rfl
    try simp only [Act.put, qaa, qad, qae]
    refine qb3 1 (v := ?_) rfl (by kernel_rfl) (fun _ _ _ h => h) (by assumption) (by rfl) (fun w hSw => ?_) ?_
    rotate_left 1
    ·(try dsimp only at hSw); go_simp <;> with_reducible rfl
    try simp only [Act.put, qaa, qad, qae]
    refine qb3 2 (v := ?_) rfl (by kernel_rfl) (fun _ _ _ h => h) (by assumption) (by rfl) (fun w hSw => ?_) ?_
    rotate_left 1
    ·(try dsimp only at hSw); go_simp <;> with_reducible rfl
    try simp only [Act.put, qaa, qad, qae]
    refine qb3 3 (v := ?_) rfl (by kernel_rfl) (fun _ _ _ h => h) (by assumption) (by rfl) (fun w hSw => ?_) ?_
    rotate_left 1
    ·(try dsimp only at hSw); go_simp <;> with_reducible rfl
    try simp only [Act.put, qaa, qad, qae]
    refine qb3 4 (v := ?_) rfl (by kernel_rfl) (fun _ _ _ h => h) (by assumption) (by rfl) (fun w hSw => ?_) ?_
    rotate_left 1
    ·(try dsimp only at hSw); go_simp <;> with_reducible rfl
    try simp only [Act.put, qaa, qad, qae]
    refine qb3 5 (v := ?_) rfl (by kernel_rfl) (fun _ _ _ h => h) (by assumption) (by rfl) (fun w hSw => ?_) ?_
    rotate_left 1
    ·(try dsimp only at hSw); go_simp <;> with_reducible rfl
    try simp only [Act.put, qaa, qad, qae]
    refine qb3 6 (v := ?_) rfl (by kernel_rfl) (fun _ _ _ h => h) (by assumption) (by rfl) (fun w hSw => ?_) ?_
    rotate_left 1
    ·(try dsimp only at hSw); go_simp <;> with_reducible rfl
    try simp only [Act.put, qaa, qad, qae]
    refine qb3 7 (v := ?_) rfl (by kernel_rfl) (fun _ _ _ h => h) (by assumption) (by rfl) (fun w hSw => ?_) ?_
    rotate_left 1
    ·(try dsimp only at hSw); go_simp <;> with_reducible rfl
    try simp only [Act.put, qaa, qad, qae]
    refine qiJ 8 15 rfl rfl (by kernel_rfl) (fun K hK => ?_) (fun K hK => ?_)
    ·
     go_simp
     refine (HLi.out _ (by first | with_reducible exact hstD | with_reducible exact hstA)).mono ?_
     rintro e w16 ⟨a16, g16, c16, rfl, hf16, _, hb16⟩
     have V16 : Below wr.heap.size wr w16 := bjoin (by first | with_reducible exact hstD | with_reducible exact hstA) hb16
     have ha16 := hf16.addr (by rw [qb2]; decide)
     subst ha16
     obtain ⟨y0, y1⟩ := qfF hf16 (by decide) HX.out.2.2
     obtain ⟨k16, k16f⟩ := bcell hb16
     have Y0 : ∀ W, Below w16.heap.size w16 W → W.cell? ⟨g16, 0, none⟩ = some (.string q1) := fun W h => (h.cell (qag w16 _ y0)).trans y0
     have Y1 : ∀ W, Below w16.heap.size w16 W → W.cell? ⟨g16, 1, none⟩ = some (.string q2) := fun W h => (h.cell (qag w16 _ y1)).trans y1
     clear hb16 hf16
     go_wp2_with fail
     refine Way.on hK (fun W => Below w16.heap.size w16 W) _ _ (fun W h => V16.trans (h.mono V16.size)) qB (fun hS0 => ?_)
     clear hK K
     try simp only [Act.put, qaa, qad, qae]
     refine qb3 9 (v := ?_) rfl (by kernel_rfl) (fun _ _ _ h => h) (by assumption) (by rfl) (fun w hSw => ?_) ?_
     rotate_left 1
     ·(try dsimp only at hSw); go_simp <;> with_reducible rfl
     try simp only [Act.put, qaa, qad, qae]
     refine qb3 10 (v := ?_) rfl (by kernel_rfl) (fun _ _ _ h => h) (by assumption) (by rfl) (fun w hSw => ?_) ?_
     rotate_left 1
     ·(try dsimp only at hSw); go_simp <;> with_reducible rfl
     try simp only [Act.put, qaa, qad, qae]
     refine qiJ 11 15 rfl rfl (by kernel_rfl) (fun K hK => ?_) (fun K hK => ?_)
     ·
      go_simp
      refine (HM.out _ (by first | exact V16 | exact qb1 V16 qN)).mono ?_
      rintro e w17 ⟨rfl, hb17⟩
      have V17 : Below w16.heap.size w16 w17 := hb17
      clear hb17
      go_wp2_with fail
      refine Way.on hK (fun W => Below w16.heap.size w16 W) _ _ (fun W h => h) (V17) (fun hS0 => ?_)
      clear hK K
      try simp only [Act.put, qaa, qad, qae]
      refine qb3 12 (v := ?_) rfl (by kernel_rfl) (fun _ _ _ h => h) (by assumption) (by rfl) (fun w hSw => ?_) ?_
      rotate_left 1
      ·(try dsimp only at hSw); go_simp <;> with_reducible rfl
      try simp only [Act.put, qaa, qad, qae]
      refine qb3 13 (v := ?_) rfl (by kernel_rfl) (fun _ _ _ h => h) (by assumption) (by rfl) (fun w hSw => ?_) ?_
      rotate_left 1
      ·(try dsimp only at hSw); go_simp <;> with_reducible rfl
      try simp only [Act.put, qaa, qad, qae]
      refine qb3 14 (v := ?_) rfl (by kernel_rfl) (fun _ _ _ h => h) (by assumption) (by rfl) (fun w hSw => ?_) ?_
      rotate_left 1
      ·(try dsimp only at hSw); go_simp <;> with_reducible rfl
      try simp only [Act.put, qaa, qad, qae]
      refine qcq 15 rfl (by kernel_rfl) (fun K hK => ?_)
      go_simp
      refine Way.on hK (fun W => Below w16.heap.size w16 W) _ _ (fun W h => h) (qb1 V17 qN) (fun hS0 => ?_)
      clear hK K
      try simp only [Act.put, qaa, qad, qae]
      refine qcq 16 rfl (by kernel_rfl) (fun K hK => ?_)
      go_simp
      refine Way.on hK (fun W => Below w16.heap.size w16 W) _ _ (fun W h => h) (by first | exact qb1 V17 qN | exact ((qb1 V17 qN).setCell V17.size _).setCell V17.size _) (fun hS0 => ?_)
      clear hK K
      try simp only [Act.put, qaa, qad, qae]
      refine qb3 17 (v := ?_) rfl (by kernel_rfl) (fun _ _ _ h => h) (by assumption) (by rfl) (fun w hSw => ?_) ?_
      rotate_left 1
      ·(try dsimp only at hSw); go_simp <;> with_reducible rfl
      try simp only [Act.put, qaa, qad, qae]
      refine wpAnyH_done (by kernel_rfl) ?_ _
      go_wp2_with fail
      go_meet
      refine ⟨_, rfl, rfl, ?_⟩
      exact qj0 (V16.trans (V17.mono V16.size))
     ·
      go_simp
      refine Way.on hK (fun W => Below w16.heap.size w16 W) _ _ (fun W h => h) (qb1 qB qN) (fun hS0 => ?_)
      clear hK K
      try simp only [Act.put, qaa, qad, qae]
      refine qcq 11 rfl (by kernel_rfl) (fun K hK => ?_)
      go_simp
      refine (HM.out _ (by first | exact V16 | exact qb1 V16 qN)).mono ?_
      rintro e w17 ⟨rfl, hb17⟩
      have V17 : Below w16.heap.size w16 w17 := (qb1 qB qN).trans (hb17.mono (by rw [qab]; exact qbb _))
      obtain ⟨k17, k17f⟩ := bcell hb17
      have Z17 := qH (zkeep hb17)
      clear hb17
      go_wp2_with fail
      refine Way.on hK (fun W => Below w16.heap.size w16 W) _ _ (fun W h => h) (V17) (fun hS0 => ?_)
      clear hK K
      try simp only [Act.put, qaa, qad, qae]
      refine qb3 12 (v := ?_) rfl (by kernel_rfl) (fun _ _ _ h => h) (by assumption) (by rfl) (fun w hSw => ?_) ?_
      rotate_left 1
      ·(try dsimp only at hSw); go_simp <;> with_reducible rfl
      try simp only [Act.put, qaa, qad, qae]
      refine qb3 13 (v := ?_) rfl (by kernel_rfl) (fun _ _ _ h => h) (by assumption) (by rfl) (fun w hSw => ?_) ?_
      rotate_left 1
      ·(try dsimp only at hSw); go_simp <;> with_reducible rfl
      try simp only [Act.put, qaa, qad, qae]
      refine qb3 14 (v := ?_) rfl (by kernel_rfl) (fun _ _ _ h => h) (by assumption) (by rfl) (fun w hSw => ?_) ?_
      rotate_left 1
      ·(try dsimp only at hSw); go_simp <;> with_reducible rfl
      try simp only [Act.put, qaa, qad, qae]
      refine qcq 16 rfl (by kernel_rfl) (fun K hK => ?_)
      go_simp
      refine Way.on hK (fun W => Below w16.heap.size w16 W) _ _ (fun W h => h) ((V17.setCell qN _).setCell qN _) (fun hS0 => ?_)
      clear hK K
      try simp only [Act.put, qaa, qad, qae]
      refine qb3 17 (v := ?_) rfl (by kernel_rfl) (fun _ _ _ h => h) (by assumption) (by rfl) (fun w hSw => ?_) ?_
      rotate_left 1
      ·(try dsimp only at hSw); go_simp <;> with_reducible rfl
      try simp only [Act.put, qaa, qad, qae]
      refine wpAnyH_done (by kernel_rfl) ?_ _
      go_wp2_with fail
      go_meet
      refine ⟨_, rfl, rfl, ?_⟩
      exact qiI (V16.trans (V17.mono V16.size)) V16.size (Z17.out _ _ (qM _ _ _ rfl))
    ·
     go_simp
     refine Way.on hK (fun W => Below wr.heap.size wr W) _ _ (fun W h => h) (hstA) (fun hS0 => ?_)
     clear hK K
     try simp only [Act.put, qaa, qad, qae]
     refine qcq 8 rfl (by kernel_rfl) (fun K hK => ?_)
     go_simp
     refine (HLi.out _ (by first | with_reducible exact hstD | with_reducible exact hstA)).mono ?_
     rintro e w16 ⟨a16, g16, c16, rfl, hf16, _, hb16⟩
     have V16 : Below wr.heap.size wr w16 := bjoin (by first | with_reducible exact hstD | with_reducible exact hstA) hb16
     have ha16 := hf16.addr (by rw [qb2]; decide)
     subst ha16
     obtain ⟨y0, y1⟩ := qfF hf16 (by decide) HX.out.2.2
     obtain ⟨k16, k16f⟩ := bcell hb16
     have hl16 : wr.heap.size < w16.heap.size := qak (Nat.lt_succ_self _) (by have := hb16.size; simpa using this)
     have Z16 := qH (zkeep hb16)
     clear hb16 hf16
     go_wp2_with fail
     refine Way.on hK (fun W => Below wr.heap.size wr W) _ _ (fun W h => h) (V16) (fun hS0 => ?_)
     clear hK K
     try simp only [Act.put, qaa, qad, qae]
     refine qb3 9 (v := ?_) rfl (by kernel_rfl) (fun _ _ _ h => h) (by assumption) (by rfl) (fun w hSw => ?_) ?_
     rotate_left 1
     ·(try dsimp only at hSw); go_simp <;> with_reducible rfl
     try simp only [Act.put, qaa, qad, qae]
     refine qcq 10 rfl (by kernel_rfl) (fun K hK => ?_)
     go_simp
     refine Way.on hK (fun W => Below wr.heap.size wr W) _ _ (fun W h => h) (V16) (fun hS0 => ?_)
     clear hK K
     try simp only [Act.put, qaa, qad, qae]
     refine qcq 11 rfl (by kernel_rfl) (fun K hK => ?_)
     go_simp
     refine (HM.out _ (by first | exact V16 | exact qb1 V16 qN)).mono ?_
     rintro e w17 ⟨rfl, hb17⟩
     have V17 : Below wr.heap.size wr w17 := V16.trans (hb17.mono V16.size)
     obtain ⟨k17, k17f⟩ := bcell hb17
     have Z17 := qH (zkeep hb17)
     clear hb17
     go_wp2_with fail
     refine Way.on hK (fun W => Below wr.heap.size wr W) _ _ (fun W h => h) (V17) (fun hS0 => ?_)
     clear hK K
     try simp only [Act.put, qaa, qad, qae]
     refine qb3 12 (v := ?_) rfl (by kernel_rfl) (fun _ _ _ h => h) (by assumption) (by rfl) (fun w hSw => ?_) ?_
     rotate_left 1
     ·(try dsimp only at hSw); go_simp <;> with_reducible rfl
     try simp only [Act.put, qaa, qad, qae]
     refine qb3 13 (v := ?_) rfl (by kernel_rfl) (fun _ _ _ h => h) (by assumption) (by rfl) (fun w hSw => ?_) ?_
     rotate_left 1
     ·(try dsimp only at hSw); go_simp <;> with_reducible rfl
     try simp only [Act.put, qaa, qad, qae]
     refine qb3 14 (v := ?_) rfl (by kernel_rfl) (fun _ _ _ h => h) (by assumption) (by rfl) (fun w hSw => ?_) ?_
     rotate_left 1
     ·(try dsimp only at hSw); go_simp <;> with_reducible rfl
     try simp only [Act.put, qaa, qad, qae]
     refine qcq 16 rfl (by kernel_rfl) (fun K hK => ?_)
     go_simp
     refine Way.on hK (fun W => Below wr.heap.size wr W) _ _ (fun W h => h) ((V17.setCell qN _).setCell qN _) (fun hS0 => ?_)
     clear hK K
     try simp only [Act.put, qaa, qad, qae]
     refine qb3 17 (v := ?_) rfl (by kernel_rfl) (fun _ _ _ h => h) (by assumption) (by rfl) (fun w hSw => ?_) ?_
     rotate_left 1
     ·(try dsimp only at hSw); go_simp <;> with_reducible rfl
     try simp only [Act.put, qaa, qad, qae]
     refine wpAnyH_done (by kernel_rfl) ?_ _
     go_wp2_with fail
     go_meet
     refine ⟨_, rfl, rfl, ?_⟩
     exact qiI V17 qN (Z17.out _ _ (Z16.out _ _ (qM _ _ _ rfl)))
   case rest =>
   obtain ⟨g7, rfl, rfl, ho1, hob, hog⟩ := hcut
   have hl12 : g12 < wr.heap.size := (qG hR.out).1
   have hl7 : g7 < wc.heap.size := (qG ho1).1
   have hrc := zkeep hob _ _ hR.out
   have p0 : ∀ W, wc.grownBy W (some g12) → W.cell? ⟨g7, 0, none⟩ = some (.string t1) := fun W h => (qdi h (p := ⟨g7, 0, none⟩) hl7 (show g7 ≠ g12 by omega)).trans (cell_of_row _ _ 0 _ _ _ ho1)
   have p1 : ∀ W, wc.grownBy W (some g12) → W.cell? ⟨g7, 1, none⟩ = some (.string t2) := fun W h => (qdi h (p := ⟨g7, 1, none⟩) hl7 (show g7 ≠ g12 by omega)).trans (cell_of_row _ _ 1 _ _ _ ho1)
   have hjl : j < (told n fun c => if c < j then A c + B c * q else A c).length := by rw [qb2]; exact hjn
   have hjx : (told n fun c => if c < j then A c + B c * q else A c).getD j fd0 = (a1, a2) := by rw [qdP hjn, if_neg (qby _), HX.out.1]
   have hgj := qdZ _ j (a1, a2) (by rw [getD_some hjl, hjx])
   have hfl : (fflat (told n fun c => if c < j then A c + B c * q else A c)).length = n * 2 := by rw [qcl, qb2]
   obtain ⟨L, hL⟩ : ∃ L, (told n fun c => if c < j then A c + B c * q else A c) = L := ⟨_, rfl⟩
   rw [hL] at hrc hgj hjl hfl
   have g0 : (fflat L ++ rst12).toArray[j * 2]? = some (.string a1) := by rw [qax, qay (by omega)]; exact hgj.1
   have g1 : (fflat L ++ rst12).toArray[j * 2 + 1]? = some (.string a2) := by rw [qax, qay (by omega)]; exact hgj.2
   have r0 := (cell_of_row _ _ (j * 2) _ _ _ hrc).trans g0
   have r1x := (cell_of_row _ _ (j * 2 + 1) _ _ _ hrc).trans g1
   have hkr : wc.grownBy wc (some g12) := qcP _ _
   have hkd : wc.grownBy wc.drew (some g12) := qcd _ qB.drew
   have HY := qH (qA hob (qA hrc (qA g0 (qA g1 (qA hL (qA hjl hog))))))
   clear hst hstD hstA C0 C1 C2 D0 D1 D2 D3 l0 ho1 hob hog hrc hgj hjx hL hjl hfl g0 g1
   go_wp2_with fail
   refine wp_region_held_drew (S := fun W => wc.grownBy W (some g12)) (by kernel_rfl) (hkd) (fun hS0 => ?_)
   refine qb3 0 (v := ?_) rfl (by kernel_rfl) (fun _ _ _ h => h) (by assumption) (by rfl) (fun w hSw => ?_) ?_
   rotate_left 1
   ·(try dsimp only at hSw); go_simp <;> with_reducible rfl
   try simp only [Act.put, qaa, qad, qae]
   refine qb3 1 (v := ?_) rfl (by kernel_rfl) (fun _ _ _ h => h) (by assumption) (by rfl) (fun w hSw => ?_) ?_
   rotate_left 1
   ·(try dsimp only at hSw); go_simp <;> with_reducible rfl
   try simp only [Act.put, qaa, qad, qae]
   refine qb3 2 (v := ?_) rfl (by kernel_rfl) (fun _ _ _ h => h) (by assumption) (by rfl) (fun w hSw => ?_) ?_
   rotate_left 1
   ·(try dsimp only at hSw); go_simp <;> with_reducible rfl
   try simp only [Act.put, qaa, qad, qae]
   refine qb3 3 (v := ?_) rfl (by kernel_rfl) (fun _ _ _ h => h) (by assumption) (by rfl) (fun w hSw => ?_) ?_
   rotate_left 1
   ·(try dsimp only at hSw); go_simp <;> with_reducible rfl
   try simp only [Act.put, qaa, qad, qae]
   refine qb3 4 (v := ?_) rfl (by kernel_rfl) (fun _ _ _ h => h) (by assumption) (by rfl) (fun w hSw => ?_) ?_
   rotate_left 1
   ·(try dsimp only at hSw); go_simp <;> with_reducible rfl
   try simp only [Act.put, qaa, qad, qae]
   refine qb3 6 (v := ?_) rfl (by kernel_rfl) (fun _ _ _ h => h) (by assumption) (by rfl) (fun w hSw => ?_) ?_
   rotate_left 1
   ·(try dsimp only at hSw); go_simp <;> with_reducible rfl
   try simp only [Act.put, qaa, qad, qae]
   refine qcq 5 rfl (by kernel_rfl) (fun K hK => ?_)
   go_simp
   refine Way.on hK (fun W => wc.grownBy W (some g12)) _ _ (fun W h => h) (hkd) (fun hS0 => ?_)
   clear hK K
   try simp only [Act.put, qaa, qad, qae]
   refine qcq 7 rfl (by kernel_rfl) (fun K hK => ?_)
   go_simp
   refine (HAd.out _ HY.out.1.drew).mono ?_
   rintro e w18 ⟨rfl, hb18⟩
   have hb18 : Below wc.heap.size wc w18 := qB.drew.trans (hb18.mono qN)
   have hr18 := zkeep hb18 _ _ HY.out.2.1
   have s0 := (cell_of_row _ _ (j * 2) _ _ _ hr18).trans HY.out.2.2.1
   have s1 := (cell_of_row _ _ (j * 2 + 1) _ _ _ hr18).trans HY.out.2.2.2.1
   have f0 := frozen_of_row _ _ (j * 2) _ _ hr18
   have f1 := frozen_of_row _ _ (j * 2 + 1) _ _ hr18
   have HB18 := qH (qA hb18 hr18)
   clear hb18 hr18 r0 r1x
   go_wp2_with fail
   refine Way.on hK (fun W => wc.grownBy W (some g12)) _ _ (fun W h => h) (qcd _ HB18.out.1) (fun hS0 => ?_)
   clear hK K
   try simp only [Act.put, qaa, qad, qae]
   refine qb3 8 (v := ?_) rfl (by kernel_rfl) (fun _ _ _ h => h) (by assumption) (by rfl) (fun w hSw => ?_) ?_
   rotate_left 1
   ·(try dsimp only at hSw); go_simp <;> with_reducible rfl
   try simp only [Act.put, qaa, qad, qae]
   refine qb3 9 (v := ?_) rfl (by kernel_rfl) (fun _ _ _ h => h) (by assumption) (by rfl) (fun w hSw => ?_) ?_
   rotate_left 1
   ·(try dsimp only at hSw); go_simp <;> with_reducible rfl
   try simp only [Act.put, qaa, qad, qae]
   refine qb3 10 (v := ?_) rfl (by kernel_rfl) (fun _ _ _ h => h) (by assumption) (by rfl) (fun w hSw => ?_) ?_
   rotate_left 1
   ·(try dsimp only at hSw); go_simp <;> with_reducible rfl
   try simp only [Act.put, qaa, qad, qae]
   refine qb3 11 (v := ?_) rfl (by kernel_rfl) (fun _ _ _ h => h) (by assumption) (by rfl) (fun w hSw => ?_) ?_
   rotate_left 1
   ·(try dsimp only at hSw); go_simp <;> with_reducible rfl
   try simp only [Act.put, qaa, qad, qae]
   refine qcq 12 rfl (by kernel_rfl) (fun K hK => ?_)
   go_simp
   refine Way.on hK (fun W => wc.grownBy W (some g12)) _ _ (fun W h => h) (qca (qcd _ HB18.out.1) (qca (least.qcb _ _ _ _) (least.qcb _ _ _ _))) (fun hS0 => ?_)
   clear hK K
   try simp only [Act.put, qaa, qad, qae]
   refine wpAnyH_done (by kernel_rfl) ?_ _
   have hfin := heap_setCell_same _ g12 (j * 2 + 1) _ _ (.string u2) (heap_setCell_same _ g12 (j * 2) _ _ (.string u1) HB18.out.2)
   rw [qg3 HY.out.2.2.2.2.2.1 (u1, u2) rst12, ← HY.out.2.2.2.2.1, ← HX.out.2.1, qiq] at hfin
   rw [show (told n fun k => if k = j then A j + B j * q else if k < j then A k + B k * q else A k) = told n fun c => if c < j + 1 then A c + B c * q else A c from qcU fun i _ => by
    by_cases e : i = j
    ·subst e; rw [if_pos rfl, if_pos (by omega)]
    ·rw [if_neg e]
     by_cases h : i < j
     ·rw [if_pos h, if_pos (by omega)]
     ·rw [if_neg h, if_neg (by omega)]] at hfin
   have hbf : Below w11.heap.size w11 w18 := hB.out.trans ((HY.out.1.trans (HB18.out.1.mono HY.out.1.size)).mono hB.out.size)
   have HFin := qH (qA hfin ((hbf.setCell (p := ⟨g12, j * 2, none⟩) hbg12 (.string u1)).setCell (p := ⟨g12, j * 2 + 1, none⟩) hbg12 (.string u2)))
   clear hfin hbf s0 s1 f0 f1 p0 p1 hkr hkd
   go_wp2_with fail
   go_roundw
   case rel => exact ⟨j + 1, hjn, by go_num, qH HFin.out.1, qH HFin.out.2⟩
   case measure => simp [intOf]; omega
end Go.Proofs.YtfminfgabiipjaaGreatDoor
