/- Aa, part 54: Lw -/
import Derived.Test.YtfminfgabiipjaaGreatDoorAa0
import Derived.Test.YtfminfgabiipjaaGreatDoorAa42
import Derived.Test.YtfminfgabiipjaaGreatDoorAa43
import Derived.Test.YtfminfgabiipjaaGreatDoorAa53
set_option maxRecDepth 100000
set_option maxHeartbeats 16000000
namespace Go.Proofs.YtfminfgabiipjaaGreatDoor
open Go.RowKit
theorem qjg (hworks : ∀ W : World, HasT W → Calls Tryz.prog 10 #[] W fun e w' => e = .returned (.bool true) ∧ Below W.heap.size W w')
  (r1 c1 : Nat) (N1 : List Int) (D1 : List Nat) (v1 : Value) (r2 c2 : Nat) (N2 : List Int) (D2 : List Nat) (v2 : Value) (ti : Nat) (hti : ti < 256) (w : World) (h1 : qc6 w v1 r1 c1 N1 D1) (h2 : qc6 w v2 r2 c2 N2 D2) (hP : HasT w) :
  Calls Tryz.prog 7 #[v1, v2, .int .u8 (ti : Int)] w fun e w' => e = .returned (.bool true) ∧ Below w.heap.size w w' := by
 have HW := qH hworks
 have HA := qH (qA h1 (qA h2 hP))
 obtain ⟨a, b, off, nn, cc, a', b', off', n', cc', rfl, _⟩ := h1
 obtain ⟨ax, bx, offx, nnx, ccx, ax', bx', offx', nx', ccx', rfl, _⟩ := h2
 obtain ⟨F, hF⟩ : ∃ F : Nat → Nat → Rat, F = fun i j => drq N1 D1 (5 * i + j) := ⟨_, rfl⟩
 obtain ⟨B, hB⟩ : ∃ B : Nat → Rat, B = fun i => drq N1 D1 (7 + 3 * i) := ⟨_, rfl⟩
 obtain ⟨V, hV⟩ : ∃ V : Nat → Rat, V = fun i => qabs (drq N1 D1 (2 * i + 1)) := ⟨_, rfl⟩
 obtain ⟨G, hG⟩ : ∃ G : Nat → Nat → Rat, G = fun i j => drq N2 D2 (5 * i + j) := ⟨_, rfl⟩
 obtain ⟨Y, hY⟩ : ∃ Y : Nat → Rat, Y = fun i => drq N2 D2 (0 + 3 * i) := ⟨_, rfl⟩
 obtain ⟨R, hR⟩ : ∃ R, 1 + r1 % 8 = R := ⟨_, rfl⟩
 obtain ⟨n, hn⟩ : ∃ n, 1 + c1 % 4 = n := ⟨_, rfl⟩
 have hR1 : 1 ≤ R := by omega
 have hR8 : R ≤ 8 := by omega
 have hn1 : 1 ≤ n := by omega
 have hn4 : n ≤ 4 := by omega
 have HT := qH (fun (W : World) (h : Below w.heap.size w W) => qhr r1 c1 N1 D1 _ W (HA.out.1.below h))
 have HL := qH (fun (W : World) (h : Below w.heap.size w W) (n : Nat) (hn : n ≤ 1000) => qfM n 7 hn (by decide) r1 c1 N1 D1 _ W (HA.out.1.below h))
 have HWt := qH (fun (W : World) (h : Below w.heap.size w W) (n : Nat) (hn : n ≤ 1000) => qht n hn r1 c1 N1 D1 _ W (HA.out.1.below h))
 have HLo := qH (fun (W : World) (h : Below w.heap.size w W) => qj8 1 0 (by decide) (by decide) r2 c2 N2 D2 _ W (HA.out.2.1.below h))
 have HZ := qH (fun (W : World) (h : Below w.heap.size w W) => qgp 1 n (by decide) (by omega) r2 c2 N2 D2 _ W (HA.out.2.1.below h))
 rw [← hF, hR, hn] at HT
 rw [← hB] at HL
 rw [← hV] at HWt
 rw [← hY] at HLo
 rw [← hG] at HZ
 have hSF : ∀ i j, Sm (F i j) := fun i j => by rw [hF]; exact qdR _ _ _
 have hSB : ∀ i, Sm (B i) := fun i => by rw [hB]; exact qdR _ _ _
 have hSV : ∀ i, Sm (V i) := fun i => by rw [hV]; exact (qdR _ _ _).abs
 have hV0 : ∀ i, 0 ≤ V i := fun i => by rw [hV]; exact qhj _
 have hSG : ∀ i j, Sm (G i j) := fun i j => by rw [hG]; exact qdR _ _ _
 have hSY : ∀ i, Sm (Y i) := fun i => by rw [hY]; exact qdR _ _ _
 have HS := qH (qA hSF (qA hSB (qA hSV (qA hV0 (qA hSG hSY)))))
 clear hF hB hV hG hY hSF hSB hSV hV0 hSG hSY hR hn hP hworks
 obtain ⟨k, hk⟩ : ∃ k, ti % R = k := ⟨_, rfl⟩
 have hkR : k < R := by rw [← hk]; exact qa7 _ (by omega)
 have e5 : (ti : Int) % R = k := by rw [← hk]; exact (Int.natCast_emod ti R).symm ▸ rfl
 have hRi : (0 : Int) < R := by omega
 have hRz : ¬ (R : Int) = 0 := by omega
 have hRn : 0 < R := by omega
 have hn0 : 0 < n := by omega
 have hkRi : (k : Int) < R := by omega
 clear hk
 obtain ⟨W1, hW1⟩ : ∃ W1, W1 = (w.alloc (.cells #[.int .u8 (r1 : Int), .int .u8 (c1 : Int), .slice a nn cc, .slice a' n' cc'] 29)).alloc (.cells #[.int .u8 (r2 : Int), .int .u8 (c2 : Int), .slice ax nnx ccx, .slice ax' nx' ccx'] 29) := ⟨_, rfl⟩
 have hb1 : Below w.heap.size w W1 := hW1 ▸ qb1 (qb1 qB qN) qN
 have hr1 : W1.heap[w.heap.size]? = some (.cells #[.int .u8 (r1 : Int), .int .u8 (c1 : Int), .slice a nn cc, .slice a' n' cc'] 29 (0, 0)) := by rw [hW1, qL _ _ _ (by simp only [qab]; omega)]; exact qM _ _ _ rfl
 have hr2 : W1.heap[w.heap.size + 1]? = some (.cells #[.int .u8 (r2 : Int), .int .u8 (c2 : Int), .slice ax nnx ccx, .slice ax' nx' ccx'] 29 (0, 0)) := by rw [hW1]; exact qM _ _ _ (by simp)
 have H1 := qH (qA hb1 (qA hr1 hr2))
 clear hb1 hr1 hr2
 go_enter Tryz.func7, Tryz.ntmps7
 go_wp2_with fail
 rw [← hW1]
 clear hW1
 refine (HW.out W1 (HA.out.2.2.below H1.out.1)).mono ?_
 rintro e w2 ⟨rfl, hb2⟩
 have H2 := qH (qA (H1.out.1.trans (hb2.mono H1.out.1.size)) (qA (zkeep hb2 _ _ H1.out.2.1) (zkeep hb2 _ _ H1.out.2.2)))
 clear hb2
 go_wp2_with ((with_reducible refine qb4 rfl 29 _ rfl (w.heap.size) ?_ 29 #[.int .u8 (r1 : Int), .int .u8 (c1 : Int), .slice a nn cc, .slice a' n' cc'] _ H2.out.2.1 Tryz.underlying29 ?_ 4 ?_ ?_ ?_); (next => rfl); (next => rfl); (next => kernel_rfl); (next => rfl))
 refine (HT.out _ H2.out.1).mono ?_
 rintro e w3 ⟨ao, g, cap, rfl, hT, hcap, hb3⟩
 have haddr := hT.addr (by rw [qch]; omega)
 subst haddr
 have hst : Below w3.heap.size w3 w3 := Below.refl _ _
 have hstD : Below w3.heap.size w3 w3.drew := hst.drew
 have R1 := zkeep hb3 _ _ H2.out.2.1
 have R2 := zkeep hb3 _ _ H2.out.2.2
 have l0 := (qG R1).1
 have C0 : ∀ W, Below w3.heap.size w3 W → W.cell? ⟨w.heap.size, 0, none⟩ = some (.int .u8 (r1 : Int)) := fun W h => (h.cell (p := ⟨w.heap.size, 0, none⟩) l0).trans (cell_of_row _ _ 0 _ _ _ R1)
 have C1 : ∀ W, Below w3.heap.size w3 W → W.cell? ⟨w.heap.size, 1, none⟩ = some (.int .u8 (c1 : Int)) := fun W h => (h.cell (p := ⟨w.heap.size, 1, none⟩) l0).trans (cell_of_row _ _ 1 _ _ _ R1)
 have C2 : ∀ W, Below w3.heap.size w3 W → W.cell? ⟨w.heap.size, 2, none⟩ = some (.slice a nn cc) := fun W h => (h.cell (p := ⟨w.heap.size, 2, none⟩) l0).trans (cell_of_row _ _ 2 _ _ _ R1)
 have C3 : ∀ W, Below w3.heap.size w3 W → W.cell? ⟨w.heap.size, 3, none⟩ = some (.slice a' n' cc') := fun W h => (h.cell (p := ⟨w.heap.size, 3, none⟩) l0).trans (cell_of_row _ _ 3 _ _ _ R1)
 have H3 := qH (qA (H2.out.1.trans (hb3.mono H2.out.1.size)) (qA R2 hT))
 clear hb3 R1 R2 hT
 go_wp2_with fail
 go_region_held3 (fun W => Below w3.heap.size w3 W) (first | with_reducible exact hst | with_reducible exact hstD | with_reducible exact V5 | with_reducible exact V4) (first | (go_at_call 27; refine (HL.out _ (H3.out.1.trans (hstD.mono H3.out.1.size)) R (by omega)).mono ?_; rintro e w4 ⟨a4, g4, c4, rfl, hf4, _, hb4⟩; have V4 : Below w3.heap.size w3 w4 := hstD.trans (hb4.mono qN); have G4 := qH hf4; clear hb4 hf4) | (go_at_call 28; refine (HWt.out _ (H3.out.1.trans (V4.mono H3.out.1.size)) R (by omega)).mono ?_; rintro e w5 ⟨a5, g5, c5, rfl, hf5, _, hb5⟩; have V5 : Below w3.heap.size w3 w5 := V4.trans (hb5.mono V4.size); have G5 := qH (qA (G4.out.below hb5) hf5); clear hb5 hf5))
 have H5 := qH (qA (H3.out.1.trans (V5.mono H3.out.1.size)) (qA (zkeep V5 _ _ H3.out.2.1) (qA (H3.out.2.2.below V5) (qA G5.out.1 G5.out.2))))
 have ha4 := G5.out.1.addr (by rw [qb2]; exact hRn)
 have ha5 := G5.out.2.addr (by rw [qb2]; exact hRn)
 subst ha4
 subst ha5
 clear C0 C1 C2 C3 l0 hst hstD V4 V5 G4 G5
 go_wp2_with fail
 refine (qeq hR1 (by omega) hn1 (by omega) (fun i _ => fun j _ => (HS.out.1 i j).short) (fun i _ => (HS.out.2.1 i).short) (fun i _ => (HS.out.2.2.1 i).short) (fun i _ => HS.out.2.2.2.1 i) H5.out.2.2.1 H5.out.2.2.2.1 H5.out.2.2.2.2 (HA.out.2.2.below H5.out.1)).mono ?_
 rintro e w6 ⟨a6, m6, cp6, cd6, rfl, hl6, hb6⟩
 have H6 := qH (qA (H5.out.1.trans (hb6.mono H5.out.1.size)) (qA (zkeep hb6 _ _ H5.out.2.1) (qA (H5.out.2.2.1.below hb6) (qA (H5.out.2.2.2.1.below hb6) (qA (H5.out.2.2.2.2.below hb6) hl6)))))
 clear hb6 hl6
 go_wp2_with fail
 rw [e5]
 clear e5
 obtain ⟨vs, hrv, hvc⟩ := H6.out.2.2.1.vals
 have hvl : vs.length = R := by rw [hrv.1, qch]
 have HV := qH (qA hrv (qA hvc hvl))
 have hst : Below w6.heap.size w6 w6 := Below.refl _ _
 have hstD : Below w6.heap.size w6 w6.drew := hst.drew
 have R2 := H6.out.2.1
 have l0 := (qG R2).1
 obtain ⟨ra, rb, ro, rc, hrow, hrf⟩ := H6.out.2.2.1.row 0 (by rw [qch]; omega)
 rw [qda (by omega), qb2, qaD] at hrow
 have lr : g < w6.heap.size := qag w6 _ hrow
 have D0 : ∀ W, Below w6.heap.size w6 W → W.cell? ⟨w.heap.size + 1, 0, none⟩ = some (.int .u8 (r2 : Int)) := fun W h => (h.cell (p := ⟨w.heap.size + 1, 0, none⟩) l0).trans (cell_of_row _ _ 0 _ _ _ R2)
 have D1 : ∀ W, Below w6.heap.size w6 W → W.cell? ⟨w.heap.size + 1, 1, none⟩ = some (.int .u8 (c2 : Int)) := fun W h => (h.cell (p := ⟨w.heap.size + 1, 1, none⟩) l0).trans (cell_of_row _ _ 1 _ _ _ R2)
 have D2 : ∀ W, Below w6.heap.size w6 W → W.cell? ⟨w.heap.size + 1, 2, none⟩ = some (.slice ax nnx ccx) := fun W h => (h.cell (p := ⟨w.heap.size + 1, 2, none⟩) l0).trans (cell_of_row _ _ 2 _ _ _ R2)
 have D3 : ∀ W, Below w6.heap.size w6 W → W.cell? ⟨w.heap.size + 1, 3, none⟩ = some (.slice ax' nx' ccx') := fun W h => (h.cell (p := ⟨w.heap.size + 1, 3, none⟩) l0).trans (cell_of_row _ _ 3 _ _ _ R2)
 have DR : ∀ W, Below w6.heap.size w6 W → W.cell? ⟨g, 0, none⟩ = some (.slice ra n rc) := fun W h => (h.cell (p := ⟨g, 0, none⟩) lr).trans hrow
 clear hrv hvc hvl hrf R2 hrow
 refine wp_region_held_drew (S := fun W => Below w6.heap.size w6 W) (by kernel_rfl) (hstD) (fun hS0 => ?_)
 refine qb3 0 (v := ?_) rfl (by kernel_rfl) (fun _ _ _ h => h) (by assumption) (by rfl) (fun w hSw => ?_) ?_
 rotate_left 1
 ·(try dsimp only at hSw); go_simp <;> with_reducible rfl
 try simp only [Act.put, qaa, qad, qae]
 refine qb3 2 (v := ?_) rfl (by kernel_rfl) (fun _ _ _ h => h) (by assumption) (by rfl) (fun w hSw => ?_) ?_
 rotate_left 1
 ·(try dsimp only at hSw); go_simp <;> with_reducible rfl
 try simp only [Act.put, qaa, qad, qae]
 refine qb3 3 (v := ?_) rfl (by kernel_rfl) (fun _ _ _ h => h) (by assumption) (by rfl) (fun w hSw => ?_) ?_
 rotate_left 1
 ·(try dsimp only at hSw); go_simp <;> with_reducible rfl
 try simp only [Act.put, qaa, qad, qae]
 refine qb3 4 (v := ?_) rfl (by kernel_rfl) (fun _ _ _ h => h) (by assumption) (by rfl) (fun w hSw => ?_) ?_
 rotate_left 1
 ·(try dsimp only at hSw); go_simp <;> with_reducible rfl
 try simp only [Act.put, qaa, qad, qae]
 refine qb3 5 (v := ?_) rfl (by kernel_rfl) (fun _ _ _ h => h) (by assumption) (by rfl) (fun w hSw => ?_) ?_
 rotate_left 1
 ·(try dsimp only at hSw); go_simp <;> with_reducible rfl
 try simp only [Act.put, qaa, qad, qae]
 refine qb3 6 (v := ?_) rfl (by kernel_rfl) (fun _ _ _ h => h) (by assumption) (by rfl) (fun w hSw => ?_) ?_
 rotate_left 1
 ·(try dsimp only at hSw); go_simp <;> with_reducible rfl
 try simp only [Act.put, qaa, qad, qae]
 refine qb3 12 (v := ?_) rfl (by kernel_rfl) (fun _ _ _ h => h) (by assumption) (by rfl) (fun w hSw => ?_) ?_
 rotate_left 1
 ·(try dsimp only at hSw); go_simp <;> with_reducible rfl
 try simp only [Act.put, qaa, qad, qae]
 refine qb3 14 (v := ?_) rfl (by kernel_rfl) (fun _ _ _ h => h) (by assumption) (by rfl) (fun w hSw => ?_) ?_
 rotate_left 1
 ·(try dsimp only at hSw); go_simp <;> with_reducible rfl
 try simp only [Act.put, qaa, qad, qae]
 refine qb3 17 (v := ?_) rfl (by kernel_rfl) (fun _ _ _ h => h) (by assumption) (by rfl) (fun w hSw => ?_) ?_
 rotate_left 1
 ·(try dsimp only at hSw); go_simp <;> with_reducible rfl
 try simp only [Act.put, qaa, qad, qae]
 refine qi5 [(1, 51), (7, 57), (8, 58), (9, 59), (10, 60), (11, 61), (13, 63), (15, 65), (16, 66), (18, 68), (19, 69), (20, 70), (21, 71)] [(8, [7]), (9, [8]), (10, [9]), (11, [1, 10]), (16, [13, 15]), (20, [19]), (21, [18, 20])] [] [0, 2, 3, 4, 5, 6, 12, 14, 17] 22 (fl [(1, FA w6.drew.heap.size 23 1 R vs), (7, FC 1 [] n (told n (G 0))), (8, FP n (told n (G 0))), (9, FB n (told n (G 0))), (10, FC 1 [] n (told n (G 0))), (11, FC (R + 1) vs n (told n (G 0))), (13, FA w6.drew.heap.size 46 2 R (fflat (told R B))), (15, FB 1 (told 1 Y)), (16, FB (R + 1) (told R B ++ told 1 Y)), (18, FA w6.drew.heap.size 46 2 R (fflat (told R V))), (19, FS ⟨#[48]⟩), (20, FB 1 (told 1 (fv [0]))), (21, FB (R + 1) (told R V ++ told 1 (fv [0])))]) 6 186 #[true, true, true, true, true, true, true, true, true, true, true, true, true, true, true, true, true, true, true, true, true, true, false, false, false, false, false, false] rfl (qlE ?_) (by kernel_rfl) (fun W h => hstD.trans h) ?_ ?_
 ·intro p hp
  simp only [qaL, List.not_mem_nil, or_false] at hp
  rcases hp with rfl | rfl | rfl | rfl | rfl | rfl | rfl | rfl | rfl | rfl | rfl | rfl | rfl <;> first | exact FA.stab _ _ _ _ _ | exact FB.stab _ _ | exact FV.stab _ _ | exact FC.stab _ _ _ _ | exact FP.stab _ _ | exact FS.stab _
 ·intro i o ho hi hiT v w8 gs hb hF hlt hap _ A hA K hK
  have hb8 : Below w6.heap.size w6 w8 := hstD.trans hb
  have hi2 := (by decide : ∀ i, i < 22 → i ∉ [0, 2, 3, 4, 5, 6, 12, 14, 17] → i ∈ [1, 7, 8, 9, 10, 11, 13, 15, 16, 18, 19, 20, 21]) i hi hiT
  clear hi hiT hS0
  simp only [qaL, List.not_mem_nil, or_false] at hi2
  rcases hi2 with rfl | rfl | rfl | rfl | rfl | rfl | rfl | rfl | rfl | rfl | rfl | rfl | rfl
  ·have e := at_op (i := 1) (h' := ho) rfl
   subst e
   simp only [Act.put, pf, qaa, qad, qae] at hA
   subst hA
   go_simp
   (go_at_call 38; refine (qe8 (some ⟨g, 0, none⟩) g 0 R cap vs _ HV.out.2.2 hRn (by omega) (HV.out.2.1.below hb8) HV.out.1.not).mono ?_; rintro e w9 ⟨v9, rfl, hr9, hb9⟩)
   obtain ⟨g9, hf9, hg9⟩ := FA.of (B := w6.drew.heap.size) hr9 hb.size hRn
   obtain ⟨a9, c9, rfl⟩ := hr9.shape
   have K9 := qH (qA hf9 (qA hg9 hb9))
   clear hf9 hg9 hb9 hr9
   go_wp2_with fail
   exact hK.to hb _ _ w9 [g9] (by simp only [Act.put, qaa, qad, qae]) K9.out.1 K9.out.2.2 (new1 K9.out.2.1)
  ·have e := at_op (i := 7) (h' := ho) rfl
   subst e
   simp only [Act.put, pf, qaa, qad, qae] at hA
   subst hA
   go_simp
   (go_at_call 39; refine (HZ.out _ (H6.out.1.trans (hb8.mono H6.out.1.size))).mono ?_; rintro e w9 ⟨v9, vs9, B9, rfl, hB9, hr9, hd9, hb9⟩)
   obtain ⟨u9, rfl⟩ := List.length_eq_one_iff.1 hd9.1
   obtain ⟨B10, hB10, hu9⟩ := hd9.2 0 (by decide)
   obtain ⟨gr, rcr, hu, hfr, hgr⟩ := fr_of hu9 (qb2 _ _) hn0
   have hu : u9 = .slice (some ⟨gr, 0, none⟩) n rcr := hu
   subst hu
   obtain ⟨g9, c9, rfl, hv9, hg9⟩ := vr_of hr9 (by decide)
   have K9 := qH (qA hv9 (qA hfr (qA (qA (qam hB9 hg9.1) hg9.2) (qA (qA (qam hB10 hgr.1) hgr.2) hb9))))
   clear hv9 hfr hb9 hr9 hd9 hu9 hg9 hgr hB9 hB10
   go_wp2_with fail
   exact hK.to hb _ _ w9 [g9, gr] (by simp only [Act.put, qaa, qad, qae]) ⟨g9, c9, gr, rcr, rfl, rfl, K9.out.1, K9.out.2.1⟩ K9.out.2.2.2.2 (new2 K9.out.2.2.1 ⟨qaA K9.out.2.2.2.1.1, K9.out.2.2.2.1.2⟩)
  ·have e := at_op (i := 8) (h' := ho) rfl
   subst e
   simp only [Act.put, pf, qaa, qad, qae] at hA
   obtain ⟨g9, c9, gr, rcr, hgs, hx, hv9, hf9⟩ : FC 1 [] n (told n (G 0)) (v 7) (gs 7) w8 := hF 7 (by decide)
   rw [hx] at hA
   subst hA
   go_simp
   exact hK.to hb _ _ w8 [g9, gr] (by simp only [Act.put, qaa, qad, qae]) ⟨g9, gr, rcr, rfl, rfl, hv9.cell 0 (Nat.succ_pos _), hf9⟩ qB (olds (k := 7) (by decide) hgs (hlt 7 (by decide)))
  ·have e := at_op (i := 9) (h' := ho) rfl
   subst e
   simp only [Act.put, pf, qaa, qad, qae] at hA
   obtain ⟨g9, gr, rcr, hgs, hx, hc9, hf9⟩ : FP n (told n (G 0)) (v 8) (gs 8) w8 := hF 8 (by decide)
   rw [hx] at hA
   subst hA
   go_simp
   exact hK.to hb _ _ w8 [gr] (by simp only [Act.put, qaa, qad, qae]) ⟨gr, rcr, rfl, rfl, hf9⟩ qB (fun y hy => olds (k := 8) (by decide) hgs (hlt 8 (by decide)) y (List.mem_cons_of_mem _ hy))
  ·have e := at_op (i := 10) (h' := ho) rfl
   subst e
   simp only [Act.put, pf, qaa, qad, qae] at hA
   obtain ⟨gr, rcr, hgs, hx, hf9⟩ : FB n (told n (G 0)) (v 9) (gs 9) w8 := hF 9 (by decide)
   rw [hx] at hA
   subst hA
   go_simp
   exact hK.to hb _ _ _ [w8.heap.size, gr] (by simp only [Act.put, qaa, qad, qae]) ⟨w8.heap.size, 1, gr, rcr, rfl, rfl, vnew1 w8 _ _ rfl, hf9.below (qb1 qB qN)⟩ (qb1 qB qN) (new2 ⟨qaf _, by rw [qab]; exact Nat.lt_succ_self _⟩ (grown1 (olds (k := 9) (by decide) hgs (hlt 9 (by decide)) gr (by simp))))
  ·have e := at_op (i := 11) (h' := ho) rfl
   subst e
   simp only [Act.put, pf, qaa, qad, qae] at hA
   subst hA
   refine sep_row rfl _ _ rfl hb hK (ks := 1) (kx := 10) (by decide) (by decide) (hap 1 (by decide) 10 (by decide) (by decide)) (hF 1 (by decide)) (hF 10 (by decide)) (fun g hg => (hlt 10 (by decide) g hg).2) rfl rfl HV.out.2.2 (by omega) (fun _ _ _ h => h)
  ·have e := at_op (i := 13) (h' := ho) rfl
   subst e
   simp only [Act.put, pf, qaa, qad, qae] at hA
   subst hA
   go_simp
   (go_at_call 40; refine (qdX (some ⟨g4, 0, none⟩) g4 0 R c4 (told R B) _ (qb2 _ _) hRn (by omega) (H6.out.2.2.2.1.below hb8)).mono ?_; rintro e w9 ⟨v9, rfl, hr9, hb9⟩)
   obtain ⟨g9, hf9, hg9⟩ := FA.of (B := w6.drew.heap.size) hr9 hb.size hRn
   obtain ⟨a9, c9, rfl⟩ := hr9.shape
   have K9 := qH (qA hf9 (qA hg9 hb9))
   clear hf9 hg9 hb9 hr9
   go_wp2_with fail
   exact hK.to hb _ _ w9 [g9] (by simp only [Act.put, qaa, qad, qae]) K9.out.1 K9.out.2.2 (new1 K9.out.2.1)
  ·have e := at_op (i := 15) (h' := ho) rfl
   subst e
   simp only [Act.put, pf, qaa, qad, qae] at hA
   subst hA
   go_simp
   (go_at_call 27; refine (HLo.out _ (H6.out.1.trans (hb8.mono H6.out.1.size))).mono ?_; rintro e w9 ⟨v9, B9, rfl, hB9, hr9, hb9⟩)
   obtain ⟨g9, c9, rfl, hf9, hg9⟩ := fr_of hr9 (qb2 _ _) (by decide)
   have K9 := qH (qA hf9 (qA (qA (qam hB9 hg9.1) hg9.2) hb9))
   clear hf9 hg9 hb9 hr9 hB9
   go_wp2_with fail
   exact hK.to hb _ _ w9 [g9] (by simp only [Act.put, qaa, qad, qae]) ⟨g9, c9, rfl, rfl, K9.out.1⟩ K9.out.2.2 (new1 K9.out.2.1)
  ·have e := at_op (i := 16) (h' := ho) rfl
   subst e
   simp only [Act.put, pf, qaa, qad, qae] at hA
   subst hA
   refine qfT rfl _ _ rfl hb hK (ks := 13) (kx := 15) (by decide) (hF 13 (by decide)) (hF 15 (by decide)) rfl rfl (qb2 _ _) (qb2 _ _) (by decide) (by omega) (fun _ _ _ h => h)
  ·have e := at_op (i := 18) (h' := ho) rfl
   subst e
   simp only [Act.put, pf, qaa, qad, qae] at hA
   subst hA
   go_simp
   (go_at_call 40; refine (qdX (some ⟨g5, 0, none⟩) g5 0 R c5 (told R V) _ (qb2 _ _) hRn (by omega) (H6.out.2.2.2.2.1.below hb8)).mono ?_; rintro e w9 ⟨v9, rfl, hr9, hb9⟩)
   obtain ⟨g9, hf9, hg9⟩ := FA.of (B := w6.drew.heap.size) hr9 hb.size hRn
   obtain ⟨a9, c9, rfl⟩ := hr9.shape
   have K9 := qH (qA hf9 (qA hg9 hb9))
   clear hf9 hg9 hb9 hr9
   go_wp2_with fail
   exact hK.to hb _ _ w9 [g9] (by simp only [Act.put, qaa, qad, qae]) K9.out.1 K9.out.2.2 (new1 K9.out.2.1)
  ·have e := at_op (i := 19) (h' := ho) rfl
   subst e
   simp only [Act.put, pf, qaa, qad, qae] at hA
   subst hA
   go_simp
   exact hK.to hb _ _ _ [w8.heap.size] (by simp only [Act.put, qaa, qad, qae]) ⟨w8.heap.size, rfl, rfl, SCells.row (L := [⟨#[48]⟩]) (heap_alloc_new w8 _)⟩ (qb1 qB qN) (new1 ⟨qaf _, by rw [qab]; exact Nat.lt_succ_self _⟩)
  ·have e := at_op (i := 20) (h' := ho) rfl
   subst e
   simp only [Act.put, pf, qaa, qad, qae] at hA
   obtain ⟨gq, hgs, hx, hs9⟩ : FS ⟨#[48]⟩ (v 19) (gs 19) w8 := hF 19 (by decide)
   rw [hx] at hA
   subst hA
   go_simp
   (go_at_call 30; refine (q_new gq 1 1 [⟨#[48]⟩] _ rfl (by decide) hs9 (qfW (by decide))).mono ?_; rintro e w9 ⟨v9, rfl, hr9, hb9⟩)
   rw [qgS (l := [0]) 1 rfl (by simp only [qaO, qaV, ft_0]; decide +kernel)] at hr9
   obtain ⟨g9, c9, rfl, hf9, hg9⟩ := fr_of hr9 (qb2 _ _) (by decide)
   have K9 := qH (qA hf9 (qA hg9 hb9))
   clear hf9 hg9 hb9 hr9
   go_wp2_with fail
   exact hK.to hb _ _ w9 [g9] (by simp only [Act.put, qaa, qad, qae]) ⟨g9, c9, rfl, rfl, K9.out.1⟩ K9.out.2.2 (new1 K9.out.2.1)
  ·have e := at_op (i := 21) (h' := ho) rfl
   subst e
   simp only [Act.put, pf, qaa, qad, qae] at hA
   subst hA
   refine qfT rfl _ _ rfl hb hK (ks := 18) (kx := 20) (by decide) (hF 18 (by decide)) (hF 20 (by decide)) rfl rfl (qb2 _ _) (qb2 _ _) (by decide) (by omega) (fun _ _ _ h => h)
 ·intro v w8 gs hb hF A hA f
  have hb8 : Below w6.heap.size w6 w8 := hstD.trans hb
  obtain ⟨g11, c11, gr, rcr, _, hx11, hv11, hf11⟩ : FC (R + 1) vs n (told n (G 0)) (v 11) (gs 11) w8 := hF 11 (by decide) (by decide) (by decide)
  obtain ⟨g16, c16, _, hx16, hf16⟩ : FB (R + 1) (told R B ++ told 1 Y) (v 16) (gs 16) w8 := hF 16 (by decide) (by decide) (by decide)
  obtain ⟨g21, c21, _, hx21, hf21⟩ : FB (R + 1) (told R V ++ told 1 (fv [0])) (v 21) (gs 21) w8 := hF 21 (by decide) (by decide) (by decide)
  simp only [Act.put, pf, qaa, qad, qae] at hA
  rw [hx11, hx16, hx21] at hA
  subst hA
  have hT8 := ((HV.out.1.below hb8).append (qcs.one (qb2 n (G 0)) hf11)).tcells hv11
  rw [show ttab R n F ++ [told n (G 0)] = _ from qir R n F G] at hT8
  rw [qkA] at hf16 hf21
  have K8 := qH (qA hT8 (qA hf16 (qA hf21 hb8)))
  clear hT8 hf16 hf21 hb8 hv11 hf11 hF hx11 hx16 hx21
  refine qcq 22 rfl (by kernel_rfl) (fun K hK => ?_)
  go_simp
  (go_at_call 22; refine (qeq (R := R + 1) (by omega) (by omega) hn1 (by omega) (fun i _ => fun j _ => by (split; exact (HS.out.1 _ _).short; exact (HS.out.2.2.2.2.1 _ _).short)) (fun i _ => by (split; exact (HS.out.2.1 _).short; exact (HS.out.2.2.2.2.2 _).short)) (fun i hi => by (split; exact (HS.out.2.2.1 _).short; exact qlc _)) (fun i hi => by (split; exact HS.out.2.2.2.1 _; exact qjO _)) K8.out.1 K8.out.2.1 K8.out.2.2.1 (HA.out.2.2.below (H6.out.1.trans (K8.out.2.2.2.mono H6.out.1.size)))).mono ?_; rintro e w10 ⟨a10, m10, cp10, cd10, rfl, hl10, hb10⟩)
  have V10 : Below w6.heap.size w6 w10 := K8.out.2.2.2.trans (hb10.mono K8.out.2.2.2.size)
  obtain ⟨rfl, l10, ga, gb, hla, hlb, hlm, hfa, hfb⟩ := (H6.out.2.2.2.2.2.below V10).same hl10 1 (by decide) (fun r c _ _ => qie R n F G B Y V r c)
  have K10 := qH (qA V10 (qA hla (qA hlb (qA hlm (qA hfa hfb)))))
  clear hb10 hl10 hla hlb hlm hfa hfb K8
  go_wp2_with fail
  refine Way.on hK (fun W => Below w6.heap.size w6 W) _ _ (fun W h => h) (V10) (fun hS0 => ?_)
  clear hK K
  try simp only [qaa, qad, qae]
  refine qb3 23 (v := ?_) rfl (by kernel_rfl) (fun _ _ _ h => h) (by assumption) (by rfl) (fun w hSw => ?_) ?_
  rotate_left 1
  ·(try dsimp only at hSw); go_simp <;> with_reducible rfl
  try simp only [Act.put, qaa, qad, qae]
  refine qb3 24 (v := ?_) rfl (by kernel_rfl) (fun _ _ _ h => h) (by assumption) (by rfl) (fun w hSw => ?_) ?_
  rotate_left 1
  ·(try dsimp only at hSw); go_simp <;> with_reducible rfl
  try simp only [Act.put, qaa, qad, qae]
  refine qb3 25 (v := ?_) rfl (by kernel_rfl) (fun _ _ _ h => h) (by assumption) (by rfl) (fun w hSw => ?_) ?_
  rotate_left 1
  ·(try dsimp only at hSw); go_simp <;> with_reducible rfl
  try simp only [Act.put, qaa, qad, qae]
  refine qb3 26 (v := ?_) rfl (by kernel_rfl) (fun _ _ _ h => h) (by assumption) (by rfl) (fun w hSw => ?_) ?_
  rotate_left 1
  ·(try dsimp only at hSw); go_simp <;> with_reducible rfl
  try simp only [Act.put, qaa, qad, qae]
  refine qb3 27 (v := ?_) rfl (by kernel_rfl) (fun _ _ _ h => h) (by assumption) (by rfl) (fun w hSw => ?_) ?_
  rotate_left 1
  ·(try dsimp only at hSw); go_simp <;> with_reducible rfl
  try simp only [Act.put, qaa, qad, qae]
  refine wpAnyH_done (by kernel_rfl) ?_ _
  have H10 := qH (qA (H6.out.1.trans (V10.mono H6.out.1.size)) (qA (H6.out.2.2.1.below V10) (qA (H6.out.2.2.2.1.below V10) (qA (H6.out.2.2.2.2.1.below V10) (H6.out.2.2.2.2.2.below V10)))))
  have HV10 := qH (qA (HV.out.1.below V10) (HV.out.2.1.below V10))
  have hvl := HV.out.2.2
  clear D0 D1 D2 D3 DR hst hstD l0 lr hS0 HV H6
  go_wp2_with fail
  refine (qeJ a6 ga 0 m6 cp6 l10 a10 gb 0 m10 cp10 l10 w10 K10.out.2.1 (by have := K10.out.2.2.2.1; omega) K10.out.2.2.2.2.1 K10.out.2.2.1 (by have h1 := K10.out.2.1; have h2 := K10.out.2.2.1; have := K10.out.2.2.2.1; omega) K10.out.2.2.2.2.2).mono ?_
  rintro e w11 ⟨ok, rfl, hok, hb11⟩
  obtain rfl : ok = true := hok.2 rfl
  have H11 := qH (qA (H10.out.1.trans (hb11.mono H10.out.1.size)) (qA (H10.out.2.1.below hb11) (qA (H10.out.2.2.1.below hb11) (qA (H10.out.2.2.2.1.below hb11) (H10.out.2.2.2.2.below hb11)))))
  have HV11 := qH (qA (HV10.out.1.below hb11) (HV10.out.2.below hb11))
  clear hok hb11 K10 V10 H10 HV10
  obtain ⟨q1, q2, hq⟩ := qdm (V k)
  obtain ⟨t1, t2, ht⟩ := qdm (V k + V k)
  have hst : Below w11.heap.size w11 w11 := Below.refl _ _
  have hstD : Below w11.heap.size w11 w11.drew := hst.drew
  have hstA : Below w11.heap.size w11 (w11.alloc (.cells #[.string ⟨#[]⟩, .string ⟨#[]⟩] 46)).drew := (qb1 hst qN).drew
  have C1 : ∀ W, Below w11.heap.size w11 W → W.cell? ⟨g5, k * 2, none⟩ = some (.string q1) := fun W h => by have := (qcL (H11.out.2.2.2.1.below h) hkR hq).1; rwa [qaD] at this
  have C2 : ∀ W, Below w11.heap.size w11 W → W.cell? ⟨g5, k * 2 + 1, none⟩ = some (.string q2) := fun W h => by have := (qcL (H11.out.2.2.2.1.below h) hkR hq).2; rwa [qaD] at this
  have HAd := qH (fun (W : World) (h : Below w11.heap.size w11 W) => qjl hq hq ht (HS.out.2.2.1 k).short (HS.out.2.2.1 k).short (HS.out.2.2.1 k).dbl W (HA.out.2.2.below (H11.out.1.trans (h.mono H11.out.1.size))))
  have HX := qH (qA hq ht)
  clear hq ht
  go_wp2_with fail
  go_cut [15, 16] (fun x15 x16 W => ∃ g7 : Nat, x15 = .pointer (some ⟨g7, 0, none⟩) ∧ x16 = .int .i64 0 ∧ FOne w11 W g7 (t1, t2))
  case first =>
   refine wp_region_held_drew (S := fun W => Below w11.heap.size w11 W) (by kernel_rfl) (hstD) (fun hS0 => ?_)
   refine qb3 0 (v := ?_) rfl (by kernel_rfl) (fun _ _ _ h => h) (by assumption) (by rfl) (fun w hSw => ?_) ?_
   rotate_left 1
   ·(try dsimp only at hSw); go_simp <;> with_reducible rfl
   try simp only [Act.put, qaa, qad, qae]
   refine qb3 1 (v := ?_) rfl (by kernel_rfl) (fun _ _ _ h => h) (by assumption) (by rfl) (fun w hSw => ?_) ?_
   rotate_left 1
   ·(try dsimp only at hSw); go_simp <;> with_reducible rfl
   try simp only [Act.put, qaa, qad, qae]
   refine qb3 2 (v := ?_) rfl (by kernel_rfl) (fun _ _ _ h => h) (by assumption) (by rfl) (fun w hSw => ?_) ?_
   rotate_left 1
   ·(try dsimp only at hSw); go_simp <;> with_reducible rfl
   try simp only [Act.put, qaa, qad, qae]
   refine qb3 3 (v := ?_) rfl (by kernel_rfl) (fun _ _ _ h => h) (by assumption) (by rfl) (fun w hSw => ?_) ?_
   rotate_left 1
   ·(try dsimp only at hSw); go_simp <;> with_reducible rfl
   try simp only [Act.put, qaa, qad, qae]
   refine qb3 4 (v := ?_) rfl (by kernel_rfl) (fun _ _ _ h => h) (by assumption) (by rfl) (fun w hSw => ?_) ?_
   rotate_left 1
   ·(try dsimp only at hSw); go_simp <;> with_reducible rfl
   try simp only [Act.put, qaa, qad, qae]
   refine qb3 5 (v := ?_) rfl (by kernel_rfl) (fun _ _ _ h => h) (by assumption) (by rfl) (fun w hSw => ?_) ?_
   rotate_left 1
   ·(try dsimp only at hSw); go_simp <;> with_reducible rfl
   try simp only [Act.put, qaa, qad, qae]
   refine qb3 6 (v := ?_) rfl (by kernel_rfl) (fun _ _ _ h => h) (by assumption) (by rfl) (fun w hSw => ?_) ?_
   rotate_left 1
   ·(try dsimp only at hSw); go_simp <;> with_reducible rfl
   try simp only [Act.put, qaa, qad, qae]
   refine qb3 7 (v := ?_) rfl (by kernel_rfl) (fun _ _ _ h => h) (by assumption) (by rfl) (fun w hSw => ?_) ?_
   rotate_left 1
   ·(try dsimp only at hSw); go_simp <;> with_reducible rfl
   try simp only [Act.put, qaa, qad, qae]
   refine qiJ 8 12 rfl rfl (by kernel_rfl) (fun K hK => ?_) (fun K hK => ?_)
   ·
    go_simp
    refine (HAd.out _ (by first | with_reducible exact hstD | with_reducible exact hstA)).mono ?_
    rintro e w17 ⟨rfl, hb17⟩
    have V17 : Below w11.heap.size w11 w17 := bjoin hstD hb17
    clear hb17
    go_wp2_with fail
    refine Way.on hK (fun W => Below w11.heap.size w11 W) _ _ (fun W h => h) (V17) (fun hS0 => ?_)
    clear hK K
    try simp only [Act.put, qaa, qad, qae]
    refine qb3 9 (v := ?_) rfl (by kernel_rfl) (fun _ _ _ h => h) (by assumption) (by rfl) (fun w hSw => ?_) ?_
    rotate_left 1
    ·(try dsimp only at hSw); go_simp <;> with_reducible rfl
    try simp only [Act.put, qaa, qad, qae]
    refine qb3 10 (v := ?_) rfl (by kernel_rfl) (fun _ _ _ h => h) (by assumption) (by rfl) (fun w hSw => ?_) ?_
    rotate_left 1
    ·(try dsimp only at hSw); go_simp <;> with_reducible rfl
    try simp only [Act.put, qaa, qad, qae]
    refine qb3 11 (v := ?_) rfl (by kernel_rfl) (fun _ _ _ h => h) (by assumption) (by rfl) (fun w hSw => ?_) ?_
    rotate_left 1
    ·(try dsimp only at hSw); go_simp <;> with_reducible rfl
    try simp only [Act.put, qaa, qad, qae]
    refine qcq 12 rfl (by kernel_rfl) (fun K hK => ?_)
    go_simp
    refine Way.on hK (fun W => Below w11.heap.size w11 W) _ _ (fun W h => h) (qb1 V17 qN) (fun hS0 => ?_)
    clear hK K
    try simp only [Act.put, qaa, qad, qae]
    refine qcq 13 rfl (by kernel_rfl) (fun K hK => ?_)
    go_simp
    refine Way.on hK (fun W => Below w11.heap.size w11 W) _ _ (fun W h => h) (by first | exact qb1 V17 qN | exact ((qb1 V17 qN).setCell V17.size _).setCell V17.size _) (fun hS0 => ?_)
    clear hK K
    try simp only [Act.put, qaa, qad, qae]
    refine qb3 14 (v := ?_) rfl (by kernel_rfl) (fun _ _ _ h => h) (by assumption) (by rfl) (fun w hSw => ?_) ?_
    rotate_left 1
    ·(try dsimp only at hSw); go_simp <;> with_reducible rfl
    try simp only [Act.put, qaa, qad, qae]
    refine wpAnyH_done (by kernel_rfl) ?_ _
    go_wp2_with fail
    go_meet
    refine ⟨_, rfl, rfl, ?_⟩
    exact qj0 V17
   ·
    go_simp
    refine Way.on hK (fun W => Below w11.heap.size w11 W) _ _ (fun W h => h) (hstA) (fun hS0 => ?_)
    clear hK K
    try simp only [Act.put, qaa, qad, qae]
    refine qcq 8 rfl (by kernel_rfl) (fun K hK => ?_)
    go_simp
    refine (HAd.out _ (by first | with_reducible exact hstD | with_reducible exact hstA)).mono ?_
    rintro e w17 ⟨rfl, hb17⟩
    have V17 : Below w11.heap.size w11 w17 := hstA.trans (hb17.mono hstA.size)
    obtain ⟨k17, k17f⟩ := bcell hb17
    have Z17 := qH (zkeep hb17)
    clear hb17
    go_wp2_with fail
    refine Way.on hK (fun W => Below w11.heap.size w11 W) _ _ (fun W h => h) (V17) (fun hS0 => ?_)
    clear hK K
    try simp only [Act.put, qaa, qad, qae]
    refine qb3 9 (v := ?_) rfl (by kernel_rfl) (fun _ _ _ h => h) (by assumption) (by rfl) (fun w hSw => ?_) ?_
    rotate_left 1
    ·(try dsimp only at hSw); go_simp <;> with_reducible rfl
    try simp only [Act.put, qaa, qad, qae]
    refine qb3 10 (v := ?_) rfl (by kernel_rfl) (fun _ _ _ h => h) (by assumption) (by rfl) (fun w hSw => ?_) ?_
    rotate_left 1
    ·(try dsimp only at hSw); go_simp <;> with_reducible rfl
    try simp only [Act.put, qaa, qad, qae]
    refine qb3 11 (v := ?_) rfl (by kernel_rfl) (fun _ _ _ h => h) (by assumption) (by rfl) (fun w hSw => ?_) ?_
    rotate_left 1
    ·(try dsimp only at hSw); go_simp <;> with_reducible rfl
    try simp only [Act.put, qaa, qad, qae]
    refine qcq 13 rfl (by kernel_rfl) (fun K hK => ?_)
    go_simp
    refine Way.on hK (fun W => Below w11.heap.size w11 W) _ _ (fun W h => h) ((V17.setCell qN _).setCell qN _) (fun hS0 => ?_)
    clear hK K
    try simp only [Act.put, qaa, qad, qae]
    refine qb3 14 (v := ?_) rfl (by kernel_rfl) (fun _ _ _ h => h) (by assumption) (by rfl) (fun w hSw => ?_) ?_
    rotate_left 1
    ·(try dsimp only at hSw); go_simp <;> with_reducible rfl
    try simp only [Act.put, qaa, qad, qae]
    refine wpAnyH_done (by kernel_rfl) ?_ _
    go_wp2_with fail
    go_meet
    refine ⟨_, rfl, rfl, ?_⟩
    exact qiI V17 qN (Z17.out _ _ (qM _ _ _ rfl))
  case rest =>
  obtain ⟨g7, rfl, rfl, ho1, hob, hog⟩ := hcut
  have H12 := qH (qA (H11.out.1.trans (hob.mono H11.out.1.size)) (qA (H11.out.2.1.below hob) (qA (H11.out.2.2.1.below hob) (qA (H11.out.2.2.2.1.below hob) (H11.out.2.2.2.2.below hob)))))
  have HV12 := qH (qA (HV11.out.1.below hob) (HV11.out.2.below hob))
  have HG7 := qH ho1
  clear hst hstD hstA C1 C2 HAd ho1 hob hog H11 HV11
  go_wp2_with fail
  refine (qdX (some ⟨g5, 0, none⟩) g5 0 R c5 (told R V) _ (qb2 _ _) hRn (by omega) H12.out.2.2.2.1).mono ?_
  rintro e w13 ⟨v13, rfl, hr13, hb13⟩
  obtain ⟨g13, c13, rst, rfl, hbg13, hcc13, hcur13, hre13⟩ := hr13.open hRn
  have g7r := zkeep hb13 _ _ HG7.out
  have hkl : k < (told R V).length := by rw [qb2]; exact hkR
  have hkx : (told R V).getD k fd0 = (q1, q2) := by rw [qdP hkR, HX.out.1]
  have hgj := qdZ _ k (q1, q2) (by rw [getD_some hkl, hkx])
  have hfl : (fflat (told R V)).length = R * 2 := by rw [qcl, qb2]
  have y0 : (fflat (told R V) ++ rst).toArray[k * 2]? = some (.string q1) := by rw [qax, qay (by omega)]; exact hgj.1
  have y1 : (fflat (told R V) ++ rst).toArray[k * 2 + 1]? = some (.string q2) := by rw [qax, qay (by omega)]; exact hgj.2
  have s0 := (cell_of_row _ _ (k * 2) _ _ _ hcur13).trans y0
  have s1 := (cell_of_row _ _ (k * 2 + 1) _ _ _ hcur13).trans y1
  have f0 := frozen_of_row _ _ (k * 2) _ _ hcur13
  have f1 := frozen_of_row _ _ (k * 2 + 1) _ _ hcur13
  have hfin := heap_setCell_same _ g13 (k * 2 + 1) _ _ (.string t2) (heap_setCell_same _ g13 (k * 2) _ _ (.string t1) hcur13)
  rw [qg3 hkl (t1, t2) rst, ← HX.out.2, qiq] at hfin
  have hSb : Below wc.heap.size wc ((w13.setCell ⟨g13, k * 2, none⟩ (.string t1)).setCell ⟨g13, k * 2 + 1, none⟩ (.string t2)) := (hb13.setCell (p := ⟨g13, k * 2, none⟩) hbg13 (.string t1)).setCell (p := ⟨g13, k * 2 + 1, none⟩) hbg13 (.string t2)
  obtain ⟨Hv, hHv⟩ : ∃ Hv : Nat → Rat, Hv = fun i => if i = k then V k + V k else V i := ⟨_, rfl⟩
  rw [← hHv] at hfin
  obtain ⟨wS, hwS⟩ : ∃ W, W = (w13.setCell ⟨g13, k * 2, none⟩ (.string t1)).setCell ⟨g13, k * 2 + 1, none⟩ (.string t2) := ⟨_, rfl⟩
  rw [← hwS] at hfin hSb
  have hrS := hre13 wS (fflat (told R Hv)) (by rw [qcl, qcl, qb2, qb2]) (qeW _) hfin
  obtain ⟨gS, cS, hSe, hSf, _⟩ := fr_of hrS (qb2 _ _) hRn
  cases hSe
  have hHvS : ∀ i, Short (Hv i) ∧ 0 ≤ Hv i := fun i => by
   rw [hHv]
   dsimp only
   split
   ·exact ⟨(HS.out.2.2.1 k).dbl, Rat.add_nonneg (HS.out.2.2.2.1 k) (HS.out.2.2.2.1 k)⟩
   ·exact ⟨(HS.out.2.2.1 i).short, HS.out.2.2.2.1 i⟩
  have HSn := qH (qA hfin (qA hSb (qA hSf (qA hwS (qA hHv hHvS)))))
  have HR13 := qH hre13
  clear hfin hSb hSf hwS hHv hHvS hrS hre13 hcur13 hcc13 hr13 hb13 hgj hkx hfl y0 y1 HG7
  go_wp2_with ((with_reducible refine qb4 rfl 46 _ rfl (g7) ?_ 46 #[.string t1, .string t2] _ g7r Tryz.underlying46 ?_ 2 ?_ ?_ ?_); (next => rfl); (next => rfl); (next => kernel_rfl); (next => rfl))
  rw [← HSn.out.2.2.2.1]
  refine (qeq hR1 (by omega) hn1 (by omega) (fun i _ => fun j _ => (HS.out.1 i j).short) (fun i _ => (HS.out.2.1 i).short) (fun i _ => (HSn.out.2.2.2.2.2 i).1) (fun i _ => (HSn.out.2.2.2.2.2 i).2) (H12.out.2.1.below HSn.out.2.1) (H12.out.2.2.1.below HSn.out.2.1) HSn.out.2.2.1 (HA.out.2.2.below (H12.out.1.trans (HSn.out.2.1.mono H12.out.1.size)))).mono ?_
  rintro e w14 ⟨a14, m14, cp14, cd14, rfl, hl14, hb14⟩
  have V14 : Below wc.heap.size wc w14 := HSn.out.2.1.trans (hb14.mono HSn.out.2.1.size)
  have H14 := qH (qA V14 (qA (zkeep hb14 _ _ HSn.out.1) (qA hl14 (qA (H12.out.1.trans (V14.mono H12.out.1.size)) (qA (HV12.out.1.below V14) (HV12.out.2.below V14))))))
  have HHv := qH (qA HSn.out.2.2.2.2.1 HSn.out.2.2.2.2.2)
  clear hb14 hl14 V14 HSn g7r s0 s1 f0 f1
  obtain ⟨ra, rb, ro, rc, hrow, hrf⟩ := (H12.out.2.1.below H14.out.1).row k (by rw [qch]; exact hkR)
  rw [qda hkR, qb2, qaD] at hrow
  rw [qda hkR] at hrf
  obtain ⟨b1, b2, hbk⟩ := qdm (B k)
  have lr : g < w14.heap.size := qag w14 _ hrow
  have hst : Below w14.heap.size w14 w14 := Below.refl _ _
  have hstD : Below w14.heap.size w14 w14.drew := hst.drew
  have DR : ∀ W, Below w14.heap.size w14 W → W.cell? ⟨g, k, none⟩ = some (.slice ra n rc) := fun W h => (h.cell (p := ⟨g, k, none⟩) lr).trans hrow
  have C1 : ∀ W, Below w14.heap.size w14 W → W.cell? ⟨g5, k * 2, none⟩ = some (.string q1) := fun W h => by have := (qcL ((H12.out.2.2.2.1.below H14.out.1).below h) hkR HX.out.1).1; rwa [qaD] at this
  have C2 : ∀ W, Below w14.heap.size w14 W → W.cell? ⟨g5, k * 2 + 1, none⟩ = some (.string q2) := fun W h => by have := (qcL ((H12.out.2.2.2.1.below H14.out.1).below h) hkR HX.out.1).2; rwa [qaD] at this
  have C3 : ∀ W, Below w14.heap.size w14 W → W.cell? ⟨g4, k * 2, none⟩ = some (.string b1) := fun W h => by have := (qcL ((H12.out.2.2.1.below H14.out.1).below h) hkR hbk).1; rwa [qaD] at this
  have C4 : ∀ W, Below w14.heap.size w14 W → W.cell? ⟨g4, k * 2 + 1, none⟩ = some (.string b2) := fun W h => by have := (qcL ((H12.out.2.2.1.below H14.out.1).below h) hkR hbk).2; rwa [qaD] at this
  have HRf := qH (qA hrf hbk)
  clear hrow hrf hbk
  go_wp2_with fail
  refine wp_region_held_drew (S := fun W => Below w14.heap.size w14 W) (by kernel_rfl) (hstD) (fun hS0 => ?_)
  refine qb3 0 (v := ?_) rfl (by kernel_rfl) (fun _ _ _ h => h) (by assumption) (by rfl) (fun w hSw => ?_) ?_
  rotate_left 1
  ·(try dsimp only at hSw); go_simp <;> with_reducible rfl
  try simp only [Act.put, qaa, qad, qae]
  refine qb3 2 (v := ?_) rfl (by kernel_rfl) (fun _ _ _ h => h) (by assumption) (by rfl) (fun w hSw => ?_) ?_
  rotate_left 1
  ·(try dsimp only at hSw); go_simp <;> with_reducible rfl
  try simp only [Act.put, qaa, qad, qae]
  refine qb3 3 (v := ?_) rfl (by kernel_rfl) (fun _ _ _ h => h) (by assumption) (by rfl) (fun w hSw => ?_) ?_
  rotate_left 1
  ·(try dsimp only at hSw); go_simp <;> with_reducible rfl
  try simp only [Act.put, qaa, qad, qae]
  refine qb3 4 (v := ?_) rfl (by kernel_rfl) (fun _ _ _ h => h) (by assumption) (by rfl) (fun w hSw => ?_) ?_
  rotate_left 1
  ·(try dsimp only at hSw); go_simp <;> with_reducible rfl
  try simp only [Act.put, qaa, qad, qae]
  refine qb3 5 (v := ?_) rfl (by kernel_rfl) (fun _ _ _ h => h) (by assumption) (by rfl) (fun w hSw => ?_) ?_
  rotate_left 1
  ·(try dsimp only at hSw); go_simp <;> with_reducible rfl
  try simp only [Act.put, qaa, qad, qae]
  refine qb3 8 (v := ?_) rfl (by kernel_rfl) (fun _ _ _ h => h) (by assumption) (by rfl) (fun w hSw => ?_) ?_
  rotate_left 1
  ·(try dsimp only at hSw); go_simp <;> with_reducible rfl
  try simp only [Act.put, qaa, qad, qae]
  refine qb3 10 (v := ?_) rfl (by kernel_rfl) (fun _ _ _ h => h) (by assumption) (by rfl) (fun w hSw => ?_) ?_
  rotate_left 1
  ·(try dsimp only at hSw); go_simp <;> with_reducible rfl
  try simp only [Act.put, qaa, qad, qae]
  refine qb3 11 (v := ?_) rfl (by kernel_rfl) (fun _ _ _ h => h) (by assumption) (by rfl) (fun w hSw => ?_) ?_
  rotate_left 1
  ·(try dsimp only at hSw); go_simp <;> with_reducible rfl
  try simp only [Act.put, qaa, qad, qae]
  refine qb3 12 (v := ?_) rfl (by kernel_rfl) (fun _ _ _ h => h) (by assumption) (by rfl) (fun w hSw => ?_) ?_
  rotate_left 1
  ·(try dsimp only at hSw); go_simp <;> with_reducible rfl
  try simp only [Act.put, qaa, qad, qae]
  refine qb3 13 (v := ?_) rfl (by kernel_rfl) (fun _ _ _ h => h) (by assumption) (by rfl) (fun w hSw => ?_) ?_
  rotate_left 1
  ·(try dsimp only at hSw); go_simp <;> with_reducible rfl
  try simp only [Act.put, qaa, qad, qae]
  refine qb3 16 (v := ?_) rfl (by kernel_rfl) (fun _ _ _ h => h) (by assumption) (by rfl) (fun w hSw => ?_) ?_
  rotate_left 1
  ·(try dsimp only at hSw); go_simp <;> with_reducible rfl
  try simp only [Act.put, qaa, qad, qae]
  refine qb3 18 (v := ?_) rfl (by kernel_rfl) (fun _ _ _ h => h) (by assumption) (by rfl) (fun w hSw => ?_) ?_
  rotate_left 1
  ·(try dsimp only at hSw); go_simp <;> with_reducible rfl
  try simp only [Act.put, qaa, qad, qae]
  refine qb3 19 (v := ?_) rfl (by kernel_rfl) (fun _ _ _ h => h) (by assumption) (by rfl) (fun w hSw => ?_) ?_
  rotate_left 1
  ·(try dsimp only at hSw); go_simp <;> with_reducible rfl
  try simp only [Act.put, qaa, qad, qae]
  refine qb3 20 (v := ?_) rfl (by kernel_rfl) (fun _ _ _ h => h) (by assumption) (by rfl) (fun w hSw => ?_) ?_
  rotate_left 1
  ·(try dsimp only at hSw); go_simp <;> with_reducible rfl
  try simp only [Act.put, qaa, qad, qae]
  refine qb3 21 (v := ?_) rfl (by kernel_rfl) (fun _ _ _ h => h) (by assumption) (by rfl) (fun w hSw => ?_) ?_
  rotate_left 1
  ·(try dsimp only at hSw); go_simp <;> with_reducible rfl
  try simp only [Act.put, qaa, qad, qae]
  refine qi5 [(1, 111), (6, 116), (7, 117), (9, 119), (14, 124), (15, 125), (17, 127), (22, 132), (23, 133)] [(7, [1, 6]), (15, [9, 14]), (23, [17, 22])] [] [0, 2, 3, 4, 5, 8, 10, 11, 12, 13, 16, 18, 19, 20, 21] 24 (fl [(1, FA w14.drew.heap.size 23 1 R vs), (6, FV 1 [Value.slice ra n rc]), (7, FV (R + 1) (vs ++ [Value.slice ra n rc])), (9, FA w14.drew.heap.size 46 2 R (fflat (told R B))), (14, FB 1 (told 1 fun _ => B k)), (15, FB (R + 1) (told R B ++ told 1 fun _ => B k)), (17, FA w14.drew.heap.size 46 2 R (fflat (told R V))), (22, FB 1 (told 1 fun _ => V k)), (23, FB (R + 1) (told R V ++ told 1 fun _ => V k))]) 6 186 #[true, true, true, true, true, true, true, true, true, true, true, true, true, true, true, true, true, true, true, true, true, true, true, true, false, false, false, false, false, false] rfl (qlE ?_) (by kernel_rfl) (fun W h => hstD.trans h) ?_ ?_
  ·intro p hp
   simp only [qaL, List.not_mem_nil, or_false] at hp
   rcases hp with rfl | rfl | rfl | rfl | rfl | rfl | rfl | rfl | rfl <;> first | exact FA.stab _ _ _ _ _ | exact FB.stab _ _ | exact FV.stab _ _ | exact FC.stab _ _ _ _ | exact FP.stab _ _ | exact FS.stab _
  ·intro i o ho hi hiT v w8 gs hb hF hlt hap _ A hA K hK
   have hb8 : Below w14.heap.size w14 w8 := hstD.trans hb
   have hi2 := (by decide : ∀ i, i < 24 → i ∉ [0, 2, 3, 4, 5, 8, 10, 11, 12, 13, 16, 18, 19, 20, 21] → i ∈ [1, 6, 7, 9, 14, 15, 17, 22, 23]) i hi hiT
   clear hi hiT hS0
   simp only [qaL, List.not_mem_nil, or_false] at hi2
   rcases hi2 with rfl | rfl | rfl | rfl | rfl | rfl | rfl | rfl | rfl
   ·have e := at_op (i := 1) (h' := ho) rfl
    subst e
    simp only [Act.put, pf, qaa, qad, qae] at hA
    subst hA
    go_simp
    (go_at_call 38; refine (qe8 (some ⟨g, 0, none⟩) g 0 R cap vs _ hvl hRn (by omega) (H14.out.2.2.2.2.2.below hb8) H14.out.2.2.2.2.1.not).mono ?_; rintro e w9 ⟨v9, rfl, hr9, hb9⟩)
    obtain ⟨g9, hf9, hg9⟩ := FA.of (B := w14.drew.heap.size) hr9 hb.size hRn
    obtain ⟨a9, c9, rfl⟩ := hr9.shape
    have K9 := qH (qA hf9 (qA hg9 hb9))
    clear hf9 hg9 hb9 hr9
    go_wp2_with fail
    exact hK.to hb _ _ w9 [g9] (by simp only [Act.put, qaa, qad, qae]) K9.out.1 K9.out.2.2 (new1 K9.out.2.1)
   ·have e := at_op (i := 6) (h' := ho) rfl
    subst e
    simp only [Act.put, pf, qaa, qad, qae] at hA
    subst hA
    go_simp
    exact hK.to hb _ _ _ [w8.heap.size] (by simp only [Act.put, qaa, qad, qae]) ⟨w8.heap.size, 1, rfl, rfl, vnew1 w8 _ _ rfl⟩ (qb1 qB qN) (new1 ⟨qaf _, by rw [qab]; exact Nat.lt_succ_self _⟩)
   ·have e := at_op (i := 7) (h' := ho) rfl
    subst e
    simp only [Act.put, pf, qaa, qad, qae] at hA
    subst hA
    refine sep_vrow rfl _ _ rfl hb hK (ks := 1) (kx := 6) (by decide) (hF 1 (by decide)) (hF 6 (by decide)) rfl rfl hvl (by omega) (fun _ _ _ h => h)
   ·have e := at_op (i := 9) (h' := ho) rfl
    subst e
    simp only [Act.put, pf, qaa, qad, qae] at hA
    subst hA
    go_simp
    (go_at_call 40; refine (qdX (some ⟨g4, 0, none⟩) g4 0 R c4 (told R B) _ (qb2 _ _) hRn (by omega) ((H12.out.2.2.1.below H14.out.1).below hb8)).mono ?_; rintro e w9 ⟨v9, rfl, hr9, hb9⟩)
    obtain ⟨g9, hf9, hg9⟩ := FA.of (B := w14.drew.heap.size) hr9 hb.size hRn
    obtain ⟨a9, c9, rfl⟩ := hr9.shape
    have K9 := qH (qA hf9 (qA hg9 hb9))
    clear hf9 hg9 hb9 hr9
    go_wp2_with fail
    exact hK.to hb _ _ w9 [g9] (by simp only [Act.put, qaa, qad, qae]) K9.out.1 K9.out.2.2 (new1 K9.out.2.1)
   ·have e := at_op (i := 14) (h' := ho) rfl
    subst e
    simp only [Act.put, pf, qaa, qad, qae] at hA
    subst hA
    go_simp
    exact hK.to hb _ _ _ [w8.heap.size] (by simp only [Act.put, qaa, qad, qae]) ⟨w8.heap.size, 1, rfl, rfl, qhE HRf.out.2 (qM _ _ _ rfl)⟩ (qb1 qB qN) (new1 ⟨qaf _, by rw [qab]; exact Nat.lt_succ_self _⟩)
   ·have e := at_op (i := 15) (h' := ho) rfl
    subst e
    simp only [Act.put, pf, qaa, qad, qae] at hA
    subst hA
    refine qfT rfl _ _ rfl hb hK (ks := 9) (kx := 14) (by decide) (hF 9 (by decide)) (hF 14 (by decide)) rfl rfl (qb2 _ _) (qb2 _ _) (by decide) (by omega) (fun _ _ _ h => h)
   ·have e := at_op (i := 17) (h' := ho) rfl
    subst e
    simp only [Act.put, pf, qaa, qad, qae] at hA
    subst hA
    go_simp
    (go_at_call 40; refine (qdX (some ⟨g5, 0, none⟩) g5 0 R c5 (told R V) _ (qb2 _ _) hRn (by omega) ((H12.out.2.2.2.1.below H14.out.1).below hb8)).mono ?_; rintro e w9 ⟨v9, rfl, hr9, hb9⟩)
    obtain ⟨g9, hf9, hg9⟩ := FA.of (B := w14.drew.heap.size) hr9 hb.size hRn
    obtain ⟨a9, c9, rfl⟩ := hr9.shape
    have K9 := qH (qA hf9 (qA hg9 hb9))
    clear hf9 hg9 hb9 hr9
    go_wp2_with fail
    exact hK.to hb _ _ w9 [g9] (by simp only [Act.put, qaa, qad, qae]) K9.out.1 K9.out.2.2 (new1 K9.out.2.1)
   ·have e := at_op (i := 22) (h' := ho) rfl
    subst e
    simp only [Act.put, pf, qaa, qad, qae] at hA
    subst hA
    go_simp
    exact hK.to hb _ _ _ [w8.heap.size] (by simp only [Act.put, qaa, qad, qae]) ⟨w8.heap.size, 1, rfl, rfl, qhE HX.out.1 (qM _ _ _ rfl)⟩ (qb1 qB qN) (new1 ⟨qaf _, by rw [qab]; exact Nat.lt_succ_self _⟩)
   ·have e := at_op (i := 23) (h' := ho) rfl
    subst e
    simp only [Act.put, pf, qaa, qad, qae] at hA
    subst hA
    refine qfT rfl _ _ rfl hb hK (ks := 17) (kx := 22) (by decide) (hF 17 (by decide)) (hF 22 (by decide)) rfl rfl (qb2 _ _) (qb2 _ _) (by decide) (by omega) (fun _ _ _ h => h)
  ·intro v w8 gs hb hF A hA f
   have hb8 : Below w14.heap.size w14 w8 := hstD.trans hb
   obtain ⟨g11, c11, _, hx11, hv11⟩ : FV (R + 1) (vs ++ [Value.slice ra n rc]) (v 7) (gs 7) w8 := hF 7 (by decide) (by decide) (by decide)
   obtain ⟨g16, c16, _, hx16, hf16⟩ : FB (R + 1) (told R B ++ told 1 fun _ => B k) (v 15) (gs 15) w8 := hF 15 (by decide) (by decide) (by decide)
   obtain ⟨g21, c21, _, hx21, hf21⟩ : FB (R + 1) (told R V ++ told 1 fun _ => V k) (v 23) (gs 23) w8 := hF 23 (by decide) (by decide) (by decide)
   simp only [Act.put, pf, qaa, qad, qae] at hA
   rw [hx11, hx16, hx21] at hA
   subst hA
   have hT8 := ((H14.out.2.2.2.2.1.below hb8).append (qcs.one (qb2 n (F k)) (HRf.out.1.below hb8))).tcells hv11
   rw [show ttab R n F ++ [told n (F k)] = _ from qir R n F fun _ => F k] at hT8
   rw [qkA] at hf16 hf21
   have K8 := qH (qA hT8 (qA hf16 (qA hf21 hb8)))
   clear hT8 hf16 hf21 hb8 hv11 hF hx11 hx16 hx21
   refine qcq 24 rfl (by kernel_rfl) (fun K hK => ?_)
   go_simp
   (go_at_call 22; refine (qeq (R := R + 1) (by omega) (by omega) hn1 (by omega) (fun i _ => fun j _ => by (split; exact (HS.out.1 _ _).short; exact (HS.out.1 _ _).short)) (fun i _ => by (split; exact (HS.out.2.1 _).short; exact (HS.out.2.1 _).short)) (fun i hi => by (split; exact (HS.out.2.2.1 _).short; exact (HS.out.2.2.1 _).short)) (fun i hi => by (split; exact HS.out.2.2.2.1 _; exact HS.out.2.2.2.1 _)) K8.out.1 K8.out.2.1 K8.out.2.2.1 (HA.out.2.2.below (H14.out.2.2.2.1.trans (K8.out.2.2.2.mono H14.out.2.2.2.1.size)))).mono ?_; rintro e w15 ⟨a15, m15, cp15, cd15, rfl, hl15, hb15⟩)
   have V15 : Below w14.heap.size w14 w15 := K8.out.2.2.2.trans (hb15.mono K8.out.2.2.2.size)
   have hl14 := H14.out.2.2.1.below V15
   rw [HHv.out.1] at hl14
   obtain ⟨rfl, l15, ga, gb, hla, hlb, hlm, hfa, hfb⟩ := hl14.same hl15 1 (by decide) (fun r c _ _ => qjD R n k hkR F B V r c)
   have K15 := qH (qA V15 (qA hla (qA hlb (qA hlm (qA hfa hfb)))))
   clear hb15 hl15 hl14 hla hlb hlm hfa hfb K8
   go_wp2_with fail
   refine Way.on hK (fun W => Below w14.heap.size w14 W) _ _ (fun W h => h) (V15) (fun hS0 => ?_)
   clear hK K
   try simp only [qaa, qad, qae]
   refine qb3 25 (v := ?_) rfl (by kernel_rfl) (fun _ _ _ h => h) (by assumption) (by rfl) (fun w hSw => ?_) ?_
   rotate_left 1
   ·(try dsimp only at hSw); go_simp <;> with_reducible rfl
   try simp only [Act.put, qaa, qad, qae]
   refine qb3 26 (v := ?_) rfl (by kernel_rfl) (fun _ _ _ h => h) (by assumption) (by rfl) (fun w hSw => ?_) ?_
   rotate_left 1
   ·(try dsimp only at hSw); go_simp <;> with_reducible rfl
   try simp only [Act.put, qaa, qad, qae]
   refine qb3 27 (v := ?_) rfl (by kernel_rfl) (fun _ _ _ h => h) (by assumption) (by rfl) (fun w hSw => ?_) ?_
   rotate_left 1
   ·(try dsimp only at hSw); go_simp <;> with_reducible rfl
   try simp only [Act.put, qaa, qad, qae]
   refine qb3 28 (v := ?_) rfl (by kernel_rfl) (fun _ _ _ h => h) (by assumption) (by rfl) (fun w hSw => ?_) ?_
   rotate_left 1
   ·(try dsimp only at hSw); go_simp <;> with_reducible rfl
   try simp only [Act.put, qaa, qad, qae]
   refine qb3 29 (v := ?_) rfl (by kernel_rfl) (fun _ _ _ h => h) (by assumption) (by rfl) (fun w hSw => ?_) ?_
   rotate_left 1
   ·(try dsimp only at hSw); go_simp <;> with_reducible rfl
   try simp only [Act.put, qaa, qad, qae]
   refine wpAnyH_done (by kernel_rfl) ?_ _
   have H15 := qH (qA (H14.out.1.trans (V15.mono H14.out.1.size)) (zkeep V15 _ _ H14.out.2.1))
   clear DR C1 C2 C3 C4 hst hstD lr hS0 H14 HRf
   go_wp2_with fail
   refine (qeJ a14 ga 0 m14 cp14 l15 a15 gb 0 m15 cp15 l15 w15 K15.out.2.1 (by have := K15.out.2.2.2.1; omega) K15.out.2.2.2.2.1 K15.out.2.2.1 (by have h1 := K15.out.2.1; have h2 := K15.out.2.2.1; have := K15.out.2.2.2.1; omega) K15.out.2.2.2.2.2).mono ?_
   rintro e w16 ⟨ok, rfl, hok, hb16⟩
   obtain rfl : ok = true := hok.2 rfl
   have hc0 := zkeep hb16 _ _ H15.out.2
   rw [show told R Hv = told R fun c => if c < 0 then V c * (7 / 3) else Hv c from qcU fun i _ => by rw [if_neg (Nat.not_lt_zero _)]] at hc0
   have H16 := qH hc0
   have B16 := qH (H15.out.1.trans (hb16.mono H15.out.1.size))
   clear hok hb16 K15 V15 H15 hc0
   go_wp2_with fail
   go_loopw [22, 152] (fun _ x152 W => ∃ j : Nat, j ≤ R ∧ x152 = .int .i64 j ∧ Hid (W.heap[g13]? = some (.cells (fflat (told R fun c => if c < j then V c * (7 / 3) else Hv c) ++ rst).toArray 46 (0, 0))) ∧ Hid (Below wc.heap.size wc W)) (fun _ x152 _ => R - (intOf x152).toNat)
   case atStart => exact ⟨0, qar _, rfl, H16, B16⟩
   case round =>
    obtain ⟨j, hj, rfl, hR, hB⟩ := hrel
    by_cases hjn : j < R
    case neg =>
     obtain rfl : j = R := by omega
     have hrow := HR13.out wr (fflat (told j fun c => if c < j then V c * (7 / 3) else Hv c)) (by rw [qcl, qcl, qb2, qb2]) (qeW _) hR.out
     obtain ⟨gS, cS, hSe, hSf, _⟩ := fr_of hrow (qb2 _ _) hRn
     cases hSe
     rw [show (told j fun c => if c < j then V c * (7 / 3) else Hv c) = told j fun c => V c * (7 / 3) from qcU fun i hi => by rw [if_pos hi]] at hSf
     have HF := qH hSf
     clear hrow hSf
     go_wp2_with fail
     refine (qeq hR1 (by omega) hn1 (by omega) (fun i _ => fun c _ => (HS.out.1 i c).short) (fun i _ => (HS.out.2.1 i).short) (fun i _ => (HS.out.2.2.1 i).third) (fun i _ => Rat.mul_nonneg (HS.out.2.2.2.1 i) (by decide +kernel)) (H12.out.2.1.below hB.out) (H12.out.2.2.1.below hB.out) HF.out (HA.out.2.2.below (H12.out.1.trans (hB.out.mono H12.out.1.size)))).mono ?_
     rintro e w20 ⟨a20, m20, cp20, cd20, rfl, hl20, hb20⟩
     obtain ⟨rfl, l20, ga, gb, hla, hlb, hlm, hfa, hfb⟩ := ((H12.out.2.2.2.2.below hB.out).below hb20).same hl20 (3 / 7) (by decide +kernel) (fun r c _ _ => qjC (fun i _ => by show V i = 3 / 7 * (V i * (7 / 3)); grind) r c)
     have K20 := qH (qA (hB.out.trans (hb20.mono hB.out.size)) (qA hla (qA hlb (qA hlm (qA hfa hfb)))))
     clear hb20 hl20 hla hlb hlm hfa hfb
     go_wp2_with fail
     refine (qeJ a6 ga 0 m6 cp6 l20 a20 gb 0 m20 cp20 l20 w20 K20.out.2.1 (by have := K20.out.2.2.2.1; omega) K20.out.2.2.2.2.1 K20.out.2.2.1 (by have h1 := K20.out.2.1; have h2 := K20.out.2.2.1; have := K20.out.2.2.2.1; omega) K20.out.2.2.2.2.2).mono ?_
     rintro e w21 ⟨ok, rfl, hok, hb21⟩
     obtain rfl : ok = true := hok.2 rfl
     have H21 := qH (H12.out.1.trans ((K20.out.1.trans (hb21.mono K20.out.1.size)).mono H12.out.1.size))
     clear hok hb21
     go_wp2_with fail
     go_ret
     exact ⟨rfl, H21.out⟩
    have hji : (j : Int) < R := by omega
    obtain ⟨p1, p2, hp⟩ := qdm (V j)
    obtain ⟨y1, y2, hy⟩ := qdm (V j * (7 / 3))
    obtain ⟨z1, z2, hz⟩ := qdm (Hv j)
    have hBD : Below wc.heap.size wc wr.drew := hB.out.drew
    have hBA : Below wc.heap.size wc (wr.alloc (.cells #[.string ⟨#[55, 47, 51]⟩] 9)).drew := (qb1 hB.out qN).drew
    have hrA : Below wr.heap.size wr (wr.alloc (.cells #[.string ⟨#[55, 47, 51]⟩] 9)).drew := (qb1 qB qN).drew
    have C1 : ∀ W, Below wc.heap.size wc W → W.cell? ⟨g5, j * 2, none⟩ = some (.string p1) := fun W h => by have := (qcL (H12.out.2.2.2.1.below h) hjn hp).1; rwa [qaD] at this
    have C2 : ∀ W, Below wc.heap.size wc W → W.cell? ⟨g5, j * 2 + 1, none⟩ = some (.string p2) := fun W h => by have := (qcL (H12.out.2.2.2.1.below h) hjn hp).2; rwa [qaD] at this
    have HM := qH (fun (W : World) (h : Below wc.heap.size wc W) => qjA hp ft_73 hy (HS.out.2.2.1 j).short (qeK (q := 7 / 3) (by decide +kernel)) (HS.out.2.2.1 j).third W (HA.out.2.2.below (H12.out.1.trans (h.mono H12.out.1.size))))
    have HX2 := qH (qA hy hz)
    clear hp hy hz
    go_wp2_with fail
    refine wp_region_held_drew (S := fun W => Below wc.heap.size wc W) (by kernel_rfl) (hBD) (fun hS0 => ?_)
    refine qb3 0 (v := ?_) rfl (by kernel_rfl) (fun _ _ _ h => h) (by assumption) (by rfl) (fun w hSw => ?_) ?_
    rotate_left 1
    ·(try dsimp only at hSw); go_simp <;> with_reducible rfl
    try simp only [Act.put, qaa, qad, qae]
    refine qb3 1 (v := ?_) rfl (by kernel_rfl) (fun _ _ _ h => h) (by assumption) (by rfl) (fun w hSw => ?_) ?_
    rotate_left 1
    ·(try dsimp only at hSw); go_simp <;> with_reducible rfl
    try simp only [Act.put, qaa, qad, qae]
    refine qb3 2 (v := ?_) rfl (by kernel_rfl) (fun _ _ _ h => h) (by assumption) (by rfl) (fun w hSw => ?_) ?_
    rotate_left 1
    ·(try dsimp only at hSw); go_simp <;> with_reducible rfl
    try simp only [Act.put, qaa, qad, qae]
    refine qb3 3 (v := ?_) rfl (by kernel_rfl) (fun _ _ _ h => h) (by assumption) (by rfl) (fun w hSw => ?_) ?_
    rotate_left 1
    ·(try dsimp only at hSw); go_simp <;> with_reducible rfl
    try simp only [Act.put, qaa, qad, qae]
    refine qb3 4 (v := ?_) rfl (by kernel_rfl) (fun _ _ _ h => h) (by assumption) (by rfl) (fun w hSw => ?_) ?_
    rotate_left 1
    ·(try dsimp only at hSw); go_simp <;> with_reducible rfl
    try simp only [Act.put, qaa, qad, qae]
    refine qb3 5 (v := ?_) rfl (by kernel_rfl) (fun _ _ _ h => h) (by assumption) (by rfl) (fun w hSw => ?_) ?_
    rotate_left 1
    ·(try dsimp only at hSw); go_simp <;> with_reducible rfl
    try simp only [Act.put, qaa, qad, qae]
    refine qcq 6 rfl (by kernel_rfl) (fun K hK => ?_)
    go_simp
    refine Way.on hK (fun W => Below wc.heap.size wc W) _ _ (fun W h => h) (qb1 hBD qN) (fun hS0 => ?_)
    clear hK K
    try simp only [Act.put, qaa, qad, qae]
    refine qcq 7 rfl (by kernel_rfl) (fun K hK => ?_)
    go_simp
    (go_at_call 30; refine (q_at 1 (L := [⟨#[55, 47, 51]⟩]) (l := [(7 / 3 : Rat)]) ((sc1 wr _ rfl).below qB.drew) rfl rfl (by decide) (by simp only [qaO, qaV, ft_73]; decide +kernel) (by decide)).mono ?_; rintro e w17 ⟨a17, g17, c17, rfl, hf17, hb17⟩)
    have V17 : Below wc.heap.size wc w17 := hBA.trans (hb17.mono hBA.size)
    have V17r : Below wr.heap.size wr w17 := hrA.trans (hb17.mono hrA.size)
    have ha17 := hf17.addr (by rw [qb2]; decide)
    subst ha17
    obtain ⟨e0, e1⟩ := qfF hf17 (by decide) (x1 := ⟨#[55]⟩) (x2 := ⟨#[51]⟩) (by rw [show fv [(7 / 3 : Rat)] 0 = 7 / 3 from rfl, ft_73])
    clear hb17 hf17
    go_wp2_with fail
    refine Way.on hK (fun W => Below wc.heap.size wc W) _ _ (fun W h => h) (V17) (fun hS0 => ?_)
    clear hK K
    try simp only [Act.put, qaa, qad, qae]
    refine qb3 8 (v := ?_) rfl (by kernel_rfl) (fun _ _ _ h => h) (by assumption) (by rfl) (fun w hSw => ?_) ?_
    rotate_left 1
    ·(try dsimp only at hSw); go_simp <;> with_reducible rfl
    try simp only [Act.put, qaa, qad, qae]
    refine qcq 9 rfl (by kernel_rfl) (fun K hK => ?_)
    go_simp
    refine Way.on hK (fun W => Below wc.heap.size wc W) _ _ (fun W h => h) (V17) (fun hS0 => ?_)
    clear hK K
    try simp only [Act.put, qaa, qad, qae]
    refine qcq 10 rfl (by kernel_rfl) (fun K hK => ?_)
    go_simp
    refine (HM.out _ V17).mono ?_
    rintro e w18 ⟨rfl, hb18⟩
    have V18 : Below wc.heap.size wc w18 := V17.trans (hb18.mono V17.size)
    have hr18 := zkeep (V17r.trans (hb18.mono V17r.size)) _ _ hR.out
    have hjl : j < (told R fun c => if c < j then V c * (7 / 3) else Hv c).length := by rw [qb2]; exact hjn
    have hjx : (told R fun c => if c < j then V c * (7 / 3) else Hv c).getD j fd0 = (z1, z2) := by rw [qdP hjn, if_neg (qby _), HX2.out.2]
    obtain ⟨L, hL⟩ : ∃ L, (told R fun c => if c < j then V c * (7 / 3) else Hv c) = L := ⟨_, rfl⟩
    rw [hL] at hr18 hjl hjx
    have hgj := qdZ _ j (z1, z2) (by rw [getD_some hjl, hjx])
    have hfl : (fflat L).length = R * 2 := by rw [qcl, ← hL, qb2]
    have s0 := (cell_of_row _ _ (j * 2) _ _ _ hr18).trans (show (fflat L ++ rst).toArray[j * 2]? = some (.string z1) by rw [qax, qay (by omega)]; exact hgj.1)
    have s1 := (cell_of_row _ _ (j * 2 + 1) _ _ _ hr18).trans (show (fflat L ++ rst).toArray[j * 2 + 1]? = some (.string z2) by rw [qax, qay (by omega)]; exact hgj.2)
    have f0 := frozen_of_row _ _ (j * 2) _ _ hr18
    have f1 := frozen_of_row _ _ (j * 2 + 1) _ _ hr18
    have hfin := heap_setCell_same _ g13 (j * 2 + 1) _ _ (.string y2) (heap_setCell_same _ g13 (j * 2) _ _ (.string y1) hr18)
    rw [qg3 hjl (y1, y2) rst, ← hL, ← HX2.out.1, qiq] at hfin
    rw [show (told R fun k => if k = j then V j * (7 / 3) else if k < j then V k * (7 / 3) else Hv k) = told R fun c => if c < j + 1 then V c * (7 / 3) else Hv c from qcU fun i _ => by
     by_cases e : i = j
     ·subst e; rw [if_pos rfl, if_pos (by omega)]
     ·rw [if_neg e]
      by_cases h : i < j
      ·rw [if_pos h, if_pos (by omega)]
      ·rw [if_neg h, if_neg (by omega)]] at hfin
    have HFin := qH (qA hfin ((V18.setCell (p := ⟨g13, j * 2, none⟩) hbg13 (.string y1)).setCell (p := ⟨g13, j * 2 + 1, none⟩) hbg13 (.string y2)))
    clear hb18 hr18 hjl hjx hgj hfl hL hfin
    go_wp2_with fail
    refine Way.on hK (fun W => Below wc.heap.size wc W) _ _ (fun W h => h) (V18) (fun hS0 => ?_)
    clear hK K
    try simp only [Act.put, qaa, qad, qae]
    refine qb3 11 (v := ?_) rfl (by kernel_rfl) (fun _ _ _ h => h) (by assumption) (by rfl) (fun w hSw => ?_) ?_
    rotate_left 1
    ·(try dsimp only at hSw); go_simp <;> with_reducible rfl
    try simp only [Act.put, qaa, qad, qae]
    refine qb3 12 (v := ?_) rfl (by kernel_rfl) (fun _ _ _ h => h) (by assumption) (by rfl) (fun w hSw => ?_) ?_
    rotate_left 1
    ·(try dsimp only at hSw); go_simp <;> with_reducible rfl
    try simp only [Act.put, qaa, qad, qae]
    refine qb3 13 (v := ?_) rfl (by kernel_rfl) (fun _ _ _ h => h) (by assumption) (by rfl) (fun w hSw => ?_) ?_
    rotate_left 1
    ·(try dsimp only at hSw); go_simp <;> with_reducible rfl
    try simp only [Act.put, qaa, qad, qae]
    refine qb3 14 (v := ?_) rfl (by kernel_rfl) (fun _ _ _ h => h) (by assumption) (by rfl) (fun w hSw => ?_) ?_
    rotate_left 1
    ·(try dsimp only at hSw); go_simp <;> with_reducible rfl
    try simp only [Act.put, qaa, qad, qae]
    refine qcq 15 rfl (by kernel_rfl) (fun K hK => ?_)
    go_simp
    refine Way.on hK (fun W => Below wc.heap.size wc W) _ _ (fun W h => h) (HFin.out.2) (fun hS0 => ?_)
    clear hK K
    try simp only [Act.put, qaa, qad, qae]
    refine wpAnyH_done (by kernel_rfl) ?_ _
    go_wp2_with fail
    go_roundw
    case rel => exact ⟨j + 1, hjn, by go_num, qH HFin.out.1, qH HFin.out.2⟩
    case measure => simp [intOf]; omega
end Go.Proofs.YtfminfgabiipjaaGreatDoor
