/- Aa, part 41: Rx Ry Lq Lc Ex Lr Ey -/
import Derived.Test.YtfminfgabiipjaaGreatDoorAa0
import Derived.Test.YtfminfgabiipjaaGreatDoorAa31
import Derived.Test.YtfminfgabiipjaaGreatDoorAa37
import Derived.Test.YtfminfgabiipjaaGreatDoorAa40
import Derived.Test.YtfminfgabiipjaaGreatDoorAa7
set_option maxRecDepth 100000
set_option maxHeartbeats 16000000
namespace Go.Proofs.YtfminfgabiipjaaGreatDoor
open Go.RowKit
def qeQ (w : World) (n : Nat) (f : Nat → Rat) (e : Ending) (w' : World) : Prop := ∃ (ao : Option Addr) (g cap : Nat), e = .returned (.slice ao n cap) ∧ FCells w' ao g 0 (told n f) ∧ n ≤ cap ∧ Below w.heap.size w w'
theorem qeQ.of {w W : World} {n : Nat} {f : Nat → Rat} {B : Nat} {v : Value} (h : Rws W B 46 2 v n (fflat (told n f))) (hb : Below w.heap.size w W) : qeQ w n f (.returned v) W := by
 obtain ⟨ao, g, cap, rfl, h1, h2⟩ := qe9 h (qb2 n f)
 exact ⟨ao, g, cap, rfl, h1, h2, hb⟩
theorem qgf (k : Nat) (hk : k ≤ 1000000) (r c : Nat) (N : List Int) (D : List Nat) (v : Value) (w : World) (hv : qc6 w v r c N D) :
  Calls Tryz.prog 85 #[v, .int .i64 (k : Int)] w fun e w' => ∃ x1 x2, e = .returned (.agg #[.string x1, .string x2]) ∧ (x1, x2) = ftxt (drq N D k) ∧ Below w.heap.size w w' := by
 refine (qcO k hk r c N D v w hv).mono ?_
 rintro e w' ⟨rfl, hb⟩
 exact ⟨frac.wtxt _, num _, rfl, rfl, hb⟩
theorem qj8 (n fr : Nat) (hn : n ≤ 1000) (hf : fr ≤ 1000) (r c : Nat) (N : List Int) (D : List Nat) (v : Value) (w : World) (hv : qc6 w v r c N D) :
  Calls Tryz.prog 27 #[v, .int .i64 (n : Int), .int .i64 (fr : Int)] w fun e w' => ∃ (v : Value) (B : Nat), e = .returned v ∧ w.heap.size ≤ B ∧ Rws w' B 46 2 v n (fflat (told n fun i => drq N D (fr + 3 * i))) ∧ Below w.heap.size w w' := by
 have HNum := qH (fun (W : World) (h : Below w.heap.size w W) (k : Nat) (hk : k ≤ 1000000) => qgf k hk r c N D v W (hv.below h))
 obtain ⟨a, b, off, nn, cc, a', b', off', n', cc', rfl, _⟩ := hv
 obtain ⟨W1, hW1⟩ : ∃ W1, W1 = w.alloc (.cells #[.int .u8 (r : Int), .int .u8 (c : Int), .slice a nn cc, .slice a' n' cc'] 29) := ⟨_, rfl⟩
 have hb1 : Below w.heap.size w W1 := hW1 ▸ qb1 qB qN
 have hr1 : W1.heap[w.heap.size]? = some (.cells #[.int .u8 (r : Int), .int .u8 (c : Int), .slice a nn cc, .slice a' n' cc'] 29 (0, 0)) := by rw [hW1]; exact qM _ _ _ rfl
 have H1 := qH (qA hb1 hr1)
 clear hb1 hr1
 go_enter Tryz.func27, Tryz.ntmps27
 go_wp2_with fail
 rw [← hW1]
 clear hW1
 go_loopw [7, 8] (fun x7 x8 W => ∃ i : Nat, x8 = .int .i64 i ∧ i ≤ n ∧ Hid (Rws W W1.heap.size 46 2 x7 i (fflat (told i fun i => drq N D (fr + 3 * i)))) ∧ Hid (Below W1.heap.size W1 W)) (fun _ x8 _ => n - (intOf x8).toNat)
 case atStart => exact ⟨0, rfl, qar _, qH (Rws.nil _ _ _ _), qH qB⟩
 case round =>
  obtain ⟨i, rfl, hi, hO, hB⟩ := hrel
  by_cases hlt : i < n
  ·have hii : (i : Int) < n := by omega
   obtain ⟨p, hp⟩ : ∃ p, 3 * i = p := ⟨_, rfl⟩
   obtain ⟨k, hk⟩ : ∃ k, fr + p = k := ⟨_, rfl⟩
   have e1 : (3 : Int) * (i : Int) = p := by omega
   have e2 : (fr : Int) + (p : Int) = k := by omega
   have hkl : k ≤ 1000000 := by omega
   have hpl : p ≤ 3000 := by omega
   have hrow := zkeep hB.out _ _ H1.out.2
   have HRW := qH hrow
   have HK := qH (show fr + 3 * i = k by omega)
   have HC := qH (HNum.out wr (H1.out.1.trans (hB.out.mono H1.out.1.size)) k hkl)
   clear hp hk hrow
   go_wp2_with ((with_reducible refine qb4 rfl 29 _ rfl (w.heap.size) ?_ 29 #[.int .u8 (r : Int), .int .u8 (c : Int), .slice a nn cc, .slice a' n' cc'] _ HRW.out Tryz.underlying29 ?_ 4 ?_ ?_ ?_); (next => rfl); (next => rfl); (next => kernel_rfl); (next => rfl))
   refine HC.out.mono ?_
   rintro e w2 ⟨x1, x2, rfl, hx, hb2⟩
   have HO2 := qH (hO.out.below hb2)
   have HB2 := qH (hB.out.trans (hb2.mono hB.out.size))
   have HX := qH hx
   clear hb2 hx
   go_wp2_with (first | (at_builtin; refine qd8 rfl _ _ rfl HB2.out rfl HO2.out rfl rfl rfl (by omega) ?_; intro v' w' ho' hb') | fail)
   go_roundw
   case rel => exact ⟨i + 1, by go_num, hlt, qH (by rw [qf2]; show Rws _ _ _ _ _ _ (fflat (_ ++ [ftxt (drq N D (fr + 3 * i))])); rw [HK.out, ← HX.out]; exact ho'.out), hb'⟩
   case measure => simp [intOf]; omega
  ·obtain rfl : i = n := by omega
   go_wp2_with fail
   go_ret
   exact ⟨_, _, rfl, H1.out.1.size, hO.out, H1.out.1.trans (hB.out.mono H1.out.1.size)⟩
theorem qfM (n fr : Nat) (hn : n ≤ 1000) (hf : fr ≤ 1000) (r c : Nat) (N : List Int) (D : List Nat) (v : Value) (w : World) (hv : qc6 w v r c N D) :
  Calls Tryz.prog 27 #[v, .int .i64 (n : Int), .int .i64 (fr : Int)] w fun e w' => qeQ w n (fun i => drq N D (fr + 3 * i)) e w' := by
 refine (qj8 n fr hn hf r c N D v w hv).mono ?_
 rintro e w' ⟨v', B, rfl, _, h, hb⟩
 exact qeQ.of h hb
theorem abs_txt (q : Rat) (hs : Sm q) (x1 x2 : ByteArray) (hx : (x1, x2) = ftxt q) (w : World) :
  Calls Tryz.prog 86 #[.agg #[.string x1, .string x2]] w fun e w' => ∃ y1 y2, e = .returned (.tuple #[.agg #[.string y1, .string y2], .int .i64 0]) ∧ (y1, y2) = ftxt (qabs q) ∧ Below w.heap.size w w' := by
 have h1 : x1 = (ftxt q).1 := congrArg Prod.fst hx
 have h2 : x2 = (ftxt q).2 := congrArg Prod.snd hx
 subst h1 h2
 have hsh := hs.short
 have hz1 : (ftxt q).1.size ≤ 140737488355328 := by
  have h3 := hsh.1
  show (frac.wtxt q.num).size ≤ _
  by_cases h : q.num < 0
  ·rw [p4.qf8 h]; omega
  ·rw [p4.qf9 h]; omega
 have hz2 : (ftxt q).2.size ≤ 140737488355328 := qam hsh.2 (by decide)
 refine (p4.abs_any _ _ (qeb hsh) hz1 hz2 w).mono ?_
 rw [qde]
 rintro e w' ⟨h | h, hb⟩
 ·exact ⟨_, _, h.2, rfl, hb⟩
 ·exact absurd hs.abs.short h.1
theorem qht (n : Nat) (hn : n ≤ 1000) (r c : Nat) (N : List Int) (D : List Nat) (v : Value) (w : World) (hv : qc6 w v r c N D) :
  Calls Tryz.prog 28 #[v, .int .i64 (n : Int)] w fun e w' => qeQ w n (fun i => qabs (drq N D (2 * i + 1))) e w' := by
 have HNum := qH (fun (W : World) (h : Below w.heap.size w W) (k : Nat) (hk : k ≤ 1000000) => qgf k hk r c N D v W (hv.below h))
 obtain ⟨a, b, off, nn, cc, a', b', off', n', cc', rfl, _⟩ := hv
 obtain ⟨W1, hW1⟩ : ∃ W1, W1 = w.alloc (.cells #[.int .u8 (r : Int), .int .u8 (c : Int), .slice a nn cc, .slice a' n' cc'] 29) := ⟨_, rfl⟩
 have hb1 : Below w.heap.size w W1 := hW1 ▸ qb1 qB qN
 have hr1 : W1.heap[w.heap.size]? = some (.cells #[.int .u8 (r : Int), .int .u8 (c : Int), .slice a nn cc, .slice a' n' cc'] 29 (0, 0)) := by rw [hW1]; exact qM _ _ _ rfl
 have H1 := qH (qA hb1 hr1)
 clear hb1 hr1
 go_enter Tryz.func28, Tryz.ntmps28
 go_wp2_with fail
 rw [← hW1]
 clear hW1
 go_loopw [5, 6, 7, 8] (fun x5 x6 x7 x8 W => ∃ i : Nat, x6 = .int .i64 i ∧ i ≤ n ∧ Hid (Rws W W1.heap.size 46 2 x5 i (fflat (told i fun i => qabs (drq N D (2 * i + 1))))) ∧ Hid (Below W1.heap.size W1 W)) (fun _ x6 _ _ _ => n - (intOf x6).toNat)
 case atStart => exact ⟨0, rfl, qar _, qH (Rws.nil _ _ _ _), qH qB⟩
 case round =>
  obtain ⟨i, rfl, hi, hO, hB⟩ := hrel
  by_cases hlt : i < n
  ·have hii : (i : Int) < n := by omega
   obtain ⟨p, hp⟩ : ∃ p, 2 * i = p := ⟨_, rfl⟩
   obtain ⟨k, hk⟩ : ∃ k, p + 1 = k := ⟨_, rfl⟩
   have e1 : (2 : Int) * (i : Int) = p := by omega
   have e2 : (p : Int) + 1 = k := by omega
   have hkl : k ≤ 1000000 := by omega
   have hpl : p ≤ 3000 := by omega
   have hrow := zkeep hB.out _ _ H1.out.2
   have HRW := qH hrow
   have HK := qH (show 2 * i + 1 = k by omega)
   have HC := qH (HNum.out wr (H1.out.1.trans (hB.out.mono H1.out.1.size)) k hkl)
   clear hp hk hrow
   go_wp2_with ((with_reducible refine qb4 rfl 29 _ rfl (w.heap.size) ?_ 29 #[.int .u8 (r : Int), .int .u8 (c : Int), .slice a nn cc, .slice a' n' cc'] _ HRW.out Tryz.underlying29 ?_ 4 ?_ ?_ ?_); (next => rfl); (next => rfl); (next => kernel_rfl); (next => rfl))
   refine HC.out.mono ?_
   rintro e w2 ⟨x1, x2, rfl, hx, hb2⟩
   have HA := qH (fun (W : World) => abs_txt _ (qdR N D k) x1 x2 hx W)
   have HO2 := qH (hO.out.below hb2)
   have HB2 := qH (hB.out.trans (hb2.mono hB.out.size))
   clear hb2 hx
   go_wp2_with fail
   refine (HA.out _).mono ?_
   rintro e w3 ⟨y1, y2, rfl, hy, hb3⟩
   obtain ⟨W4, hW4⟩ : ∃ W4, W4 = w3.alloc (.cells #[.string y1, .string y2] 46) := ⟨_, rfl⟩
   have hb34 : Below w3.heap.size w3 W4 := hW4 ▸ qb1 qB qN
   have hb24 := hb3.trans (hb34.mono hb3.size)
   have r4 := heap_alloc_new w3 (.cells #[.string y1, .string y2] 46)
   have HO3 := qH (HO2.out.below hb24)
   have HB3 := qH (HB2.out.trans (hb24.mono HB2.out.size))
   have HR4 := qH r4
   have HX := qH hy
   have Hsz := qH (show w3.heap.size + 1 = (w3.alloc (.cells #[.string y1, .string y2] 46)).heap.size by simp only [qab])
   rw [hW4] at HO3 HB3
   clear hb3 hb34 hb24 r4 hy hW4
   go_wp2_with (first | ((with_reducible refine qb4 rfl 46 _ rfl (w3.heap.size) ?_ 46 #[.string y1, .string y2] _ HR4.out Tryz.underlying46 ?_ 2 ?_ ?_ ?_); (next => rfl); (next => rfl); (next => kernel_rfl); (next => rfl)) | (at_builtin; refine qd8 rfl _ _ rfl HB3.out rfl HO3.out rfl rfl Hsz.out (by omega) ?_; intro v' w' ho' hb') | fail)
   go_roundw
   case rel => exact ⟨i + 1, by go_num, hlt, qH (by rw [qf2]; show Rws _ _ _ _ _ _ (fflat (_ ++ [ftxt (qabs (drq N D (2 * i + 1)))])); rw [HK.out, ← HX.out]; exact ho'.out), hb'⟩
   case measure => simp [intOf]; omega
  ·obtain rfl : i = n := by omega
   go_wp2_with fail
   go_ret
   exact qeQ.of hO.out (H1.out.1.trans (hB.out.mono H1.out.1.size))
def qjQ (w : World) (n m : Nat) (f : Nat → Nat → Rat) (e : Ending) (w' : World) : Prop := ∃ (ao : Option Addr) (g cap : Nat), e = .returned (.slice ao n cap) ∧ TCells w' ao g 0 (ttab n m f) ∧ n ≤ cap ∧ Below w.heap.size w w'
def qd9 (W : World) (b i m : Nat) (f : Nat → Nat → Rat) (vs : List Value) : Prop := vs.length = i ∧ ∀ k, k < i → ∃ B', b ≤ B' ∧ Rws W B' 46 2 (vs.getD k undef) m (fflat (told m (f k)))
theorem qd9.next {W : World} {b i m B : Nat} {f : Nat → Nat → Rat} {vs : List Value} {u : Value} (h : qd9 W b i m f vs) (hbB : b ≤ B) (hu : Rws W B 46 2 u m (fflat (told m (f i)))) : qd9 W b (i + 1) m f (vs ++ [u]) := by
 refine ⟨by rw [qaj, h.1]; rfl, fun k hk => ?_⟩
 by_cases e : k = i
 ·subst e
  refine ⟨B, hbB, ?_⟩
  rw [qac, qaE (by rw [h.1]; exact qaf _), h.1, qaN]
  exact hu
 ·obtain ⟨B', hB0, hB'⟩ := h.2 k (by omega)
  refine ⟨B', hB0, ?_⟩
  rw [qac, qay (by rw [h.1]; omega), ← qac]
  exact hB'
theorem qd9.map {W W' : World} {b i m : Nat} {f : Nat → Nat → Rat} {vs : List Value} (h : qd9 W b i m f vs) (hk : ∀ (B' : Nat) (vi : Value) (ni : Nat) (xi : List Value), Rws W B' 46 2 vi ni xi → Rws W' B' 46 2 vi ni xi) : qd9 W' b i m f vs :=
 ⟨h.1, fun k hkk => by
  obtain ⟨B', hB0, hB'⟩ := h.2 k hkk
  exact ⟨B', hB0, hk _ _ _ _ hB'⟩⟩
theorem qgp (n m : Nat) (hn : n ≤ 1000) (hm : m ≤ 1000) (r c : Nat) (N : List Int) (D : List Nat) (v : Value) (w : World) (hv : qc6 w v r c N D) :
  Calls Tryz.prog 39 #[v, .int .i64 (n : Int), .int .i64 (m : Int)] w fun e w' => ∃ (v : Value) (vs : List Value) (B : Nat), e = .returned v ∧ w.heap.size ≤ B ∧ Rws w' B 23 1 v n vs ∧ qd9 w' w.heap.size n m (fun i j => drq N D (5 * i + j)) vs ∧ Below w.heap.size w w' := by
 have HNum := qH (fun (W : World) (h : Below w.heap.size w W) (k : Nat) (hk : k ≤ 1000000) => qgf k hk r c N D v W (hv.below h))
 obtain ⟨a, b, off, nn, cc, a', b', off', n', cc', rfl, _⟩ := hv
 obtain ⟨F, hF⟩ : ∃ F : Nat → Nat → Rat, F = fun i j => drq N D (5 * i + j) := ⟨_, rfl⟩
 have HF : ∀ i j, Hid (F i j = drq N D (5 * i + j)) := fun i j => qH (by rw [hF])
 rw [← hF]
 clear hF
 obtain ⟨W1, hW1⟩ : ∃ W1, W1 = w.alloc (.cells #[.int .u8 (r : Int), .int .u8 (c : Int), .slice a nn cc, .slice a' n' cc'] 29) := ⟨_, rfl⟩
 have hb1 : Below w.heap.size w W1 := hW1 ▸ qb1 qB qN
 have hr1 : W1.heap[w.heap.size]? = some (.cells #[.int .u8 (r : Int), .int .u8 (c : Int), .slice a nn cc, .slice a' n' cc'] 29 (0, 0)) := by rw [hW1]; exact qM _ _ _ rfl
 have H1 := qH (qA hb1 hr1)
 clear hb1 hr1
 go_enter Tryz.func39, Tryz.ntmps39
 go_wp2_with fail
 rw [← hW1]
 clear hW1
 go_loopw [7, 8, 9, 10] (fun x7 x8 x9 x10 W => ∃ (i : Nat) (vs : List Value), x8 = .int .i64 i ∧ i ≤ n ∧ Hid (Rws W W1.heap.size 23 1 x7 i vs) ∧ Hid (qd9 W w.heap.size i m F vs) ∧ Hid (Below W1.heap.size W1 W)) (fun _ x8 _ _ _ => n - (intOf x8).toNat)
 case atStart => exact ⟨0, [], rfl, qar _, qH (Rws.nil _ _ _ _), qH ⟨rfl, fun k hk => absurd hk (by omega)⟩, qH qB⟩
 case round =>
  obtain ⟨i, vs, rfl, hi, hO, hD, hB⟩ := hrel
  obtain ⟨wo, hwo⟩ : ∃ wo, wo = wr := ⟨_, rfl⟩
  subst hwo
  by_cases hlt : i < n
  ·have hii : (i : Int) < n := by omega
   go_wp2_with fail
   go_loopw [9, 10] (fun x9 x10 W => ∃ j : Nat, x10 = .int .i64 j ∧ j ≤ m ∧ Hid (Rws W wo.heap.size 46 2 x9 j (fflat (told j (F i)))) ∧ Hid (Below wo.heap.size wo W)) (fun _ x10 _ => m - (intOf x10).toNat)
   case atStart => exact ⟨0, rfl, qar _, qH (Rws.nil _ _ _ _), qH qB⟩
   case round =>
    obtain ⟨j, rfl, hj, hR, hB2⟩ := hrel
    have HBW := qH (hB.out.trans (hB2.out.mono hB.out.size))
    by_cases hlt2 : j < m
    ·have hji : (j : Int) < m := by omega
     obtain ⟨p, hp⟩ : ∃ p, 5 * i = p := ⟨_, rfl⟩
     obtain ⟨k, hk⟩ : ∃ k, p + j = k := ⟨_, rfl⟩
     have e1 : (5 : Int) * (i : Int) = p := by omega
     have e2 : (p : Int) + (j : Int) = k := by omega
     have hkl : k ≤ 1000000 := by omega
     have hpl : p ≤ 5000 := by omega
     have hrow := zkeep HBW.out _ _ H1.out.2
     have HRW := qH hrow
     have HK := qH (show 5 * i + j = k by omega)
     have HC := qH (HNum.out wr (H1.out.1.trans (HBW.out.mono H1.out.1.size)) k hkl)
     clear hp hk hrow
     go_wp2_with ((with_reducible refine qb4 rfl 29 _ rfl (w.heap.size) ?_ 29 #[.int .u8 (r : Int), .int .u8 (c : Int), .slice a nn cc, .slice a' n' cc'] _ HRW.out Tryz.underlying29 ?_ 4 ?_ ?_ ?_); (next => rfl); (next => rfl); (next => kernel_rfl); (next => rfl))
     refine HC.out.mono ?_
     rintro e w2 ⟨x1, x2, rfl, hx, hb2⟩
     have HO2 := qH (hR.out.below hb2)
     have HB3 := qH (hB2.out.trans (hb2.mono hB2.out.size))
     have HX := qH hx
     clear hb2 hx
     go_wp2_with (first | (at_builtin; refine qd8 rfl _ _ rfl HB3.out rfl HO2.out rfl rfl rfl (by omega) ?_; intro v' w' ho' hb') | fail)
     go_roundw
     case rel => exact ⟨j + 1, by go_num, hlt2, qH (by rw [qf2]; rw [(HF i j).out, HK.out, ← HX.out]; exact ho'.out), hb'⟩
     case measure => simp [intOf]; omega
    ·obtain rfl : j = m := by omega
     have HO2 := qH (hO.out.below hB2.out)
     have HD2 := qH (hD.out.map fun _ _ _ _ h => h.below hB2.out)
     obtain ⟨ra, rc, rfl⟩ := hR.out.shape
     go_wp2_with (first | (at_builtin; refine qlb rfl _ _ rfl HBW.out rfl HO2.out rfl rfl rfl (by omega) ?_; intro v' w' ho' hb' hk') | fail)
     go_roundw
     case rel => exact ⟨i + 1, _, by go_num, hlt, ho', qH ((HD2.out.map hk').next (qam H1.out.1.size hB.out.size) (hk' _ _ _ _ hR.out)), hb'⟩
     case measure => simp [intOf]; omega
  ·obtain rfl : i = n := by omega
   go_wp2_with fail
   go_ret
   exact ⟨_, vs, _, rfl, H1.out.1.size, hO.out, hD.out, H1.out.1.trans (hB.out.mono H1.out.1.size)⟩
theorem qi6 (n m : Nat) (hn : n ≤ 1000) (hm : m ≤ 1000) (r c : Nat) (N : List Int) (D : List Nat) (v : Value) (w : World) (hv : qc6 w v r c N D) :
  Calls Tryz.prog 39 #[v, .int .i64 (n : Int), .int .i64 (m : Int)] w fun e w' => qjQ w n m (fun i j => drq N D (5 * i + j)) e w' := by
 refine (qgp n m hn hm r c N D v w hv).mono ?_
 rintro e w' ⟨v', vs, B, rfl, _, hO, hD, hb⟩
 obtain ⟨ao, g, cap, rfl, hT, hc⟩ := qk9 (t := ttab n m fun i j => drq N D (5 * i + j)) (m := m) hO (qch _ _ _) (fun k hk => by
  obtain ⟨B', _, hB'⟩ := hD.2 k hk
  exact ⟨B', by rw [qda hk, qb2], by rw [qda hk]; exact hB'⟩)
 exact ⟨ao, g, cap, rfl, hT, hc, hb⟩
theorem qhr (r c : Nat) (N : List Int) (D : List Nat) (v : Value) (w : World) (hv : qc6 w v r c N D) :
  Calls Tryz.prog 26 #[v] w fun e w' => qjQ w (1 + r % 8) (1 + c % 4) (fun i j => drq N D (5 * i + j)) e w' := by
 have hS := fun (W : World) (h : Below w.heap.size w W) => qi6 (1 + r % 8) (1 + c % 4) (by omega) (by omega) r c N D v W (hv.below h)
 obtain ⟨a, b, off, nn, cc, a', b', off', n', cc', rfl, hr, hc, _⟩ := hv
 obtain ⟨r8, h8⟩ : ∃ r8, r % 8 = r8 := ⟨_, rfl⟩
 obtain ⟨c4, h4⟩ : ∃ c4, c % 4 = c4 := ⟨_, rfl⟩
 obtain ⟨n, hn⟩ : ∃ n, 1 + r8 = n := ⟨_, rfl⟩
 obtain ⟨m, hm⟩ : ∃ m, 1 + c4 = m := ⟨_, rfl⟩
 have e1 : (r : Int) % 8 = r8 := by omega
 have e2 : (c : Int) % 4 = c4 := by omega
 have e3 : 1 + (r8 : Int) = n := by omega
 have e4 : 1 + (c4 : Int) = m := by omega
 have l1 : r8 < 8 := by omega
 have l2 : c4 < 4 := by omega
 rw [h8, h4, hn, hm] at hS
 rw [h8, h4, hn, hm]
 have HS := qH hS
 clear hS h8 h4 hn hm
 obtain ⟨W1, hW1⟩ : ∃ W1, W1 = w.alloc (.cells #[.int .u8 (r : Int), .int .u8 (c : Int), .slice a nn cc, .slice a' n' cc'] 29) := ⟨_, rfl⟩
 have hb1 : Below w.heap.size w W1 := hW1 ▸ qb1 qB qN
 have hr1 : W1.heap[w.heap.size]? = some (.cells #[.int .u8 (r : Int), .int .u8 (c : Int), .slice a nn cc, .slice a' n' cc'] 29 (0, 0)) := by rw [hW1]; exact qM _ _ _ rfl
 have k0 := cell_of_row W1 _ 0 _ _ _ hr1
 have k1 := cell_of_row W1 _ 1 _ _ _ hr1
 have H1 := qH (qA hb1 hr1)
 clear hb1 hr1
 go_enter Tryz.func26, Tryz.ntmps26
 go_upto_region 1 with fail
 rw [← hW1]
 clear hW1
 go_wp2_with ((with_reducible refine qb4 rfl 29 _ rfl (w.heap.size) ?_ 29 #[.int .u8 (r : Int), .int .u8 (c : Int), .slice a nn cc, .slice a' n' cc'] _ H1.out.2 Tryz.underlying29 ?_ 4 ?_ ?_ ?_); (next => rfl); (next => rfl); (next => kernel_rfl); (next => rfl))
 refine (HS.out _ H1.out.1).mono ?_
 rintro e w2 ⟨ao, g, cap, rfl, hT, hcap, hb2⟩
 have HT := qH (qA hT (qA hcap (H1.out.1.trans (hb2.mono H1.out.1.size))))
 clear hT hcap hb2
 go_wp2_with fail
 go_ret
 exact ⟨ao, g, cap, rfl, HT.out.1, HT.out.2.1, HT.out.2.2⟩
theorem ball {a W : World} {o : Obj} (h : Below a.heap.size a W) : Below a.heap.size a (W.alloc o) := qb1 h qN
def SameAs (w : World) (l l2 : List FT) (e : Ending) (w' : World) : Prop := ∃ ok, e = .returned (.bool ok) ∧ (ok = true ↔ l = l2) ∧ Below w.heap.size w w'
theorem qmL {l l2 : List FT} {k : Nat} (h1 : k < l.length) (h2 : k < l2.length) (h : l.take k = l2.take k) (e : l.getD k fd0 = l2.getD k fd0) : l.take (k + 1) = l2.take (k + 1) := by
 rw [List.take_add_one, List.take_add_one, h]
 congr 1
 rw [qac, qac, qai h1, qai h2] at e
 rw [qai h1, qai h2]
 exact congrArg (fun x => (some x).toList) e
theorem qj9 {a b : ByteArray} (h : a ≠ b) : ¬ a.toList = b.toList := by
 rw [ByteArray.toList_eq, ByteArray.toList_eq]
 intro e
 apply h
 obtain ⟨⟨x⟩⟩ := a
 obtain ⟨⟨y⟩⟩ := b
 cases e; rfl
theorem qlG {l l2 : List FT} {k : Nat} (h : l.getD k fd0 ≠ l2.getD k fd0) : ¬ l = l2 := fun e => h (by rw [e])
theorem qeJ (ao : Option Addr) (b off n c : Nat) (l : List FT) (ao2 : Option Addr) (b2 off2 m c2 : Nat) (l2 : List FT) (w : World) (hn : l.length = n) (hn6 : n ≤ 1000000) (hc : FCells w ao b off l) (hm : l2.length = m) (hm6 : m ≤ 1000000) (hc2 : FCells w ao2 b2 off2 l2) :
  Calls Tryz.prog 20 #[.slice ao n c, .slice ao2 m c2] w fun e w' => SameAs w l l2 e w' := by
 have HC := qH (qA hc (qA hn (qA hc2 hm)))
 clear hc hc2
 by_cases hne : n = m
 ·subst hne
  clear hn hm hm6
  go_enter Tryz.func20, Tryz.ntmps20
  go_wp2_with fail
  go_loopw [5] (fun x5 W => ∃ k : Nat, x5 = .int .i64 k ∧ k ≤ n ∧ Hid (l.take k = l2.take k) ∧ Hid (Below w.heap.size w W)) (fun x5 _ => n - (intOf x5).toNat)
  case atStart => exact ⟨0, rfl, qar _, qH rfl, qH qB⟩
  case round =>
   obtain ⟨k, rfl, hk, hI, hB⟩ := hrel
   by_cases hkn : k < n
   ·have hki : (k : Int) < n := by omega
    have haw := HC.out.1.addr (by rw [HC.out.2.1]; omega)
    subst haw
    have hao := HC.out.2.2.1.addr (by rw [HC.out.2.2.2]; omega)
    subst hao
    obtain ⟨h1, h2⟩ := (HC.out.1.below hB.out).cell k (by rw [HC.out.2.1]; exact hkn)
    obtain ⟨h3, h4⟩ := (HC.out.2.2.1.below hB.out).cell k (by rw [HC.out.2.2.2]; exact hkn)
    obtain ⟨x1, hx1⟩ : ∃ x1, (l.getD k fd0).1 = x1 := ⟨_, rfl⟩
    obtain ⟨x2, hx2⟩ : ∃ x2, (l.getD k fd0).2 = x2 := ⟨_, rfl⟩
    obtain ⟨y1, hy1⟩ : ∃ y1, (l2.getD k fd0).1 = y1 := ⟨_, rfl⟩
    obtain ⟨y2, hy2⟩ : ∃ y2, (l2.getD k fd0).2 = y2 := ⟨_, rfl⟩
    rw [hx1] at h1
    rw [hx2] at h2
    rw [hy1] at h3
    rw [hy2] at h4
    have HX : Hid (l.getD k fd0 = (x1, x2) ∧ l2.getD k fd0 = (y1, y2)) := qH ⟨by rw [← hx1, ← hx2], by rw [← hy1, ← hy2]⟩
    clear hx1 hx2 hy1 hy2
    by_cases g1 : x1 = y1
    ·by_cases g2 : x2 = y2
     ·subst g1
      subst g2
      have HI := qH (qmL (by rw [HC.out.2.1]; exact hkn) (by rw [HC.out.2.2.2]; exact hkn) hI.out (HX.out.1.trans HX.out.2.symm))
      go_wp2_with fail
      go_quiet (fail)
      go_wp2_with fail
      go_roundw
      case rel => exact ⟨k + 1, by go_num, hkn, HI, qH (below_drewN hB.out _)⟩
      case measure => simp [intOf]; omega
     ·subst g1
      have HN := qH (qlG (l := l) (l2 := l2) (k := k) (by rw [HX.out.1, HX.out.2]; exact fun h => g2 (congrArg Prod.snd h)))
      have g3 := qj9 g2
      clear g2
      go_wp2_with fail
      go_quiet (fail)
      go_wp2_with fail
      go_ret
      exact ⟨false, rfl, qdb HN.out, below_drewN hB.out _⟩
    ·have HN := qH (qlG (l := l) (l2 := l2) (k := k) (by rw [HX.out.1, HX.out.2]; exact fun h => g1 (congrArg Prod.fst h)))
     have g3 := qj9 g1
     clear g1
     go_wp2_with fail
     go_quiet (fail)
     go_wp2_with fail
     go_ret
     exact ⟨false, rfl, qdb HN.out, below_drewN hB.out _⟩
   ·obtain rfl : k = n := by omega
    have hE : l = l2 := by have h := hI.out; rwa [qal (by rw [HC.out.2.1]; exact qaf _), qal (by rw [HC.out.2.2.2]; exact qaf _)] at h
    have HE := qH hE
    clear hE
    go_wp2_with fail
    go_ret
    exact ⟨true, rfl, qfy HE.out, hB.out⟩
 ·have hb : ((n : Int) != (m : Int)) = true := by rw [bne_iff_ne]; omega
  have HN : Hid (¬ l = l2) := qH (fun h => hne (by rw [← hn, ← hm, h]))
  go_enter Tryz.func20, Tryz.ntmps20
  go_wp2_with fail
  go_ret
  exact ⟨false, rfl, qdb HN.out, Below.refl _ _⟩
def cutA (s : ByteArray) : ByteArray := ⟨(Lib.cut s.data.toList [47]).1.toArray⟩
def cutB (s : ByteArray) : ByteArray := ⟨(Lib.cut s.data.toList [47]).2.1.toArray⟩
def cutC (s : ByteArray) : Bool := (Lib.cut s.data.toList [47]).2.2
theorem scut_any (s : ByteArray) (hs : s.size ≤ 65536) (w : World) :
  Calls Tryz.prog 140 #[.string s, .string ⟨#[47]⟩] w fun e w' => e = .returned (.tuple #[.string (cutA s), .string (cutB s), .bool (cutC s)]) ∧ Below w.heap.size w w' := by
 have HO : Hid (∀ W : World, _) := fun (W : World) => Tryz.stringslite_Index_one s 47 W
 have hx1 : Lib.indexB s ⟨#[47]⟩ = Lib.indexByte s.data.toList 47 := Lib.index_one s.data.toList 47
 rcases Lib.indexB_cases s ⟨#[47]⟩ with hix | ⟨i, hix, hroom⟩
 ·obtain ⟨e1, e2, e3⟩ := Lib.cutB_miss s ⟨#[47]⟩ hix
  rw [hx1] at hix
  rw [show cutA s = s from e1, show cutB s = ByteArray.empty from e2, show cutC s = false from e3]
  have HI := qH hix
  clear hix hx1 e1 e2 e3
  go_enter Tryz.func140, Tryz.ntmps140
  go_wp2_with fail
  refine (HO.out _).mono ?_
  rintro e w1 ⟨rfl, rfl⟩
  rw [HI.out]
  go_wp2_with fail
  go_ret3
  exact ⟨rfl, Below.refl _ _⟩
 ·obtain ⟨e1, e2, e3⟩ := Lib.cutB_hit s ⟨#[47]⟩ i hix
  rw [hx1] at hix
  rw [show cutA s = _ from e1, show cutB s = _ from e2, show cutC s = true from e3]
  have hz : (⟨#[47]⟩ : ByteArray).size = 1 := rfl
  rw [hz] at hroom ⊢
  have HI := qH hix
  have c1 : (0 : Int) ≤ ↑i := by omega
  have c2 : (↑i : Int) ≤ ↑s.size := by omega
  have c3 : (0 : Int) ≤ ↑i + 1 := by omega
  have c4 : (↑i + 1 : Int) ≤ ↑s.size := by omega
  have c5 : IntKind.i64.wrap (↑i + 1) = ↑i + 1 := by simp [IntKind.wrap, IntKind.bits, IntKind.signed]; omega
  have mixed : Tryz.prog.follows .mixedOrders = true := by kernel_rfl
  clear hix hx1 e1 e2 e3
  go_enter Tryz.func140, Tryz.ntmps140
  go_wp2_with fail
  refine (HO.out _).mono ?_
  rintro e w1 ⟨rfl, rfl⟩
  rw [HI.out]
  go_wp2_with fail
  go_region_o
  go_wp2
  go_ret3
  exact ⟨rfl, qB.drew⟩
theorem qmt (s : ByteArray) (hs : s.size ≤ 65536) (w : World) :
  Calls Tryz.prog 89 #[.string s, .string ⟨#[47]⟩] w fun e w' => e = .returned (.tuple #[.string (cutA s), .string (cutB s), .bool (cutC s)]) ∧ Below w.heap.size w w' := by
 have HO : Hid (∀ W : World, _) := fun (W : World) => scut_any s hs W
 generalize cutA s = a at *
 generalize cutB s = b at *
 generalize cutC s = c at *
 go_enter Tryz.func89, Tryz.ntmps89
 go_wp2_with fail
 refine (HO.out _).mono ?_
 rintro e w1 ⟨rfl, hb⟩
 have HB := qH hb
 clear hb
 go_wp2_with fail
 go_ret3
 exact ⟨rfl, HB.out⟩
def qf (s : ByteArray) : FT := (cutA s, if cutC s = true then cutB s else ⟨#[49]⟩)
structure SCells (W : World) (b off : Nat) (L : List ByteArray) : Prop where
 cell : ∀ k, k < L.length → W.cell? ⟨b, off + k, none⟩ = some (.string (L.getD k ⟨#[]⟩))
theorem SCells.below {W W' : World} {b off : Nat} {L : List ByteArray} (h : SCells W b off L) (hb : Below W.heap.size W W') : SCells W' b off L :=
 ⟨fun k hk => (hb.cell (qag W _ (h.cell k hk))).trans (h.cell k hk)⟩
theorem SCells.row {W : World} {g : Nat} {L : List ByteArray} {t : TypeId} {fz : Nat × Nat} (h : W.heap[g]? = some (.cells (L.map Value.string).toArray t fz)) : SCells W g 0 L :=
 ⟨fun k hk => by
  refine (cell_of_row _ _ _ _ _ _ h).trans ?_
  rw [qaD, qax, qav, qac, qai hk]; rfl⟩
theorem q_new (b n c : Nat) (L : List ByteArray) (w : World) (hn : L.length = n) (hn6 : n ≤ 1000) (hc : SCells w b 0 L) (hL : ∀ k, (L.getD k ⟨#[]⟩).size ≤ 65536) :
  Calls Tryz.prog 30 #[.slice (some ⟨b, 0, none⟩) n c] w fun e w' => ∃ v, e = .returned v ∧ Rws w' w.heap.size 46 2 v n (fflat (L.map qf)) ∧ Below w.heap.size w w' := by
 have HC := qH (qA hc (qA hn hL))
 clear hc hn hL
 go_enter Tryz.func30, Tryz.ntmps30
 go_wp2_with fail
 go_loopw [3, 5, 6, 7, 8, 11] (fun x3 x5 x6 x7 x8 x11 W => ∃ i : Nat, x11 = .int .i64 i ∧ i ≤ n ∧ Hid (Rws W w.heap.size 46 2 x3 i (fflat ((L.take i).map qf))) ∧ Hid (Below w.heap.size w W)) (fun _ _ _ _ _ x11 _ => n - (intOf x11).toNat)
 case atStart => exact ⟨0, rfl, qar _, qH (Rws.nil _ _ _ _), qH qB⟩
 case round =>
  obtain ⟨i, rfl, hi, hO, hB⟩ := hrel
  by_cases hlt : i < n
  ·have hii : (i : Int) < n := by omega
   have hcl := (HC.out.1.below hB.out).cell i (by rw [HC.out.2.1]; exact hlt)
   rw [qaD] at hcl
   have hs := HC.out.2.2 i
   have htake : (L.take (i + 1)).map qf = (L.take i).map qf ++ [qf (L.getD i ⟨#[]⟩)] := by
    rw [List.take_add_one, qbx, qac, qai (by rw [HC.out.2.1]; exact hlt)]; rfl
   obtain ⟨s, hss⟩ : ∃ s, L.getD i ⟨#[]⟩ = s := ⟨_, rfl⟩
   rw [hss] at hcl hs htake
   have HS := qH (fun (W : World) => qmt s hs W)
   unfold qf at htake
   have HT := qH htake
   generalize cutA s = ca at *
   generalize cutB s = cb at *
   generalize cutC s = cc at *
   clear hss htake hs
   go_wp2_with fail
   refine (HS.out _).mono ?_
   rintro e w2 ⟨rfl, hb2⟩
   have HO2 := qH (hO.out.below hb2)
   have HB2 := qH (hB.out.trans (hb2.mono hB.out.size))
   clear hb2
   cases cc with
   | true =>
    go_wp2_with (first | (at_builtin; refine qd8 rfl _ _ rfl HB2.out rfl HO2.out rfl rfl rfl (by omega) ?_; intro v' w' ho' hb') | fail)
    go_roundw
    case rel => exact ⟨i + 1, by go_num, hlt, qH (by rw [show List.map qf (List.take (i + 1) L) = _ from HT.out]; exact ho'.out), hb'⟩
    case measure => simp [intOf]; omega
   | false =>
    go_wp2_with (first | (at_builtin; refine qd8 rfl _ _ rfl HB2.out rfl HO2.out rfl rfl rfl (by omega) ?_; intro v' w' ho' hb') | fail)
    go_roundw
    case rel => exact ⟨i + 1, by go_num, hlt, qH (by rw [show List.map qf (List.take (i + 1) L) = _ from HT.out]; exact ho'.out), hb'⟩
    case measure => simp [intOf]; omega
  ·obtain rfl : i = n := by omega
   have hO2 := hO.out
   rw [qal (by rw [HC.out.2.1]; exact qaf _)] at hO2
   have HH := qH hO2
   obtain ⟨ao, cap, rfl⟩ := hO2.shape
   clear hO2
   go_wp2_with fail
   go_ret
   exact ⟨_, rfl, HH.out, hB.out⟩
theorem q_any (b n c : Nat) (L : List ByteArray) (w : World) (hn : L.length = n) (hn6 : n ≤ 1000) (hc : SCells w b 0 L) (hL : ∀ k, (L.getD k ⟨#[]⟩).size ≤ 65536) :
  Calls Tryz.prog 30 #[.slice (some ⟨b, 0, none⟩) n c] w fun e w' => ∃ (ao : Option Addr) (g cap : Nat), e = .returned (.slice ao n cap) ∧ FCells w' ao g 0 (L.map qf) ∧ n ≤ cap ∧ Below w.heap.size w w' := by
 refine (q_new b n c L w hn hn6 hc hL).mono ?_
 rintro e w' ⟨v, rfl, h, hb⟩
 obtain ⟨ao, g, cap, rfl, h1, h2⟩ := qe9 h (by rw [qaG, hn])
 exact ⟨ao, g, cap, rfl, h1, h2, hb⟩
end Go.Proofs.YtfminfgabiipjaaGreatDoor
namespace Go.Proofs.YtfminfgabiipjaaGreatDoor
open Go.RowKit Go.Lib
def fv (l : List Rat) (i : Nat) : Rat := l.getD i 0
def fm (t : List (List Rat)) (i j : Nat) : Rat := (t.getD i []).getD j 0
theorem told_fv (l : List Rat) : told l.length (fv l) = l.map ftxt := by
 unfold told fv
 apply qbw
 intro i
 rw [qav, qav]
 by_cases h : i < l.length
 ·rw [qaI h, qai h]
  simp [qai h]
 ·rw [qau (by rw [qbd]; omega), qau (by omega)]; rfl
theorem qgS {l : List Rat} {L : List ByteArray} (n : Nat) (hn : l.length = n) (h : L.map qf = l.map ftxt) : L.map qf = told n (fv l) := by
 rw [h, ← hn, told_fv]
theorem qhO {u : Nat} (h : u < 10) : num u = ⟨#[UInt8.ofNat (48 + u)]⟩ := by
 unfold num; rw [qce h]
theorem qdu {q : Rat} (z d : Nat) (hz : q.num = z) (hd : q.den = d) (h1 : z < 10) (h2 : d < 10) : ftxt q = (⟨#[UInt8.ofNat (48 + z)]⟩, ⟨#[UInt8.ofNat (48 + d)]⟩) := by
 unfold ftxt
 rw [hz, hd, frac.qdW (by omega), qat, qhO h1, qhO h2]
theorem ft_0 : ftxt 0 = (⟨#[48]⟩, ⟨#[49]⟩) := qdu 0 1 rfl rfl (by decide) (by decide)
theorem ft_1 : ftxt 1 = (⟨#[49]⟩, ⟨#[49]⟩) := qdu 1 1 rfl rfl (by decide) (by decide)
theorem ft_2 : ftxt 2 = (⟨#[50]⟩, ⟨#[49]⟩) := qdu 2 1 rfl rfl (by decide) (by decide)
theorem ft_3 : ftxt 3 = (⟨#[51]⟩, ⟨#[49]⟩) := qdu 3 1 rfl rfl (by decide) (by decide)
theorem ft_4 : ftxt 4 = (⟨#[52]⟩, ⟨#[49]⟩) := qdu 4 1 rfl rfl (by decide) (by decide)
theorem ft_5 : ftxt 5 = (⟨#[53]⟩, ⟨#[49]⟩) := qdu 5 1 rfl rfl (by decide) (by decide)
theorem ft_6 : ftxt 6 = (⟨#[54]⟩, ⟨#[49]⟩) := qdu 6 1 rfl rfl (by decide) (by decide)
theorem ft_45 : ftxt (4 / 5) = (⟨#[52]⟩, ⟨#[53]⟩) := qdu 4 5 (by decide +kernel) (by decide +kernel) (by decide) (by decide)
theorem ft_75 : ftxt (7 / 5) = (⟨#[55]⟩, ⟨#[53]⟩) := qdu 7 5 (by decide +kernel) (by decide +kernel) (by decide) (by decide)
theorem ft_12 : ftxt (1 / 2) = (⟨#[49]⟩, ⟨#[50]⟩) := qdu 1 2 (by decide +kernel) (by decide +kernel) (by decide) (by decide)
theorem ft_73 : ftxt (7 / 3) = (⟨#[55]⟩, ⟨#[51]⟩) := qdu 7 3 (by decide +kernel) (by decide +kernel) (by decide) (by decide)
theorem ft_115 : ftxt (11 / 5) = (⟨#[49, 49]⟩, ⟨#[53]⟩) := by
 unfold ftxt
 rw [show ((11 / 5 : Rat)).num = 11 by decide +kernel, show ((11 / 5 : Rat)).den = 5 by decide +kernel, frac.qdW (by decide), qhO (u := 5) (by decide)]
 unfold num
 rw [show (11 : Int).natAbs = 11 from rfl, qcN (by decide), qce (by decide)]
 rfl
theorem ft_m1 : ftxt (-1) = (⟨#[45, 49]⟩, ⟨#[49]⟩) := by
 unfold ftxt
 rw [show ((-1 : Rat)).num = -1 by decide +kernel, show ((-1 : Rat)).den = 1 by decide +kernel, frac.qfh (by decide), show ((-1 : Int)).natAbs = 1 from rfl, qhO (by decide)]
 rfl
theorem qhc {n : Nat} {A : Nat → Nat → Rat} (B : Nat → Nat → Rat) (h : ∀ k, k < n → ∀ j, j < n → sumQ n (fun i => B k i * A i j) = if k = j then 1 else 0) : ¬ Sing n A := by
 rintro ⟨y, ⟨k, hk, hy⟩, h0⟩
 apply hy
 have e : sumQ n (fun i => B k i * sumQ n fun j => A i j * y j) = y k := by
  have h1 : sumQ n (fun i => B k i * sumQ n fun j => A i j * y j) = sumQ n fun i => sumQ n fun j => y j * (B k i * A i j) := qb5 fun i _ => by
   rw [← qcj]; exact qb5 fun j _ => by grind
  rw [h1, qdC]
  have h2 : sumQ n (fun j => sumQ n fun i => y j * (B k i * A i j)) = sumQ n fun j => y j * (if k = j then 1 else 0) := qb5 fun j hj => by rw [qcj, h k hk j hj]
  rw [h2, qdJ n k _ hk fun j _ hjk => by rw [if_neg (fun h => hjk h.symm)]; grind]
  rw [if_pos rfl]; grind
 rw [← e]
 exact qcW _ _ fun i hi => by rw [h0 i hi]; grind
theorem qjG {R n k : Nat} {A : Nat → Nat → Rat} (B C D : Nat → Nat → Rat) (hB : qcy k n B k) (hC : ∀ i, i < R → ∀ j, j < n → A i j = sumQ k fun s => C i s * B s j) (hD : ∀ s, s < k → ∀ j, j < n → B s j = sumQ R fun i => D s i * A i j) : qcy R n A k := by
 obtain ⟨v, iv, sv⟩ := hB
 have hs : qcZ R k n A B := ⟨fun i hi => ⟨C i, fun j hj => hC i hi j hj⟩, fun s hs => ⟨D s, fun j hj => hD s hs j hj⟩⟩
 exact ⟨v, iv, hs.trans sv⟩
def qhz (n : Nat) (f : Nat → Nat → Rat) (b : Nat → Rat) (e : Ending) (w' : World) : Prop :=
 (Sing n f ∧ e = .returned (.tuple #[.slice none 0 0, .int .i64 7])) ∨ (¬ Sing n f ∧ ∃ x, qcA n f b x ∧ Tells n x e w')
theorem qh0.told {w0 : World} {n : Nat} {f : Nat → Nat → Rat} {b : Nat → Rat} {e : Ending} {w' : World} (h : qh0 w0 (ttab n n f) (told n b) e w') (h1 : 1 ≤ n) (h2 : n ≤ 10) (hf : ∀ i, i < n → qcc n (f i)) (hb : qcc n b) : qhz n f b e w' ∧ Below w0.heap.size w0 w' := by
 have hT := qgr h1 (by omega) h1 h2 hf
 refine ⟨?_, h.2⟩
 rcases h.1 with h | h | h | h
 ·exact absurd hT h.1
 ·exact absurd (qdd hb) h.2.1
 ·exact absurd ⟨by rw [qb2, qch], by rw [qch, qdV h1]⟩ h.2.2.1
 ·have h5 := h.2.2.2.2
  rw [qch] at h5
  have hc : ∀ i, i < n → ∀ j, j < n → tval (ttab n n f) i j = f i j := fun i hi j hj => qis hi hj
  rcases h5 with ⟨hs, he⟩ | ⟨hs, x, hx, ht⟩
  ·exact qaA ⟨hs.congr hc, he⟩
  ·exact qas ⟨fun hs2 => hs (hs2.congr fun i hi j hj => (hc i hi j hj).symm), x, hx.congr hc (fun i hi => qd2 hi) (fun _ _ => rfl), ht⟩
theorem qjj.told {w0 : World} {R n : Nat} {f : Nat → Nat → Rat} {e : Ending} {w' : World} (h : qjj w0 (ttab R n f) e w') (h1 : 1 ≤ R) (h2 : R ≤ 40) (h3 : 1 ≤ n) (h4 : n ≤ 10) (hf : ∀ i, i < R → qcc n (f i)) : (∃ k : Nat, qcy R n f k ∧ e = .returned (.tuple #[.int .i64 k, .int .i64 0])) ∧ Below w0.heap.size w0 w' := by
 have hT := qgr h1 h2 h3 h4 hf
 refine ⟨?_, h.2⟩
 rcases h.1 with ⟨_, k, hk, he⟩ | h
 ·rw [qch, qdV h1] at hk
  exact ⟨k, hk.congr fun i hi j hj => qis hi hj, he⟩
 ·exact absurd hT h.1
theorem qjR.told {w0 : World} {R n : Nat} {f : Nat → Nat → Rat} {b w x : Nat → Rat} {e : Ending} {w' : World} (h : qjR w0 (ttab R n f) (told R b) (told R w) (told n x) e w') (h1 : 1 ≤ R) (h2 : R ≤ 40) (h3 : 1 ≤ n) (h4 : n ≤ 10) (hf : ∀ i, i < R → qcc n (f i)) (hb : qcc R b) (hw : qcc R w) (hx : qcc n x) (hw0 : ∀ i, i < R → 0 ≤ w i) :
  (Short (msR R n f b w x) ∧ e = .returned (.tuple #[fstr (msR R n f b w x), .int .i64 0]) ∨ ¬ Short (msR R n f b w x) ∧ e = .returned (.tuple #[.agg #[.string ⟨#[]⟩, .string ⟨#[]⟩], .int .i64 6])) ∧ Below w0.heap.size w0 w' := by
 have hT := qgr h1 h2 h3 h4 hf
 refine ⟨?_, h.2⟩
 rcases h.1 with h | h | h | h
 ·exact absurd hT h.1
 ·exact absurd ⟨qdd hb, qdd hw, qdd hx⟩ h.2.1
 ·exact absurd ⟨by rw [qb2, qch], by rw [qb2, qch], by rw [qb2, qdV h1], qkc hw0⟩ h.2.2.2.2.1
 ·have h5 := h.2.2.2.2.2.2.2.2
  rw [qdV h1, qch, qkQ] at h5
  exact h5
theorem Tells.short {n : Nat} {x : Nat → Rat} {e : Ending} {w' : World} (h : Tells n x e w') (hs : qcc n x) : ∃ g, e = .returned (.tuple #[.slice (some ⟨g, 0, none⟩) n n, .int .i64 0]) ∧ FCells w' (some ⟨g, 0, none⟩) g 0 (told n x) := by
 rcases h with ⟨_, h⟩ | ⟨h, _⟩
 ·exact h
 ·exact absurd hs h
theorem qhz.only {n : Nat} {f : Nat → Nat → Rat} {b x : Nat → Rat} {e : Ending} {w' : World} (h : qhz n f b e w') (hs : ¬ Sing n f) (hx : qcA n f b x) (hsx : qcc n x) : ∃ g, e = .returned (.tuple #[.slice (some ⟨g, 0, none⟩) n n, .int .i64 0]) ∧ FCells w' (some ⟨g, 0, none⟩) g 0 (told n x) := by
 rcases h with ⟨h, _⟩ | ⟨_, y, hy, ht⟩
 ·exact absurd h hs
 ·have he := hy.uniq hs hx
  rw [← qcU he]
  exact ht.short (hsx.congr fun i hi => (he i hi).symm)
theorem qeR.only {R n : Nat} {f : Nat → Nat → Rat} {b w x : Nat → Rat} {e : Ending} {w' : World} (h : qeR R n f b w e w') (hs : ¬ Sing n (normR R n f b w)) (hx : qcA n (normR R n f b w) (fun r => normR R n f b w r n) x) (hsx : qcc n x) : ∃ g, e = .returned (.tuple #[.slice (some ⟨g, 0, none⟩) n n, .int .i64 0]) ∧ FCells w' (some ⟨g, 0, none⟩) g 0 (told n x) := by
 rcases h with ⟨h, _⟩ | ⟨_, y, hy, ht⟩
 ·exact absurd h hs
 ·have he := hy.uniq hs hx
  rw [← qcU he]
  exact ht.short (hsx.congr fun i hi => (he i hi).symm)
theorem qeK {q : Rat} (h : q.num.natAbs < 10 ∧ q.den < 10) : Short q := ⟨by rw [qhO h.1]; exact (by decide : 1 ≤ 600), by rw [qhO h.2]; exact (by decide : 1 ≤ 600)⟩
end Go.Proofs.YtfminfgabiipjaaGreatDoor
namespace Go.Proofs.YtfminfgabiipjaaGreatDoor
open Go.RowKit
theorem qko (v : Value) (w : World) : Calls Tryz.prog 32 #[v] w fun e w' => e = .returned v ∧ w' = w := by
 go_enter Tryz.func32, Tryz.ntmps32
 go_wp2_with fail
 go_ret
 exact ⟨rfl, rfl⟩
def IsAt (w : World) (b : Nat) (L : List ByteArray) : Prop := ∃ gs, w.heap[b]? = some (.cells #[.slice (some ⟨gs, 0, none⟩) L.length L.length] 139 (0, 0)) ∧ SCells w gs 0 L
theorem IsAt.below {w w' : World} {b : Nat} {L : List ByteArray} (h : IsAt w b L) (hb : Below w.heap.size w w') : IsAt w' b L := by
 obtain ⟨gs, h1, h2⟩ := h
 exact ⟨gs, zkeep hb _ _ h1, h2.below hb⟩
theorem is_any (gs : Nat) (L : List ByteArray) (w : World) (hs : SCells w gs 0 L) :
  Calls Tryz.prog 34 #[.slice (some ⟨gs, 0, none⟩) L.length L.length] w fun e w' => ∃ b, e = .returned (.func (.func 91) #[] #[.pointer (some ⟨b, 0, none⟩)]) ∧ Below w.heap.size w w' ∧ IsAt w' b L := by
 have hb1 : Below w.heap.size w (w.alloc (.cells #[.slice (some ⟨gs, 0, none⟩) L.length L.length] 139)) := qb1 qB qN
 have H := qH (qA hb1 (show IsAt (w.alloc (.cells #[.slice (some ⟨gs, 0, none⟩) L.length L.length] 139)) w.heap.size L from ⟨gs, qM _ _ _ rfl, hs.below hb1⟩))
 clear hb1 hs
 generalize L.length = n at *
 go_enter Tryz.func34, Tryz.ntmps34
 go_wp2_with fail
 go_ret
 exact ⟨_, rfl, H.out.1, H.out.2⟩
theorem qfS (n : Int) (w : World) :
  Calls Tryz.prog 35 #[.int .i64 n] w fun e w' => ∃ b, e = .returned (.func (.func 92) #[] #[.pointer (some ⟨b, 0, none⟩)]) ∧ Below w.heap.size w w' ∧ w'.heap[b]? = some (.cells #[.int .i64 n] 3 (0, 0)) := by
 have H := qH (qA (qb1 (o := .cells #[.int .i64 n] 3) (Below.refl w.heap.size w) qN) (qM w (.cells #[.int .i64 n] 3) _ rfl))
 go_enter Tryz.func35, Tryz.ntmps35
 go_wp2_with fail
 go_ret
 exact ⟨_, rfl, H.out.1, H.out.2⟩
theorem qg1 (n : Int) (w : World) :
  Calls Tryz.prog 36 #[.int .i64 n] w fun e w' => ∃ b, e = .returned (.func (.func 93) #[] #[.pointer (some ⟨b, 0, none⟩)]) ∧ Below w.heap.size w w' ∧ w'.heap[b]? = some (.cells #[.int .i64 n] 33 (0, 0)) := by
 have H := qH (qA (qb1 (o := .cells #[.int .i64 n] 33) (Below.refl w.heap.size w) qN) (qM w (.cells #[.int .i64 n] 33) _ rfl))
 go_enter Tryz.func36, Tryz.ntmps36
 go_wp2_with fail
 go_ret
 exact ⟨_, rfl, H.out.1, H.out.2⟩
theorem qe1 (n : Int) (b : Nat) (w : World) (hb : w.heap[b]? = some (.cells #[.int .i64 n] 3 (0, 0))) :
  Calls Tryz.prog 92 #[.int .i64 n, .int .i64 0, .pointer (some ⟨b, 0, none⟩)] w fun r w' => r = .returned (.bool true) ∧ w' = w := by
 have hc : w.cell? ⟨b, 0, none⟩ = some (.int .i64 n) := cell_of_row _ _ 0 _ _ _ hb
 clear hb
 go_enter Tryz.func92, Tryz.ntmps92
 go_wp2_with fail
 go_ret
 exact ⟨rfl, rfl⟩
theorem qgc (n : Int) (b : Nat) (w : World) (hb : w.heap[b]? = some (.cells #[.int .i64 n] 33 (0, 0))) :
  Calls Tryz.prog 93 #[.slice none 0 0, .int .i64 n, .pointer (some ⟨b, 0, none⟩)] w fun r w' => r = .returned (.bool true) ∧ w' = w := by
 have hc : w.cell? ⟨b, 0, none⟩ = some (.int .i64 n) := cell_of_row _ _ 0 _ _ _ hb
 clear hb
 go_enter Tryz.func93, Tryz.ntmps93
 go_wp2_with fail
 go_ret
 exact ⟨rfl, rfl⟩
theorem is1_yes (ao : Option Addr) (g off n c b : Nat) (L : List ByteArray) (w : World) (hb : IsAt w b L) (hn : L.length = n) (hn6 : n ≤ 1000) (hL : ∀ k, (L.getD k ⟨#[]⟩).size ≤ 65536) (hf : FCells w ao g off (L.map qf)) :
  Calls Tryz.prog 91 #[.slice ao n c, .int .i64 0, .pointer (some ⟨b, 0, none⟩)] w fun r w' => r = .returned (.bool true) ∧ Below w.heap.size w w' := by
 obtain ⟨gs, h1, h2⟩ := hb
 rw [hn] at h1
 have hc : w.cell? ⟨b, 0, none⟩ = some (.slice (some ⟨gs, 0, none⟩) n n) := cell_of_row _ _ 0 _ _ _ h1
 have HQ := qH (q_any gs n n L w hn hn6 h2 hL)
 have HF := qH (qA hf hn)
 clear h1 h2 hn hf hL
 go_enter Tryz.func91, Tryz.ntmps91
 go_wp2_with fail
 refine HQ.out.mono ?_
 rintro e w2 ⟨a2, g2, c2, rfl, hf2, hc2, hb2⟩
 have HS := qH (qeJ ao g off n c (L.map qf) a2 g2 0 n c2 (L.map qf) w2 (by rw [qaG, HF.out.2]) (by omega) (HF.out.1.below hb2) (by rw [qaG, HF.out.2]) (by omega) hf2)
 have HB := qH hb2
 clear hf2 hb2 hc
 go_wp2_with fail
 refine HS.out.mono ?_
 rintro e w3 ⟨ok, rfl, hok, hb3⟩
 obtain rfl : ok = true := hok.2 rfl
 have HB3 := qH (HB.out.trans (hb3.mono HB.out.size))
 clear hb3 hok
 go_wp2_with fail
 go_ret
 exact ⟨rfl, HB3.out⟩
theorem qga {W W' : World} {o : Obj} (h : Below (W.alloc o).heap.size (W.alloc o) W') : Below W.heap.size W W' := ((Below.refl _ W).alloc qN o).trans (h.mono (by simp only [qab]; omega))
theorem qfW {L : List ByteArray} (h : ∀ s ∈ L, s.size ≤ 65536) : ∀ k, (L.getD k ⟨#[]⟩).size ≤ 65536 := fun k => by
 rw [qac]
 cases e : L[k]? with
 | none => exact (by decide : 0 ≤ 65536)
 | some s => exact h s (qbB e)
theorem q_lit (W : World) (L : List ByteArray) (l : List Rat) (n : Nat) (hL : L.length = n) (hl : l.length = n) (hn : n ≤ 1000) (h : L.map qf = l.map ftxt) (hz : ∀ s ∈ L, s.size ≤ 65536) :
  Calls Tryz.prog 30 #[.slice (some ⟨W.heap.size, 0, none⟩) n n] (W.alloc (.cells (L.map Value.string).toArray 9)) fun e w' => ∃ (ao : Option Addr) (g c : Nat), e = .returned (.slice ao n c) ∧ FCells w' ao g 0 (told n (fv l)) ∧ Below W.heap.size W w' := by
 refine (q_any W.heap.size n n L _ hL hn (SCells.row (heap_alloc_new W _)) (qfW hz)).mono ?_
 rintro e w' ⟨ao, g, c, rfl, hf, _, hb⟩
 rw [qgS n hl h] at hf
 exact ⟨ao, g, c, rfl, hf, qga hb⟩
theorem qlT (W : World) (L : List ByteArray) (n : Nat) (hL : L.length = n) :
  Calls Tryz.prog 34 #[.slice (some ⟨W.heap.size, 0, none⟩) n n] (W.alloc (.cells (L.map Value.string).toArray 9)) fun e w' => ∃ b, e = .returned (.func (.func 91) #[] #[.pointer (some ⟨b, 0, none⟩)]) ∧ IsAt w' b L ∧ Below W.heap.size W w' := by
 subst hL
 refine (is_any W.heap.size L _ (SCells.row (heap_alloc_new W _))).mono ?_
 rintro e w' ⟨b, rfl, hb, hi⟩
 exact ⟨b, rfl, hi, qga hb⟩
theorem qjx {ao : Option Addr} {g n c b : Nat} {L : List ByteArray} {l : List Rat} {w : World} (hb : IsAt w b L) (hL : L.length = n) (hl : l.length = n) (hn : n ≤ 1000) (h : L.map qf = l.map ftxt) (hz : ∀ s ∈ L, s.size ≤ 65536) (hf : FCells w ao g 0 (told n (fv l))) :
  Calls Tryz.prog 91 #[.slice ao n c, .int .i64 0, .pointer (some ⟨b, 0, none⟩)] w fun r w' => r = .returned (.bool true) ∧ Below w.heap.size w w' :=
 is1_yes ao g 0 n c b L w hb hL hn (qfW hz) (by rw [qgS n hl h]; exact hf)
theorem rows1 (W : World) {ao : Option Addr} {g n c : Nat} {l : List FT} (hl : l.length = n) (h : FCells W ao g 0 l) :
  Calls Tryz.prog 32 #[.slice (some ⟨W.heap.size, 0, none⟩) 1 1] (W.alloc (.cells #[.slice ao n c] 23)) fun e w' => ∃ gt, e = .returned (.slice (some ⟨gt, 0, none⟩) 1 1) ∧ TCells w' (some ⟨gt, 0, none⟩) gt 0 [l] ∧ Below W.heap.size W w' := by
 refine (qko _ _).mono ?_
 rintro e w' ⟨rfl, rfl⟩
 have hb : Below W.heap.size W (W.alloc (.cells #[.slice ao n c] 23)) := qb1 qB qN
 have hg := heap_alloc_new W (.cells #[.slice ao n c] 23)
 refine ⟨_, rfl, ⟨fun _ => rfl, fun k hk => ?_⟩, hb⟩
 obtain rfl : k = 0 := by simp at hk; omega
 refine ⟨ao, g, 0, c, ?_, h.below hb⟩
 rw [show ([l] : Tbl).getD 0 [] = l from rfl, hl]
 exact cell_of_row _ _ 0 _ _ _ hg
theorem rows2 (W : World) {ao : Option Addr} {g n c : Nat} {l : List FT} {ao2 : Option Addr} {g2 n2 c2 : Nat} {l2 : List FT} (hl : l.length = n) (h : FCells W ao g 0 l) (hl2 : l2.length = n2) (h2 : FCells W ao2 g2 0 l2) :
  Calls Tryz.prog 32 #[.slice (some ⟨W.heap.size, 0, none⟩) 2 2] (W.alloc (.cells #[.slice ao n c, .slice ao2 n2 c2] 23)) fun e w' => ∃ gt, e = .returned (.slice (some ⟨gt, 0, none⟩) 2 2) ∧ TCells w' (some ⟨gt, 0, none⟩) gt 0 [l, l2] ∧ Below W.heap.size W w' := by
 refine (qko _ _).mono ?_
 rintro e w' ⟨rfl, rfl⟩
 have hb : Below W.heap.size W (W.alloc (.cells #[.slice ao n c, .slice ao2 n2 c2] 23)) := qb1 qB qN
 have hg := heap_alloc_new W (.cells #[.slice ao n c, .slice ao2 n2 c2] 23)
 exact ⟨_, rfl, qjf hg hl (h.below hb) hl2 (h2.below hb), hb⟩
theorem qci {n : Nat} {x : Nat → Rat} (h : ∀ i, i < n → (x i).num.natAbs ≤ 1000 ∧ (x i).den ≤ 1000) : qcc n x := fun i hi => qdq (N := 1000) (h i hi) (by decide +kernel)
theorem qey {n m : Nat} {f : Nat → Nat → Rat} (hm : m ≤ 1000) : ∀ k, k < n → ((ttab n m f).getD k []).length ≤ 4611686018427387904 := fun k hk => by rw [qda hk, qb2]; omega
theorem qho {n : Nat} {f : Nat → Nat → Rat} {b : Nat → Rat} {ao : Option Addr} {g c : Nat} {ao2 : Option Addr} {g2 c2 : Nat} {w : World} (h1 : 1 ≤ n) (h2 : n ≤ 10) (hf : ∀ i, i < n → qcc n (f i)) (hb : qcc n b) (hT : TCells w ao g 0 (ttab n n f)) (hF : FCells w ao2 g2 0 (told n b)) (hP : HasT w) :
  Calls Tryz.prog 18 #[.slice ao n c, .slice ao2 n c2] w fun e w' => qhz n f b e w' ∧ Below w.heap.size w w' :=
 (qhS ao g 0 n c _ ao2 g2 0 n c2 _ w (qch _ _ _) (by omega) (qey (by omega)) hT (qb2 _ _) (by omega) hF hP).mono fun _ _ h => h.told h1 h2 hf hb
theorem qeg {R n : Nat} {f : Nat → Nat → Rat} {ao : Option Addr} {g c : Nat} {w : World} (h1 : 1 ≤ R) (h2 : R ≤ 40) (h3 : 1 ≤ n) (h4 : n ≤ 10) (hf : ∀ i, i < R → qcc n (f i)) (hT : TCells w ao g 0 (ttab R n f)) :
  Calls Tryz.prog 16 #[.slice ao R c] w fun e w' => (∃ k : Nat, qcy R n f k ∧ e = .returned (.tuple #[.int .i64 k, .int .i64 0])) ∧ Below w.heap.size w w' :=
 (qmi ao g 0 R c _ w (qch _ _ _) (by omega) (qey (by omega)) hT).mono fun _ _ h => h.told h1 h2 h3 h4 hf
theorem qeY {R n : Nat} {f : Nat → Nat → Rat} {b v : Nat → Rat} {ao : Option Addr} {g c : Nat} {ao2 : Option Addr} {g2 c2 : Nat} {ao3 : Option Addr} {g3 c3 : Nat} {w : World} (h1 : 1 ≤ R) (h2 : R ≤ 40) (h3 : 1 ≤ n) (h4 : n ≤ 10) (hf : ∀ i, i < R → qcc n (f i)) (hb : qcc R b) (hv : qcc R v) (hv0 : ∀ i, i < R → 0 ≤ v i) (hT : TCells w ao g 0 (ttab R n f)) (hF : FCells w ao2 g2 0 (told R b)) (hF3 : FCells w ao3 g3 0 (told R v)) (hP : HasT w) :
  Calls Tryz.prog 22 #[.slice ao R c, .slice ao2 R c2, .slice ao3 R c3] w fun e w' => qeR R n f b v e w' ∧ Below w.heap.size w w' :=
 (qkK ao g 0 R c _ ao2 g2 0 R c2 _ ao3 g3 0 R c3 _ w (qch _ _ _) (by omega) (qey (by omega)) hT (qb2 _ _) (by omega) hF (qb2 _ _) (by omega) hF3 hP).mono fun _ _ h => h.told h1 h2 h3 h4 hf hb hv hv0
theorem qh9 {R n : Nat} {f : Nat → Nat → Rat} {b v x : Nat → Rat} {ao : Option Addr} {g c : Nat} {ao2 : Option Addr} {g2 c2 : Nat} {ao3 : Option Addr} {g3 c3 : Nat} {ao4 : Option Addr} {g4 c4 : Nat} {w : World} (h1 : 1 ≤ R) (h2 : R ≤ 40) (h3 : 1 ≤ n) (h4 : n ≤ 10) (hf : ∀ i, i < R → qcc n (f i)) (hb : qcc R b) (hv : qcc R v) (hx : qcc n x) (hv0 : ∀ i, i < R → 0 ≤ v i) (hT : TCells w ao g 0 (ttab R n f)) (hF : FCells w ao2 g2 0 (told R b)) (hF3 : FCells w ao3 g3 0 (told R v)) (hF4 : FCells w ao4 g4 0 (told n x)) (hP : HasT w) :
  Calls Tryz.prog 24 #[.slice ao R c, .slice ao2 R c2, .slice ao3 R c3, .slice ao4 n c4] w fun e w' => (Short (msR R n f b v x) ∧ e = .returned (.tuple #[fstr (msR R n f b v x), .int .i64 0]) ∨ ¬ Short (msR R n f b v x) ∧ e = .returned (.tuple #[.agg #[.string ⟨#[]⟩, .string ⟨#[]⟩], .int .i64 6])) ∧ Below w.heap.size w w' :=
 (qgw ao g 0 R c _ ao2 g2 0 R c2 _ ao3 g3 0 R c3 _ ao4 g4 0 n c4 _ w (qch _ _ _) (by omega) (qey (by omega)) hT (qb2 _ _) (by omega) hF (qb2 _ _) (by omega) hF3 (qb2 _ _) (by omega) hF4 hP).mono fun _ _ h => h.told h1 h2 h3 h4 hf hb hv hx hv0
end Go.Proofs.YtfminfgabiipjaaGreatDoor
