/- Aa, part 37: Rp Rq Rr -/
import Derived.Test.YtfminfgabiipjaaGreatDoorAa0
import Derived.Test.YtfminfgabiipjaaGreatDoorAa32
import Derived.Test.YtfminfgabiipjaaGreatDoorAa33
import Derived.Test.YtfminfgabiipjaaGreatDoorAa36
set_option maxRecDepth 100000
set_option maxHeartbeats 16000000
namespace Go.Proofs.YtfminfgabiipjaaGreatDoor.p4
open Go.RowKit
theorem qf8 {z : Int} (h : z < 0) : (frac.wtxt z).size = (num z.natAbs).size + 1 := by
 rw [frac.qfh h, ByteArray.size_append]
 have : (⟨#[45]⟩ : ByteArray).size = 1 := rfl
 omega
theorem qf9 {z : Int} (h : ¬ z < 0) : (frac.wtxt z).size = (num z.natAbs).size := by rw [frac.qdW h]
theorem num_fit {x K : Nat} (h : Fit x K) (hK : 0 < K) : (num x).size ≤ 4 * K := by
 rw [qdT]
 refine qcm _ _ (by omega) ?_
 rw [← pow4]; exact h
def qlg (w : World) (z : Int) (e : Ending) (w' : World) : Prop := ((num z.natAbs).size ≤ 600 ∧ e = .returned (.tuple #[.string (frac.wtxt z), .int .i64 0]) ∨ ¬ (num z.natAbs).size ≤ 600 ∧ e = .returned (.tuple #[.string ⟨#[]⟩, .int .i64 6])) ∧ Below w.heap.size w w'
theorem qmc (z : Int) (K : Nat) (hK0 : 0 < K) (hK : K ≤ 17592186000000) (v : Value) (w : World) (hv : qcf w v z) (hz : Fit z.natAbs K) :
  Calls Tryz.prog 134 #[v] w fun e w' => qlg w z e w' := by
 have HT := qH (fun (W : World) (h : Below w.heap.size w W) => qfg z K hK v W (hv.below h) hz)
 have hn := num_fit hz hK0
 have hs1 := qf8 (z := z)
 have hs2 := qf9 (z := z)
 obtain ⟨m, rfl, am, bm, om, cm, nm, M, rfl, _, _⟩ := hv
 obtain ⟨N, hN⟩ : ∃ N, (num z.natAbs).size = N := ⟨_, rfl⟩
 obtain ⟨S, hS⟩ : ∃ S, frac.wtxt z = S := ⟨_, rfl⟩
 rw [hS] at HT hs1 hs2
 rw [hN] at hn hs1 hs2
 unfold qlg
 rw [hN, hS]
 obtain ⟨L, hL⟩ : ∃ L, S.size = L := ⟨_, rfl⟩
 rw [hL] at hs1 hs2
 obtain ⟨b, hb⟩ : ∃ b, decide (z < 0) = b := ⟨_, rfl⟩
 rw [hb] at HT ⊢
 obtain ⟨W1, hW1⟩ : ∃ W1, W1 = w.alloc (.cells #[.bool b, .slice am nm cm] 121) := ⟨_, rfl⟩
 have hb1 : Below w.heap.size w W1 := hW1 ▸ qb1 qB qN
 have hr1 : W1.heap[w.heap.size]? = some (.cells #[.bool b, .slice am nm cm] 121 (0, 0)) := by rw [hW1]; exact qM _ _ _ rfl
 have H1 := qH (qA hb1 hr1)
 have hLN : L = if b = true then N + 1 else N := by
  subst hb
  by_cases h : z < 0
  ·rw [decide_eq_true h, if_pos rfl]; exact hs1 h
  ·rw [decide_eq_false h, if_neg (by decide)]; exact hs2 h
 clear hb1 hr1 hs1 hs2 hS hN hb hz
 go_enter Tryz.func134, Tryz.ntmps134
 go_wp2_with fail
 rw [← hW1]
 clear hW1
 refine (HT.out _ H1.out.1).mono ?_
 rintro e w2 ⟨rfl, hb2⟩
 have hr2 := zkeep hb2 _ _ H1.out.2
 have k0 := cell_of_row w2 _ 0 _ _ _ hr2
 have HB := qH (H1.out.1.trans (hb2.mono H1.out.1.size))
 clear hb2 hr2
 cases b with
 | true =>
  rw [if_pos rfl] at hLN
  subst hLN
  by_cases h6 : N ≤ 600
  ·have h6i : ¬ (600 : Int) < ((N + 1 : Nat) : Int) - 1 := by omega
   have h6j : ¬ (600 : Int) < (N : Int) + 1 - 1 := by omega
   have h6k : ¬ 600 < N := by omega
   have H6 := qH h6
   clear h6
   go_wp2_with fail
   go_ret2
   exact ⟨qaA ⟨H6.out, rfl⟩, HB.out⟩
  ·have h6i : (600 : Int) < ((N + 1 : Nat) : Int) - 1 := by omega
   have h6j : (600 : Int) < (N : Int) + 1 - 1 := by omega
   have h6k : 600 < N := by omega
   have H6 := qH h6
   clear h6
   go_wp2_with fail
   go_ret2
   exact ⟨qas ⟨H6.out, rfl⟩, HB.out⟩
 | false =>
  rw [if_neg (by decide)] at hLN
  subst hLN
  by_cases h6 : L ≤ 600
  ·have h6i : ¬ (600 : Int) < (L : Int) := by omega
   have H6 := qH h6
   clear h6
   go_wp2_with fail
   go_ret2
   exact ⟨qaA ⟨H6.out, rfl⟩, HB.out⟩
  ·have h6i : (600 : Int) < (L : Int) := by omega
   have H6 := qH h6
   clear h6
   go_wp2_with fail
   go_ret2
   exact ⟨qas ⟨H6.out, rfl⟩, HB.out⟩
theorem qiT {w w' : World} {z : Int} {e : Ending} (h : qlg w z e w') : ∃ (T : ByteArray) (c : Int), e = .returned (.tuple #[.string T, .int .i64 c]) ∧ ((num z.natAbs).size ≤ 600 ∧ T = frac.wtxt z ∧ c = 0 ∨ ¬ (num z.natAbs).size ≤ 600 ∧ T = ⟨#[]⟩ ∧ c = 6) ∧ Below w.heap.size w w' := by
 obtain ⟨h | h, hb⟩ := h
 ·exact ⟨_, _, h.2, qaA ⟨h.1, rfl, rfl⟩, hb⟩
 ·exact ⟨_, _, h.2, qas ⟨h.1, rfl, rfl⟩, hb⟩
theorem qkm (q : Rat) (K : Nat) (hK0 : 0 < K) (hK : K ≤ 17592186000000) (v : Value) (w : World) (hv : qc0 w v q) (fn : Fit q.num.natAbs K) (fd : Fit q.den K) :
  Calls Tryz.prog 84 #[v] w fun e w' => qfq w q e w' := by
 obtain ⟨m, o, rfl, hm, ho⟩ := hv
 have hpn : ∀ W, Below w.heap.size w W → qcf W (.agg #[.bool (decide (q.num < 0)), m]) q.num := fun W h => ⟨m, rfl, hm.below h⟩
 have hpd : ∀ W, Below w.heap.size w W → qcf W (.agg #[.bool false, o]) (q.den : Int) := fun W h => ⟨o, by rw [decide_eq_false (by omega)], by simpa using ho.below h⟩
 have HN := qH (fun (W : World) (h : Below w.heap.size w W) => qmc q.num K hK0 hK _ W (hpn W h) fn)
 have HD := qH (fun (W : World) (h : Below w.heap.size w W) => qmc (q.den : Int) K hK0 hK _ W (hpd W h) (by simpa using fd))
 have hden : frac.wtxt (q.den : Int) = num q.den := by
  rw [frac.qdW (show ¬ (q.den : Int) < 0 by omega), qat]
 have Hden := qH hden
 generalize decide (q.num < 0) = b at *
 obtain ⟨am, bm, om, cm, nm, M, rfl, _, _⟩ := hm
 obtain ⟨ao, bo, oo, co, no, O, rfl, _, _⟩ := ho
 clear hpn hpd fn fd hden
 obtain ⟨W1, hW1⟩ : ∃ W1, W1 = (w.alloc (.cells #[.bool b, .slice am nm cm, .bool false, .slice ao no co] 123)).alloc (.cells #[.string ⟨#[]⟩, .string ⟨#[]⟩] 46) := ⟨_, rfl⟩
 have hb1 : Below w.heap.size w W1 := hW1 ▸ qb1 (qb1 qB qN) qN
 have hr1 : W1.heap[w.heap.size]? = some (.cells #[.bool b, .slice am nm cm, .bool false, .slice ao no co] 123 (0, 0)) := by rw [hW1, qL _ _ _ (by simp only [qab]; omega)]; exact qM _ _ _ rfl
 have hr2 : W1.heap[w.heap.size + 1]? = some (.cells #[.string ⟨#[]⟩, .string ⟨#[]⟩] 46 (0, 0)) := by rw [hW1]; exact qM _ _ _ (by simp)
 have k0 := cell_of_row W1 _ 0 _ _ _ hr1
 have k1 := cell_of_row W1 _ 1 _ _ _ hr1
 have H1 := qH (qA hb1 (qA hr1 hr2))
 clear hb1 hr1 hr2
 go_enter Tryz.func84, Tryz.ntmps84
 go_wp2_with fail
 rw [← hW1]
 clear hW1
 go_wp2_with fail
 refine (HN.out _ H1.out.1).mono ?_
 intro e w2 h2
 obtain ⟨T, c, rfl, hT, hb2⟩ := qiT h2
 have hr1 := zkeep hb2 _ _ H1.out.2.1
 have k2 := cell_of_row w2 _ 2 _ _ _ hr1
 have k3 := cell_of_row w2 _ 3 _ _ _ hr1
 have H2 := qH (qA (H1.out.1.trans (hb2.mono H1.out.1.size)) (zkeep hb2 _ _ H1.out.2.2))
 clear hb2 hr1 h2 k0 k1
 go_wp2_with fail
 refine (HD.out _ H2.out.1).mono ?_
 intro e w3 h3
 obtain ⟨T2, c2, rfl, hT2, hb3⟩ := qiT h3
 rw [Hden.out, qat] at hT2
 have H3 := qH (qA (H2.out.1.trans (hb3.mono H2.out.1.size)) (zkeep hb3 _ _ H2.out.2))
 clear hb3 h3 k2 k3
 rcases hT with ⟨h1, hT1, rfl⟩ | ⟨h1, hT1, rfl⟩
 ·rcases hT2 with ⟨h2, hT3, rfl⟩ | ⟨h2, hT3, rfl⟩
  ·have HS : Hid (Short q) := qH ⟨h1, h2⟩
   have HE : Hid (Value.agg #[.string T, .string T2] = fstr q) := qH (by rw [hT1, hT3]; rfl)
   clear h1 h2 hT1 hT3
   go_wp2_with ((with_reducible refine wpList_store_row rfl 46 _ _ rfl (w.heap.size + 1) #[.string T, .string T2] ?_ ?_ 46 _ H3.out.2 2 ?_ ?_ ?_ ?_ ?_); (next => rfl); (next => rfl); (next => kernel_rfl); (next => rfl); (next => rfl); (next => rfl))
   exact bodyPost_ret (v := .tuple #[.agg #[.string T, .string T2], .int .i64 0]) (qb6 rfl _ _ (w.heap.size + 1) 46 _ _ rfl (setRow_heap _ _ _ _ _ _ H3.out.2) Tryz.underlying46 rfl 2 (by kernel_rfl) rfl _ rfl) rfl ⟨qaA ⟨HS.out, by rw [HE.out]⟩, below_setRow H3.out.1 (by omega) _⟩
  ·have HS : Hid (¬ Short q) := qH (fun h => h2 h.2)
   clear h1 h2 hT1 hT3
   go_wp2_with ((with_reducible refine wpList_store_row rfl 46 _ _ rfl (w.heap.size + 1) #[.string ⟨#[]⟩, .string ⟨#[]⟩] ?_ ?_ 46 _ H3.out.2 2 ?_ ?_ ?_ ?_ ?_); (next => rfl); (next => rfl); (next => kernel_rfl); (next => rfl); (next => rfl); (next => rfl))
   exact bodyPost_ret (v := .tuple #[.agg #[.string ⟨#[]⟩, .string ⟨#[]⟩], .int .i64 6]) (qb6 rfl _ _ (w.heap.size + 1) 46 _ _ rfl (setRow_heap _ _ _ _ _ _ H3.out.2) Tryz.underlying46 rfl 2 (by kernel_rfl) rfl _ rfl) rfl ⟨qas ⟨HS.out, rfl⟩, below_setRow H3.out.1 (by omega) _⟩
 ·have HS : Hid (¬ Short q) := qH (fun h => h1 h.1)
  clear h1 hT1 hT2
  go_wp2_with ((with_reducible refine wpList_store_row rfl 46 _ _ rfl (w.heap.size + 1) #[.string ⟨#[]⟩, .string ⟨#[]⟩] ?_ ?_ 46 _ H3.out.2 2 ?_ ?_ ?_ ?_ ?_); (next => rfl); (next => rfl); (next => kernel_rfl); (next => rfl); (next => rfl); (next => rfl))
  exact bodyPost_ret (v := .tuple #[.agg #[.string ⟨#[]⟩, .string ⟨#[]⟩], .int .i64 6]) (qb6 rfl _ _ (w.heap.size + 1) 46 _ _ rfl (setRow_heap _ _ _ _ _ _ H3.out.2) Tryz.underlying46 rfl 2 (by kernel_rfl) rfl _ rfl) rfl ⟨qas ⟨HS.out, rfl⟩, below_setRow H3.out.1 (by omega) _⟩
theorem of_pos (n d : Int) (hn : -9223372036854775808 ≤ n ∧ n ≤ 9223372036854775807) (hd : 0 < d) (hd2 : d ≤ 9223372036854775807) (w : World) :
  Calls Tryz.prog 135 #[.int .i64 n, .int .i64 d] w fun e w' => qfq w (Rat.divInt n d) e w' := by
 have hq := qik n d (by omega)
 have fn : Fit (Rat.divInt n d).num.natAbs 5 := by
  rw [hq.1]
  show _ < 10000 ^ 5
  rw [show (10000 : Nat) ^ 5 = 100000000000000000000 by decide]
  have := qaU n.natAbs (n.natAbs.gcd d.natAbs)
  generalize n.natAbs / n.natAbs.gcd d.natAbs = A at *
  split <;> omega
 have fd : Fit (Rat.divInt n d).den 5 := by
  rw [hq.2]
  show _ < 10000 ^ 5
  rw [show (10000 : Nat) ^ 5 = 100000000000000000000 by decide]
  have := qaU d.natAbs (n.natAbs.gcd d.natAbs)
  omega
 have HQ := qH (fun (W : World) => qmg n d hn hd hd2 W)
 have HO := qH (fun (W : World) (v : Value) (hv : qc0 W v (Rat.divInt n d)) => qkm _ 5 (by decide) (by decide) v W hv fn fd)
 have hd0 : (d == 0) = false := by rw [beq_eq_false_iff_ne]; omega
 generalize Rat.divInt n d = q at *
 obtain ⟨W1, hW1⟩ : ∃ W1, W1 = w.alloc (.cells #[.string ⟨#[]⟩, .string ⟨#[]⟩] 46) := ⟨_, rfl⟩
 have hb1 : Below w.heap.size w W1 := hW1 ▸ qb1 qB qN
 have hr1 : W1.heap[w.heap.size]? = some (.cells #[.string ⟨#[]⟩, .string ⟨#[]⟩] 46 (0, 0)) := by rw [hW1]; exact qM _ _ _ rfl
 have H1 := qH (qA hb1 hr1)
 clear hq fn fd hb1 hr1
 go_enter Tryz.func135, Tryz.ntmps135
 go_wp2_with fail
 rw [← hW1]
 clear hW1
 refine (HQ.out _).mono ?_
 rintro e w2 ⟨v2, rfl, hb2, hv2⟩
 have H2 := qH (qA (H1.out.1.trans (hb2.mono H1.out.1.size)) (qA (zkeep hb2 _ _ H1.out.2) hv2))
 obtain ⟨b4, a4, n4, c4, a5, n5, c5, rfl⟩ := hv2.shape
 clear hb2 hv2
 go_wp2_with fail
 refine (HO.out _ _ H2.out.2.2).mono ?_
 intro e w3 h3
 obtain ⟨x1, x2, c, rfl, hc, hb3⟩ := qc5 h3
 have rr := zkeep hb3 _ _ H2.out.2.1
 have hbw := H2.out.1.trans (hb3.mono H2.out.1.size)
 have H3 := qH (qA rr (below_setRow hbw qN #[.string x1, .string x2]))
 have HC := qH hc
 clear h3 hb3 rr hbw hc
 go_wp2_with ((with_reducible refine wpList_store_row rfl 46 _ _ rfl (w.heap.size) #[.string x1, .string x2] ?_ ?_ 46 _ H3.out.1 2 ?_ ?_ ?_ ?_ ?_); (next => rfl); (next => rfl); (next => kernel_rfl); (next => rfl); (next => rfl); (next => rfl))
 refine bodyPost_ret (v := .tuple #[.agg #[.string x1, .string x2], .int .i64 c]) (qb6 rfl _ _ (w.heap.size) 46 _ _ rfl (setRow_heap _ _ _ _ _ _ H3.out.1) Tryz.underlying46 rfl 2 (by kernel_rfl) rfl _ rfl) rfl ⟨?_, H3.out.2⟩
 rcases HC.out with ⟨h1, h2, rfl⟩ | ⟨h1, h2, rfl⟩
 ·exact qaA ⟨h1, by rw [qdS, ← h2]⟩
 ·refine qas ⟨h1, ?_⟩
  cases h2; rfl
end Go.Proofs.YtfminfgabiipjaaGreatDoor.p4
namespace Go.Proofs.YtfminfgabiipjaaGreatDoor
open Go.RowKit
structure KCells (W : World) (kd : IntKind) (ao : Option Addr) (b off : Nat) (L : List Int) : Prop where
 addr : 0 < L.length → ao = some ⟨b, off, none⟩
 cell : ∀ k, k < L.length → W.cell? ⟨b, off + k, none⟩ = some (.int kd (L.getD k 0))
theorem KCells.below {W W' : World} {kd : IntKind} {ao : Option Addr} {b off : Nat} {L : List Int} (h : KCells W kd ao b off L) (hb : Below W.heap.size W W') : KCells W' kd ao b off L :=
 ⟨h.addr, fun k hk => (hb.cell (qag W _ (h.cell k hk))).trans (h.cell k hk)⟩
def ints (D : List Nat) : List Int := D.map fun (d : Nat) => (d : Int)
def qc6 (W : World) (v : Value) (r c : Nat) (N : List Int) (D : List Nat) : Prop :=
 ∃ (a : Option Addr) (b off n cc : Nat) (a' : Option Addr) (b' off' n' cc' : Nat), v = .agg #[.int .u8 (r : Int), .int .u8 (c : Int), .slice a n cc, .slice a' n' cc'] ∧ r < 256 ∧ c < 256 ∧
  N.length = n ∧ n ≤ cc ∧ n ≤ 9223372036854775807 ∧ D.length = n' ∧ n' ≤ cc' ∧ n' ≤ 9223372036854775807 ∧ KCells W .i8 a b off N ∧ KCells W .u8 a' b' off' (ints D) ∧ (∀ k, -128 ≤ N.getD k 0 ∧ N.getD k 0 ≤ 127) ∧ (∀ k, D.getD k 0 < 256)
theorem qc6.below {W W' : World} {v : Value} {r c : Nat} {N : List Int} {D : List Nat} (h : qc6 W v r c N D) (hb : Below W.heap.size W W') : qc6 W' v r c N D := by
 obtain ⟨a, b, off, n, cc, a', b', off', n', cc', rfl, h1, h2, h3, h4, h5, h6, h7, h8, h9, h10, h11, h12⟩ := h
 exact ⟨a, b, off, n, cc, a', b', off', n', cc', rfl, h1, h2, h3, h4, h5, h6, h7, h8, h9.below hb, h10.below hb, h11, h12⟩
theorem qiM (D : List Nat) (k : Nat) : (ints D).getD k 0 = (D.getD k 0 : Nat) := by
 unfold ints
 rw [qac, qac, qav]
 cases D[k]? <;> rfl
theorem qgI (D : List Nat) : (ints D).length = D.length := qaG _
theorem qcO (k : Nat) (_hk : k ≤ 1000000) (r c : Nat) (N : List Int) (D : List Nat) (v : Value) (w : World) (hv : qc6 w v r c N D) :
  Calls Tryz.prog 85 #[v, .int .i64 (k : Int)] w fun e w' => e = .returned (fstr (drq N D k)) ∧ Below w.heap.size w w' := by
 obtain ⟨a, b, off, n, cc, a', b', off', n', cc', rfl, hr, hc, hN, hcap, hn, hD, hcap', hn', CN, CD, RN, RD⟩ := hv
 obtain ⟨W1, hW1⟩ : ∃ W1, W1 = (w.alloc (.cells #[.int .u8 (r : Int), .int .u8 (c : Int), .slice a n cc, .slice a' n' cc'] 29)).alloc (.cells #[.string ⟨#[]⟩, .string ⟨#[]⟩] 46) := ⟨_, rfl⟩
 have hb1 : Below w.heap.size w W1 := hW1 ▸ qb1 (qb1 qB qN) qN
 have hr1 : W1.heap[w.heap.size]? = some (.cells #[.int .u8 (r : Int), .int .u8 (c : Int), .slice a n cc, .slice a' n' cc'] 29 (0, 0)) := by rw [hW1, qL _ _ _ (by simp only [qab]; omega)]; exact qM _ _ _ rfl
 have hr2 : W1.heap[w.heap.size + 1]? = some (.cells #[.string ⟨#[]⟩, .string ⟨#[]⟩] 46 (0, 0)) := by rw [hW1]; exact qM _ _ _ (by simp)
 have k2 := cell_of_row W1 _ 2 _ _ _ hr1
 have H1 := qH (qA hb1 (qA hr1 hr2))
 have HN := qH (qA hN (qA (CN.below hb1) RN))
 have HD := qH (qA hD (qA (CD.below hb1) RD))
 obtain ⟨x, hx⟩ : ∃ x, drn N k = x := ⟨_, rfl⟩
 obtain ⟨y, hy⟩ : ∃ y, drm D k = y := ⟨_, rfl⟩
 have HX := qH hx
 have HY := qH hy
 have hxl := drn_le N k
 have hyl := drm_le D k
 have hsh := (qdR N D k).short
 have hq : drq N D k = Rat.divInt x y := by unfold drq; rw [hx, hy]
 rw [hx] at hxl
 rw [hy] at hyl
 rw [hq] at hsh ⊢
 have ho := fun (W : World) => p4.of_pos x y (by omega) (by omega) (by omega) W
 generalize Rat.divInt x (y : Int) = Q at *
 have HO := qH ho
 clear ho
 have HS := qH hsh
 have hx1 : -20 ≤ x ∧ x ≤ 20 := by omega
 clear hb1 hr2 hN CN RN hD CD RD hx hy hsh hq hxl
 go_enter Tryz.func85, Tryz.ntmps85
 go_upto_region 2 with fail
 rw [← hW1]
 clear hW1
 have k3 := cell_of_row W1 _ 3 _ _ _ hr1
 by_cases h0 : n = 0
 ·have hx2 : x = 1 := by
   rw [← HX.out]; unfold drn; rw [if_pos (by rw [HN.out.1]; exact h0)]
  subst h0
  subst hx2
  by_cases h0' : n' = 0
  ·have hy2 : y = 1 := by
    rw [← HY.out]; unfold drm; rw [if_pos (by rw [HD.out.1]; exact h0')]
   subst h0'
   subst hy2
   go_wp2_with fail
   refine (HO.out _).mono ?_
   intro e w3 h3
   obtain ⟨x1, x2, cd, rfl, hcd, hb3⟩ := qc5 h3
   have hbW : Below W1.heap.size W1 w3 := ((Below.refl W1.heap.size W1)).trans (hb3.mono qN)
   have hE : (x1, x2) = ftxt (Q) := by
    rcases hcd with ⟨_, h, _⟩ | ⟨h, _⟩
    ·exact h
    ·exact absurd HS.out h
   have HE : Hid (Value.agg #[.string x1, .string x2] = fstr (Q)) := qH (by rw [qdS, ← hE])
   obtain ⟨W4, hW4⟩ : ∃ W4, W4 = w3.alloc (.cells #[.string x1, .string x2] 46) := ⟨_, rfl⟩
   have hb4 : Below W1.heap.size W1 W4 := hW4 ▸ qb1 hbW qN
   have r4 : W4.heap[w3.heap.size]? = some (.cells #[.string x1, .string x2] 46 (0, 0)) := by rw [hW4]; exact qM _ _ _ rfl
   have r5 := zkeep hb4 _ _ H1.out.2.2
   have hbw : Below w.heap.size w W4 := H1.out.1.trans (hb4.mono H1.out.1.size)
   have HX2 := qH (qA r5 (below_setRow hbw (show w.heap.size ≤ w.heap.size + 1 by omega) #[.string x1, .string x2]))
   have r4' := r4
   have r5' := r5
   rw [hW4] at r4' r5'
   have HR4 := qH (qA r4' r5')
   have HW4 := qH hW4
   clear h3 hcd hb3 hbW hE hW4 hb4 r4 r5 hbw r4' r5'
   go_wp2_with (first | ((with_reducible refine qb4 rfl 46 _ rfl (w3.heap.size) ?_ 46 #[.string x1, .string x2] _ HR4.out.1 Tryz.underlying46 ?_ 2 ?_ ?_ ?_); (next => rfl); (next => rfl); (next => kernel_rfl); (next => rfl)) | ((with_reducible refine wpList_store_row rfl 46 _ _ rfl (w.heap.size + 1) #[.string x1, .string x2] ?_ ?_ 46 _ HR4.out.2 2 ?_ ?_ ?_ ?_ ?_); (next => rfl); (next => rfl); (next => kernel_rfl); (next => rfl); (next => rfl); (next => rfl)))
   rw [← HW4.out]
   exact bodyPost_ret (v := .agg #[.string x1, .string x2]) (qb9 rfl _ _ (w.heap.size + 1) 46 _ _ rfl (setRow_heap _ _ _ _ _ _ HX2.out.1) Tryz.underlying46 rfl 2 (by kernel_rfl) rfl) rfl ⟨by rw [HE.out], HX2.out.2⟩
  ·skip
   obtain ⟨m', hm'⟩ : ∃ m', min n' 60 = m' := ⟨_, rfl⟩
   obtain ⟨q', hq'⟩ : ∃ q', k % m' = q' := ⟨_, rfl⟩
   have hm0' : 0 < m' := by omega
   have hql' : q' < m' := by rw [← hq']; exact qa7 _ hm0'
   have hqn' : (q' : Int) < n' := by omega
   have hn0' : 0 < n' := by omega
   have haw' := HD.out.2.1.addr (by rw [qgI, HD.out.1]; exact hn0')
   subst haw'
   have hcl' := (HD.out.2.1.below (Below.refl W1.heap.size W1)).cell q' (by rw [qgI, HD.out.1]; omega)
   rw [qiM] at hcl'
   have hrg' := HD.out.2.2 q'
   have hyy : 1 + D.getD q' 0 % 6 = y := by
    rw [← HY.out]; unfold drm
    rw [if_neg (by rw [HD.out.1]; exact h0'), HD.out.1, hm', hq']
   obtain ⟨z', hz'⟩ : ∃ z', D.getD q' 0 = z' := ⟨_, rfl⟩
   rw [hz'] at hcl' hrg' hyy
   obtain ⟨t, ht⟩ : ∃ t, z' % 6 = t := ⟨_, rfl⟩
   have gt1 : (z' : Int) % 6 = t := by omega
   have gt2 : 1 + (t : Int) = y := by omega
   have gt3 : t < 6 := by omega
   have g1' : min (n' : Int) 60 = m' := by omega
   have g2' : (k : Int) % m' = q' := by rw [← hq']; omega
   have g3' : (k : Int).tmod m' = q' := by rw [← hq']; rfl
   have g4' : ((m' : Int) == 0) = false := by rw [beq_eq_false_iff_ne]; omega
   have g5' : ¬ (m' : Int) = 0 := by omega
   have g6' : ¬ m' = 0 := by omega
   have g7' : (0 : Int) < n' := by omega
   clear hz' hq' hm' h0' ht hyy
   go_wp2_with fail
   go_region
   go_wp2_with fail
   refine (HO.out _).mono ?_
   intro e w3 h3
   obtain ⟨x1, x2, cd, rfl, hcd, hb3⟩ := qc5 h3
   have hbW : Below W1.heap.size W1 w3 := (((Below.refl W1.heap.size W1)).drew).trans (hb3.mono qN)
   have hE : (x1, x2) = ftxt (Q) := by
    rcases hcd with ⟨_, h, _⟩ | ⟨h, _⟩
    ·exact h
    ·exact absurd HS.out h
   have HE : Hid (Value.agg #[.string x1, .string x2] = fstr (Q)) := qH (by rw [qdS, ← hE])
   obtain ⟨W4, hW4⟩ : ∃ W4, W4 = w3.alloc (.cells #[.string x1, .string x2] 46) := ⟨_, rfl⟩
   have hb4 : Below W1.heap.size W1 W4 := hW4 ▸ qb1 hbW qN
   have r4 : W4.heap[w3.heap.size]? = some (.cells #[.string x1, .string x2] 46 (0, 0)) := by rw [hW4]; exact qM _ _ _ rfl
   have r5 := zkeep hb4 _ _ H1.out.2.2
   have hbw : Below w.heap.size w W4 := H1.out.1.trans (hb4.mono H1.out.1.size)
   have HX2 := qH (qA r5 (below_setRow hbw (show w.heap.size ≤ w.heap.size + 1 by omega) #[.string x1, .string x2]))
   have r4' := r4
   have r5' := r5
   rw [hW4] at r4' r5'
   have HR4 := qH (qA r4' r5')
   have HW4 := qH hW4
   clear h3 hcd hb3 hbW hE hW4 hb4 r4 r5 hbw r4' r5'
   go_wp2_with (first | ((with_reducible refine qb4 rfl 46 _ rfl (w3.heap.size) ?_ 46 #[.string x1, .string x2] _ HR4.out.1 Tryz.underlying46 ?_ 2 ?_ ?_ ?_); (next => rfl); (next => rfl); (next => kernel_rfl); (next => rfl)) | ((with_reducible refine wpList_store_row rfl 46 _ _ rfl (w.heap.size + 1) #[.string x1, .string x2] ?_ ?_ 46 _ HR4.out.2 2 ?_ ?_ ?_ ?_ ?_); (next => rfl); (next => rfl); (next => kernel_rfl); (next => rfl); (next => rfl); (next => rfl)))
   rw [← HW4.out]
   exact bodyPost_ret (v := .agg #[.string x1, .string x2]) (qb9 rfl _ _ (w.heap.size + 1) 46 _ _ rfl (setRow_heap _ _ _ _ _ _ HX2.out.1) Tryz.underlying46 rfl 2 (by kernel_rfl) rfl) rfl ⟨by rw [HE.out], HX2.out.2⟩
 ·skip
  obtain ⟨m, hm⟩ : ∃ m, min n 60 = m := ⟨_, rfl⟩
  obtain ⟨q, hq⟩ : ∃ q, k % m = q := ⟨_, rfl⟩
  have hm0 : 0 < m := by omega
  have hql : q < m := by rw [← hq]; exact qa7 _ hm0
  have hqn : (q : Int) < n := by omega
  have hn0 : 0 < n := by omega
  have haw := HN.out.2.1.addr (by rw [HN.out.1]; exact hn0)
  subst haw
  have hcl := HN.out.2.1.cell q (by rw [HN.out.1]; omega)
  have hrg := HN.out.2.2 q
  have hxx : (N.getD q 0).tmod 21 = x := by
   rw [← HX.out]; unfold drn
   rw [if_neg (by rw [HN.out.1]; exact h0), HN.out.1, hm, hq]
  obtain ⟨z, hz⟩ : ∃ z, N.getD q 0 = z := ⟨_, rfl⟩
  rw [hz] at hcl hrg hxx
  have hz1 := hrg.1
  have hz2 := hrg.2
  have g1 : min (n : Int) 60 = m := by omega
  have g2 : (k : Int) % m = q := by rw [← hq]; omega
  have g3 : (k : Int).tmod m = q := by rw [← hq]; rfl
  have g4 : ((m : Int) == 0) = false := by rw [beq_eq_false_iff_ne]; omega
  have g5 : ¬ (m : Int) = 0 := by omega
  have g6 : ¬ m = 0 := by omega
  have g7 : (0 : Int) < n := by omega
  clear hz hrg hq hm h0
  go_wp2_with fail
  go_region
  by_cases h0' : n' = 0
  ·have hy2 : y = 1 := by
    rw [← HY.out]; unfold drm; rw [if_pos (by rw [HD.out.1]; exact h0')]
   subst h0'
   subst hy2
   go_wp2_with fail
   refine (HO.out _).mono ?_
   intro e w3 h3
   obtain ⟨x1, x2, cd, rfl, hcd, hb3⟩ := qc5 h3
   have hbW : Below W1.heap.size W1 w3 := ((Below.refl W1.heap.size W1).drew).trans (hb3.mono qN)
   have hE : (x1, x2) = ftxt (Q) := by
    rcases hcd with ⟨_, h, _⟩ | ⟨h, _⟩
    ·exact h
    ·exact absurd HS.out h
   have HE : Hid (Value.agg #[.string x1, .string x2] = fstr (Q)) := qH (by rw [qdS, ← hE])
   obtain ⟨W4, hW4⟩ : ∃ W4, W4 = w3.alloc (.cells #[.string x1, .string x2] 46) := ⟨_, rfl⟩
   have hb4 : Below W1.heap.size W1 W4 := hW4 ▸ qb1 hbW qN
   have r4 : W4.heap[w3.heap.size]? = some (.cells #[.string x1, .string x2] 46 (0, 0)) := by rw [hW4]; exact qM _ _ _ rfl
   have r5 := zkeep hb4 _ _ H1.out.2.2
   have hbw : Below w.heap.size w W4 := H1.out.1.trans (hb4.mono H1.out.1.size)
   have HX2 := qH (qA r5 (below_setRow hbw (show w.heap.size ≤ w.heap.size + 1 by omega) #[.string x1, .string x2]))
   have r4' := r4
   have r5' := r5
   rw [hW4] at r4' r5'
   have HR4 := qH (qA r4' r5')
   have HW4 := qH hW4
   clear h3 hcd hb3 hbW hE hW4 hb4 r4 r5 hbw r4' r5'
   go_wp2_with (first | ((with_reducible refine qb4 rfl 46 _ rfl (w3.heap.size) ?_ 46 #[.string x1, .string x2] _ HR4.out.1 Tryz.underlying46 ?_ 2 ?_ ?_ ?_); (next => rfl); (next => rfl); (next => kernel_rfl); (next => rfl)) | ((with_reducible refine wpList_store_row rfl 46 _ _ rfl (w.heap.size + 1) #[.string x1, .string x2] ?_ ?_ 46 _ HR4.out.2 2 ?_ ?_ ?_ ?_ ?_); (next => rfl); (next => rfl); (next => kernel_rfl); (next => rfl); (next => rfl); (next => rfl)))
   rw [← HW4.out]
   exact bodyPost_ret (v := .agg #[.string x1, .string x2]) (qb9 rfl _ _ (w.heap.size + 1) 46 _ _ rfl (setRow_heap _ _ _ _ _ _ HX2.out.1) Tryz.underlying46 rfl 2 (by kernel_rfl) rfl) rfl ⟨by rw [HE.out], HX2.out.2⟩
  ·skip
   obtain ⟨m', hm'⟩ : ∃ m', min n' 60 = m' := ⟨_, rfl⟩
   obtain ⟨q', hq'⟩ : ∃ q', k % m' = q' := ⟨_, rfl⟩
   have hm0' : 0 < m' := by omega
   have hql' : q' < m' := by rw [← hq']; exact qa7 _ hm0'
   have hqn' : (q' : Int) < n' := by omega
   have hn0' : 0 < n' := by omega
   have haw' := HD.out.2.1.addr (by rw [qgI, HD.out.1]; exact hn0')
   subst haw'
   have hcl' := (HD.out.2.1.below (Below.refl W1.heap.size W1).drew).cell q' (by rw [qgI, HD.out.1]; omega)
   rw [qiM] at hcl'
   have hrg' := HD.out.2.2 q'
   have hyy : 1 + D.getD q' 0 % 6 = y := by
    rw [← HY.out]; unfold drm
    rw [if_neg (by rw [HD.out.1]; exact h0'), HD.out.1, hm', hq']
   obtain ⟨z', hz'⟩ : ∃ z', D.getD q' 0 = z' := ⟨_, rfl⟩
   rw [hz'] at hcl' hrg' hyy
   obtain ⟨t, ht⟩ : ∃ t, z' % 6 = t := ⟨_, rfl⟩
   have gt1 : (z' : Int) % 6 = t := by omega
   have gt2 : 1 + (t : Int) = y := by omega
   have gt3 : t < 6 := by omega
   have g1' : min (n' : Int) 60 = m' := by omega
   have g2' : (k : Int) % m' = q' := by rw [← hq']; omega
   have g3' : (k : Int).tmod m' = q' := by rw [← hq']; rfl
   have g4' : ((m' : Int) == 0) = false := by rw [beq_eq_false_iff_ne]; omega
   have g5' : ¬ (m' : Int) = 0 := by omega
   have g6' : ¬ m' = 0 := by omega
   have g7' : (0 : Int) < n' := by omega
   clear hz' hq' hm' h0' ht hyy
   go_wp2_with fail
   go_region
   go_wp2_with fail
   refine (HO.out _).mono ?_
   intro e w3 h3
   obtain ⟨x1, x2, cd, rfl, hcd, hb3⟩ := qc5 h3
   have hbW : Below W1.heap.size W1 w3 := (((Below.refl W1.heap.size W1).drew).drew).trans (hb3.mono qN)
   have hE : (x1, x2) = ftxt (Q) := by
    rcases hcd with ⟨_, h, _⟩ | ⟨h, _⟩
    ·exact h
    ·exact absurd HS.out h
   have HE : Hid (Value.agg #[.string x1, .string x2] = fstr (Q)) := qH (by rw [qdS, ← hE])
   obtain ⟨W4, hW4⟩ : ∃ W4, W4 = w3.alloc (.cells #[.string x1, .string x2] 46) := ⟨_, rfl⟩
   have hb4 : Below W1.heap.size W1 W4 := hW4 ▸ qb1 hbW qN
   have r4 : W4.heap[w3.heap.size]? = some (.cells #[.string x1, .string x2] 46 (0, 0)) := by rw [hW4]; exact qM _ _ _ rfl
   have r5 := zkeep hb4 _ _ H1.out.2.2
   have hbw : Below w.heap.size w W4 := H1.out.1.trans (hb4.mono H1.out.1.size)
   have HX2 := qH (qA r5 (below_setRow hbw (show w.heap.size ≤ w.heap.size + 1 by omega) #[.string x1, .string x2]))
   have r4' := r4
   have r5' := r5
   rw [hW4] at r4' r5'
   have HR4 := qH (qA r4' r5')
   have HW4 := qH hW4
   clear h3 hcd hb3 hbW hE hW4 hb4 r4 r5 hbw r4' r5'
   go_wp2_with (first | ((with_reducible refine qb4 rfl 46 _ rfl (w3.heap.size) ?_ 46 #[.string x1, .string x2] _ HR4.out.1 Tryz.underlying46 ?_ 2 ?_ ?_ ?_); (next => rfl); (next => rfl); (next => kernel_rfl); (next => rfl)) | ((with_reducible refine wpList_store_row rfl 46 _ _ rfl (w.heap.size + 1) #[.string x1, .string x2] ?_ ?_ 46 _ HR4.out.2 2 ?_ ?_ ?_ ?_ ?_); (next => rfl); (next => rfl); (next => kernel_rfl); (next => rfl); (next => rfl); (next => rfl)))
   rw [← HW4.out]
   exact bodyPost_ret (v := .agg #[.string x1, .string x2]) (qb9 rfl _ _ (w.heap.size + 1) 46 _ _ rfl (setRow_heap _ _ _ _ _ _ HX2.out.1) Tryz.underlying46 rfl 2 (by kernel_rfl) rfl) rfl ⟨by rw [HE.out], HX2.out.2⟩
end Go.Proofs.YtfminfgabiipjaaGreatDoor
