/- Aa, part 34: Rn -/
import Derived.Test.YtfminfgabiipjaaGreatDoorAa0
import Derived.Test.YtfminfgabiipjaaGreatDoorAa32
set_option maxRecDepth 100000
set_option maxHeartbeats 16000000
namespace Go.Proofs.YtfminfgabiipjaaGreatDoor.p4
open Go.RowKit Go.Lib
def qjk (w : World) (L : List UInt8) (e : Ending) (w' : World) : Prop := ∃ ok, e = .returned (.bool ok) ∧ (ok = true ↔ Valid L) ∧ w' = w
theorem qmC {L : List UInt8} (h : 0 < L.length) (hc : L[0].toNat = 45) : body L = L.drop 1 ∧ signd L = true := by
 cases L with
 | nil => exact absurd h (by simp)
 | cons c t =>
  have : c = 45 := qf4 hc
  subst this
  exact qjU t
theorem qkr {L : List UInt8} (h : 0 < L.length) (hc : L[0].toNat ≠ 45) : body L = L.drop 0 ∧ signd L = false := by
 rw [qb0]
 refine qjV ?_
 rw [List.head?_eq_getElem?, qai h]
 intro e
 apply hc
 rw [qan e]; rfl
theorem ql9 {L : List UInt8} {fr : Nat} (h : ∀ i (hi : i < L.length), fr ≤ i → 48 ≤ L[i].toNat ∧ L[i].toNat ≤ 57) : Nums (L.drop fr) := fun c hc => by
 obtain ⟨i, hi, rfl⟩ := List.getElem_of_mem hc
 rw [List.getElem_drop]
 exact h _ (by rw [qaF] at hi; omega) (by omega)
theorem qiF {L : List UInt8} {fr : Nat} (h : fr < L.length) : (L.drop fr).head? = some 48 ↔ L[fr].toNat = 48 := by
 rw [List.head?_drop, qai h]
 exact ⟨fun e => by rw [qan e]; rfl, fun e => congrArg some (qf4 e)⟩
theorem qmn (s : ByteArray) (n : Nat) (hn : s.size = n) (h0 : 0 < n) (hmax : n ≤ 140737488355328) (h45 : (s[0]'(by omega)).toNat = 45) (w : World) :
  Calls Tryz.prog 155 #[.string s] w fun e w' => qjk w s.data.toList e w' := by
 obtain ⟨L, hL⟩ : ∃ L, s.data.toList = L := ⟨_, rfl⟩
 have hLn : L.length = n := by rw [← hL, ← hn, qbi]; rfl
 have hat : ∀ k (h : k < s.size) (h' : k < L.length), s[k] = L[k] := fun k h h' => by subst hL; rfl
 have hsz0 : 0 < s.size := by omega
 have hsg := qmC (L := L) (by omega) (by rw [← hat 0 hsz0 (by omega)]; exact h45)
 have hV : Valid L ↔ Nums (L.drop 1) ∧ 0 < (L.drop 1).length ∧ (L.drop 1).length ≤ 600 ∧ ((L.drop 1).head? = some 48 → (L.drop 1).length = 1 ∧ False) := by
  rw [← hsg.1]
  have h2 := hsg.2
  exact ⟨fun h => ⟨h.nums, h.pos, h.le, fun e => ⟨(h.lead e).1, by have := (h.lead e).2; rw [h2] at this; cases this⟩⟩, fun h => ⟨h.1, h.2.1, h.2.2.1, fun e => ⟨(h.2.2.2 e).1, False.elim (h.2.2.2 e).2⟩⟩⟩
 rw [hL]
 rw [qaF, hLn] at hV
 obtain ⟨c0, hc0⟩ : ∃ c0, (s[0]'hsz0).toNat = c0 := ⟨_, rfl⟩
 have hsc0 := hc0
 rw [hc0] at h45
 have hcb : ((c0 : Int) == 45) = true := by rw [beq_iff_eq]; omega
 have HV := qH hV
 have Hat := qH hat
 have HL := qH hLn
 have Hn := qH hn
 have h0i : (0 : Int) < n := by omega
 clear hV hsg hL hLn hat hc0
 subst h45
 by_cases h1 : n - 1 < 1
 ·have hno : ¬ Valid L := fun h => by have := HV.out.1 h; omega
  have h1i : (n : Int) - 1 < 1 := by omega
  have HN := qH hno
  clear hno
  skip
  go_enter Tryz.func155, Tryz.ntmps155
  go_wp2_with fail
  go_ret
  exact ⟨false, rfl, qdb HN.out, rfl⟩
 have h1i : ¬ (n : Int) - 1 < 1 := by omega
 by_cases h6 : 600 < n - 1
 ·have hno : ¬ Valid L := fun h => by have := HV.out.1 h; omega
  have h6i : (600 : Int) < (n : Int) - 1 := by omega
  have HN := qH hno
  clear hno
  go_enter Tryz.func155, Tryz.ntmps155
  go_wp2_with fail
  go_ret
  exact ⟨false, rfl, qdb HN.out, rfl⟩
 have h6i : ¬ (600 : Int) < (n : Int) - 1 := by omega
 go_enter Tryz.func155, Tryz.ntmps155
 go_wp2_with fail
 go_loopw [5] (fun x5 W => ∃ k : Nat, x5 = .int .i64 k ∧ 1 ≤ k ∧ k ≤ n ∧ W = w ∧ Hid (∀ i (hi : i < L.length), 1 ≤ i → i < k → 48 ≤ L[i].toNat ∧ L[i].toNat ≤ 57)) (fun x5 _ => n - (RowKit.intOf x5).toNat)
 case atStart => exact ⟨1, rfl, qaf _, by omega, rfl, qH (fun i _ h1 h2 => by omega)⟩
 case round =>
  obtain ⟨k, rfl, hk1, hk, hW, hI⟩ := hrel
  have hW2 := hW.symm
  clear hW
  subst hW2
  by_cases hkn : k < n
  ·have hki : (k : Int) < n := by omega
   have hLk : k < L.length := by rw [HL.out]; exact hkn
   have hsz : k < s.size := by rw [Hn.out]; exact hkn
   have hai := Hat.out k hsz hLk
   obtain ⟨c, hcc⟩ : ∃ c, L[k].toNat = c := ⟨_, rfl⟩
   have hsc : (s[k]'hsz).toNat = c := by rw [hai, hcc]
   have Hcc := qH hcc
   clear hcc hai
   by_cases g1 : c < 48
   ·have hno : ¬ Valid L := fun h => by
     have := (HV.out.1 h).1 (L[k]) (qbB (i := k - 1) (by rw [qbr, show 1 + (k - 1) = k by omega, qai hLk]))
     rw [Hcc.out] at this; omega
    have g1i : (c : Int) < 48 := by omega
    have HN := qH hno
    clear hno
    go_wp2_with fail
    go_ret
    exact ⟨false, rfl, qdb HN.out, rfl⟩
   ·have g1i : ¬ (c : Int) < 48 := by omega
    by_cases g2 : 57 < c
    ·have hno : ¬ Valid L := fun h => by
      have := (HV.out.1 h).1 (L[k]) (qbB (i := k - 1) (by rw [qbr, show 1 + (k - 1) = k by omega, qai hLk]))
      rw [Hcc.out] at this; omega
     have g2i : (57 : Int) < c := by omega
     have HN := qH hno
     clear hno
     go_wp2_with fail
     go_ret
     exact ⟨false, rfl, qdb HN.out, rfl⟩
    ·have g2i : ¬ (57 : Int) < c := by omega
     have Hnx : Hid (∀ i (hi : i < L.length), 1 ≤ i → i < k + 1 → 48 ≤ L[i].toNat ∧ L[i].toNat ≤ 57) := qH fun i hi h1 h2 => by
      by_cases e : i = k
      ·subst e; rw [Hcc.out]; omega
      ·exact hI.out i hi h1 (by omega)
     go_wp2_with fail
     go_roundw
     case rel => exact ⟨k + 1, by go_num, by omega, hkn, trivial, Hnx⟩
     case measure => simp [RowKit.intOf]; omega
  ·obtain rfl : k = n := by omega
   have hnum : Nums (L.drop 1) := ql9 fun i hi h1 => hI.out i hi h1 (by rw [← HL.out]; exact hi)
   have hfi : (1 : Int) < k := by omega
   have hfr : 1 < s.size := by rw [Hn.out]; omega
   have hLf : 1 < L.length := by rw [HL.out]; omega
   have hhead := qiF (L := L) (fr := 1) hLf
   have hai := Hat.out 1 hfr hLf
   obtain ⟨c, hcc⟩ : ∃ c, L[1].toNat = c := ⟨_, rfl⟩
   have hsc : (s[1]'hfr).toNat = c := by rw [hai, hcc]
   rw [hcc] at hhead
   have Hh := qH hhead
   have Hnum := qH hnum
   clear hcc hai hnum hhead
   by_cases hc48 : c = 48
   ·subst hc48
    have hcb2 : ((48 : Int) != 48) = false := by decide
    by_cases hk1' : k = 1
    ·omega
    ·have hno : ¬ Valid L := fun h => by have := (HV.out.1 h).2.2.2 (Hh.out.2 rfl); exact this.2
     have HN := qH hno
     have hb1 : ((k : Int) == 1) = false := by rw [beq_eq_false_iff_ne]; omega
     clear hno
     go_wp2_with fail
     go_ret
     exact ⟨false, rfl, qdb HN.out, rfl⟩
   ·have hcb2 : ((c : Int) != 48) = true := by rw [bne_iff_ne]; omega
    have hyes : Valid L := HV.out.2 ⟨Hnum.out, by omega, by omega, fun e => absurd (Hh.out.1 e) hc48⟩
    have HY := qH hyes
    clear hyes
    go_wp2_with fail
    go_ret
    exact ⟨true, rfl, qfy HY.out, rfl⟩
theorem qmo (s : ByteArray) (n : Nat) (hn : s.size = n) (h0 : 0 < n) (hmax : n ≤ 140737488355328) (h45 : (s[0]'(by omega)).toNat ≠ 45) (w : World) :
  Calls Tryz.prog 155 #[.string s] w fun e w' => qjk w s.data.toList e w' := by
 obtain ⟨L, hL⟩ : ∃ L, s.data.toList = L := ⟨_, rfl⟩
 have hLn : L.length = n := by rw [← hL, ← hn, qbi]; rfl
 have hat : ∀ k (h : k < s.size) (h' : k < L.length), s[k] = L[k] := fun k h h' => by subst hL; rfl
 have hsz0 : 0 < s.size := by omega
 have hsg := qkr (L := L) (by omega) (by rw [← hat 0 hsz0 (by omega)]; exact h45)
 have hV : Valid L ↔ Nums (L.drop 0) ∧ 0 < (L.drop 0).length ∧ (L.drop 0).length ≤ 600 ∧ ((L.drop 0).head? = some 48 → (L.drop 0).length = 1 ∧ True) := by
  rw [← hsg.1]
  have h2 := hsg.2
  exact ⟨fun h => ⟨h.nums, h.pos, h.le, fun e => ⟨(h.lead e).1, by have := (h.lead e).2; trivial⟩⟩, fun h => ⟨h.1, h.2.1, h.2.2.1, fun e => ⟨(h.2.2.2 e).1, h2⟩⟩⟩
 rw [hL]
 rw [qaF, hLn] at hV
 obtain ⟨c0, hc0⟩ : ∃ c0, (s[0]'hsz0).toNat = c0 := ⟨_, rfl⟩
 have hsc0 := hc0
 rw [hc0] at h45
 have hcb : ((c0 : Int) == 45) = false := by rw [beq_eq_false_iff_ne]; omega
 have HV := qH hV
 have Hat := qH hat
 have HL := qH hLn
 have Hn := qH hn
 have h0i : (0 : Int) < n := by omega
 clear hV hsg hL hLn hat hc0
 by_cases h1 : n - 0 < 1
 ·have hno : ¬ Valid L := fun h => by have := HV.out.1 h; omega
  have h1i : (n : Int) - 0 < 1 := by omega
  have HN := qH hno
  clear hno
  exact absurd h1 (by omega)
 have h1i : ¬ (n : Int) - 0 < 1 := by omega
 by_cases h6 : 600 < n - 0
 ·have hno : ¬ Valid L := fun h => by have := HV.out.1 h; omega
  have h6i : (600 : Int) < (n : Int) - 0 := by omega
  have HN := qH hno
  clear hno
  go_enter Tryz.func155, Tryz.ntmps155
  go_wp2_with fail
  go_ret
  exact ⟨false, rfl, qdb HN.out, rfl⟩
 have h6i : ¬ (600 : Int) < (n : Int) - 0 := by omega
 go_enter Tryz.func155, Tryz.ntmps155
 go_wp2_with fail
 go_loopw [5] (fun x5 W => ∃ k : Nat, x5 = .int .i64 k ∧ 0 ≤ k ∧ k ≤ n ∧ W = w ∧ Hid (∀ i (hi : i < L.length), 0 ≤ i → i < k → 48 ≤ L[i].toNat ∧ L[i].toNat ≤ 57)) (fun x5 _ => n - (RowKit.intOf x5).toNat)
 case atStart => exact ⟨0, rfl, qaf _, by omega, rfl, qH (fun i _ h1 h2 => by omega)⟩
 case round =>
  obtain ⟨k, rfl, hk1, hk, hW, hI⟩ := hrel
  have hW2 := hW.symm
  clear hW
  subst hW2
  by_cases hkn : k < n
  ·have hki : (k : Int) < n := by omega
   have hLk : k < L.length := by rw [HL.out]; exact hkn
   have hsz : k < s.size := by rw [Hn.out]; exact hkn
   have hai := Hat.out k hsz hLk
   obtain ⟨c, hcc⟩ : ∃ c, L[k].toNat = c := ⟨_, rfl⟩
   have hsc : (s[k]'hsz).toNat = c := by rw [hai, hcc]
   have Hcc := qH hcc
   clear hcc hai
   by_cases g1 : c < 48
   ·have hno : ¬ Valid L := fun h => by
     have := (HV.out.1 h).1 (L[k]) (qbB (i := k - 0) (by rw [qbr, show 0 + (k - 0) = k by omega, qai hLk]))
     rw [Hcc.out] at this; omega
    have g1i : (c : Int) < 48 := by omega
    have HN := qH hno
    clear hno
    go_wp2_with fail
    go_ret
    exact ⟨false, rfl, qdb HN.out, rfl⟩
   ·have g1i : ¬ (c : Int) < 48 := by omega
    by_cases g2 : 57 < c
    ·have hno : ¬ Valid L := fun h => by
      have := (HV.out.1 h).1 (L[k]) (qbB (i := k - 0) (by rw [qbr, show 0 + (k - 0) = k by omega, qai hLk]))
      rw [Hcc.out] at this; omega
     have g2i : (57 : Int) < c := by omega
     have HN := qH hno
     clear hno
     go_wp2_with fail
     go_ret
     exact ⟨false, rfl, qdb HN.out, rfl⟩
    ·have g2i : ¬ (57 : Int) < c := by omega
     have Hnx : Hid (∀ i (hi : i < L.length), 0 ≤ i → i < k + 1 → 48 ≤ L[i].toNat ∧ L[i].toNat ≤ 57) := qH fun i hi h1 h2 => by
      by_cases e : i = k
      ·subst e; rw [Hcc.out]; omega
      ·exact hI.out i hi h1 (by omega)
     go_wp2_with fail
     go_roundw
     case rel => exact ⟨k + 1, by go_num, by omega, hkn, trivial, Hnx⟩
     case measure => simp [RowKit.intOf]; omega
  ·obtain rfl : k = n := by omega
   have hnum : Nums (L.drop 0) := ql9 fun i hi h1 => hI.out i hi h1 (by rw [← HL.out]; exact hi)
   have hfi : (0 : Int) < k := by omega
   have hfr : 0 < s.size := by rw [Hn.out]; omega
   have hLf : 0 < L.length := by rw [HL.out]; omega
   have hhead := qiF (L := L) (fr := 0) hLf
   have hai := Hat.out 0 hfr hLf
   obtain ⟨c, hcc⟩ : ∃ c, L[0].toNat = c := ⟨_, rfl⟩
   have hsc : (s[0]'hfr).toNat = c := by rw [hai, hcc]
   rw [hcc] at hhead
   have Hh := qH hhead
   have Hnum := qH hnum
   clear hcc hai hnum hhead hsc0
   by_cases hc48 : c = 48
   ·subst hc48
    have hcb2 : ((48 : Int) != 48) = false := by decide
    by_cases hk1' : k = 1
    ·skip
     have hyes : Valid L := HV.out.2 ⟨Hnum.out, by omega, by omega, fun _ => ⟨by omega, trivial⟩⟩
     have HY := qH hyes
     have hb1 : ((k : Int) == 1) = true := by rw [beq_iff_eq]; omega
     clear hyes
     go_wp2_with fail
     go_ret
     exact ⟨true, rfl, qfy HY.out, rfl⟩
    ·have hno : ¬ Valid L := fun h => by have := (HV.out.1 h).2.2.2 (Hh.out.2 rfl); omega
     have HN := qH hno
     have hb1 : ((k : Int) == 1) = false := by rw [beq_eq_false_iff_ne]; omega
     clear hno
     go_wp2_with fail
     go_ret
     exact ⟨false, rfl, qdb HN.out, rfl⟩
   ·have hcb2 : ((c : Int) != 48) = true := by rw [bne_iff_ne]; omega
    have hyes : Valid L := HV.out.2 ⟨Hnum.out, by omega, by omega, fun e => absurd (Hh.out.1 e) hc48⟩
    have HY := qH hyes
    clear hyes
    go_wp2_with fail
    go_ret
    exact ⟨true, rfl, qfy HY.out, rfl⟩
theorem qi2 (s : ByteArray) (hmax : s.size ≤ 140737488355328) (w : World) :
  Calls Tryz.prog 155 #[.string s] w fun e w' => qjk w s.data.toList e w' := by
 by_cases h0 : 0 < s.size
 ·by_cases h45 : (s[0]'h0).toNat = 45
  ·exact qmn s _ rfl h0 hmax h45 w
  ·exact qmo s _ rfl h0 hmax h45 w
 ·obtain ⟨n, hn⟩ : ∃ n, s.size = n := ⟨_, rfl⟩
  have hno : ¬ Valid s.data.toList := fun h => by
   have h1 := h.pos
   have h2 : s.data.toList = [] := qbf.1 (by rw [qbi]; show s.size = 0; omega)
   rw [h2] at h1
   exact absurd h1 (by decide)
  have hn0 : n = 0 := by omega
  subst hn0
  have HN := qH hno
  clear hno h0
  go_enter Tryz.func155, Tryz.ntmps155
  go_wp2_with fail
  go_ret
  exact ⟨false, rfl, qdb HN.out, rfl⟩
theorem in_neg (s : ByteArray) (n : Nat) (hn : s.size = n) (h0 : 0 < n) (h45 : (s[0]'(by omega)).toNat = 45) (hs : Valid s.data.toList) (w : World) :
  Calls Tryz.prog 131 #[.string s] w fun e w' => ∃ v, e = .returned v ∧ Below w.heap.size w w' ∧ qcf w' v (ival s.data.toList) := by
 obtain ⟨L, hL⟩ : ∃ L, s.data.toList = L := ⟨_, rfl⟩
 have hLn : L.length = n := by rw [← hL, ← hn, qbi]; rfl
 have hat : ∀ k (h : k < s.size) (h' : k < L.length), s[k] = L[k] := fun k h h' => by subst hL; rfl
 have hsz0 : 0 < s.size := by omega
 have hsg := qmC (L := L) (by omega) (by rw [← hat 0 hsz0 (by omega)]; exact h45)
 rw [hL] at hs ⊢
 have hnum := hs.nums
 have hle := hs.le
 have hpos := hs.pos
 have hiv : ival L = if true = true then -(dval (L.drop 1) : Int) else dval (L.drop 1) := by unfold ival; rw [hsg.2, hsg.1]
 rw [hsg.1] at hnum hle hpos
 rw [qaF, hLn] at hle hpos
 obtain ⟨Bd, hBd⟩ : ∃ Bd, L.drop 1 = Bd := ⟨_, rfl⟩
 have hBl : Bd.length = n - 1 := by rw [← hBd, qaF, hLn]
 have hatB : ∀ k (h : 1 + k < s.size) (h' : k < Bd.length), s[1 + k] = Bd[k] := fun k h h' => by subst hBd; rw [hat _ h (by omega)]; simp [Nat.add_comm]
 rw [hBd] at hiv hnum
 rw [hiv]
 obtain ⟨c0, hc0⟩ : ∃ c0, (s[0]'hsz0).toNat = c0 := ⟨_, rfl⟩
 have hsc0 := hc0
 rw [hc0] at h45
 have hcb : ((c0 : Int) == 45) = true := by rw [beq_iff_eq]; omega
 have Hat := qH hatB
 have HL := qH (qA hBl (qA hn hnum))
 have h0i : (0 : Int) < n := by omega
 obtain ⟨W1, hW1⟩ : ∃ W1, W1 = w.alloc (.cells #[.bool false, .slice none 0 0] 121) := ⟨_, rfl⟩
 have hb1 : Below w.heap.size w W1 := hW1 ▸ qb1 qB qN
 have hr1 : W1.heap[w.heap.size]? = some (.cells #[.bool false, .slice none 0 0] 121 (0, 0)) := by rw [hW1]; exact qM _ _ _ rfl
 have HR := qH (qA hb1 hr1)
 clear hb1 hr1 hs hsg hL hLn hat hc0 hBl hatB hnum hiv hBd
 subst h45
 have hn6 : n ≤ 601 := by omega
 go_enter Tryz.func131, Tryz.ntmps131
 go_wp2_with fail
 rw [← hW1]
 clear hW1 hsc0 hcb
 go_loopw [4, 5, 6, 7] (fun x4 x5 x6 x7 W => ∃ (z : Int) (e k : Nat) (S : List Nat), x5 = .int .i64 z ∧ -4 ≤ z ∧ z ≤ n ∧ (1 < z → z = 1 + e) ∧ (z ≤ 1 → e = 0) ∧ k + e ≤ n + 4 ∧ Hid (Dig S) ∧ Hid (S.length = k) ∧ Hid (mval S + 10000 ^ k * dval (Bd.take e) = dval Bd) ∧ Hid (W.ownsRow W1.heap.size 3 1 x4 k (row64 S)) ∧ Hid (Below W1.heap.size W1 W)) (fun _ x5 _ _ _ => (RowKit.intOf x5 + 4).toNat)
 case atStart => exact ⟨n, n - 1, 0, [], rfl, by omega, Int.le_refl _, by omega, by omega, by omega, qH Dig.nil, qH rfl, qH (by rw [qal (by rw [HL.out.1]; exact qaf _)]; simp [mval]), qH (qbP _ _ _ _), qH qB⟩
 case round =>
  obtain ⟨z, e, k, S, rfl, hz1, hz2, hze, hz0, hke, hD, hSl, hI, hO, hB⟩ := hrel
  have Hsz := hB.out.size
  by_cases hgo : 1 < z
  ·obtain rfl : z = 1 + e := hze hgo
   have he0 : 0 < e := by omega
   have hez : (1 : Int) < 1 + (e : Int) := by omega
   have Hz := qH (qA hz2 hke)
   have hen : 1 + e ≤ n := by omega
   clear hze hz0 hz1 hgo
   go_upto_region 9 with fail
   go_cut [7] (fun x7 W => ∃ st : Nat, x7 = .int .i64 ((1 + st : Nat) : Int) ∧ W = wr ∧ Hid ((st = 0 ∧ e ≤ 4) ∨ st + 4 = e))
   case first =>
    by_cases h9 : e ≤ 4
    ·have h9i : 1 + (e : Int) - 4 ≤ 1 := by omega
     go_wp2_with fail
     all_goals go_meet
     all_goals first
      | exact ⟨0, rfl, rfl, qH (qaA ⟨rfl, h9⟩)⟩
      | exact ⟨0, congrArg (Value.int .i64) (by omega), rfl, qH (qaA ⟨rfl, h9⟩)⟩
    ·have h9i : ¬ 1 + (e : Int) - 4 ≤ 1 := by omega
     go_wp2_with fail
     all_goals go_meet
     all_goals exact ⟨e - 4, congrArg (Value.int .i64) (by omega), rfl, qH (qas (by omega))⟩
   case rest =>
    obtain ⟨st, rfl, hW, hst⟩ := hcut
    have hW2 := hW.symm
    clear hW
    subst hW2
    have hst9 : st ≤ e ∧ e ≤ st + 4 := by have := hst.out; omega
    go_wp2_with fail
    go_loopw [6, 7] (fun x6 x7 W => ∃ i v : Nat, st ≤ i ∧ i ≤ e ∧ x7 = .int .i64 ((1 + i : Nat) : Int) ∧ x6 = .int .i64 v ∧ W = wr ∧ Hid (v < 10 ^ (i - st) ∧ dval (Bd.take i) = dval (Bd.take st) * 10 ^ (i - st) + v)) (fun _ x7 _ => 1 + e - (RowKit.intOf x7).toNat)
    case atStart => exact ⟨st, 0, qaf _, hst9.1, rfl, rfl, rfl, qH ⟨by rw [qaN]; decide, by rw [qaN]; simp⟩⟩
    case round =>
     obtain ⟨i, v, hsi, hie, rfl, rfl, hW, hv⟩ := hrel
     have hW2 := hW.symm
     clear hW
     subst hW2
     by_cases hlt : i < e
     ·obtain ⟨q, hq⟩ : ∃ q, 1 + i = q := ⟨_, rfl⟩
      have hqe : (q : Int) < 1 + (e : Int) := by omega
      have hqn : (q : Int) < n := by omega
      have hBi : i < Bd.length := by rw [HL.out.1]; omega
      have hsz : q < s.size := by rw [HL.out.2.1]; omega
      have hc := HL.out.2.2 Bd[i] (List.getElem_mem hBi)
      have hd := qeV Bd i hBi
      have hai := Hat.out i (by rw [hq]; exact hsz) hBi
      obtain ⟨c, hcc⟩ : ∃ c, Bd[i].toNat = c := ⟨_, rfl⟩
      have hsc : (s[q]'hsz).toNat = c := by subst hq; rw [hai, hcc]
      rw [hcc] at hc hd
      have hv8 : v < 1000 := qiK hv.out.1 (by omega)
      obtain ⟨d, hdd⟩ : ∃ d, c - 48 = d := ⟨_, rfl⟩
      obtain ⟨v1, hv1⟩ : ∃ v1, v * 10 + d = v1 := ⟨_, rfl⟩
      have i1 : (c : Int) - 48 = d := by omega
      have i2 : (v : Int) * 10 + d = v1 := by omega
      have hdl : d ≤ 9 := by omega
      have Hv1 : Hid (v1 < 10 ^ (i + 1 - st) ∧ dval (Bd.take (i + 1)) = dval (Bd.take st) * 10 ^ (i + 1 - st) + v1) := qH (by
       have h1 := qdK hv.out (D := dval (Bd.take (i + 1))) (d := d) (by rw [hd, hdd]) hdl
       rwa [hv1, show i - st + 1 = i + 1 - st by omega] at h1)
      have Hq := qH hq
      clear hcc hd hai hdd hv1
      rw [hq]
      clear hq
      go_wp2_with fail
      go_roundw
      case rel => exact ⟨i + 1, v1, by omega, hlt, by have := Hq.out; congr 1; omega, rfl, trivial, Hv1⟩
      case measure => have := Hq.out; simp [RowKit.intOf]; omega
     ·obtain rfl : i = e := by omega
      have hv9 : v < 10000 := qj5 hv.out.1 (by omega)
      have hqe : ¬ (((1 + i : Nat)) : Int) < 1 + (i : Int) := by omega
      have Hnew := qH (hD.out.snoc hv9)
      have Hval : Hid (mval (S ++ [v]) + 10000 ^ (k + 1) * dval (Bd.take st) = dval Bd) := qH (qlP hSl.out hI.out hv.out.2 hst.out)
      have Hnl : Hid ((S ++ [v]).length = k + 1) := qH (by rw [qaj, hSl.out]; rfl)
      have Hk := qH (show k < 17592186044416 by have := Hz.out; omega)
      clear hlt
      obtain ⟨q, hq⟩ : ∃ q, 1 + i = q := ⟨_, rfl⟩
      rw [hq] at hqe ⊢
      clear hq
      go_wp2_with (first | (at_builtin; refine qcF (d := v) rfl _ _ rfl hB.out rfl hO.out rfl rfl Hk.out rfl ?_; intro v' w' ho' hb') | fail)
      go_roundw
      case rel => exact ⟨_, st, k + 1, S ++ [v], rfl, by omega, by omega, by have := hst.out; omega, by have := hst.out; omega, by have := Hz.out; have := hst.out; omega, Hnew, Hnl, Hval, ho', hb'⟩
      case measure => simp [RowKit.intOf]; omega
  ·obtain rfl : e = 0 := hz0 (by omega)
   have hv : mval S = dval Bd := by have := hI.out; simpa [dval] using this
   have HD := qH (qdy (N := 605) hO.out hD.out (by omega))
   rw [hv] at HD
   have hm0 := qfb (dval Bd) 605 true _ _ HD.out (by decide)
   obtain ⟨IV, hIV⟩ : ∃ IV : Int, (if true = true then -(dval Bd : Int) else dval Bd) = IV := ⟨_, rfl⟩
   rw [hIV] at hm0
   have HM := qH hm0
   have HIV := qH hIV
   clear hv hm0 hIV
   go_wp2_with fail
   refine HM.out.mono ?_
   rintro e w2 ⟨u, rfl, hb9, hu9⟩
   have hBW : Below W1.heap.size W1 w2 := hB.out.trans (hb9.mono hB.out.size)
   have hrow9 := (hBW.block w.heap.size (qG HR.out.2).1).trans HR.out.2
   have hbw9 : Below w.heap.size w w2 := HR.out.1.trans (hBW.mono HR.out.1.size)
   obtain ⟨b9, a9, n9, c9, rfl⟩ := hu9.shape
   have hvs := qds (cs' := #[.bool b9, .slice a9 n9 c9]) hu9 hrow9 (nd2 _ _ _ _)
   have HR := qH (qA hrow9 (qA hbw9 (below_setRow hbw9 qN #[.bool b9, .slice a9 n9 c9])))
   have HV := qH hvs
   clear hrow9 hbw9 hvs hb9 hu9 hBW
   go_wp2_with ((with_reducible refine wpList_store_row rfl 121 _ _ rfl (w.heap.size) #[.bool b9, .slice a9 n9 c9] ?_ ?_ 121 _ HR.out.1 2 ?_ ?_ ?_ ?_ ?_); (next => rfl); (next => rfl); (next => kernel_rfl); (next => rfl); (next => rfl); (next => rfl))
   exact bodyPost_ret (v := .agg #[.bool b9, .slice a9 n9 c9]) (qb9 rfl _ _ (w.heap.size) 121 _ _ rfl (setRow_heap _ _ _ _ _ _ HR.out.1) Tryz.underlying121 rfl 2 (by kernel_rfl) rfl) rfl ⟨_, rfl, HR.out.2.2, by have := HV.out; rwa [← HIV.out] at this⟩
theorem in_pos (s : ByteArray) (n : Nat) (hn : s.size = n) (h0 : 0 < n) (h45 : (s[0]'(by omega)).toNat ≠ 45) (hs : Valid s.data.toList) (w : World) :
  Calls Tryz.prog 131 #[.string s] w fun e w' => ∃ v, e = .returned v ∧ Below w.heap.size w w' ∧ qcf w' v (ival s.data.toList) := by
 obtain ⟨L, hL⟩ : ∃ L, s.data.toList = L := ⟨_, rfl⟩
 have hLn : L.length = n := by rw [← hL, ← hn, qbi]; rfl
 have hat : ∀ k (h : k < s.size) (h' : k < L.length), s[k] = L[k] := fun k h h' => by subst hL; rfl
 have hsz0 : 0 < s.size := by omega
 have hsg := qkr (L := L) (by omega) (by rw [← hat 0 hsz0 (by omega)]; exact h45)
 rw [hL] at hs ⊢
 have hnum := hs.nums
 have hle := hs.le
 have hpos := hs.pos
 have hiv : ival L = if false = true then -(dval (L.drop 0) : Int) else dval (L.drop 0) := by unfold ival; rw [hsg.2, hsg.1]
 rw [hsg.1] at hnum hle hpos
 rw [qaF, hLn] at hle hpos
 obtain ⟨Bd, hBd⟩ : ∃ Bd, L.drop 0 = Bd := ⟨_, rfl⟩
 have hBl : Bd.length = n - 0 := by rw [← hBd, qaF, hLn]
 have hatB : ∀ k (h : k < s.size) (h' : k < Bd.length), s[k] = Bd[k] := fun k h h' => by subst hBd; rw [hat _ h (by omega)]; simp
 rw [hBd] at hiv hnum
 rw [hiv]
 obtain ⟨c0, hc0⟩ : ∃ c0, (s[0]'hsz0).toNat = c0 := ⟨_, rfl⟩
 have hsc0 := hc0
 rw [hc0] at h45
 have hcb : ((c0 : Int) == 45) = false := by rw [beq_eq_false_iff_ne]; omega
 have Hat := qH hatB
 have HL := qH (qA hBl (qA hn hnum))
 have h0i : (0 : Int) < n := by omega
 obtain ⟨W1, hW1⟩ : ∃ W1, W1 = w.alloc (.cells #[.bool false, .slice none 0 0] 121) := ⟨_, rfl⟩
 have hb1 : Below w.heap.size w W1 := hW1 ▸ qb1 qB qN
 have hr1 : W1.heap[w.heap.size]? = some (.cells #[.bool false, .slice none 0 0] 121 (0, 0)) := by rw [hW1]; exact qM _ _ _ rfl
 have HR := qH (qA hb1 hr1)
 clear hb1 hr1 hs hsg hL hLn hat hc0 hBl hatB hnum hiv hBd
 have hn6 : n ≤ 601 := by omega
 go_enter Tryz.func131, Tryz.ntmps131
 go_wp2_with fail
 rw [← hW1]
 clear hW1 hsc0 hcb
 go_loopw [4, 5, 6, 7] (fun x4 x5 x6 x7 W => ∃ (z : Int) (e k : Nat) (S : List Nat), x5 = .int .i64 z ∧ -4 ≤ z ∧ z ≤ n ∧ (0 < z → z = e) ∧ (z ≤ 0 → e = 0) ∧ k + e ≤ n + 4 ∧ Hid (Dig S) ∧ Hid (S.length = k) ∧ Hid (mval S + 10000 ^ k * dval (Bd.take e) = dval Bd) ∧ Hid (W.ownsRow W1.heap.size 3 1 x4 k (row64 S)) ∧ Hid (Below W1.heap.size W1 W)) (fun _ x5 _ _ _ => (RowKit.intOf x5 + 4).toNat)
 case atStart => exact ⟨n, n - 0, 0, [], rfl, by omega, Int.le_refl _, by omega, by omega, by omega, qH Dig.nil, qH rfl, qH (by rw [qal (by rw [HL.out.1]; exact qaf _)]; simp [mval]), qH (qbP _ _ _ _), qH qB⟩
 case round =>
  obtain ⟨z, e, k, S, rfl, hz1, hz2, hze, hz0, hke, hD, hSl, hI, hO, hB⟩ := hrel
  have Hsz := hB.out.size
  by_cases hgo : 0 < z
  ·obtain rfl : z = e := hze hgo
   have he0 : 0 < e := by omega
   have hez : (0 : Int) < (e : Int) := by omega
   have Hz := qH (qA hz2 hke)
   have hen : e ≤ n := by omega
   clear hze hz0 hz1 hgo
   go_upto_region 9 with fail
   go_cut [7] (fun x7 W => ∃ st : Nat, x7 = .int .i64 ((st : Nat) : Int) ∧ W = wr ∧ Hid ((st = 0 ∧ e ≤ 4) ∨ st + 4 = e))
   case first =>
    by_cases h9 : e ≤ 4
    ·have h9i : (e : Int) - 4 ≤ 0 := by omega
     go_wp2_with fail
     all_goals go_meet
     all_goals first
      | exact ⟨0, rfl, rfl, qH (qaA ⟨rfl, h9⟩)⟩
      | exact ⟨0, congrArg (Value.int .i64) (by omega), rfl, qH (qaA ⟨rfl, h9⟩)⟩
    ·have h9i : ¬ (e : Int) - 4 ≤ 0 := by omega
     go_wp2_with fail
     all_goals go_meet
     all_goals exact ⟨e - 4, congrArg (Value.int .i64) (by omega), rfl, qH (qas (by omega))⟩
   case rest =>
    obtain ⟨st, rfl, hW, hst⟩ := hcut
    have hW2 := hW.symm
    clear hW
    subst hW2
    have hst9 : st ≤ e ∧ e ≤ st + 4 := by have := hst.out; omega
    go_wp2_with fail
    go_loopw [6, 7] (fun x6 x7 W => ∃ i v : Nat, st ≤ i ∧ i ≤ e ∧ x7 = .int .i64 ((i : Nat) : Int) ∧ x6 = .int .i64 v ∧ W = wr ∧ Hid (v < 10 ^ (i - st) ∧ dval (Bd.take i) = dval (Bd.take st) * 10 ^ (i - st) + v)) (fun _ x7 _ => e - (RowKit.intOf x7).toNat)
    case atStart => exact ⟨st, 0, qaf _, hst9.1, rfl, rfl, rfl, qH ⟨by rw [qaN]; decide, by rw [qaN]; simp⟩⟩
    case round =>
     obtain ⟨i, v, hsi, hie, rfl, rfl, hW, hv⟩ := hrel
     have hW2 := hW.symm
     clear hW
     subst hW2
     by_cases hlt : i < e
     ·obtain ⟨q, hq⟩ : ∃ q, i = q := ⟨_, rfl⟩
      have hqe : (q : Int) < (e : Int) := by omega
      have hqn : (q : Int) < n := by omega
      have hBi : i < Bd.length := by rw [HL.out.1]; omega
      have hsz : q < s.size := by rw [HL.out.2.1]; omega
      have hc := HL.out.2.2 Bd[i] (List.getElem_mem hBi)
      have hd := qeV Bd i hBi
      have hai := Hat.out i (by rw [hq]; exact hsz) hBi
      obtain ⟨c, hcc⟩ : ∃ c, Bd[i].toNat = c := ⟨_, rfl⟩
      have hsc : (s[q]'hsz).toNat = c := by subst hq; rw [hai, hcc]
      rw [hcc] at hc hd
      have hv8 : v < 1000 := qiK hv.out.1 (by omega)
      obtain ⟨d, hdd⟩ : ∃ d, c - 48 = d := ⟨_, rfl⟩
      obtain ⟨v1, hv1⟩ : ∃ v1, v * 10 + d = v1 := ⟨_, rfl⟩
      have i1 : (c : Int) - 48 = d := by omega
      have i2 : (v : Int) * 10 + d = v1 := by omega
      have hdl : d ≤ 9 := by omega
      have Hv1 : Hid (v1 < 10 ^ (i + 1 - st) ∧ dval (Bd.take (i + 1)) = dval (Bd.take st) * 10 ^ (i + 1 - st) + v1) := qH (by
       have h1 := qdK hv.out (D := dval (Bd.take (i + 1))) (d := d) (by rw [hd, hdd]) hdl
       rwa [hv1, show i - st + 1 = i + 1 - st by omega] at h1)
      have Hq := qH hq
      clear hcc hd hai hdd hv1
      rw [hq]
      clear hq
      go_wp2_with fail
      go_roundw
      case rel => exact ⟨i + 1, v1, by omega, hlt, by have := Hq.out; congr 1; omega, rfl, trivial, Hv1⟩
      case measure => have := Hq.out; simp [RowKit.intOf]; omega
     ·obtain rfl : i = e := by omega
      have hv9 : v < 10000 := qj5 hv.out.1 (by omega)
      have hqe : ¬ (((i : Nat)) : Int) < (i : Int) := by omega
      have Hnew := qH (hD.out.snoc hv9)
      have Hval : Hid (mval (S ++ [v]) + 10000 ^ (k + 1) * dval (Bd.take st) = dval Bd) := qH (qlP hSl.out hI.out hv.out.2 hst.out)
      have Hnl : Hid ((S ++ [v]).length = k + 1) := qH (by rw [qaj, hSl.out]; rfl)
      have Hk := qH (show k < 17592186044416 by have := Hz.out; omega)
      clear hlt
      go_wp2_with (first | (at_builtin; refine qcF (d := v) rfl _ _ rfl hB.out rfl hO.out rfl rfl Hk.out rfl ?_; intro v' w' ho' hb') | fail)
      go_roundw
      case rel => exact ⟨_, st, k + 1, S ++ [v], rfl, by omega, by omega, by have := hst.out; omega, by have := hst.out; omega, by have := Hz.out; have := hst.out; omega, Hnew, Hnl, Hval, ho', hb'⟩
      case measure => simp [RowKit.intOf]; omega
  ·obtain rfl : e = 0 := hz0 (by omega)
   have hv : mval S = dval Bd := by have := hI.out; simpa [dval] using this
   have HD := qH (qdy (N := 605) hO.out hD.out (by omega))
   rw [hv] at HD
   have hm0 := qfb (dval Bd) 605 false _ _ HD.out (by decide)
   obtain ⟨IV, hIV⟩ : ∃ IV : Int, (if false = true then -(dval Bd : Int) else dval Bd) = IV := ⟨_, rfl⟩
   rw [hIV] at hm0
   have HM := qH hm0
   have HIV := qH hIV
   clear hv hm0 hIV
   go_wp2_with fail
   refine HM.out.mono ?_
   rintro e w2 ⟨u, rfl, hb9, hu9⟩
   have hBW : Below W1.heap.size W1 w2 := hB.out.trans (hb9.mono hB.out.size)
   have hrow9 := (hBW.block w.heap.size (qG HR.out.2).1).trans HR.out.2
   have hbw9 : Below w.heap.size w w2 := HR.out.1.trans (hBW.mono HR.out.1.size)
   obtain ⟨b9, a9, n9, c9, rfl⟩ := hu9.shape
   have hvs := qds (cs' := #[.bool b9, .slice a9 n9 c9]) hu9 hrow9 (nd2 _ _ _ _)
   have HR := qH (qA hrow9 (qA hbw9 (below_setRow hbw9 qN #[.bool b9, .slice a9 n9 c9])))
   have HV := qH hvs
   clear hrow9 hbw9 hvs hb9 hu9 hBW
   go_wp2_with ((with_reducible refine wpList_store_row rfl 121 _ _ rfl (w.heap.size) #[.bool b9, .slice a9 n9 c9] ?_ ?_ 121 _ HR.out.1 2 ?_ ?_ ?_ ?_ ?_); (next => rfl); (next => rfl); (next => kernel_rfl); (next => rfl); (next => rfl); (next => rfl))
   exact bodyPost_ret (v := .agg #[.bool b9, .slice a9 n9 c9]) (qb9 rfl _ _ (w.heap.size) 121 _ _ rfl (setRow_heap _ _ _ _ _ _ HR.out.1) Tryz.underlying121 rfl 2 (by kernel_rfl) rfl) rfl ⟨_, rfl, HR.out.2.2, by have := HV.out; rwa [← HIV.out] at this⟩
theorem qj3 (s : ByteArray) (hs : Valid s.data.toList) (w : World) :
  Calls Tryz.prog 131 #[.string s] w fun e w' => ∃ v, e = .returned v ∧ Below w.heap.size w w' ∧ qcf w' v (ival s.data.toList) := by
 have h0 : 0 < s.size := by
  rcases qaH s.size with h | h
  ·exfalso
   have h1 := hs.pos
   have h2 : s.data.toList = [] := qbf.1 (by rw [qbi]; exact h)
   rw [h2] at h1
   exact absurd h1 (by decide)
  ·exact h
 by_cases h45 : (s[0]'h0).toNat = 45
 ·exact in_neg s _ rfl h0 h45 hs w
 ·exact in_pos s _ rfl h0 h45 hs w
end Go.Proofs.YtfminfgabiipjaaGreatDoor.p4
