/- The walk of the statement DigestCuts. -/
import Derived.Test.YtfhddcjepgjfnaaDoorA39
import Derived.Deep.RegionWith
namespace Go.Proofs.YtfhddcjepgjfnaaDoor
open Go.RowKit Md

/-- A slice of octets that came in: m of them are read. -/
def Octs (w : World) (v : Value) (m : Nat) : Prop := m = 0 ∨ ∃ (b off cap : Nat) (c : Nat → Nat), v = .slice (some ⟨b, off, none⟩) m cap ∧ m ≤ cap ∧ b < w.heap.size ∧ ∀ i, i < m → c i < 256 ∧ w.cell? ⟨b, off + i, none⟩ = some (.int .u8 (c i : Nat))

set_option maxRecDepth 100000 in
set_option maxHeartbeats 4000000 in
theorem cuts_any (S L : ByteArray) (T : Nat) (hT : T < 65536) (hS : S.size ≤ 140737488355328) (hL : L.size ≤ 140737488355328) (ad : Option Addr) (len cap : Nat) (w : World) (hlc : len ≤ cap) (hcm : cap ≤ maxLen)
    (had : ad = none → cap = 0) (hO : len = 0 ∨ ∃ (b off : Nat) (c : Nat → Nat), ad = some ⟨b, off, none⟩ ∧ b < w.heap.size ∧ ∀ i, i < len → c i < 256 ∧ w.cell? ⟨b, off + i, none⟩ = some (.int .u8 (c i : Nat))) (hK : HasK w) :
    Calls Tryd.prog 9 #[.agg #[.string S, .string L, .int .u16 T], .slice ad len cap] w fun e w' => e = .returned (.bool true) ∧ Below w.heap.size w w' := by
  unfold maxLen at hcm
  have HK := Lib.hid hK
  have hp := hK.pos
  have HOct : Hid (∀ W : World, _) := fun (W : World) => octetsL_any false S L T hT hS hL W
  have hy : min (len : Int) 30 = ((min len 30 : Nat) : Int) := by omega
  have hy1 : min len 30 ≤ 30 := by omega
  have hy2 : min len 30 ≤ len := by omega
  have hoct : ∀ cap', cap' = cap → Octs w (.slice ad (min len 30) cap') (min len 30) := by
    intro cap' hc'
    rcases hO with h0 | ⟨b, off, c, rfl, hb, hcell⟩
    · exact .inl (by omega)
    · exact .inr ⟨b, off, cap', c, rfl, by omega, hb, fun i hi => hcell i (by omega)⟩
  generalize min len 30 = y at *
  have hy3 : (y : Int) ≤ len := by omega
  have hy4 : (0 : Int) ≤ y := by omega
  have hy5 : (y : Int) ≤ cap := by omega
  have HOC := Lib.hid hoct
  have HAD := Lib.hid had
  have I0 := Lib.hid ((Iv.start w).new (#[.string S, .string L, .int .u16 T]) 24)
  clear hK hO hoct had
  go_enter Tryd.func9, Tryd.ntmps9
  go_wp2_with fail
  refine (works_any _ (HK.out.below I0.out.below hp)).mono ?_
  rintro e w1 ⟨rfl, hb1⟩
  have I1 := Lib.hid (I0.out.call hb1)
  clear hb1
  go_wp2_with ((with_reducible refine wpList_load_whole rfl 24 _ rfl (w.heap.size) ?_ 24 (#[.string S, .string L, .int .u16 T]) _ (I1.out.get 0 rfl) Tryd.underlying24 ?_ 3 ?_ ?_ ?_); (next => rfl); (next => rfl); (next => kernel_rfl); (next => rfl))
  refine (HOct.out _).mono ?_
  rintro e w2 ⟨s, rfl, hs, hb2⟩
  have I2 := Lib.hid ((I1.out.call hb2).sub (M := []) (fun x hx => by cases hx))
  have hss : s.size ≤ 4000 := hs
  obtain ⟨a, ha⟩ : ∃ a, asc s.data.toList = a := ⟨_, rfl⟩
  have hal : a.length = s.size := by rw [← ha]; exact asc_length s
  have hsum := fun W (hK : HasK W) => sum_short s (by omega) W hK
  rw [ha] at hsum
  have hlen := md5_len a
  obtain ⟨l, hl⟩ : ∃ l, md5 a = l := ⟨_, rfl⟩
  rw [hl] at hsum hlen
  have Hl := Lib.hid hl
  have Ha := Lib.hid ha
  have HAL := Lib.hid hal
  have HSUM := Lib.hid hsum
  have HLEN := Lib.hid hlen
  have hal2 : a.length ≤ 4000 := by omega
  clear hb2 hs ha hal hsum hlen hl
  go_wp2_with fail
  refine (HSUM.out _ (HK.out.below I2.out.below hp)).mono ?_
  rintro e w3 ⟨rfl, hb3⟩
  have I3 := Lib.hid ((I2.out.call hb3).new (ob l) 28)
  clear hb3
  go_wp2_with ((with_reducible refine wpList_store_new rfl 28 _ _ rfl _ (ob l) ?_ ?_ 16 ?_ ?_ ?_ ?_ ?_); (next => rfl); (next => rfl); (next => kernel_rfl); (next => rfl); (next => exact ob_size16 _ HLEN.out); (next => exact ob_one _))
  refine (new_any _).mono ?_
  rintro e w4 ⟨rfl, hb4⟩
  have h40 := (I3.out.call hb4).new (bd 0 ⟨#[]⟩) 41
  have hne : w3.heap.size ≠ w4.heap.size := Nat.ne_of_lt ((I3.out.call hb4).lt 0 rfl)
  have hwB : w.heap.size ≤ w4.heap.size := (I3.out.call hb4).below.size
  have e0 : bd 0 ⟨#[]⟩ = DS a 0 ⟨#[]⟩ := by
    have h0 := dst_zero a
    simp only [DS, bd, h0]
    rfl
  have E0 := Lib.hid e0
  have h41 : Iv w (w4.alloc (.cells (bd 0 ⟨#[]⟩) 41)) [(w4.heap.size, DS a 0 ⟨#[]⟩, 41), (w3.heap.size, ob l, 28)] := by
    have h42 := h40
    rw [E0.out] at h42
    rw [E0.out]
    exact h42
  have I4 := Lib.hid h41
  clear hb4 h40 h41 e0
  go_upto_region 9 with (fail)
  go_cut [32, 33, 34] (fun x32 x33 x34 W => x33 = .int .i64 y ∧ x34 = .int .i64 0 ∧ Octs w x32 y ∧ Iv w W [(w4.heap.size, DS a 0 ⟨#[]⟩, 41), (w3.heap.size, ob l, 28)])
  case first =>
    cases ad with
    | none =>
      have hc0 : cap = 0 := HAD.out rfl
      subst hc0
      go_wp2_with fail
      go_meet
      exact ⟨rfl, rfl, .inl (by omega), I4.out⟩
    | some ad =>
      go_wp2_with fail
      go_meet
      exact ⟨rfl, rfl, HOC.out _ rfl, I4.out⟩
  case rest =>
    obtain ⟨rfl, rfl, hoc, hI⟩ := hcut
    have J0 := Lib.hid hI
    have HOC := Lib.hid hoc
    clear hI hoc I4
    obtain ⟨B, hB⟩ : ∃ B, w4.heap.size = B := ⟨_, rfl⟩
    rw [hB] at J0 hne hwB
    have hnb : ∀ x ∈ [((w3.heap.size, ob l, 28) : Nat × Array Value × TypeId)], x.1 ≠ B := fun x hx => by rw [List.mem_singleton.1 hx]; exact hne
    rw [hB]
    clear hB
    go_wp2_with fail
    go_loopw [7, 9, 34] (fun _ x9 x34 W => ∃ (k n : Nat) (r q : ByteArray), k ≤ y ∧ x34 = .int .i64 k ∧ x9 = .string r ∧ n ≤ a.length ∧ Hid (asc r.data.toList = a.drop n) ∧ Hid (asc q.data.toList = rest (a.take n)) ∧ Iv w W [(B, DS a n q, 41), (w3.heap.size, ob l, 28)]) (fun _ _ x34 _ => y - (intOf x34).toNat)
    case atStart => exact ⟨0, 0, s, ⟨#[]⟩, by omega, rfl, rfl, by omega, Ha.out, (by show asc _ = _; rw [List.take_zero]; rfl), J0.out⟩
    case round =>
      obtain ⟨k, n, r, q, hk, rfl, rfl, hn, HR, HQ, hI⟩ := hrel
      have J1 := Lib.hid hI
      have hrs : r.size = a.length - n := by rw [← asc_length, HR.out, List.length_drop]
      have hr1 : r.size ≤ a.length - n := by omega
      have HRS := Lib.hid hrs
      clear hI J0 hrs
      by_cases hlt : k < y
      · rcases HOC.out with h0 | ⟨b, off, cap', c, rfl, hyc, hbw, hcs⟩
        · omega
        · obtain ⟨hc256, hcell⟩ := hcs k hlt
          have hcl : wr.cell? ⟨b, off + k, none⟩ = some (.int .u8 (c k : Nat)) := (J1.out.below.cell (p := ⟨b, off + k, none⟩) hbw).trans hcell
          obtain ⟨o, ho⟩ : ∃ o, c k = o := ⟨_, rfl⟩
          rw [ho] at hcl hc256
          have hmin : min (o : Int) (r.size : Int) = ((min o r.size : Nat) : Int) := by omega
          have hj1 : min o r.size ≤ r.size := by omega
          generalize min o r.size = j at *
          have hj2 : (j : Int) ≤ r.size := by omega
          have hj3 : (0 : Int) ≤ j := by omega
          obtain ⟨q', hq', h22⟩ := cut_more a n j (by omega) (by omega) q HQ.out (r.extract 0 j) (by rw [asc_extract, HR.out]; rfl)
          have H22 := Lib.hid h22
          have HQ' := Lib.hid hq'
          have h25 := fun W => cut_check a (n + j) (by omega) (by omega) q' hq' W
          have hqs' : q'.size < 64 := by have := DS_rest a (n + j) (by omega) q' hq'; omega
          have H25 := Lib.hid h25
          have Hcell := Lib.hid hcell
          clear hcs ho h22 hq' h25 hcell HOC
          go_wp2_with fail
          have d0 := J1.out.cell 0 rfl 0 rfl
          have d1 := J1.out.cell 0 rfl 1 rfl
          have d2 := J1.out.cell 0 rfl 2 rfl
          have d3 := J1.out.cell 0 rfl 3 rfl
          have d4 := J1.out.cell 0 rfl 4 rfl
          have d5 := J1.out.cell 0 rfl 5 rfl
          go_cut [7] (fun x7 W => x7 = .int .i64 0 ∧ Iv w W [(B, DS a (n + j) q', 41), (w3.heap.size, ob l, 28)])
          case first =>
            go_region_with (go_at_call 22; refine (H22.out _ (HK.out.below (by first | with_reducible exact J1.out.below | with_reducible exact J1.out.below.drew) hp)).mono ?_; rintro e v1 ⟨rfl, hb1⟩; have J2 := Lib.hid (Iv.call (by first | with_reducible exact J1.out | with_reducible exact J1.out.drew) hb1); clear hb1 d0 d1 d2 d3 d4 d5; have g0 := J2.out.cell 0 rfl 0 rfl; have f0 := J2.out.free 0 rfl 0; have g1 := J2.out.cell 0 rfl 1 rfl; have f1 := J2.out.free 0 rfl 1; have g2 := J2.out.cell 0 rfl 2 rfl; have f2 := J2.out.free 0 rfl 2; have g3 := J2.out.cell 0 rfl 3 rfl; have f3 := J2.out.free 0 rfl 3; have g4 := J2.out.cell 0 rfl 4 rfl; have f4 := J2.out.free 0 rfl 4; have g5 := J2.out.cell 0 rfl 5 rfl; have f5 := J2.out.free 0 rfl 5)
            all_goals go_wp2_with fail
            all_goals go_meet
            all_goals exact ⟨rfl, ((((((J2.out.set hwB hnb 0 _).set hwB hnb 1 _).set hwB hnb 2 _).set hwB hnb 3 _).set hwB hnb 4 _).set hwB hnb 5 _)⟩
          case rest =>
            obtain ⟨rfl, hI2⟩ := hcut
            obtain ⟨N, hN⟩ : ∃ N, n + j = N := ⟨_, rfl⟩
            rw [hN] at hI2 H25 HQ'
            have HN := Lib.hid hN
            have J2 := Lib.hid hI2
            have d5 := J2.out.cell 0 rfl 5 rfl
            clear hN hI2 d0 d1 d2 d3 d4
            go_wp2_with ((with_reducible refine wpList_load_wanted ?_ 41 _ rfl (B) ?_ 41 (DS a N q') _ (J2.out.get 0 rfl) Tryd.underlying41 ?_ 6 ?_ ?_ ?_); (next => rfl); (next => rfl); (next => rfl); (next => kernel_rfl); (next => rfl))
            refine (H25.out _).mono ?_
            rintro e v2 ⟨rfl, hb2⟩
            have J3 := Lib.hid (J2.out.call hb2)
            have d5 := J3.out.cell 0 rfl 5 rfl
            clear hb2
            go_wp2_with fail
            go_roundw
            case rel => exact ⟨k + 1, N, r.extract j r.size, q', by omega, by go_num, rfl, by rw [← HN.out]; omega, by show asc _ = _; rw [asc_extract, HR.out, List.drop_drop, HN.out, List.take_of_length_le (by rw [List.length_drop, HRS.out, ← HN.out]; omega)], HQ'.out, J3.out⟩
            case measure => simp [intOf]; omega
      · obtain rfl : k = y := by omega
        clear hlt hk
        obtain ⟨q', hq', h22⟩ := cut_more a n (a.length - n) (by omega) (by omega) q HQ.out r (by rw [HR.out, List.take_of_length_le (by rw [List.length_drop]; omega)])
        obtain ⟨M, hM⟩ : ∃ M, n + (a.length - n) = M := ⟨_, rfl⟩
        rw [hM] at hq' h22
        have hMa : M = a.length := by omega
        have hqs' : q'.size < 64 := by have := DS_rest a M (by omega) q' hq'; omega
        have h23 := fun W (hK : HasK W) => cut_done a (by omega) M hMa q' hq' W hK
        rw [Hl.out] at h23
        have hsuf := cut_suffix s q' M (by rw [Ha.out]; exact hMa) (by rw [Ha.out]; exact hq')
        have hMs : ((M : Int) == (s.size : Int)) = true := by have := HAL.out; rw [beq_iff_eq]; omega
        have H22 := Lib.hid h22
        have H23 := Lib.hid h23
        have HSUF := Lib.hid hsuf
        have HMS := Lib.hid hMs
        clear hq' h22 hM hMa h23 hsuf hMs
        have J2w := fun W (h : Below wr.heap.size wr W) => Lib.hid (J1.out.call h)
        go_wp2_with ((with_reducible refine wpList_load_whole rfl 41 _ rfl (B) ?_ 41 (DS a n q) _ (J1.out.get 0 rfl) Tryd.underlying41 ?_ 6 ?_ ?_ ?_); (next => rfl); (next => rfl); (next => kernel_rfl); (next => rfl))
        refine (H22.out _ (HK.out.below J1.out.below hp)).mono ?_
        rintro e v1 ⟨rfl, hb1⟩
        have J2 := Lib.hid (J1.out.call hb1)
        have J3 := Lib.hid (J2.out.row hwB hnb (DS a M q'))
        clear hb1 J2w
        go_wp2_with (first | ((with_reducible refine wpList_store_row rfl 41 _ _ rfl (B) (DS a M q') ?_ ?_ 41 _ (J2.out.get 0 rfl) 6 ?_ ?_ ?_ ?_ ?_); (next => rfl); (next => rfl); (next => kernel_rfl); (next => rfl); (next => rfl); (next => rfl)) | ((with_reducible refine wpList_load_whole rfl 41 _ rfl (B) ?_ 41 (DS a M q') _ (J3.out.get 0 rfl) Tryd.underlying41 ?_ 6 ?_ ?_ ?_); (next => rfl); (next => rfl); (next => kernel_rfl); (next => rfl)))
        generalize v1.setRow B (DS a M q') = v2 at *
        refine (H23.out _ (HK.out.below J3.out.below hp)).mono ?_
        rintro e v3 ⟨rfl, hb3⟩
        have J4 := Lib.hid ((J3.out.call hb3).new (ob l) 28)
        have d4 := J4.out.cell 1 rfl 4 rfl
        have d5 := J4.out.cell 1 rfl 5 rfl
        have he := eq28 l l HLEN.out HLEN.out
        rw [show (l == l) = true by simp] at he
        have hMs := HMS.out
        clear hb3
        go_wp2_with (first | ((with_reducible refine wpList_store_new rfl 28 _ _ rfl _ (ob l) ?_ ?_ 16 ?_ ?_ ?_ ?_ ?_); (next => rfl); (next => rfl); (next => kernel_rfl); (next => rfl); (next => exact ob_size16 _ HLEN.out); (next => exact ob_one _)) | ((with_reducible refine wpList_load_wanted ?_ 28 _ rfl (v3.heap.size) ?_ 28 (ob l) _ (J4.out.get 0 rfl) Tryd.underlying28 ?_ 16 ?_ ?_ ?_); (next => rfl); (next => rfl); (next => rfl); (next => kernel_rfl); (next => exact ob_size16 _ HLEN.out)) | ((with_reducible refine wpList_load_wanted ?_ 28 _ rfl (w3.heap.size) ?_ 28 (ob l) _ (J4.out.get 2 rfl) Tryd.underlying28 ?_ 16 ?_ ?_ ?_); (next => rfl); (next => rfl); (next => rfl); (next => kernel_rfl); (next => exact ob_size16 _ HLEN.out)))
        refine (Tryd.strings_HasSuffix s q' _ (by omega)).mono ?_
        rintro e v4 ⟨rfl, rfl⟩
        rw [HSUF.out]
        clear he hMs d4 d5
        go_wp2_with fail
        go_ret
        exact ⟨rfl, J4.out.below⟩
end Go.Proofs.YtfhddcjepgjfnaaDoor
