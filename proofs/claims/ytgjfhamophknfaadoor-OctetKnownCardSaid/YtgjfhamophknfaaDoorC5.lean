/- Law OctetKnown: the walk. -/
import Derived.Deep.RegionHeld3
import Derived.Deep.DeepCutAuto
import Derived.Deep.CutRange
import Derived.Test.YtgjfhamophknfaaDoorC9
import Derived.Test.YtgjfhamophknfaaDoorC3
namespace Go.Proofs.YtgjfhamophknfaaDoor
open Go.RowKit

theorem bwithD {w w1 w2 : World} (h1 : Below w.heap.size w w1) (h2 : Below w1.heap.size w1 w2) : Below w.heap.size w w2 := h1.trans (h2.mono h1.size)
set_option maxRecDepth 100000 in
set_option maxHeartbeats 8000000 in
theorem known_walk (w : World) : Calls Tryd.prog 5 #[] w fun e w' => e = .returned (.bool true) ∧ Below w.heap.size w w' := by
  obtain ⟨F, hF⟩ : ∃ F, F = rb 65536 := ⟨_, rfl⟩
  have hFs : F.size = 65536 := hF ▸ rb_size _
  have HF : Hid (Full F) := hF
  have HFull : Hid (∀ W : World, _) := fun (W : World) => full_any 65536 (by decide) W
  rw [← hF] at HFull
  obtain ⟨G, hG⟩ : ∃ G, F ++ ⟨#[97]⟩ = G := ⟨_, rfl⟩
  have HG : Hid (G.size = 65537) := Lib.hid (by rw [← hG, ByteArray.size_append, hFs]; rfl)
  have hadd : ∀ W, (Op.stringOp .add F ⟨#[97]⟩).run Tryd.prog W = .ok (.string G) W := fun W => by rw [← hG]; exact run_string_add W _ _ (by omega) (by show 1 ≤ _; omega)
  obtain ⟨H, hH⟩ : ∃ H, F.extract 0 65533 = H := ⟨_, rfl⟩
  have hHs : H.size = 65533 := by rw [← hH, ByteArray.size_extract]; omega
  obtain ⟨K0, hK0⟩ : ∃ K0, H ++ zb 3 = K0 := ⟨_, rfl⟩
  have hadd2 : ∀ W, (Op.stringOp .add H ⟨#[0, 0, 0]⟩).run Tryd.prog W = .ok (.string K0) W := fun W => by rw [← hK0]; exact run_string_add W _ _ (by omega) (by show 3 ≤ _; omega)
  have HH : Hid (H.size = 65533) := Lib.hid hHs
  have HK : Hid (H ++ zb 3 = K0) := Lib.hid hK0
  clear hF hG hHs hK0
  have HB0 := Lib.hid (Below.refl w.heap.size w)
  go_enter Tryd.func5, Tryd.ntmps5
  go_wp2_with fail
  refine (works_any _).mono ?_
  rintro e w1 ⟨rfl, hb⟩
  have HBa := Lib.hid (HB0.out.trans (hb.mono HB0.out.size))
  clear hb HB0
  go_wp2_with fail
  refine (HFull.out _).mono ?_
  rintro e w2 ⟨rfl, hb⟩
  have HB0 := Lib.hid (HBa.out.trans (hb.mono HBa.out.size))
  clear hb HBa HFull
  go_wp2_with fail
  refine (says_any _ _).mono ?_
  rintro e u1 ⟨b1, rfl, hb, hl, hc⟩
  have HB1a := Lib.hid (HB0.out.trans (hb.mono HB0.out.size))
  have HC1 := Lib.hid hc
  have HL1 := Lib.hid hl
  clear hb hc hl HB0
  go_wp2_with fail
  refine (kx0 F HF.out _).mono ?_
  rintro e v1 ⟨rfl, hb⟩
  have HB1 := Lib.hid (HB1a.out.trans (hb.mono HB1a.out.size))
  have HD1 := Lib.hid ((hb.block b1 HL1.out).trans HC1.out)
  clear hb HC1 HL1 HB1a
  go_wp2_with fail
  refine (says1_yes _ _ _ HD1.out).mono ?_
  rintro e v1' ⟨rfl, rfl⟩
  clear HD1
  go_wp2_with fail
  refine (stops_any _ _).mono ?_
  rintro e u2 ⟨b2, rfl, hb, hl, hc⟩
  have HB2a := Lib.hid (HB1.out.trans (hb.mono HB1.out.size))
  have HC2 := Lib.hid hc
  have HL2 := Lib.hid hl
  clear hb hc hl HB1
  go_wp2_with fail
  refine (kx1 F HF.out _).mono ?_
  rintro e v2 ⟨rfl, hb⟩
  have HB2 := Lib.hid (HB2a.out.trans (hb.mono HB2a.out.size))
  have HD2 := Lib.hid ((hb.block b2 HL2.out).trans HC2.out)
  clear hb HC2 HL2 HB2a
  go_wp2_with fail
  refine (stops1_yes _ _ _ HD2.out).mono ?_
  rintro e v2' ⟨rfl, rfl⟩
  clear HD2
  go_wp2_with fail
  refine (stops_any _ _).mono ?_
  rintro e u3 ⟨b3, rfl, hb, hl, hc⟩
  have HB3a := Lib.hid (HB2.out.trans (hb.mono HB2.out.size))
  have HC3 := Lib.hid hc
  have HL3 := Lib.hid hl
  clear hb hc hl HB2
  go_wp2_with fail
  refine (kx2 G HG.out _).mono ?_
  rintro e v3 ⟨rfl, hb⟩
  have HB3 := Lib.hid (HB3a.out.trans (hb.mono HB3a.out.size))
  have HD3 := Lib.hid ((hb.block b3 HL3.out).trans HC3.out)
  clear hb HC3 HL3 HB3a
  go_wp2_with fail
  refine (stops1_yes _ _ _ HD3.out).mono ?_
  rintro e v3' ⟨rfl, rfl⟩
  clear HD3
  go_wp2_with fail
  refine (stops_any _ _).mono ?_
  rintro e u4 ⟨b4, rfl, hb, hl, hc⟩
  have HB4a := Lib.hid (HB3.out.trans (hb.mono HB3.out.size))
  have HC4 := Lib.hid hc
  have HL4 := Lib.hid hl
  clear hb hc hl HB3
  go_wp2_with fail
  refine (kx3 G HG.out _).mono ?_
  rintro e v4 ⟨rfl, hb⟩
  have HB4 := Lib.hid (HB4a.out.trans (hb.mono HB4a.out.size))
  have HD4 := Lib.hid ((hb.block b4 HL4.out).trans HC4.out)
  clear hb HC4 HL4 HB4a
  go_wp2_with fail
  refine (stops1_yes _ _ _ HD4.out).mono ?_
  rintro e v4' ⟨rfl, rfl⟩
  clear HD4
  go_wp2_with fail
  refine (stops_any _ _).mono ?_
  rintro e u5 ⟨b5, rfl, hb, hl, hc⟩
  have HB5a := Lib.hid (HB4.out.trans (hb.mono HB4.out.size))
  have HC5 := Lib.hid hc
  have HL5 := Lib.hid hl
  clear hb hc hl HB4
  go_wp2_with fail
  refine (kx4 _).mono ?_
  rintro e v5 ⟨rfl, hb⟩
  have HB5 := Lib.hid (HB5a.out.trans (hb.mono HB5a.out.size))
  have HD5 := Lib.hid ((hb.block b5 HL5.out).trans HC5.out)
  clear hb HC5 HL5 HB5a
  go_wp2_with fail
  refine (stops1_yes _ _ _ HD5.out).mono ?_
  rintro e v5' ⟨rfl, rfl⟩
  clear HD5
  go_wp2_with fail
  refine (stops_any _ _).mono ?_
  rintro e u6 ⟨b6, rfl, hb, hl, hc⟩
  have HB6a := Lib.hid (HB5.out.trans (hb.mono HB5.out.size))
  have HC6 := Lib.hid hc
  have HL6 := Lib.hid hl
  clear hb hc hl HB5
  go_wp2_with fail
  refine (kx5 _).mono ?_
  rintro e v6 ⟨rfl, hb⟩
  have HB6 := Lib.hid (HB6a.out.trans (hb.mono HB6a.out.size))
  have HD6 := Lib.hid ((hb.block b6 HL6.out).trans HC6.out)
  clear hb HC6 HL6 HB6a
  go_wp2_with fail
  refine (stops1_yes _ _ _ HD6.out).mono ?_
  rintro e v6' ⟨rfl, rfl⟩
  clear HD6
  go_wp2_with fail
  refine (says_any _ _).mono ?_
  rintro e u7 ⟨b7, rfl, hb, hl, hc⟩
  have HB7a := Lib.hid (HB6.out.trans (hb.mono HB6.out.size))
  have HC7 := Lib.hid hc
  have HL7 := Lib.hid hl
  clear hb hc hl HB6
  go_wp2_with fail
  refine (kx6 _).mono ?_
  rintro e v7 ⟨rfl, hb⟩
  have HB7 := Lib.hid (HB7a.out.trans (hb.mono HB7a.out.size))
  have HD7 := Lib.hid ((hb.block b7 HL7.out).trans HC7.out)
  clear hb HC7 HL7 HB7a
  go_wp2_with fail
  refine (says1_yes _ _ _ HD7.out).mono ?_
  rintro e v7' ⟨rfl, rfl⟩
  clear HD7
  go_wp2_with fail
  refine (says_any _ _).mono ?_
  rintro e u8 ⟨b8, rfl, hb, hl, hc⟩
  have HB8a := Lib.hid (HB7.out.trans (hb.mono HB7.out.size))
  have HC8 := Lib.hid hc
  have HL8 := Lib.hid hl
  clear hb hc hl HB7
  go_wp2_with fail
  refine (kx7 _).mono ?_
  rintro e v8 ⟨rfl, hb⟩
  have HB8 := Lib.hid (HB8a.out.trans (hb.mono HB8a.out.size))
  have HD8 := Lib.hid ((hb.block b8 HL8.out).trans HC8.out)
  clear hb HC8 HL8 HB8a
  go_wp2_with fail
  refine (says1_yes _ _ _ HD8.out).mono ?_
  rintro e v8' ⟨rfl, rfl⟩
  clear HD8
  go_wp2_with fail
  refine (says_any _ _).mono ?_
  rintro e u9 ⟨b9, rfl, hb, hl, hc⟩
  have HB9a := Lib.hid (HB8.out.trans (hb.mono HB8.out.size))
  have HC9 := Lib.hid hc
  have HL9 := Lib.hid hl
  clear hb hc hl HB8
  go_wp2_with fail
  refine (kx8 _).mono ?_
  rintro e v9 ⟨rfl, hb⟩
  have HB9 := Lib.hid (HB9a.out.trans (hb.mono HB9a.out.size))
  have HD9 := Lib.hid ((hb.block b9 HL9.out).trans HC9.out)
  clear hb HC9 HL9 HB9a
  go_wp2_with fail
  refine (says1_yes _ _ _ HD9.out).mono ?_
  rintro e v9' ⟨rfl, rfl⟩
  clear HD9
  go_wp2_with fail
  refine (is_any _ _).mono ?_
  rintro e u10 ⟨b10, rfl, hb, hl, hc⟩
  have HB10a := Lib.hid (HB9.out.trans (hb.mono HB9.out.size))
  have HC10 := Lib.hid hc
  have HL10 := Lib.hid hl
  clear hb hc hl HB9
  go_wp2_with fail
  refine (kx9 _).mono ?_
  rintro e v10 ⟨rfl, hb⟩
  have HB10 := Lib.hid (HB10a.out.trans (hb.mono HB10a.out.size))
  have HD10 := Lib.hid ((hb.block b10 HL10.out).trans HC10.out)
  clear hb HC10 HL10 HB10a
  go_wp2_with fail
  refine (is1_yes _ _ _ HD10.out).mono ?_
  rintro e v10' ⟨rfl, rfl⟩
  clear HD10
  go_wp2_with fail
  refine (fails_any _ _).mono ?_
  rintro e u11 ⟨b11, rfl, hb, hl, hc⟩
  have HB11a := Lib.hid (HB10.out.trans (hb.mono HB10.out.size))
  have HC11 := Lib.hid hc
  have HL11 := Lib.hid hl
  clear hb hc hl HB10
  go_wp2_with fail
  refine (kx10 _).mono ?_
  rintro e v11 ⟨rfl, hb⟩
  have HB11 := Lib.hid (HB11a.out.trans (hb.mono HB11a.out.size))
  have HD11 := Lib.hid ((hb.block b11 HL11.out).trans HC11.out)
  clear hb HC11 HL11 HB11a
  go_wp2_with fail
  refine (fails1_yes _ _ _ HD11.out).mono ?_
  rintro e v11' ⟨rfl, rfl⟩
  clear HD11
  go_wp2_with fail
  refine (is_any _ _).mono ?_
  rintro e u12 ⟨b12, rfl, hb, hl, hc⟩
  have HB12a := Lib.hid (HB11.out.trans (hb.mono HB11.out.size))
  have HC12 := Lib.hid hc
  have HL12 := Lib.hid hl
  clear hb hc hl HB11
  go_wp2_with fail
  refine (kx11 _).mono ?_
  rintro e v12 ⟨rfl, hb⟩
  have HB12 := Lib.hid (HB12a.out.trans (hb.mono HB12a.out.size))
  have HD12 := Lib.hid ((hb.block b12 HL12.out).trans HC12.out)
  clear hb HC12 HL12 HB12a
  go_wp2_with fail
  refine (is1_yes _ _ _ HD12.out).mono ?_
  rintro e v12' ⟨rfl, rfl⟩
  clear HD12
  go_wp2_with fail
  refine (fails_any _ _).mono ?_
  rintro e u13 ⟨b13, rfl, hb, hl, hc⟩
  have HB13a := Lib.hid (HB12.out.trans (hb.mono HB12.out.size))
  have HC13 := Lib.hid hc
  have HL13 := Lib.hid hl
  clear hb hc hl HB12
  go_wp2_with fail
  refine (kx12 _).mono ?_
  rintro e v13 ⟨rfl, hb⟩
  have HB13 := Lib.hid (HB13a.out.trans (hb.mono HB13a.out.size))
  have HD13 := Lib.hid ((hb.block b13 HL13.out).trans HC13.out)
  clear hb HC13 HL13 HB13a
  go_wp2_with fail
  refine (fails1_yes _ _ _ HD13.out).mono ?_
  rintro e v13' ⟨rfl, rfl⟩
  clear HD13
  go_wp2_with fail
  refine (fails_any _ _).mono ?_
  rintro e u14 ⟨b14, rfl, hb, hl, hc⟩
  have HB14a := Lib.hid (HB13.out.trans (hb.mono HB13.out.size))
  have HC14 := Lib.hid hc
  have HL14 := Lib.hid hl
  clear hb hc hl HB13
  go_wp2_with fail
  refine (kx13 _).mono ?_
  rintro e v14 ⟨rfl, hb⟩
  have HB14 := Lib.hid (HB14a.out.trans (hb.mono HB14a.out.size))
  have HD14 := Lib.hid ((hb.block b14 HL14.out).trans HC14.out)
  clear hb HC14 HL14 HB14a
  go_wp2_with fail
  refine (fails1_yes _ _ _ HD14.out).mono ?_
  rintro e v14' ⟨rfl, rfl⟩
  clear HD14
  go_wp2_with fail
  refine (fails_any _ _).mono ?_
  rintro e u15 ⟨b15, rfl, hb, hl, hc⟩
  have HB15a := Lib.hid (HB14.out.trans (hb.mono HB14.out.size))
  have HC15 := Lib.hid hc
  have HL15 := Lib.hid hl
  clear hb hc hl HB14
  go_wp2_with fail
  refine (kx14 _).mono ?_
  rintro e v15 ⟨rfl, hb⟩
  have HB15 := Lib.hid (HB15a.out.trans (hb.mono HB15a.out.size))
  have HD15 := Lib.hid ((hb.block b15 HL15.out).trans HC15.out)
  clear hb HC15 HL15 HB15a
  go_wp2_with fail
  refine (fails1_yes _ _ _ HD15.out).mono ?_
  rintro e v15' ⟨rfl, rfl⟩
  clear HD15
  go_wp2_with fail
  refine (fails_any _ _).mono ?_
  rintro e u16 ⟨b16, rfl, hb, hl, hc⟩
  have HB16a := Lib.hid (HB15.out.trans (hb.mono HB15.out.size))
  have HC16 := Lib.hid hc
  have HL16 := Lib.hid hl
  clear hb hc hl HB15
  go_wp2_with fail
  refine (kx15 G HG.out _).mono ?_
  rintro e v16 ⟨rfl, hb⟩
  have HB16 := Lib.hid (HB16a.out.trans (hb.mono HB16a.out.size))
  have HD16 := Lib.hid ((hb.block b16 HL16.out).trans HC16.out)
  clear hb HC16 HL16 HB16a
  go_wp2_with fail
  refine (fails1_yes _ _ _ HD16.out).mono ?_
  rintro e v16' ⟨rfl, rfl⟩
  clear HD16
  go_wp2_with fail
  refine (is_any _ _).mono ?_
  rintro e u17 ⟨b17, rfl, hb, hl, hc⟩
  have HB17a := Lib.hid (HB16.out.trans (hb.mono HB16.out.size))
  have HC17 := Lib.hid hc
  have HL17 := Lib.hid hl
  clear hb hc hl HB16
  go_wp2_with fail
  refine (kx16 F HF.out _).mono ?_
  rintro e v17 ⟨rfl, hb⟩
  have HB17 := Lib.hid (HB17a.out.trans (hb.mono HB17a.out.size))
  have HD17 := Lib.hid ((hb.block b17 HL17.out).trans HC17.out)
  clear hb HC17 HL17 HB17a
  go_wp2_with fail
  refine (is1_yes _ _ _ HD17.out).mono ?_
  rintro e v17' ⟨rfl, rfl⟩
  clear HD17
  go_wp2_with fail
  refine (is_any _ _).mono ?_
  rintro e u18 ⟨b18, rfl, hb, hl, hc⟩
  have HB18a := Lib.hid (HB17.out.trans (hb.mono HB17.out.size))
  have HC18 := Lib.hid hc
  have HL18 := Lib.hid hl
  clear hb hc hl HB17
  go_wp2_with fail
  refine (kx17 _).mono ?_
  rintro e v18 ⟨rfl, hb⟩
  have HB18 := Lib.hid (HB18a.out.trans (hb.mono HB18a.out.size))
  have HD18 := Lib.hid ((hb.block b18 HL18.out).trans HC18.out)
  clear hb HC18 HL18 HB18a
  go_wp2_with fail
  refine (is1_yes _ _ _ HD18.out).mono ?_
  rintro e v18' ⟨rfl, rfl⟩
  clear HD18
  go_wp2_with fail
  refine (is_any _ _).mono ?_
  rintro e u19 ⟨b19, rfl, hb, hl, hc⟩
  have HB19a := Lib.hid (HB18.out.trans (hb.mono HB18.out.size))
  have HC19 := Lib.hid hc
  have HL19 := Lib.hid hl
  clear hb hc hl HB18
  go_wp2_with fail
  refine (kx18 _).mono ?_
  rintro e v19 ⟨rfl, hb⟩
  have HB19 := Lib.hid (HB19a.out.trans (hb.mono HB19a.out.size))
  have HD19 := Lib.hid ((hb.block b19 HL19.out).trans HC19.out)
  clear hb HC19 HL19 HB19a
  go_wp2_with fail
  refine (is1_yes _ _ _ HD19.out).mono ?_
  rintro e v19' ⟨rfl, rfl⟩
  clear HD19
  go_wp2_with fail
  refine (fails_any _ _).mono ?_
  rintro e u20 ⟨b20, rfl, hb, hl, hc⟩
  have HB20a := Lib.hid (HB19.out.trans (hb.mono HB19.out.size))
  have HC20 := Lib.hid hc
  have HL20 := Lib.hid hl
  clear hb hc hl HB19
  go_wp2_with fail
  refine (kx19 _).mono ?_
  rintro e v20 ⟨rfl, hb⟩
  have HB20 := Lib.hid (HB20a.out.trans (hb.mono HB20a.out.size))
  have HD20 := Lib.hid ((hb.block b20 HL20.out).trans HC20.out)
  clear hb HC20 HL20 HB20a
  go_wp2_with fail
  refine (fails1_yes _ _ _ HD20.out).mono ?_
  rintro e v20' ⟨rfl, rfl⟩
  clear HD20
  go_wp2_with fail
  refine (is_any _ _).mono ?_
  rintro e u21 ⟨b21, rfl, hb, hl, hc⟩
  have HB21a := Lib.hid (HB20.out.trans (hb.mono HB20.out.size))
  have HC21 := Lib.hid hc
  have HL21 := Lib.hid hl
  clear hb hc hl HB20
  go_wp2_with fail
  refine (kx20 _).mono ?_
  rintro e v21 ⟨rfl, hb⟩
  have HB21 := Lib.hid (HB21a.out.trans (hb.mono HB21a.out.size))
  have HD21 := Lib.hid ((hb.block b21 HL21.out).trans HC21.out)
  clear hb HC21 HL21 HB21a
  go_wp2_with fail
  refine (is1_yes _ _ _ HD21.out).mono ?_
  rintro e v21' ⟨rfl, rfl⟩
  clear HD21
  go_wp2_with fail
  refine (fails_any _ _).mono ?_
  rintro e u22 ⟨b22, rfl, hb, hl, hc⟩
  have HB22a := Lib.hid (HB21.out.trans (hb.mono HB21.out.size))
  have HC22 := Lib.hid hc
  have HL22 := Lib.hid hl
  clear hb hc hl HB21
  go_wp2_with fail
  refine (kx21 _).mono ?_
  rintro e v22 ⟨rfl, hb⟩
  have HB22 := Lib.hid (HB22a.out.trans (hb.mono HB22a.out.size))
  have HD22 := Lib.hid ((hb.block b22 HL22.out).trans HC22.out)
  clear hb HC22 HL22 HB22a
  go_wp2_with fail
  refine (fails1_yes _ _ _ HD22.out).mono ?_
  rintro e v22' ⟨rfl, rfl⟩
  clear HD22
  go_wp2_with fail
  refine (fails_any _ _).mono ?_
  rintro e u23 ⟨b23, rfl, hb, hl, hc⟩
  have HB23a := Lib.hid (HB22.out.trans (hb.mono HB22.out.size))
  have HC23 := Lib.hid hc
  have HL23 := Lib.hid hl
  clear hb hc hl HB22
  go_wp2_with fail
  refine (kx22 _).mono ?_
  rintro e v23 ⟨rfl, hb⟩
  have HB23 := Lib.hid (HB23a.out.trans (hb.mono HB23a.out.size))
  have HD23 := Lib.hid ((hb.block b23 HL23.out).trans HC23.out)
  clear hb HC23 HL23 HB23a
  go_wp2_with fail
  refine (fails1_yes _ _ _ HD23.out).mono ?_
  rintro e v23' ⟨rfl, rfl⟩
  clear HD23
  go_wp2_with fail
  refine (is_any _ _).mono ?_
  rintro e u24 ⟨b24, rfl, hb, hl, hc⟩
  have HB24a := Lib.hid (HB23.out.trans (hb.mono HB23.out.size))
  have HC24 := Lib.hid hc
  have HL24 := Lib.hid hl
  clear hb hc hl HB23
  go_wp2_with fail
  refine (kx23 _).mono ?_
  rintro e v24 ⟨rfl, hb⟩
  have HB24 := Lib.hid (HB24a.out.trans (hb.mono HB24a.out.size))
  have HD24 := Lib.hid ((hb.block b24 HL24.out).trans HC24.out)
  clear hb HC24 HL24 HB24a
  go_wp2_with fail
  refine (is1_yes _ _ _ HD24.out).mono ?_
  rintro e v24' ⟨rfl, rfl⟩
  clear HD24
  go_wp2_with fail
  refine (fails_any _ _).mono ?_
  rintro e u25 ⟨b25, rfl, hb, hl, hc⟩
  have HB25a := Lib.hid (HB24.out.trans (hb.mono HB24.out.size))
  have HC25 := Lib.hid hc
  have HL25 := Lib.hid hl
  clear hb hc hl HB24
  go_wp2_with fail
  refine (kx24 _).mono ?_
  rintro e v25 ⟨rfl, hb⟩
  have HB25 := Lib.hid (HB25a.out.trans (hb.mono HB25a.out.size))
  have HD25 := Lib.hid ((hb.block b25 HL25.out).trans HC25.out)
  clear hb HC25 HL25 HB25a
  go_wp2_with fail
  refine (fails1_yes _ _ _ HD25.out).mono ?_
  rintro e v25' ⟨rfl, rfl⟩
  clear HD25
  go_wp2_with fail
  refine (fails_any _ _).mono ?_
  rintro e u26 ⟨b26, rfl, hb, hl, hc⟩
  have HB26a := Lib.hid (HB25.out.trans (hb.mono HB25.out.size))
  have HC26 := Lib.hid hc
  have HL26 := Lib.hid hl
  clear hb hc hl HB25
  go_wp2_with fail
  refine (kx25 _).mono ?_
  rintro e v26 ⟨rfl, hb⟩
  have HB26 := Lib.hid (HB26a.out.trans (hb.mono HB26a.out.size))
  have HD26 := Lib.hid ((hb.block b26 HL26.out).trans HC26.out)
  clear hb HC26 HL26 HB26a
  go_wp2_with fail
  refine (fails1_yes _ _ _ HD26.out).mono ?_
  rintro e v26' ⟨rfl, rfl⟩
  clear HD26
  go_wp2_with fail
  refine (is_any _ _).mono ?_
  rintro e u27 ⟨b27, rfl, hb, hl, hc⟩
  have HB27a := Lib.hid (HB26.out.trans (hb.mono HB26.out.size))
  have HC27 := Lib.hid hc
  have HL27 := Lib.hid hl
  clear hb hc hl HB26
  go_wp2_with fail
  refine (kx26 _).mono ?_
  rintro e v27 ⟨rfl, hb⟩
  have HB27 := Lib.hid (HB27a.out.trans (hb.mono HB27a.out.size))
  have HD27 := Lib.hid ((hb.block b27 HL27.out).trans HC27.out)
  clear hb HC27 HL27 HB27a
  go_wp2_with fail
  refine (is1_yes _ _ _ HD27.out).mono ?_
  rintro e v27' ⟨rfl, rfl⟩
  clear HD27
  go_wp2_with fail
  refine (fails_any _ _).mono ?_
  rintro e u28 ⟨b28, rfl, hb, hl, hc⟩
  have HB28a := Lib.hid (HB27.out.trans (hb.mono HB27.out.size))
  have HC28 := Lib.hid hc
  have HL28 := Lib.hid hl
  clear hb hc hl HB27
  go_wp2_with fail
  refine (kx27 _).mono ?_
  rintro e v28 ⟨rfl, hb⟩
  have HB28 := Lib.hid (HB28a.out.trans (hb.mono HB28a.out.size))
  have HD28 := Lib.hid ((hb.block b28 HL28.out).trans HC28.out)
  clear hb HC28 HL28 HB28a
  go_wp2_with fail
  refine (fails1_yes _ _ _ HD28.out).mono ?_
  rintro e v28' ⟨rfl, rfl⟩
  clear HD28
  go_wp2_with fail
  refine (is_any _ _).mono ?_
  rintro e u29 ⟨b29, rfl, hb, hl, hc⟩
  have HB29a := Lib.hid (HB28.out.trans (hb.mono HB28.out.size))
  have HC29 := Lib.hid hc
  have HL29 := Lib.hid hl
  clear hb hc hl HB28
  go_wp2_with fail
  refine (kx28 _).mono ?_
  rintro e v29 ⟨rfl, hb⟩
  have HB29 := Lib.hid (HB29a.out.trans (hb.mono HB29a.out.size))
  have HD29 := Lib.hid ((hb.block b29 HL29.out).trans HC29.out)
  clear hb HC29 HL29 HB29a
  go_wp2_with fail
  refine (is1_yes _ _ _ HD29.out).mono ?_
  rintro e v29' ⟨rfl, rfl⟩
  clear HD29
  go_wp2_with fail
  refine (fails_any _ _).mono ?_
  rintro e u30 ⟨b30, rfl, hb, hl, hc⟩
  have HB30a := Lib.hid (HB29.out.trans (hb.mono HB29.out.size))
  have HC30 := Lib.hid hc
  have HL30 := Lib.hid hl
  clear hb hc hl HB29
  go_wp2_with fail
  refine (kx29 _).mono ?_
  rintro e v30 ⟨rfl, hb⟩
  have HB30 := Lib.hid (HB30a.out.trans (hb.mono HB30a.out.size))
  have HD30 := Lib.hid ((hb.block b30 HL30.out).trans HC30.out)
  clear hb HC30 HL30 HB30a
  go_wp2_with fail
  refine (fails1_yes _ _ _ HD30.out).mono ?_
  rintro e v30' ⟨rfl, rfl⟩
  clear HD30
  go_wp2_with fail
  refine (fails_any _ _).mono ?_
  rintro e u31 ⟨b31, rfl, hb, hl, hc⟩
  have HB31a := Lib.hid (HB30.out.trans (hb.mono HB30.out.size))
  have HC31 := Lib.hid hc
  have HL31 := Lib.hid hl
  clear hb hc hl HB30
  go_wp2_with fail
  refine (kx30 _).mono ?_
  rintro e v31 ⟨rfl, hb⟩
  have HB31 := Lib.hid (HB31a.out.trans (hb.mono HB31a.out.size))
  have HD31 := Lib.hid ((hb.block b31 HL31.out).trans HC31.out)
  clear hb HC31 HL31 HB31a
  go_wp2_with fail
  refine (fails1_yes _ _ _ HD31.out).mono ?_
  rintro e v31' ⟨rfl, rfl⟩
  clear HD31
  go_wp2_with fail
  refine (is_any _ _).mono ?_
  rintro e u32 ⟨b32, rfl, hb, hl, hc⟩
  have HB32a := Lib.hid (HB31.out.trans (hb.mono HB31.out.size))
  have HC32 := Lib.hid hc
  have HL32 := Lib.hid hl
  clear hb hc hl HB31
  go_wp2_with fail
  refine (kx31 _).mono ?_
  rintro e v32 ⟨rfl, hb⟩
  have HB32 := Lib.hid (HB32a.out.trans (hb.mono HB32a.out.size))
  have HD32 := Lib.hid ((hb.block b32 HL32.out).trans HC32.out)
  clear hb HC32 HL32 HB32a
  go_wp2_with fail
  refine (is1_yes _ _ _ HD32.out).mono ?_
  rintro e v32' ⟨rfl, rfl⟩
  clear HD32
  go_upto_region 7 with fail
  simp only [List.append_eq, List.cons_append, List.nil_append]
  have HX0 := Lib.hid HB32.out.drew
  refine wp_region_mix ord7 (fun W => Below w.heap.size w W) (by kernel_rfl) sel7 (fun _ _ d _ _ h => by cases d <;> exact h) rfl mix7 HX0.out ?_
  refine wpMix_take { dst := some 240, op := Op.move (Operand.tmp 2), type := 4, pos := "outright.go:110", after := #[], guard := none } ?_ rfl (Or.inl ⟨by rfl, ?_⟩) ?_
  rotate_left 1
  · intro w hSw; go_simp <;> with_reducible rfl
  try simp only [Act.put, List.setIfInBounds_toArray, List.set_cons_zero, List.set_cons_succ]
  refine wpMix_take { dst := some 241, op := Op.move (Operand.tmp 240), type := 4, pos := "outright.go:110", after := #[{ on := 0, ground := Ground.data }], guard := none } ?_ rfl (Or.inl ⟨by rfl, ?_⟩) ?_
  rotate_left 1
  · intro w hSw; go_simp <;> with_reducible rfl
  try simp only [Act.put, List.setIfInBounds_toArray, List.set_cons_zero, List.set_cons_succ]
  refine wpMix_step { dst := some 242, op := Op.call { callee := Callee.value (Operand.func 32), args := #[Operand.const (Value.int IntKind.i64 2)], argTypes := #[23] }, type := 26, pos := "outright.go:110", after := #[{ on := 1, ground := Ground.chain }, { on := 1, ground := Ground.guard }], guard := some (1, true) } rfl (fun K hK => ?_)
  go_simp
  refine (fails_any _ _).mono ?_
  rintro e y0 ⟨b, rfl, hb, hl, hc⟩
  have HX1 := Lib.hid (bwithD HX0.out hb)
  have HC := Lib.hid hc
  have HL := Lib.hid hl
  refine hK _ _ HX1.out ?_
  clear hb hc hl hK K HX0
  try simp only [Act.put, List.setIfInBounds_toArray, List.set_cons_zero, List.set_cons_succ]
  refine wpMix_step { dst := some 243, op := Op.call { callee := Callee.value (Operand.func 25), args := #[Operand.const (Value.string { data := #[10] }), Operand.const (Value.int IntKind.i64 (-1))], argTypes := #[9, 3] }, type := 24, pos := "outright.go:110", after := #[{ on := 2, ground := Ground.chain }, { on := 1, ground := Ground.guard }], guard := some (1, true) } rfl (fun K hK => ?_)
  go_simp
  refine (kx32 _).mono ?_
  rintro e y1 ⟨rfl, hb⟩
  have HX2 := Lib.hid (bwithD HX1.out hb)
  have HD := Lib.hid ((hb.block b HL.out).trans HC.out)
  refine hK _ _ HX2.out ?_
  clear hb HC HL hK K HX1
  try simp only [Act.put, List.setIfInBounds_toArray, List.set_cons_zero, List.set_cons_succ]
  refine wpMix_take { dst := some 244, op := Op.extract (Operand.tmp 243) 0, type := 9, pos := "outright.go:110", after := #[{ on := 3, ground := Ground.data }, { on := 1, ground := Ground.guard }], guard := some (1, true) } ?_ rfl (Or.inl ⟨by rfl, ?_⟩) ?_
  rotate_left 1
  · intro w hSw; go_simp <;> with_reducible rfl
  try simp only [Act.put, List.setIfInBounds_toArray, List.set_cons_zero, List.set_cons_succ]
  refine wpMix_take { dst := some 245, op := Op.extract (Operand.tmp 243) 1, type := 23, pos := "outright.go:110", after := #[{ on := 3, ground := Ground.data }, { on := 1, ground := Ground.guard }], guard := some (1, true) } ?_ rfl (Or.inl ⟨by rfl, ?_⟩) ?_
  rotate_left 1
  · intro w hSw; go_simp <;> with_reducible rfl
  try simp only [Act.put, List.setIfInBounds_toArray, List.set_cons_zero, List.set_cons_succ]
  refine wpMix_step { dst := some 246, op := Op.call { callee := Callee.value (Operand.tmp 242), args := #[Operand.tmp 244, Operand.tmp 245], argTypes := #[9, 23] }, type := 4, pos := "outright.go:110", after := #[{ on := 2, ground := Ground.data }, { on := 4, ground := Ground.data }, { on := 5, ground := Ground.data }, { on := 3, ground := Ground.chain }, { on := 1, ground := Ground.guard }], guard := some (1, true) } rfl (fun K hK => ?_)
  go_simp
  refine (fails1_yes _ _ _ HD.out).mono ?_
  rintro e y2 ⟨rfl, rfl⟩
  refine hK _ _ HX2.out ?_
  clear hK K HD
  try simp only [Act.put, List.setIfInBounds_toArray, List.set_cons_zero, List.set_cons_succ]
  refine wpMix_take { dst := some 247, op := Op.pick (Operand.tmp 241) (Operand.tmp 246) (Operand.const (Value.bool false)), type := 4, pos := "outright.go:110", after := #[{ on := 1, ground := Ground.data }, { on := 6, ground := Ground.data }], guard := none } ?_ rfl (Or.inl ⟨by rfl, ?_⟩) ?_
  rotate_left 1
  · intro w hSw; go_simp <;> with_reducible rfl
  try simp only [Act.put, List.setIfInBounds_toArray, List.set_cons_zero, List.set_cons_succ]
  refine wpMix_take { dst := some 248, op := Op.move (Operand.tmp 247), type := 4, pos := "outright.go:110", after := #[{ on := 7, ground := Ground.data }, { on := 6, ground := Ground.chain }], guard := none } ?_ rfl (Or.inl ⟨by rfl, ?_⟩) ?_
  rotate_left 1
  · intro w hSw; go_simp <;> with_reducible rfl
  try simp only [Act.put, List.setIfInBounds_toArray, List.set_cons_zero, List.set_cons_succ]
  refine wpMix_step { dst := some 249, op := Op.call { callee := Callee.value (Operand.func 32), args := #[Operand.const (Value.int IntKind.i64 2)], argTypes := #[23] }, type := 26, pos := "outright.go:110", after := #[{ on := 8, ground := Ground.chain }, { on := 8, ground := Ground.guard }], guard := some (8, true) } rfl (fun K hK => ?_)
  go_simp
  refine (fails_any _ _).mono ?_
  rintro e y2 ⟨b, rfl, hb, hl, hc⟩
  have HX3 := Lib.hid (bwithD HX2.out hb)
  have HC := Lib.hid hc
  have HL := Lib.hid hl
  refine hK _ _ HX3.out ?_
  clear hb hc hl hK K HX2
  try simp only [Act.put, List.setIfInBounds_toArray, List.set_cons_zero, List.set_cons_succ]
  refine wpMix_step { dst := some 250, op := Op.call { callee := Callee.value (Operand.func 25), args := #[Operand.const (Value.string { data := #[] }), Operand.const (Value.int IntKind.i64 65537)], argTypes := #[9, 3] }, type := 24, pos := "outright.go:110", after := #[{ on := 9, ground := Ground.chain }, { on := 8, ground := Ground.guard }], guard := some (8, true) } rfl (fun K hK => ?_)
  go_simp
  refine (kx33 _).mono ?_
  rintro e y3 ⟨rfl, hb⟩
  have HX4 := Lib.hid (bwithD HX3.out hb)
  have HD := Lib.hid ((hb.block b HL.out).trans HC.out)
  refine hK _ _ HX4.out ?_
  clear hb HC HL hK K HX3
  try simp only [Act.put, List.setIfInBounds_toArray, List.set_cons_zero, List.set_cons_succ]
  refine wpMix_take { dst := some 251, op := Op.extract (Operand.tmp 250) 0, type := 9, pos := "outright.go:110", after := #[{ on := 10, ground := Ground.data }, { on := 8, ground := Ground.guard }], guard := some (8, true) } ?_ rfl (Or.inl ⟨by rfl, ?_⟩) ?_
  rotate_left 1
  · intro w hSw; go_simp <;> with_reducible rfl
  try simp only [Act.put, List.setIfInBounds_toArray, List.set_cons_zero, List.set_cons_succ]
  refine wpMix_take { dst := some 252, op := Op.extract (Operand.tmp 250) 1, type := 23, pos := "outright.go:110", after := #[{ on := 10, ground := Ground.data }, { on := 8, ground := Ground.guard }], guard := some (8, true) } ?_ rfl (Or.inl ⟨by rfl, ?_⟩) ?_
  rotate_left 1
  · intro w hSw; go_simp <;> with_reducible rfl
  try simp only [Act.put, List.setIfInBounds_toArray, List.set_cons_zero, List.set_cons_succ]
  refine wpMix_step { dst := some 253, op := Op.call { callee := Callee.value (Operand.tmp 249), args := #[Operand.tmp 251, Operand.tmp 252], argTypes := #[9, 23] }, type := 4, pos := "outright.go:110", after := #[{ on := 9, ground := Ground.data }, { on := 11, ground := Ground.data }, { on := 12, ground := Ground.data }, { on := 10, ground := Ground.chain }, { on := 8, ground := Ground.guard }], guard := some (8, true) } rfl (fun K hK => ?_)
  go_simp
  refine (fails1_yes _ _ _ HD.out).mono ?_
  rintro e y4 ⟨rfl, rfl⟩
  refine hK _ _ HX4.out ?_
  clear hK K HD
  try simp only [Act.put, List.setIfInBounds_toArray, List.set_cons_zero, List.set_cons_succ]
  refine wpMix_take { dst := some 254, op := Op.pick (Operand.tmp 248) (Operand.tmp 253) (Operand.const (Value.bool false)), type := 4, pos := "outright.go:110", after := #[{ on := 8, ground := Ground.data }, { on := 13, ground := Ground.data }], guard := none } ?_ rfl (Or.inl ⟨by rfl, ?_⟩) ?_
  rotate_left 1
  · intro w hSw; go_simp <;> with_reducible rfl
  try simp only [Act.put, List.setIfInBounds_toArray, List.set_cons_zero, List.set_cons_succ]
  refine wpMix_take { dst := some 255, op := Op.move (Operand.tmp 254), type := 4, pos := "outright.go:110", after := #[{ on := 14, ground := Ground.data }, { on := 13, ground := Ground.chain }], guard := none } ?_ rfl (Or.inl ⟨by rfl, ?_⟩) ?_
  rotate_left 1
  · intro w hSw; go_simp <;> with_reducible rfl
  try simp only [Act.put, List.setIfInBounds_toArray, List.set_cons_zero, List.set_cons_succ]
  refine wpMix_step { dst := some 256, op := Op.call { callee := Callee.value (Operand.func 32), args := #[Operand.const (Value.int IntKind.i64 5)], argTypes := #[23] }, type := 26, pos := "outright.go:110", after := #[{ on := 15, ground := Ground.chain }, { on := 15, ground := Ground.guard }], guard := some (15, true) } rfl (fun K hK => ?_)
  go_simp
  refine (fails_any _ _).mono ?_
  rintro e y4 ⟨b, rfl, hb, hl, hc⟩
  have HX5 := Lib.hid (bwithD HX4.out hb)
  have HC := Lib.hid hc
  have HL := Lib.hid hl
  refine hK _ _ HX5.out ?_
  clear hb hc hl hK K HX4
  try simp only [Act.put, List.setIfInBounds_toArray, List.set_cons_zero, List.set_cons_succ]
  refine wpMix_step { dst := some 257, op := Op.call { callee := Callee.value (Operand.func 25), args := #[Operand.const (Value.string { data := #[10, 97, 98] }), Operand.const (Value.int IntKind.i64 1)], argTypes := #[9, 3] }, type := 24, pos := "outright.go:110", after := #[{ on := 16, ground := Ground.chain }, { on := 15, ground := Ground.guard }], guard := some (15, true) } rfl (fun K hK => ?_)
  go_simp
  refine (kx34 _).mono ?_
  rintro e y5 ⟨rfl, hb⟩
  have HX6 := Lib.hid (bwithD HX5.out hb)
  have HD := Lib.hid ((hb.block b HL.out).trans HC.out)
  refine hK _ _ HX6.out ?_
  clear hb HC HL hK K HX5
  try simp only [Act.put, List.setIfInBounds_toArray, List.set_cons_zero, List.set_cons_succ]
  refine wpMix_take { dst := some 258, op := Op.extract (Operand.tmp 257) 0, type := 9, pos := "outright.go:110", after := #[{ on := 17, ground := Ground.data }, { on := 15, ground := Ground.guard }], guard := some (15, true) } ?_ rfl (Or.inl ⟨by rfl, ?_⟩) ?_
  rotate_left 1
  · intro w hSw; go_simp <;> with_reducible rfl
  try simp only [Act.put, List.setIfInBounds_toArray, List.set_cons_zero, List.set_cons_succ]
  refine wpMix_take { dst := some 259, op := Op.extract (Operand.tmp 257) 1, type := 23, pos := "outright.go:110", after := #[{ on := 17, ground := Ground.data }, { on := 15, ground := Ground.guard }], guard := some (15, true) } ?_ rfl (Or.inl ⟨by rfl, ?_⟩) ?_
  rotate_left 1
  · intro w hSw; go_simp <;> with_reducible rfl
  try simp only [Act.put, List.setIfInBounds_toArray, List.set_cons_zero, List.set_cons_succ]
  refine wpMix_step { dst := some 260, op := Op.call { callee := Callee.value (Operand.tmp 256), args := #[Operand.tmp 258, Operand.tmp 259], argTypes := #[9, 23] }, type := 4, pos := "outright.go:110", after := #[{ on := 16, ground := Ground.data }, { on := 18, ground := Ground.data }, { on := 19, ground := Ground.data }, { on := 17, ground := Ground.chain }, { on := 15, ground := Ground.guard }], guard := some (15, true) } rfl (fun K hK => ?_)
  go_simp
  refine (fails1_yes _ _ _ HD.out).mono ?_
  rintro e y6 ⟨rfl, rfl⟩
  refine hK _ _ HX6.out ?_
  clear hK K HD
  try simp only [Act.put, List.setIfInBounds_toArray, List.set_cons_zero, List.set_cons_succ]
  refine wpMix_take { dst := some 261, op := Op.pick (Operand.tmp 255) (Operand.tmp 260) (Operand.const (Value.bool false)), type := 4, pos := "outright.go:110", after := #[{ on := 15, ground := Ground.data }, { on := 20, ground := Ground.data }], guard := none } ?_ rfl (Or.inl ⟨by rfl, ?_⟩) ?_
  rotate_left 1
  · intro w hSw; go_simp <;> with_reducible rfl
  try simp only [Act.put, List.setIfInBounds_toArray, List.set_cons_zero, List.set_cons_succ]
  refine wpMix_take { dst := some 262, op := Op.move (Operand.tmp 261), type := 4, pos := "outright.go:110", after := #[{ on := 21, ground := Ground.data }, { on := 20, ground := Ground.chain }], guard := none } ?_ rfl (Or.inl ⟨by rfl, ?_⟩) ?_
  rotate_left 1
  · intro w hSw; go_simp <;> with_reducible rfl
  try simp only [Act.put, List.setIfInBounds_toArray, List.set_cons_zero, List.set_cons_succ]
  refine wpMix_step { dst := some 263, op := Op.call { callee := Callee.value (Operand.func 9), args := #[Operand.const (Value.string { data := #[] })], argTypes := #[9] }, type := 26, pos := "outright.go:110", after := #[{ on := 22, ground := Ground.chain }, { on := 22, ground := Ground.guard }], guard := some (22, true) } rfl (fun K hK => ?_)
  go_simp
  refine (is_any _ _).mono ?_
  rintro e y6 ⟨b, rfl, hb, hl, hc⟩
  have HX7 := Lib.hid (bwithD HX6.out hb)
  have HC := Lib.hid hc
  have HL := Lib.hid hl
  refine hK _ _ HX7.out ?_
  clear hb hc hl hK K HX6
  try simp only [Act.put, List.setIfInBounds_toArray, List.set_cons_zero, List.set_cons_succ]
  refine wpMix_step { dst := some 264, op := Op.call { callee := Callee.value (Operand.func 25), args := #[Operand.const (Value.string { data := #[] }), Operand.const (Value.int IntKind.i64 0)], argTypes := #[9, 3] }, type := 24, pos := "outright.go:110", after := #[{ on := 23, ground := Ground.chain }, { on := 22, ground := Ground.guard }], guard := some (22, true) } rfl (fun K hK => ?_)
  go_simp
  refine (kx35 _).mono ?_
  rintro e y7 ⟨rfl, hb⟩
  have HX8 := Lib.hid (bwithD HX7.out hb)
  have HD := Lib.hid ((hb.block b HL.out).trans HC.out)
  refine hK _ _ HX8.out ?_
  clear hb HC HL hK K HX7
  try simp only [Act.put, List.setIfInBounds_toArray, List.set_cons_zero, List.set_cons_succ]
  refine wpMix_take { dst := some 265, op := Op.extract (Operand.tmp 264) 0, type := 9, pos := "outright.go:110", after := #[{ on := 24, ground := Ground.data }, { on := 22, ground := Ground.guard }], guard := some (22, true) } ?_ rfl (Or.inl ⟨by rfl, ?_⟩) ?_
  rotate_left 1
  · intro w hSw; go_simp <;> with_reducible rfl
  try simp only [Act.put, List.setIfInBounds_toArray, List.set_cons_zero, List.set_cons_succ]
  refine wpMix_take { dst := some 266, op := Op.extract (Operand.tmp 264) 1, type := 23, pos := "outright.go:110", after := #[{ on := 24, ground := Ground.data }, { on := 22, ground := Ground.guard }], guard := some (22, true) } ?_ rfl (Or.inl ⟨by rfl, ?_⟩) ?_
  rotate_left 1
  · intro w hSw; go_simp <;> with_reducible rfl
  try simp only [Act.put, List.setIfInBounds_toArray, List.set_cons_zero, List.set_cons_succ]
  refine wpMix_step { dst := some 267, op := Op.call { callee := Callee.value (Operand.tmp 263), args := #[Operand.tmp 265, Operand.tmp 266], argTypes := #[9, 23] }, type := 4, pos := "outright.go:110", after := #[{ on := 23, ground := Ground.data }, { on := 25, ground := Ground.data }, { on := 26, ground := Ground.data }, { on := 24, ground := Ground.chain }, { on := 22, ground := Ground.guard }], guard := some (22, true) } rfl (fun K hK => ?_)
  go_simp
  refine (is1_yes _ _ _ HD.out).mono ?_
  rintro e y8 ⟨rfl, rfl⟩
  refine hK _ _ HX8.out ?_
  clear hK K HD
  try simp only [Act.put, List.setIfInBounds_toArray, List.set_cons_zero, List.set_cons_succ]
  refine wpMix_take { dst := some 268, op := Op.pick (Operand.tmp 262) (Operand.tmp 267) (Operand.const (Value.bool false)), type := 4, pos := "outright.go:110", after := #[{ on := 22, ground := Ground.data }, { on := 27, ground := Ground.data }], guard := none } ?_ rfl (Or.inl ⟨by rfl, ?_⟩) ?_
  rotate_left 1
  · intro w hSw; go_simp <;> with_reducible rfl
  try simp only [Act.put, List.setIfInBounds_toArray, List.set_cons_zero, List.set_cons_succ]
  refine wpMix_take { dst := some 269, op := Op.move (Operand.tmp 268), type := 4, pos := "outright.go:110", after := #[{ on := 28, ground := Ground.data }, { on := 27, ground := Ground.chain }], guard := none } ?_ rfl (Or.inl ⟨by rfl, ?_⟩) ?_
  rotate_left 1
  · intro w hSw; go_simp <;> with_reducible rfl
  try simp only [Act.put, List.setIfInBounds_toArray, List.set_cons_zero, List.set_cons_succ]
  refine wpMix_take { dst := some 270, op := Op.move (Operand.tmp 1), type := 9, pos := "outright.go:110", after := #[{ on := 29, ground := Ground.guard }], guard := some (29, true) } ?_ rfl (Or.inl ⟨by rfl, ?_⟩) ?_
  rotate_left 1
  · intro w hSw; go_simp <;> with_reducible rfl
  try simp only [Act.put, List.setIfInBounds_toArray, List.set_cons_zero, List.set_cons_succ]
  refine wpMix_take { dst := some 272, op := Op.move (Operand.tmp 1), type := 9, pos := "outright.go:110", after := #[{ on := 29, ground := Ground.guard }], guard := some (29, true) } ?_ rfl (Or.inl ⟨by rfl, ?_⟩) ?_
  rotate_left 1
  · intro w hSw; go_simp <;> with_reducible rfl
  try simp only [Act.put, List.setIfInBounds_toArray, List.set_cons_zero, List.set_cons_succ]
  refine wpMix_step { dst := some 271, op := Op.call { callee := Callee.value (Operand.func 9), args := #[Operand.tmp 270], argTypes := #[9] }, type := 26, pos := "outright.go:110", after := #[{ on := 30, ground := Ground.data }, { on := 29, ground := Ground.chain }, { on := 29, ground := Ground.guard }], guard := some (29, true) } rfl (fun K hK => ?_)
  go_simp
  refine (is_any _ _).mono ?_
  rintro e y8 ⟨b, rfl, hb, hl, hc⟩
  have HX9 := Lib.hid (bwithD HX8.out hb)
  have HC := Lib.hid hc
  have HL := Lib.hid hl
  refine hK _ _ HX9.out ?_
  clear hb hc hl hK K HX8
  try simp only [Act.put, List.setIfInBounds_toArray, List.set_cons_zero, List.set_cons_succ]
  refine wpMix_step { dst := some 273, op := Op.call { callee := Callee.value (Operand.func 25), args := #[Operand.tmp 272, Operand.const (Value.int IntKind.i64 65536)], argTypes := #[9, 3] }, type := 24, pos := "outright.go:110", after := #[{ on := 32, ground := Ground.data }, { on := 31, ground := Ground.chain }, { on := 29, ground := Ground.guard }], guard := some (29, true) } rfl (fun K hK => ?_)
  go_simp
  refine (kx36 F HF.out _).mono ?_
  rintro e y9 ⟨rfl, hb⟩
  have HX10 := Lib.hid (bwithD HX9.out hb)
  have HD := Lib.hid ((hb.block b HL.out).trans HC.out)
  refine hK _ _ HX10.out ?_
  clear hb HC HL hK K HX9
  try simp only [Act.put, List.setIfInBounds_toArray, List.set_cons_zero, List.set_cons_succ]
  refine wpMix_take { dst := some 274, op := Op.extract (Operand.tmp 273) 0, type := 9, pos := "outright.go:110", after := #[{ on := 33, ground := Ground.data }, { on := 29, ground := Ground.guard }], guard := some (29, true) } ?_ rfl (Or.inl ⟨by rfl, ?_⟩) ?_
  rotate_left 1
  · intro w hSw; go_simp <;> with_reducible rfl
  try simp only [Act.put, List.setIfInBounds_toArray, List.set_cons_zero, List.set_cons_succ]
  refine wpMix_take { dst := some 275, op := Op.extract (Operand.tmp 273) 1, type := 23, pos := "outright.go:110", after := #[{ on := 33, ground := Ground.data }, { on := 29, ground := Ground.guard }], guard := some (29, true) } ?_ rfl (Or.inl ⟨by rfl, ?_⟩) ?_
  rotate_left 1
  · intro w hSw; go_simp <;> with_reducible rfl
  try simp only [Act.put, List.setIfInBounds_toArray, List.set_cons_zero, List.set_cons_succ]
  refine wpMix_step { dst := some 276, op := Op.call { callee := Callee.value (Operand.tmp 271), args := #[Operand.tmp 274, Operand.tmp 275], argTypes := #[9, 23] }, type := 4, pos := "outright.go:110", after := #[{ on := 31, ground := Ground.data }, { on := 34, ground := Ground.data }, { on := 35, ground := Ground.data }, { on := 33, ground := Ground.chain }, { on := 29, ground := Ground.guard }], guard := some (29, true) } rfl (fun K hK => ?_)
  go_simp
  refine (is1_yes _ _ _ HD.out).mono ?_
  rintro e y10 ⟨rfl, rfl⟩
  refine hK _ _ HX10.out ?_
  clear hK K HD
  try simp only [Act.put, List.setIfInBounds_toArray, List.set_cons_zero, List.set_cons_succ]
  refine wpMix_take { dst := some 277, op := Op.pick (Operand.tmp 269) (Operand.tmp 276) (Operand.const (Value.bool false)), type := 4, pos := "outright.go:110", after := #[{ on := 29, ground := Ground.data }, { on := 36, ground := Ground.data }], guard := none } ?_ rfl (Or.inl ⟨by rfl, ?_⟩) ?_
  rotate_left 1
  · intro w hSw; go_simp <;> with_reducible rfl
  try simp only [Act.put, List.setIfInBounds_toArray, List.set_cons_zero, List.set_cons_succ]
  refine wpMix_take { dst := some 278, op := Op.move (Operand.tmp 277), type := 4, pos := "outright.go:110", after := #[{ on := 37, ground := Ground.data }, { on := 36, ground := Ground.chain }], guard := none } ?_ rfl (Or.inl ⟨by rfl, ?_⟩) ?_
  rotate_left 1
  · intro w hSw; go_simp <;> with_reducible rfl
  try simp only [Act.put, List.setIfInBounds_toArray, List.set_cons_zero, List.set_cons_succ]
  refine wpMix_take { dst := some 280, op := Op.move (Operand.tmp 1), type := 9, pos := "outright.go:110", after := #[{ on := 38, ground := Ground.guard }], guard := some (38, true) } ?_ rfl (Or.inl ⟨by rfl, ?_⟩) ?_
  rotate_left 1
  · intro w hSw; go_simp <;> with_reducible rfl
  try simp only [Act.put, List.setIfInBounds_toArray, List.set_cons_zero, List.set_cons_succ]
  refine wpMix_take { dst := some 281, op := Op.binOp BinOp.add 9 (Operand.tmp 280) (Operand.const (Value.string { data := #[97] })) 9, type := 9, pos := "outright.go:110", after := #[{ on := 40, ground := Ground.data }, { on := 38, ground := Ground.guard }], guard := some (38, true) } ?_ rfl (Or.inl ⟨by rfl, ?_⟩) ?_
  rotate_left 1
  · intro w hSw; go_simp <;> with_reducible rfl
  try simp only [Act.put, List.setIfInBounds_toArray, List.set_cons_zero, List.set_cons_succ]
  refine wpMix_step { dst := some 279, op := Op.call { callee := Callee.value (Operand.func 32), args := #[Operand.const (Value.int IntKind.i64 3)], argTypes := #[23] }, type := 26, pos := "outright.go:110", after := #[{ on := 38, ground := Ground.chain }, { on := 38, ground := Ground.guard }], guard := some (38, true) } rfl (fun K hK => ?_)
  go_simp
  refine (fails_any _ _).mono ?_
  rintro e y10 ⟨b, rfl, hb, hl, hc⟩
  have HX11 := Lib.hid (bwithD HX10.out hb)
  have HC := Lib.hid hc
  have HL := Lib.hid hl
  refine hK _ _ HX11.out ?_
  clear hb hc hl hK K HX10
  try simp only [Act.put, List.setIfInBounds_toArray, List.set_cons_zero, List.set_cons_succ]
  refine wpMix_step { dst := some 282, op := Op.call { callee := Callee.value (Operand.func 13), args := #[Operand.tmp 281, Operand.const (Value.int IntKind.i64 0)], argTypes := #[9, 3] }, type := 24, pos := "outright.go:110", after := #[{ on := 41, ground := Ground.data }, { on := 39, ground := Ground.chain }, { on := 38, ground := Ground.guard }], guard := some (38, true) } rfl (fun K hK => ?_)
  go_simp
  refine (kx37 G HG.out _).mono ?_
  rintro e y11 ⟨rfl, hb⟩
  have HX12 := Lib.hid (bwithD HX11.out hb)
  have HD := Lib.hid ((hb.block b HL.out).trans HC.out)
  refine hK _ _ HX12.out ?_
  clear hb HC HL hK K HX11
  try simp only [Act.put, List.setIfInBounds_toArray, List.set_cons_zero, List.set_cons_succ]
  refine wpMix_take { dst := some 283, op := Op.extract (Operand.tmp 282) 0, type := 9, pos := "outright.go:110", after := #[{ on := 42, ground := Ground.data }, { on := 38, ground := Ground.guard }], guard := some (38, true) } ?_ rfl (Or.inl ⟨by rfl, ?_⟩) ?_
  rotate_left 1
  · intro w hSw; go_simp <;> with_reducible rfl
  try simp only [Act.put, List.setIfInBounds_toArray, List.set_cons_zero, List.set_cons_succ]
  refine wpMix_take { dst := some 284, op := Op.extract (Operand.tmp 282) 1, type := 23, pos := "outright.go:110", after := #[{ on := 42, ground := Ground.data }, { on := 38, ground := Ground.guard }], guard := some (38, true) } ?_ rfl (Or.inl ⟨by rfl, ?_⟩) ?_
  rotate_left 1
  · intro w hSw; go_simp <;> with_reducible rfl
  try simp only [Act.put, List.setIfInBounds_toArray, List.set_cons_zero, List.set_cons_succ]
  refine wpMix_step { dst := some 285, op := Op.call { callee := Callee.value (Operand.tmp 279), args := #[Operand.tmp 283, Operand.tmp 284], argTypes := #[9, 23] }, type := 4, pos := "outright.go:110", after := #[{ on := 39, ground := Ground.data }, { on := 43, ground := Ground.data }, { on := 44, ground := Ground.data }, { on := 42, ground := Ground.chain }, { on := 38, ground := Ground.guard }], guard := some (38, true) } rfl (fun K hK => ?_)
  go_simp
  refine (fails1_yes _ _ _ HD.out).mono ?_
  rintro e y12 ⟨rfl, rfl⟩
  refine hK _ _ HX12.out ?_
  clear hK K HD
  try simp only [Act.put, List.setIfInBounds_toArray, List.set_cons_zero, List.set_cons_succ]
  refine wpMix_take { dst := some 286, op := Op.pick (Operand.tmp 278) (Operand.tmp 285) (Operand.const (Value.bool false)), type := 4, pos := "outright.go:110", after := #[{ on := 38, ground := Ground.data }, { on := 45, ground := Ground.data }], guard := none } ?_ rfl (Or.inl ⟨by rfl, ?_⟩) ?_
  rotate_left 1
  · intro w hSw; go_simp <;> with_reducible rfl
  try simp only [Act.put, List.setIfInBounds_toArray, List.set_cons_zero, List.set_cons_succ]
  refine wpMix_take { dst := some 287, op := Op.move (Operand.tmp 286), type := 4, pos := "outright.go:110", after := #[{ on := 46, ground := Ground.data }, { on := 45, ground := Ground.chain }], guard := none } ?_ rfl (Or.inl ⟨by rfl, ?_⟩) ?_
  rotate_left 1
  · intro w hSw; go_simp <;> with_reducible rfl
  try simp only [Act.put, List.setIfInBounds_toArray, List.set_cons_zero, List.set_cons_succ]
  refine wpMix_take { dst := some 289, op := Op.move (Operand.tmp 1), type := 9, pos := "outright.go:110", after := #[{ on := 47, ground := Ground.guard }], guard := some (47, true) } ?_ rfl (Or.inl ⟨by rfl, ?_⟩) ?_
  rotate_left 1
  · intro w hSw; go_simp <;> with_reducible rfl
  try simp only [Act.put, List.setIfInBounds_toArray, List.set_cons_zero, List.set_cons_succ]
  refine wpMix_step { dst := some 288, op := Op.call { callee := Callee.value (Operand.func 32), args := #[Operand.const (Value.int IntKind.i64 2)], argTypes := #[23] }, type := 26, pos := "outright.go:110", after := #[{ on := 47, ground := Ground.chain }, { on := 47, ground := Ground.guard }], guard := some (47, true) } rfl (fun K hK => ?_)
  go_simp
  refine (fails_any _ _).mono ?_
  rintro e y12 ⟨b, rfl, hb, hl, hc⟩
  have HX13 := Lib.hid (bwithD HX12.out hb)
  have HC := Lib.hid hc
  have HL := Lib.hid hl
  refine hK _ _ HX13.out ?_
  clear hb hc hl hK K HX12
  try simp only [Act.put, List.setIfInBounds_toArray, List.set_cons_zero, List.set_cons_succ]
  refine wpMix_step { dst := some 290, op := Op.call { callee := Callee.value (Operand.func 13), args := #[Operand.tmp 289, Operand.const (Value.int IntKind.i64 0)], argTypes := #[9, 3] }, type := 24, pos := "outright.go:110", after := #[{ on := 49, ground := Ground.data }, { on := 48, ground := Ground.chain }, { on := 47, ground := Ground.guard }], guard := some (47, true) } rfl (fun K hK => ?_)
  go_simp
  refine (kx38 F HF.out _).mono ?_
  rintro e y13 ⟨rfl, hb⟩
  have HX14 := Lib.hid (bwithD HX13.out hb)
  have HD := Lib.hid ((hb.block b HL.out).trans HC.out)
  refine hK _ _ HX14.out ?_
  clear hb HC HL hK K HX13
  try simp only [Act.put, List.setIfInBounds_toArray, List.set_cons_zero, List.set_cons_succ]
  refine wpMix_take { dst := some 291, op := Op.extract (Operand.tmp 290) 0, type := 9, pos := "outright.go:110", after := #[{ on := 50, ground := Ground.data }, { on := 47, ground := Ground.guard }], guard := some (47, true) } ?_ rfl (Or.inl ⟨by rfl, ?_⟩) ?_
  rotate_left 1
  · intro w hSw; go_simp <;> with_reducible rfl
  try simp only [Act.put, List.setIfInBounds_toArray, List.set_cons_zero, List.set_cons_succ]
  refine wpMix_take { dst := some 292, op := Op.extract (Operand.tmp 290) 1, type := 23, pos := "outright.go:110", after := #[{ on := 50, ground := Ground.data }, { on := 47, ground := Ground.guard }], guard := some (47, true) } ?_ rfl (Or.inl ⟨by rfl, ?_⟩) ?_
  rotate_left 1
  · intro w hSw; go_simp <;> with_reducible rfl
  try simp only [Act.put, List.setIfInBounds_toArray, List.set_cons_zero, List.set_cons_succ]
  refine wpMix_step { dst := some 293, op := Op.call { callee := Callee.value (Operand.tmp 288), args := #[Operand.tmp 291, Operand.tmp 292], argTypes := #[9, 23] }, type := 4, pos := "outright.go:110", after := #[{ on := 48, ground := Ground.data }, { on := 51, ground := Ground.data }, { on := 52, ground := Ground.data }, { on := 50, ground := Ground.chain }, { on := 47, ground := Ground.guard }], guard := some (47, true) } rfl (fun K hK => ?_)
  go_simp
  refine (fails1_yes _ _ _ HD.out).mono ?_
  rintro e y14 ⟨rfl, rfl⟩
  refine hK _ _ HX14.out ?_
  clear hK K HD
  try simp only [Act.put, List.setIfInBounds_toArray, List.set_cons_zero, List.set_cons_succ]
  refine wpMix_take { dst := some 294, op := Op.pick (Operand.tmp 287) (Operand.tmp 293) (Operand.const (Value.bool false)), type := 4, pos := "outright.go:110", after := #[{ on := 47, ground := Ground.data }, { on := 53, ground := Ground.data }], guard := none } ?_ rfl (Or.inl ⟨by rfl, ?_⟩) ?_
  rotate_left 1
  · intro w hSw; go_simp <;> with_reducible rfl
  try simp only [Act.put, List.setIfInBounds_toArray, List.set_cons_zero, List.set_cons_succ]
  refine wpMix_take { dst := some 295, op := Op.move (Operand.tmp 294), type := 4, pos := "outright.go:110", after := #[{ on := 54, ground := Ground.data }, { on := 53, ground := Ground.chain }], guard := none } ?_ rfl (Or.inl ⟨by rfl, ?_⟩) ?_
  rotate_left 1
  · intro w hSw; go_simp <;> with_reducible rfl
  try simp only [Act.put, List.setIfInBounds_toArray, List.set_cons_zero, List.set_cons_succ]
  refine wpMix_step { dst := some 296, op := Op.call { callee := Callee.value (Operand.func 32), args := #[Operand.const (Value.int IntKind.i64 2)], argTypes := #[23] }, type := 26, pos := "outright.go:110", after := #[{ on := 55, ground := Ground.chain }, { on := 55, ground := Ground.guard }], guard := some (55, true) } rfl (fun K hK => ?_)
  go_simp
  refine (fails_any _ _).mono ?_
  rintro e y14 ⟨b, rfl, hb, hl, hc⟩
  have HX15 := Lib.hid (bwithD HX14.out hb)
  have HC := Lib.hid hc
  have HL := Lib.hid hl
  refine hK _ _ HX15.out ?_
  clear hb hc hl hK K HX14
  try simp only [Act.put, List.setIfInBounds_toArray, List.set_cons_zero, List.set_cons_succ]
  refine wpMix_step { dst := some 297, op := Op.call { callee := Callee.value (Operand.func 13), args := #[Operand.const (Value.string { data := #[] }), Operand.const (Value.int IntKind.i64 65)], argTypes := #[9, 3] }, type := 24, pos := "outright.go:110", after := #[{ on := 56, ground := Ground.chain }, { on := 55, ground := Ground.guard }], guard := some (55, true) } rfl (fun K hK => ?_)
  go_simp
  refine (kx39 _).mono ?_
  rintro e y15 ⟨rfl, hb⟩
  have HX16 := Lib.hid (bwithD HX15.out hb)
  have HD := Lib.hid ((hb.block b HL.out).trans HC.out)
  refine hK _ _ HX16.out ?_
  clear hb HC HL hK K HX15
  try simp only [Act.put, List.setIfInBounds_toArray, List.set_cons_zero, List.set_cons_succ]
  refine wpMix_take { dst := some 298, op := Op.extract (Operand.tmp 297) 0, type := 9, pos := "outright.go:110", after := #[{ on := 57, ground := Ground.data }, { on := 55, ground := Ground.guard }], guard := some (55, true) } ?_ rfl (Or.inl ⟨by rfl, ?_⟩) ?_
  rotate_left 1
  · intro w hSw; go_simp <;> with_reducible rfl
  try simp only [Act.put, List.setIfInBounds_toArray, List.set_cons_zero, List.set_cons_succ]
  refine wpMix_take { dst := some 299, op := Op.extract (Operand.tmp 297) 1, type := 23, pos := "outright.go:110", after := #[{ on := 57, ground := Ground.data }, { on := 55, ground := Ground.guard }], guard := some (55, true) } ?_ rfl (Or.inl ⟨by rfl, ?_⟩) ?_
  rotate_left 1
  · intro w hSw; go_simp <;> with_reducible rfl
  try simp only [Act.put, List.setIfInBounds_toArray, List.set_cons_zero, List.set_cons_succ]
  refine wpMix_step { dst := some 300, op := Op.call { callee := Callee.value (Operand.tmp 296), args := #[Operand.tmp 298, Operand.tmp 299], argTypes := #[9, 23] }, type := 4, pos := "outright.go:110", after := #[{ on := 56, ground := Ground.data }, { on := 58, ground := Ground.data }, { on := 59, ground := Ground.data }, { on := 57, ground := Ground.chain }, { on := 55, ground := Ground.guard }], guard := some (55, true) } rfl (fun K hK => ?_)
  go_simp
  refine (fails1_yes _ _ _ HD.out).mono ?_
  rintro e y16 ⟨rfl, rfl⟩
  refine hK _ _ HX16.out ?_
  clear hK K HD
  try simp only [Act.put, List.setIfInBounds_toArray, List.set_cons_zero, List.set_cons_succ]
  refine wpMix_take { dst := some 301, op := Op.pick (Operand.tmp 295) (Operand.tmp 300) (Operand.const (Value.bool false)), type := 4, pos := "outright.go:110", after := #[{ on := 55, ground := Ground.data }, { on := 60, ground := Ground.data }], guard := none } ?_ rfl (Or.inl ⟨by rfl, ?_⟩) ?_
  rotate_left 1
  · intro w hSw; go_simp <;> with_reducible rfl
  try simp only [Act.put, List.setIfInBounds_toArray, List.set_cons_zero, List.set_cons_succ]
  refine wpMix_take { dst := some 302, op := Op.move (Operand.tmp 301), type := 4, pos := "outright.go:110", after := #[{ on := 61, ground := Ground.data }, { on := 60, ground := Ground.chain }], guard := none } ?_ rfl (Or.inl ⟨by rfl, ?_⟩) ?_
  rotate_left 1
  · intro w hSw; go_simp <;> with_reducible rfl
  try simp only [Act.put, List.setIfInBounds_toArray, List.set_cons_zero, List.set_cons_succ]
  refine wpMix_take { dst := some 303, op := Op.move (Operand.tmp 1), type := 9, pos := "outright.go:110", after := #[{ on := 62, ground := Ground.guard }], guard := some (62, true) } ?_ rfl (Or.inl ⟨by rfl, ?_⟩) ?_
  rotate_left 1
  · intro w hSw; go_simp <;> with_reducible rfl
  try simp only [Act.put, List.setIfInBounds_toArray, List.set_cons_zero, List.set_cons_succ]
  refine wpMix_take { dst := some 305, op := Op.move (Operand.tmp 1), type := 9, pos := "outright.go:110", after := #[{ on := 62, ground := Ground.guard }], guard := some (62, true) } ?_ rfl (Or.inl ⟨by rfl, ?_⟩) ?_
  rotate_left 1
  · intro w hSw; go_simp <;> with_reducible rfl
  try simp only [Act.put, List.setIfInBounds_toArray, List.set_cons_zero, List.set_cons_succ]
  refine wpMix_step { dst := some 304, op := Op.call { callee := Callee.value (Operand.func 9), args := #[Operand.tmp 303], argTypes := #[9] }, type := 26, pos := "outright.go:110", after := #[{ on := 63, ground := Ground.data }, { on := 62, ground := Ground.chain }, { on := 62, ground := Ground.guard }], guard := some (62, true) } rfl (fun K hK => ?_)
  go_simp
  refine (is_any _ _).mono ?_
  rintro e y16 ⟨b, rfl, hb, hl, hc⟩
  have HX17 := Lib.hid (bwithD HX16.out hb)
  have HC := Lib.hid hc
  have HL := Lib.hid hl
  refine hK _ _ HX17.out ?_
  clear hb hc hl hK K HX16
  try simp only [Act.put, List.setIfInBounds_toArray, List.set_cons_zero, List.set_cons_succ]
  refine wpMix_step { dst := some 306, op := Op.call { callee := Callee.value (Operand.func 13), args := #[Operand.tmp 305, Operand.const (Value.int IntKind.i64 64)], argTypes := #[9, 3] }, type := 24, pos := "outright.go:110", after := #[{ on := 65, ground := Ground.data }, { on := 64, ground := Ground.chain }, { on := 62, ground := Ground.guard }], guard := some (62, true) } rfl (fun K hK => ?_)
  go_simp
  refine (kx40 F HF.out _).mono ?_
  rintro e y17 ⟨rfl, hb⟩
  have HX18 := Lib.hid (bwithD HX17.out hb)
  have HD := Lib.hid ((hb.block b HL.out).trans HC.out)
  refine hK _ _ HX18.out ?_
  clear hb HC HL hK K HX17
  try simp only [Act.put, List.setIfInBounds_toArray, List.set_cons_zero, List.set_cons_succ]
  refine wpMix_take { dst := some 307, op := Op.extract (Operand.tmp 306) 0, type := 9, pos := "outright.go:110", after := #[{ on := 66, ground := Ground.data }, { on := 62, ground := Ground.guard }], guard := some (62, true) } ?_ rfl (Or.inl ⟨by rfl, ?_⟩) ?_
  rotate_left 1
  · intro w hSw; go_simp <;> with_reducible rfl
  try simp only [Act.put, List.setIfInBounds_toArray, List.set_cons_zero, List.set_cons_succ]
  refine wpMix_take { dst := some 308, op := Op.extract (Operand.tmp 306) 1, type := 23, pos := "outright.go:110", after := #[{ on := 66, ground := Ground.data }, { on := 62, ground := Ground.guard }], guard := some (62, true) } ?_ rfl (Or.inl ⟨by rfl, ?_⟩) ?_
  rotate_left 1
  · intro w hSw; go_simp <;> with_reducible rfl
  try simp only [Act.put, List.setIfInBounds_toArray, List.set_cons_zero, List.set_cons_succ]
  refine wpMix_step { dst := some 309, op := Op.call { callee := Callee.value (Operand.tmp 304), args := #[Operand.tmp 307, Operand.tmp 308], argTypes := #[9, 23] }, type := 4, pos := "outright.go:110", after := #[{ on := 64, ground := Ground.data }, { on := 67, ground := Ground.data }, { on := 68, ground := Ground.data }, { on := 66, ground := Ground.chain }, { on := 62, ground := Ground.guard }], guard := some (62, true) } rfl (fun K hK => ?_)
  go_simp
  refine (is1_yes _ _ _ HD.out).mono ?_
  rintro e y18 ⟨rfl, rfl⟩
  refine hK _ _ HX18.out ?_
  clear hK K HD
  try simp only [Act.put, List.setIfInBounds_toArray, List.set_cons_zero, List.set_cons_succ]
  refine wpMix_take { dst := some 310, op := Op.pick (Operand.tmp 302) (Operand.tmp 309) (Operand.const (Value.bool false)), type := 4, pos := "outright.go:110", after := #[{ on := 62, ground := Ground.data }, { on := 69, ground := Ground.data }], guard := none } ?_ rfl (Or.inl ⟨by rfl, ?_⟩) ?_
  rotate_left 1
  · intro w hSw; go_simp <;> with_reducible rfl
  try simp only [Act.put, List.setIfInBounds_toArray, List.set_cons_zero, List.set_cons_succ]
  refine wpMix_take { dst := some 311, op := Op.move (Operand.tmp 310), type := 4, pos := "outright.go:110", after := #[{ on := 70, ground := Ground.data }, { on := 69, ground := Ground.chain }], guard := none } ?_ rfl (Or.inl ⟨by rfl, ?_⟩) ?_
  rotate_left 1
  · intro w hSw; go_simp <;> with_reducible rfl
  try simp only [Act.put, List.setIfInBounds_toArray, List.set_cons_zero, List.set_cons_succ]
  refine wpMix_take { dst := some 313, op := Op.move (Operand.tmp 1), type := 9, pos := "outright.go:110", after := #[{ on := 71, ground := Ground.guard }], guard := some (71, true) } ?_ rfl (Or.inl ⟨by rfl, ?_⟩) ?_
  rotate_left 1
  · intro w hSw; go_simp <;> with_reducible rfl
  try simp only [Act.put, List.setIfInBounds_toArray, List.set_cons_zero, List.set_cons_succ]
  refine wpMix_step { dst := some 312, op := Op.call { callee := Callee.value (Operand.func 32), args := #[Operand.const (Value.int IntKind.i64 3)], argTypes := #[23] }, type := 26, pos := "outright.go:110", after := #[{ on := 71, ground := Ground.chain }, { on := 71, ground := Ground.guard }], guard := some (71, true) } rfl (fun K hK => ?_)
  go_simp
  refine (fails_any _ _).mono ?_
  rintro e y18 ⟨b, rfl, hb, hl, hc⟩
  have HX19 := Lib.hid (bwithD HX18.out hb)
  have HC := Lib.hid hc
  have HL := Lib.hid hl
  refine hK _ _ HX19.out ?_
  clear hb hc hl hK K HX18
  try simp only [Act.put, List.setIfInBounds_toArray, List.set_cons_zero, List.set_cons_succ]
  refine wpMix_step { dst := some 314, op := Op.call { callee := Callee.value (Operand.func 13), args := #[Operand.tmp 313, Operand.const (Value.int IntKind.i64 63)], argTypes := #[9, 3] }, type := 24, pos := "outright.go:110", after := #[{ on := 73, ground := Ground.data }, { on := 72, ground := Ground.chain }, { on := 71, ground := Ground.guard }], guard := some (71, true) } rfl (fun K hK => ?_)
  go_simp
  refine (kx41 F HF.out _).mono ?_
  rintro e y19 ⟨rfl, hb⟩
  have HX20 := Lib.hid (bwithD HX19.out hb)
  have HD := Lib.hid ((hb.block b HL.out).trans HC.out)
  refine hK _ _ HX20.out ?_
  clear hb HC HL hK K HX19
  try simp only [Act.put, List.setIfInBounds_toArray, List.set_cons_zero, List.set_cons_succ]
  refine wpMix_take { dst := some 315, op := Op.extract (Operand.tmp 314) 0, type := 9, pos := "outright.go:110", after := #[{ on := 74, ground := Ground.data }, { on := 71, ground := Ground.guard }], guard := some (71, true) } ?_ rfl (Or.inl ⟨by rfl, ?_⟩) ?_
  rotate_left 1
  · intro w hSw; go_simp <;> with_reducible rfl
  try simp only [Act.put, List.setIfInBounds_toArray, List.set_cons_zero, List.set_cons_succ]
  refine wpMix_take { dst := some 316, op := Op.extract (Operand.tmp 314) 1, type := 23, pos := "outright.go:110", after := #[{ on := 74, ground := Ground.data }, { on := 71, ground := Ground.guard }], guard := some (71, true) } ?_ rfl (Or.inl ⟨by rfl, ?_⟩) ?_
  rotate_left 1
  · intro w hSw; go_simp <;> with_reducible rfl
  try simp only [Act.put, List.setIfInBounds_toArray, List.set_cons_zero, List.set_cons_succ]
  refine wpMix_step { dst := some 317, op := Op.call { callee := Callee.value (Operand.tmp 312), args := #[Operand.tmp 315, Operand.tmp 316], argTypes := #[9, 23] }, type := 4, pos := "outright.go:110", after := #[{ on := 72, ground := Ground.data }, { on := 75, ground := Ground.data }, { on := 76, ground := Ground.data }, { on := 74, ground := Ground.chain }, { on := 71, ground := Ground.guard }], guard := some (71, true) } rfl (fun K hK => ?_)
  go_simp
  refine (fails1_yes _ _ _ HD.out).mono ?_
  rintro e y20 ⟨rfl, rfl⟩
  refine hK _ _ HX20.out ?_
  clear hK K HD
  try simp only [Act.put, List.setIfInBounds_toArray, List.set_cons_zero, List.set_cons_succ]
  refine wpMix_take { dst := some 318, op := Op.pick (Operand.tmp 311) (Operand.tmp 317) (Operand.const (Value.bool false)), type := 4, pos := "outright.go:110", after := #[{ on := 71, ground := Ground.data }, { on := 77, ground := Ground.data }], guard := none } ?_ rfl (Or.inl ⟨by rfl, ?_⟩) ?_
  rotate_left 1
  · intro w hSw; go_simp <;> with_reducible rfl
  try simp only [Act.put, List.setIfInBounds_toArray, List.set_cons_zero, List.set_cons_succ]
  refine wpMix_take { dst := some 319, op := Op.move (Operand.tmp 318), type := 4, pos := "outright.go:110", after := #[{ on := 78, ground := Ground.data }, { on := 77, ground := Ground.chain }], guard := none } ?_ rfl (Or.inl ⟨by rfl, ?_⟩) ?_
  rotate_left 1
  · intro w hSw; go_simp <;> with_reducible rfl
  try simp only [Act.put, List.setIfInBounds_toArray, List.set_cons_zero, List.set_cons_succ]
  refine wpMix_step { dst := some 320, op := Op.call { callee := Callee.value (Operand.func 9), args := #[Operand.const (Value.string { data := #[] })], argTypes := #[9] }, type := 26, pos := "outright.go:110", after := #[{ on := 79, ground := Ground.chain }, { on := 79, ground := Ground.guard }], guard := some (79, true) } rfl (fun K hK => ?_)
  go_simp
  refine (is_any _ _).mono ?_
  rintro e y20 ⟨b, rfl, hb, hl, hc⟩
  have HX21 := Lib.hid (bwithD HX20.out hb)
  have HC := Lib.hid hc
  have HL := Lib.hid hl
  refine hK _ _ HX21.out ?_
  clear hb hc hl hK K HX20
  try simp only [Act.put, List.setIfInBounds_toArray, List.set_cons_zero, List.set_cons_succ]
  refine wpMix_step { dst := some 321, op := Op.call { callee := Callee.value (Operand.func 13), args := #[Operand.const (Value.string { data := #[] }), Operand.const (Value.int IntKind.i64 64)], argTypes := #[9, 3] }, type := 24, pos := "outright.go:110", after := #[{ on := 80, ground := Ground.chain }, { on := 79, ground := Ground.guard }], guard := some (79, true) } rfl (fun K hK => ?_)
  go_simp
  refine (kx42 _).mono ?_
  rintro e y21 ⟨rfl, hb⟩
  have HX22 := Lib.hid (bwithD HX21.out hb)
  have HD := Lib.hid ((hb.block b HL.out).trans HC.out)
  refine hK _ _ HX22.out ?_
  clear hb HC HL hK K HX21
  try simp only [Act.put, List.setIfInBounds_toArray, List.set_cons_zero, List.set_cons_succ]
  refine wpMix_take { dst := some 322, op := Op.extract (Operand.tmp 321) 0, type := 9, pos := "outright.go:110", after := #[{ on := 81, ground := Ground.data }, { on := 79, ground := Ground.guard }], guard := some (79, true) } ?_ rfl (Or.inl ⟨by rfl, ?_⟩) ?_
  rotate_left 1
  · intro w hSw; go_simp <;> with_reducible rfl
  try simp only [Act.put, List.setIfInBounds_toArray, List.set_cons_zero, List.set_cons_succ]
  refine wpMix_take { dst := some 323, op := Op.extract (Operand.tmp 321) 1, type := 23, pos := "outright.go:110", after := #[{ on := 81, ground := Ground.data }, { on := 79, ground := Ground.guard }], guard := some (79, true) } ?_ rfl (Or.inl ⟨by rfl, ?_⟩) ?_
  rotate_left 1
  · intro w hSw; go_simp <;> with_reducible rfl
  try simp only [Act.put, List.setIfInBounds_toArray, List.set_cons_zero, List.set_cons_succ]
  refine wpMix_step { dst := some 324, op := Op.call { callee := Callee.value (Operand.tmp 320), args := #[Operand.tmp 322, Operand.tmp 323], argTypes := #[9, 23] }, type := 4, pos := "outright.go:110", after := #[{ on := 80, ground := Ground.data }, { on := 82, ground := Ground.data }, { on := 83, ground := Ground.data }, { on := 81, ground := Ground.chain }, { on := 79, ground := Ground.guard }], guard := some (79, true) } rfl (fun K hK => ?_)
  go_simp
  refine (is1_yes _ _ _ HD.out).mono ?_
  rintro e y22 ⟨rfl, rfl⟩
  refine hK _ _ HX22.out ?_
  clear hK K HD
  try simp only [Act.put, List.setIfInBounds_toArray, List.set_cons_zero, List.set_cons_succ]
  refine wpMix_take { dst := some 325, op := Op.pick (Operand.tmp 319) (Operand.tmp 324) (Operand.const (Value.bool false)), type := 4, pos := "outright.go:110", after := #[{ on := 79, ground := Ground.data }, { on := 84, ground := Ground.data }], guard := none } ?_ rfl (Or.inl ⟨by rfl, ?_⟩) ?_
  rotate_left 1
  · intro w hSw; go_simp <;> with_reducible rfl
  try simp only [Act.put, List.setIfInBounds_toArray, List.set_cons_zero, List.set_cons_succ]
  refine wpMix_take { dst := some 326, op := Op.move (Operand.tmp 325), type := 4, pos := "outright.go:110", after := #[{ on := 85, ground := Ground.data }, { on := 84, ground := Ground.chain }], guard := none } ?_ rfl (Or.inl ⟨by rfl, ?_⟩) ?_
  rotate_left 1
  · intro w hSw; go_simp <;> with_reducible rfl
  try simp only [Act.put, List.setIfInBounds_toArray, List.set_cons_zero, List.set_cons_succ]
  refine wpMix_take { dst := some 327, op := Op.move (Operand.tmp 1), type := 9, pos := "outright.go:110", after := #[{ on := 86, ground := Ground.guard }], guard := some (86, true) } ?_ rfl (Or.inl ⟨by rfl, ?_⟩) ?_
  rotate_left 1
  · intro w hSw; go_simp <;> with_reducible rfl
  try simp only [Act.put, List.setIfInBounds_toArray, List.set_cons_zero, List.set_cons_succ]
  refine wpMix_take { dst := some 328, op := Op.slice 9 (Operand.tmp 327) none (some (Operand.const (Value.int IntKind.i64 65533))) none, type := 9, pos := "outright.go:110", after := #[{ on := 87, ground := Ground.data }, { on := 86, ground := Ground.guard }], guard := some (86, true) } ?_ rfl (Or.inl ⟨by rfl, ?_⟩) ?_
  rotate_left 1
  · intro w hSw; go_simp <;> with_reducible rfl
  try simp only [Act.put, List.setIfInBounds_toArray, List.set_cons_zero, List.set_cons_succ]
  refine wpMix_take { dst := some 329, op := Op.binOp BinOp.add 9 (Operand.tmp 328) (Operand.const (Value.string { data := #[0, 0, 0] })) 9, type := 9, pos := "outright.go:110", after := #[{ on := 88, ground := Ground.data }, { on := 86, ground := Ground.guard }], guard := some (86, true) } ?_ rfl (Or.inl ⟨by rfl, ?_⟩) ?_
  rotate_left 1
  · intro w hSw; go_simp <;> with_reducible rfl
  try simp only [Act.put, List.setIfInBounds_toArray, List.set_cons_zero, List.set_cons_succ]
  refine wpMix_take { dst := some 331, op := Op.move (Operand.tmp 1), type := 9, pos := "outright.go:110", after := #[{ on := 86, ground := Ground.guard }], guard := some (86, true) } ?_ rfl (Or.inl ⟨by rfl, ?_⟩) ?_
  rotate_left 1
  · intro w hSw; go_simp <;> with_reducible rfl
  try simp only [Act.put, List.setIfInBounds_toArray, List.set_cons_zero, List.set_cons_succ]
  refine wpMix_take { dst := some 332, op := Op.slice 9 (Operand.tmp 331) none (some (Operand.const (Value.int IntKind.i64 65533))) none, type := 9, pos := "outright.go:110", after := #[{ on := 91, ground := Ground.data }, { on := 86, ground := Ground.guard }], guard := some (86, true) } ?_ rfl (Or.inl ⟨by rfl, ?_⟩) ?_
  rotate_left 1
  · intro w hSw; go_simp <;> with_reducible rfl
  try simp only [Act.put, List.setIfInBounds_toArray, List.set_cons_zero, List.set_cons_succ]
  refine wpMix_step { dst := some 330, op := Op.call { callee := Callee.value (Operand.func 9), args := #[Operand.tmp 329], argTypes := #[9] }, type := 26, pos := "outright.go:110", after := #[{ on := 89, ground := Ground.data }, { on := 86, ground := Ground.chain }, { on := 86, ground := Ground.guard }], guard := some (86, true) } rfl (fun K hK => ?_)
  go_simp
  refine (is_any _ _).mono ?_
  rintro e y22 ⟨b, rfl, hb, hl, hc⟩
  have HX23 := Lib.hid (bwithD HX22.out hb)
  have HC := Lib.hid hc
  have HL := Lib.hid hl
  refine hK _ _ HX23.out ?_
  clear hb hc hl hK K HX22
  try simp only [Act.put, List.setIfInBounds_toArray, List.set_cons_zero, List.set_cons_succ]
  refine wpMix_step { dst := some 333, op := Op.call { callee := Callee.value (Operand.func 13), args := #[Operand.tmp 332, Operand.const (Value.int IntKind.i64 4)], argTypes := #[9, 3] }, type := 24, pos := "outright.go:110", after := #[{ on := 92, ground := Ground.data }, { on := 90, ground := Ground.chain }, { on := 86, ground := Ground.guard }], guard := some (86, true) } rfl (fun K hK => ?_)
  go_simp
  refine (kx43 H K0 HH.out HK.out _).mono ?_
  rintro e y23 ⟨rfl, hb⟩
  have HX24 := Lib.hid (bwithD HX23.out hb)
  have HD := Lib.hid ((hb.block b HL.out).trans HC.out)
  refine hK _ _ HX24.out ?_
  clear hb HC HL hK K HX23
  try simp only [Act.put, List.setIfInBounds_toArray, List.set_cons_zero, List.set_cons_succ]
  refine wpMix_take { dst := some 334, op := Op.extract (Operand.tmp 333) 0, type := 9, pos := "outright.go:110", after := #[{ on := 93, ground := Ground.data }, { on := 86, ground := Ground.guard }], guard := some (86, true) } ?_ rfl (Or.inl ⟨by rfl, ?_⟩) ?_
  rotate_left 1
  · intro w hSw; go_simp <;> with_reducible rfl
  try simp only [Act.put, List.setIfInBounds_toArray, List.set_cons_zero, List.set_cons_succ]
  refine wpMix_take { dst := some 335, op := Op.extract (Operand.tmp 333) 1, type := 23, pos := "outright.go:110", after := #[{ on := 93, ground := Ground.data }, { on := 86, ground := Ground.guard }], guard := some (86, true) } ?_ rfl (Or.inl ⟨by rfl, ?_⟩) ?_
  rotate_left 1
  · intro w hSw; go_simp <;> with_reducible rfl
  try simp only [Act.put, List.setIfInBounds_toArray, List.set_cons_zero, List.set_cons_succ]
  refine wpMix_step { dst := some 336, op := Op.call { callee := Callee.value (Operand.tmp 330), args := #[Operand.tmp 334, Operand.tmp 335], argTypes := #[9, 23] }, type := 4, pos := "outright.go:110", after := #[{ on := 90, ground := Ground.data }, { on := 94, ground := Ground.data }, { on := 95, ground := Ground.data }, { on := 93, ground := Ground.chain }, { on := 86, ground := Ground.guard }], guard := some (86, true) } rfl (fun K hK => ?_)
  go_simp
  refine (is1_yes _ _ _ HD.out).mono ?_
  rintro e y24 ⟨rfl, rfl⟩
  refine hK _ _ HX24.out ?_
  clear hK K HD
  try simp only [Act.put, List.setIfInBounds_toArray, List.set_cons_zero, List.set_cons_succ]
  refine wpMix_take { dst := some 337, op := Op.pick (Operand.tmp 326) (Operand.tmp 336) (Operand.const (Value.bool false)), type := 4, pos := "outright.go:110", after := #[{ on := 86, ground := Ground.data }, { on := 96, ground := Ground.data }], guard := none } ?_ rfl (Or.inl ⟨by rfl, ?_⟩) ?_
  rotate_left 1
  · intro w hSw; go_simp <;> with_reducible rfl
  try simp only [Act.put, List.setIfInBounds_toArray, List.set_cons_zero, List.set_cons_succ]
  refine wpMix_take { dst := some 2, op := Op.assign (Operand.tmp 337), type := 4, pos := "outright.go:110", after := ([{ on := 97, ground := Ground.data }, { on := 96, ground := Ground.chain }, { on := 0, ground := Ground.phase }, { on := 1, ground := Ground.phase }, { on := 2, ground := Ground.phase }, { on := 3, ground := Ground.phase }, { on := 4, ground := Ground.phase }, { on := 5, ground := Ground.phase }, { on := 6, ground := Ground.phase }, { on := 7, ground := Ground.phase }, { on := 8, ground := Ground.phase }, { on := 9, ground := Ground.phase }, { on := 10, ground := Ground.phase }, { on := 11, ground := Ground.phase }, { on := 12, ground := Ground.phase }, { on := 13, ground := Ground.phase }, { on := 14, ground := Ground.phase }, { on := 15, ground := Ground.phase }, { on := 16, ground := Ground.phase }, { on := 17, ground := Ground.phase }, { on := 18, ground := Ground.phase }, { on := 19, ground := Ground.phase }, { on := 20, ground := Ground.phase }, { on := 21, ground := Ground.phase }, { on := 22, ground := Ground.phase }, { on := 23, ground := Ground.phase }, { on := 24, ground := Ground.phase }, { on := 25, ground := Ground.phase }, { on := 26, ground := Ground.phase }, { on := 27, ground := Ground.phase }, { on := 28, ground := Ground.phase }, { on := 29, ground := Ground.phase }, { on := 30, ground := Ground.phase }, { on := 31, ground := Ground.phase }, { on := 32, ground := Ground.phase }, { on := 33, ground := Ground.phase }, { on := 34, ground := Ground.phase }, { on := 35, ground := Ground.phase }, { on := 36, ground := Ground.phase }, { on := 37, ground := Ground.phase }, { on := 38, ground := Ground.phase }, { on := 39, ground := Ground.phase }, { on := 40, ground := Ground.phase }, { on := 41, ground := Ground.phase }, { on := 42, ground := Ground.phase }, { on := 43, ground := Ground.phase }, { on := 44, ground := Ground.phase }, { on := 45, ground := Ground.phase }, { on := 46, ground := Ground.phase }, { on := 47, ground := Ground.phase }].append [{ on := 48, ground := Ground.phase }, { on := 49, ground := Ground.phase }, { on := 50, ground := Ground.phase }, { on := 51, ground := Ground.phase }, { on := 52, ground := Ground.phase }, { on := 53, ground := Ground.phase }, { on := 54, ground := Ground.phase }, { on := 55, ground := Ground.phase }, { on := 56, ground := Ground.phase }, { on := 57, ground := Ground.phase }, { on := 58, ground := Ground.phase }, { on := 59, ground := Ground.phase }, { on := 60, ground := Ground.phase }, { on := 61, ground := Ground.phase }, { on := 62, ground := Ground.phase }, { on := 63, ground := Ground.phase }, { on := 64, ground := Ground.phase }, { on := 65, ground := Ground.phase }, { on := 66, ground := Ground.phase }, { on := 67, ground := Ground.phase }, { on := 68, ground := Ground.phase }, { on := 69, ground := Ground.phase }, { on := 70, ground := Ground.phase }, { on := 71, ground := Ground.phase }, { on := 72, ground := Ground.phase }, { on := 73, ground := Ground.phase }, { on := 74, ground := Ground.phase }, { on := 75, ground := Ground.phase }, { on := 76, ground := Ground.phase }, { on := 77, ground := Ground.phase }, { on := 78, ground := Ground.phase }, { on := 79, ground := Ground.phase }, { on := 80, ground := Ground.phase }, { on := 81, ground := Ground.phase }, { on := 82, ground := Ground.phase }, { on := 83, ground := Ground.phase }, { on := 84, ground := Ground.phase }, { on := 85, ground := Ground.phase }, { on := 86, ground := Ground.phase }, { on := 87, ground := Ground.phase }, { on := 88, ground := Ground.phase }, { on := 89, ground := Ground.phase }, { on := 90, ground := Ground.phase }, { on := 91, ground := Ground.phase }, { on := 92, ground := Ground.phase }, { on := 93, ground := Ground.phase }, { on := 94, ground := Ground.phase }, { on := 95, ground := Ground.phase }, { on := 96, ground := Ground.phase }, { on := 97, ground := Ground.phase }]).toArray, guard := none } ?_ rfl (Or.inl ⟨by rfl, ?_⟩) ?_
  rotate_left 1
  · intro w hSw; go_simp <;> with_reducible rfl
  try simp only [Act.put, List.setIfInBounds_toArray, List.set_cons_zero, List.set_cons_succ]
  refine wpMix_done ?_
  have HB0 := HX24
  clear HX24
  go_wp2_with fail
  refine (works_any _).mono ?_
  rintro e w3 ⟨rfl, hb⟩
  have HBZ := Lib.hid (HB0.out.trans (hb.mono HB0.out.size))
  clear hb HB0
  go_wp2_with fail
  go_ret
  exact ⟨rfl, HBZ.out⟩
end Go.Proofs.YtgjfhamophknfaaDoor
