/- Ae, part 44: Kn -/
import Derived.Test.YtfminfgabiipjaaGreatDoorAe0
import Derived.Test.YtfminfgabiipjaaGreatDoorAe29
import Derived.Test.YtfminfgabiipjaaGreatDoorAe43
set_option maxRecDepth 100000
set_option maxHeartbeats 16000000
namespace Go.Proofs.YtfminfgabiipjaaGreatDoor
open Go.RowKit
theorem qia (hworks:∀W:World,HasT W→Calls Tryz.prog 10 #[] W fun e w'=>e=.returned (.bool true)∧Below W.heap.size W w') (w0:World) (hP:HasT w0):Calls Tryz.prog 6 #[] w0 fun e w'=>e=.returned (.bool true)∧Below w0.heap.size w0 w':=by
  have HWK:=qH hworks
  have HB0:=qH (Below.refl w0.heap.size w0)
  have HP0:=qH hP
  clear hP hworks
  go_enter Tryz.func6,Tryz.ntmps6
  go_wp2_with fail
  refine (HWK.out w0 HP0.out).mono ?_
  rintro e w1 ⟨rfl,hb⟩
  have HB1:=qH (HB0.out.trans (hb.mono HB0.out.size))
  have HP1:=qH (HP0.out.below hb)
  clear hb HB0 HP0
  go_wp2_with fail
  refine (q_1 _).mono ?_
  rintro e w2 ⟨aone,gone,cone,rfl,hf,hb⟩
  have HB2:=qH (HB1.out.trans (hb.mono HB1.out.size))
  have HP2:=qH (HP1.out.below hb)
  clear hb HB1 HP1
  have Fone:=qH hf
  clear hf
  have haone:=Fone.out.addr (by rw [qbo];decide)
  subst haone
  go_wp2_with fail
  obtain⟨w3,hw⟩:∃W,W=w2.alloc (.cells #[.string ⟨#[]⟩,.string ⟨#[]⟩] 46):=⟨_,rfl⟩
  have hb:Below w2.heap.size w2 w3:=hw▸qbp qB qN
  have hr:w3.heap[w2.heap.size]? = some (.cells #[.string ⟨#[]⟩,.string ⟨#[]⟩] 46 (0,0)):=by rw [hw];exact qM _ _ _ rfl
  have hs:w3.heap.size=w2.heap.size+1:=by rw [hw,qab]
  rw [←hw]
  try rw [←hs]
  clear hw hs
  replace Fone:=qH (Fone.out.below hb)
  have HB3:=qH (HB2.out.trans (hb.mono HB2.out.size))
  have HP3:=qH (HP2.out.below hb)
  clear hb HB2 HP2
  have Fbad:=qH (qiy hr)
  clear hr
  skip
  refine (q_wide _).mono ?_
  rintro e w4 ⟨gwi,cwi,rfl,hf,hcw,hb⟩
  replace Fone:=qH (Fone.out.below hb)
  replace Fbad:=qH (Fbad.out.below hb)
  have HB4:=qH (HB3.out.trans (hb.mono HB3.out.size))
  have HP4:=qH (HP3.out.below hb)
  clear hb HB3 HP3
  have Fwi:=qH hf
  clear hf
  go_wp2_with fail
  refine (rows1 _ (qbo _ _) Fone.out).mono ?_
  rintro e w5 ⟨ga,rfl,ht,hb⟩
  replace Fone:=qH (Fone.out.below hb)
  replace Fbad:=qH (Fbad.out.below hb)
  replace Fwi:=qH (Fwi.out.below hb)
  have HB5:=qH (HB4.out.trans (hb.mono HB4.out.size))
  have HP5:=qH (HP4.out.below hb)
  clear hb HB4 HP4
  have Ta:=qH ht
  clear ht
  go_wp2_with fail
  refine (tall_any Ta.out).mono ?_
  rintro e w6 ⟨gta,rfl,ht,hb⟩
  replace Fone:=qH (Fone.out.below hb)
  replace Fbad:=qH (Fbad.out.below hb)
  replace Fwi:=qH (Fwi.out.below hb)
  replace Ta:=qH (Ta.out.below hb)
  have HB6:=qH (HB5.out.trans (hb.mono HB5.out.size))
  have HP6:=qH (HP5.out.below hb)
  clear hb HB5 HP5
  have Tta:=qH ht
  clear ht
  clear Ta
  go_wp2_with fail
  refine (ones_any Fone.out).mono ?_
  rintro e w7 ⟨gon,rfl,hf,hb⟩
  replace Fone:=qH (Fone.out.below hb)
  replace Fbad:=qH (Fbad.out.below hb)
  replace Fwi:=qH (Fwi.out.below hb)
  replace Tta:=qH (Tta.out.below hb)
  have HB7:=qH (HB6.out.trans (hb.mono HB6.out.size))
  have HP7:=qH (HP6.out.below hb)
  clear hb HB6 HP6
  have Fon:=qH hf
  clear hf
  go_wp2_with fail
  refine (rows1 _ (qbo _ _) Fwi.out).mono ?_
  rintro e w8 ⟨gb,rfl,ht,hb⟩
  replace Fone:=qH (Fone.out.below hb)
  replace Fbad:=qH (Fbad.out.below hb)
  replace Fwi:=qH (Fwi.out.below hb)
  replace Tta:=qH (Tta.out.below hb)
  replace Fon:=qH (Fon.out.below hb)
  have HB8:=qH (HB7.out.trans (hb.mono HB7.out.size))
  have HP8:=qH (HP7.out.below hb)
  clear hb HB7 HP7
  have Tb:=qH ht
  clear ht
  go_wp2_with fail
  refine (qhp (t:=[told 10 (fv [(1:Rat),0,0,0,0,0,0,0,0,0])]) rfl (by decide) (qb5 (n:=10) (qbo _ _) (by decide)) Tb.out wide_ok).mono ?_
  rintro e w9 ⟨rfl,hb⟩
  replace Fone:=qH (Fone.out.below hb)
  replace Fbad:=qH (Fbad.out.below hb)
  replace Fwi:=qH (Fwi.out.below hb)
  replace Tta:=qH (Tta.out.below hb)
  replace Fon:=qH (Fon.out.below hb)
  replace Tb:=qH (Tb.out.below hb)
  have HB9:=qH (HB8.out.trans (hb.mono HB8.out.size))
  have HP9:=qH (HP8.out.below hb)
  clear hb HB8 HP8
  clear Tb
  first | go_values | go_skip | go_guarded | go_step | go_upon | go_back | (simp only at *;go_simp) | (go_values <;> (try go_simp)) | (go_ite <;> go_prune <;> (try go_simp)) | (split <;> (first | (rename_i hx;exact (hx _ rfl).elim) | go_prune))
  first | go_values | go_skip | go_guarded | go_step | go_upon | go_back | (simp only [Int.not_lt,Int.not_le] at *;go_simp) | (go_values <;> (try go_simp)) | (go_ite <;> go_prune <;> (try go_simp)) | (split <;> (first | (rename_i hx;exact (hx _ rfl).elim) | go_prune))
  simp only [List.append_eq,List.cons_append,qbf]
  go_wp2_with (first | (at_builtin;refine Hid.out ?_) | fail)
  refine qH ?_
  refine qeC (c:=cone) _ _ rfl ?_ ?_ ?_ ?_ Fwi.out (qbo _ _) Fone.out (qbo _ _) (by decide) rfl (by decide) ?_
  iterate 4 (next=>rfl)
  intro gel cgel w10 hfn hb
  replace Fone:=qH (Fone.out.below hb)
  replace Fbad:=qH (Fbad.out.below hb)
  replace Fwi:=qH (Fwi.out.below hb)
  replace Tta:=qH (Tta.out.below hb)
  replace Fon:=qH (Fon.out.below hb)
  have HB10:=qH (HB9.out.trans (hb.mono HB9.out.size))
  have HP10:=qH (HP9.out.below hb)
  clear hb HB9 HP9
  have Fel:=qH hfn
  clear hfn
  go_wp2_with fail
  refine (rows1 _ (n:=11) (by rw [qag,qbo,qbo]) Fel.out).mono ?_
  rintro e w11 ⟨gel2,rfl,ht,hb⟩
  replace Fone:=qH (Fone.out.below hb)
  replace Fbad:=qH (Fbad.out.below hb)
  replace Fwi:=qH (Fwi.out.below hb)
  replace Tta:=qH (Tta.out.below hb)
  replace Fon:=qH (Fon.out.below hb)
  replace Fel:=qH (Fel.out.below hb)
  have HB11:=qH (HB10.out.trans (hb.mono HB10.out.size))
  have HP11:=qH (HP10.out.below hb)
  clear hb HB10 HP10
  have Tel:=qH ht
  clear ht
  clear Fel
  go_wp2_with fail
  refine (qc3 (t:=[(told 10 (fv [(1:Rat),0,0,0,0,0,0,0,0,0])++told 1 (fv [(1:Rat)]))]) rfl (by decide) (qb5 (n:=11) (by rw [qag,qbo,qbo]) (by decide)) Tel.out (wide_not (by rw [qag,qbo,qbo];decide))).mono ?_
  rintro e w12 ⟨rfl,hb⟩
  replace Fone:=qH (Fone.out.below hb)
  replace Fbad:=qH (Fbad.out.below hb)
  replace Fwi:=qH (Fwi.out.below hb)
  replace Tta:=qH (Tta.out.below hb)
  replace Fon:=qH (Fon.out.below hb)
  replace Tel:=qH (Tel.out.below hb)
  have HB12:=qH (HB11.out.trans (hb.mono HB11.out.size))
  have HP12:=qH (HP11.out.below hb)
  clear hb HB11 HP11
  clear Tel
  go_wp2_with fail
  refine (qhp (t:=ttab 40 1 fun _ _=>1) (qbI _ _ _) (by decide) qgV Tta.out tall_ok).mono ?_
  rintro e w13 ⟨rfl,hb⟩
  replace Fone:=qH (Fone.out.below hb)
  replace Fbad:=qH (Fbad.out.below hb)
  replace Fwi:=qH (Fwi.out.below hb)
  replace Tta:=qH (Tta.out.below hb)
  replace Fon:=qH (Fon.out.below hb)
  have HB13:=qH (HB12.out.trans (hb.mono HB12.out.size))
  have HP13:=qH (HP12.out.below hb)
  clear hb HB12 HP12
  go_wp2_with (first | (at_builtin;refine Hid.out ?_) | fail)
  refine qH ?_
  refine qeQ (c:=1) _ _ rfl ?_ ?_ ?_ ?_ (Tta.out.below (qbp qB qN)) (qbI _ _ _) (cell_of_row _ _ 0 _ _ _ (heap_alloc_new _ _)) (Fone.out.below (qbp qB qN)) (qbo _ _) rfl (by decide) ?_
  iterate 4 (next=>rfl)
  intro gta2 cgta2 w14 hfn hb
  replace hb:=bjoin (show Below w13.heap.size w13 _ from qbp qB qN) hb
  replace Fone:=qH (Fone.out.below hb)
  replace Fbad:=qH (Fbad.out.below hb)
  replace Fwi:=qH (Fwi.out.below hb)
  replace Tta:=qH (Tta.out.below hb)
  replace Fon:=qH (Fon.out.below hb)
  have HB14:=qH (HB13.out.trans (hb.mono HB13.out.size))
  have HP14:=qH (HP13.out.below hb)
  clear hb HB13 HP13
  have Tt41:=qH hfn
  clear hfn
  go_wp2_with fail
  refine (qc3 (t:=((ttab 40 1 fun _ _=>1)++[told 1 (fv [(1:Rat)])])) qfR (by decide) qhh Tt41.out qiq).mono ?_
  rintro e w15 ⟨rfl,hb⟩
  replace Fone:=qH (Fone.out.below hb)
  replace Fbad:=qH (Fbad.out.below hb)
  replace Fwi:=qH (Fwi.out.below hb)
  replace Tta:=qH (Tta.out.below hb)
  replace Fon:=qH (Fon.out.below hb)
  replace Tt41:=qH (Tt41.out.below hb)
  have HB15:=qH (HB14.out.trans (hb.mono HB14.out.size))
  have HP15:=qH (HP14.out.below hb)
  clear hb HB14 HP14
  clear Tt41
  go_wp2_with fail
  refine (rows1 _ rfl (qfF _)).mono ?_
  rintro e w16 ⟨gx1,rfl,ht,hb⟩
  replace Fone:=qH (Fone.out.below hb)
  replace Fbad:=qH (Fbad.out.below hb)
  replace Fwi:=qH (Fwi.out.below hb)
  replace Tta:=qH (Tta.out.below hb)
  replace Fon:=qH (Fon.out.below hb)
  have HB16:=qH (HB15.out.trans (hb.mono HB15.out.size))
  have HP16:=qH (HP15.out.below hb)
  clear hb HB15 HP15
  have Tn:=qH ht
  clear ht
  go_wp2_with fail
  refine (qc3 (t:=[[]]) rfl (by decide) (qb5 (l:=[]) (n:=0) rfl (by decide)) Tn.out nil_not).mono ?_
  rintro e w17 ⟨rfl,hb⟩
  replace Fone:=qH (Fone.out.below hb)
  replace Fbad:=qH (Fbad.out.below hb)
  replace Fwi:=qH (Fwi.out.below hb)
  replace Tta:=qH (Tta.out.below hb)
  replace Fon:=qH (Fon.out.below hb)
  replace Tn:=qH (Tn.out.below hb)
  have HB17:=qH (HB16.out.trans (hb.mono HB16.out.size))
  have HP17:=qH (HP16.out.below hb)
  clear hb HB16 HP16
  clear Tn
  go_wp2_with fail
  refine (rows1 _ rfl Fbad.out).mono ?_
  rintro e w18 ⟨gb1,rfl,ht,hb⟩
  replace Fone:=qH (Fone.out.below hb)
  replace Fbad:=qH (Fbad.out.below hb)
  replace Fwi:=qH (Fwi.out.below hb)
  replace Tta:=qH (Tta.out.below hb)
  replace Fon:=qH (Fon.out.below hb)
  have HB18:=qH (HB17.out.trans (hb.mono HB17.out.size))
  have HP18:=qH (HP17.out.below hb)
  clear hb HB17 HP17
  have Tb1:=qH ht
  clear ht
  go_wp2_with fail
  refine (qc3 (t:=[[fd0]]) rfl (by decide) (qb5 (l:=[fd0]) (n:=1) rfl (by decide)) Tb1.out qhg).mono ?_
  rintro e w19 ⟨rfl,hb⟩
  replace Fone:=qH (Fone.out.below hb)
  replace Fbad:=qH (Fbad.out.below hb)
  replace Fwi:=qH (Fwi.out.below hb)
  replace Tta:=qH (Tta.out.below hb)
  replace Fon:=qH (Fon.out.below hb)
  replace Tb1:=qH (Tb1.out.below hb)
  have HB19:=qH (HB18.out.trans (hb.mono HB18.out.size))
  have HP19:=qH (HP18.out.below hb)
  clear hb HB18 HP18
  clear Tb1
  go_wp2_with fail
  refine (qhx _ [⟨#[49]⟩] 1 rfl).mono ?_
  rintro e w20 ⟨bx1,rfl,hi,hb⟩
  replace Fone:=qH (Fone.out.below hb)
  replace Fbad:=qH (Fbad.out.below hb)
  replace Fwi:=qH (Fwi.out.below hb)
  replace Tta:=qH (Tta.out.below hb)
  replace Fon:=qH (Fon.out.below hb)
  have HB20:=qH (HB19.out.trans (hb.mono HB19.out.size))
  have HP20:=qH (HP19.out.below hb)
  clear hb HB19 HP19
  have Ix1:=qH hi
  clear hi
  go_wp2_with fail
  refine (kx_least Tta.out Fon.out Fon.out HP20.out).mono ?_
  rintro e w21 ⟨⟨gr,rfl,hf⟩,hb⟩
  replace Fone:=qH (Fone.out.below hb)
  replace Fbad:=qH (Fbad.out.below hb)
  replace Fwi:=qH (Fwi.out.below hb)
  replace Tta:=qH (Tta.out.below hb)
  replace Fon:=qH (Fon.out.below hb)
  replace Ix1:=qH (Ix1.out.below hb)
  have HB21:=qH (HB20.out.trans (hb.mono HB20.out.size))
  have HP21:=qH (HP20.out.below hb)
  clear hb HB20 HP20
  have FR:=qH hf
  clear hf
  go_wp2_with fail
  refine (qdX (L:=[⟨#[49]⟩]) (l:=[(1:Rat)]) Ix1.out rfl rfl (by decide) (by simp only [qan,qaq,ft_1];decide +kernel) (by decide) FR.out).mono ?_
  rintro e w22 ⟨rfl,hb⟩
  replace Fone:=qH (Fone.out.below hb)
  replace Fbad:=qH (Fbad.out.below hb)
  replace Fwi:=qH (Fwi.out.below hb)
  replace Tta:=qH (Tta.out.below hb)
  replace Fon:=qH (Fon.out.below hb)
  replace Ix1:=qH (Ix1.out.below hb)
  replace FR:=qH (FR.out.below hb)
  have HB22:=qH (HB21.out.trans (hb.mono HB21.out.size))
  have HP22:=qH (HP21.out.below hb)
  clear hb HB21 HP21
  clear Ix1 FR
  go_wp2_with fail
  refine (qdO 1 _).mono ?_
  rintro e w23 ⟨bx2,rfl,hb,hr⟩
  replace Fone:=qH (Fone.out.below hb)
  replace Fbad:=qH (Fbad.out.below hb)
  replace Fwi:=qH (Fwi.out.below hb)
  replace Tta:=qH (Tta.out.below hb)
  replace Fon:=qH (Fon.out.below hb)
  have HB23:=qH (HB22.out.trans (hb.mono HB22.out.size))
  have HP23:=qH (HP22.out.below hb)
  clear hb HB22 HP22
  have Ix2:=qH hr
  clear hr
  go_wp2_with fail
  refine (kx_tall Tta.out).mono ?_
  rintro e w24 ⟨rfl,hb⟩
  replace Fone:=qH (Fone.out.below hb)
  replace Fbad:=qH (Fbad.out.below hb)
  replace Fwi:=qH (Fwi.out.below hb)
  replace Tta:=qH (Tta.out.below hb)
  replace Fon:=qH (Fon.out.below hb)
  replace Ix2:=qH (zkeep hb _ _ Ix2.out)
  have HB24:=qH (HB23.out.trans (hb.mono HB23.out.size))
  have HP24:=qH (HP23.out.below hb)
  clear hb HB23 HP23
  go_wp2_with fail
  refine (qde _ _ _ Ix2.out).mono ?_
  rintro e w25 ⟨rfl,hw⟩
  subst hw
  clear Ix2
  clear Tta Fon
  go_wp2_with fail
  refine (qdO 1 _).mono ?_
  rintro e w25 ⟨bx3,rfl,hb,hr⟩
  replace Fone:=qH (Fone.out.below hb)
  replace Fbad:=qH (Fbad.out.below hb)
  replace Fwi:=qH (Fwi.out.below hb)
  have HB25:=qH (HB24.out.trans (hb.mono HB24.out.size))
  have HP25:=qH (HP24.out.below hb)
  clear hb HB24 HP24
  have Ix3:=qH hr
  clear hr
  go_wp2_with fail
  refine (rows1 _ (qbo _ _) Fwi.out).mono ?_
  rintro e w26 ⟨gw1,rfl,ht,hb⟩
  replace Fone:=qH (Fone.out.below hb)
  replace Fbad:=qH (Fbad.out.below hb)
  replace Fwi:=qH (Fwi.out.below hb)
  replace Ix3:=qH (zkeep hb _ _ Ix3.out)
  have HB26:=qH (HB25.out.trans (hb.mono HB25.out.size))
  have HP26:=qH (HP25.out.below hb)
  clear hb HB25 HP25
  have Tw1:=qH ht
  clear ht
  go_wp2_with fail
  refine (kx_wide (show TCells _ _ _ _ (ttab 1 10 (fm [[(1:Rat),0,0,0,0,0,0,0,0,0]])) from Tw1.out)).mono ?_
  rintro e w27 ⟨rfl,hb⟩
  replace Fone:=qH (Fone.out.below hb)
  replace Fbad:=qH (Fbad.out.below hb)
  replace Fwi:=qH (Fwi.out.below hb)
  replace Ix3:=qH (zkeep hb _ _ Ix3.out)
  replace Tw1:=qH (Tw1.out.below hb)
  have HB27:=qH (HB26.out.trans (hb.mono HB26.out.size))
  have HP27:=qH (HP26.out.below hb)
  clear hb HB26 HP26
  clear Tw1 Fwi
  go_wp2_with fail
  refine (qde _ _ _ Ix3.out).mono ?_
  rintro e w28 ⟨rfl,hw⟩
  subst hw
  clear Ix3
  go_wp2_with fail
  refine (rows1 _ rfl Fbad.out).mono ?_
  rintro e w28 ⟨gb2,rfl,ht,hb⟩
  replace Fone:=qH (Fone.out.below hb)
  replace Fbad:=qH (Fbad.out.below hb)
  have HB28:=qH (HB27.out.trans (hb.mono HB27.out.size))
  have HP28:=qH (HP27.out.below hb)
  clear hb HB27 HP27
  have Tb2:=qH ht
  clear ht
  go_wp2_with fail
  refine (rank_60 (t:=[[fd0]]) rfl (by decide) (qb5 (l:=[fd0]) (n:=1) rfl (by decide)) Tb2.out qhg).mono ?_
  rintro e w29 ⟨rfl,hb⟩
  replace Fone:=qH (Fone.out.below hb)
  replace Fbad:=qH (Fbad.out.below hb)
  replace Tb2:=qH (Tb2.out.below hb)
  have HB29:=qH (HB28.out.trans (hb.mono HB28.out.size))
  have HP29:=qH (HP28.out.below hb)
  clear hb HB28 HP28
  clear Tb2
  go_wp2_with fail
  refine (rows1 _ (qbo _ _) Fone.out).mono ?_
  rintro e w30 ⟨gm1,rfl,ht,hb⟩
  replace Fone:=qH (Fone.out.below hb)
  replace Fbad:=qH (Fbad.out.below hb)
  have HB30:=qH (HB29.out.trans (hb.mono HB29.out.size))
  have HP30:=qH (HP29.out.below hb)
  clear hb HB29 HP29
  have Tm1:=qH ht
  clear ht
  go_wp2_with fail
  refine (meas_2 (t:=[told 1 (fv [(1:Rat)])]) rfl (by decide) (qb5 (n:=1) (qbo _ _) (by decide)) Tm1.out (qbo _ _) (by decide) Fone.out (qbo _ _) (by decide) Fone.out rfl (by decide) (qfF _) HP30.out qc1 qet qet qeV (fun h=>absurd h.2.2.1 (by decide))).mono ?_
  rintro e w31 ⟨rfl,hb⟩
  replace Fone:=qH (Fone.out.below hb)
  replace Fbad:=qH (Fbad.out.below hb)
  replace Tm1:=qH (Tm1.out.below hb)
  have HB31:=qH (HB30.out.trans (hb.mono HB30.out.size))
  have HP31:=qH (HP30.out.below hb)
  clear hb HB30 HP30
  clear Tm1
  go_wp2_with fail
  obtain⟨w32,hw⟩:∃W,W=w31.alloc (.cells #[.string ⟨#[]⟩,.string ⟨#[]⟩] 46):=⟨_,rfl⟩
  have hb:Below w31.heap.size w31 w32:=hw▸qbp qB qN
  have hr:w32.heap[w31.heap.size]? = some (.cells #[.string ⟨#[]⟩,.string ⟨#[]⟩] 46 (0,0)):=by rw [hw];exact qM _ _ _ rfl
  have hs:w32.heap.size=w31.heap.size+1:=by rw [hw,qab]
  rw [←hw]
  try rw [←hs]
  clear hw hs
  replace Fone:=qH (Fone.out.below hb)
  replace Fbad:=qH (Fbad.out.below hb)
  have HB32:=qH (HB31.out.trans (hb.mono HB31.out.size))
  have HP32:=qH (HP31.out.below hb)
  clear hb HB31 HP31
  clear hr
  skip
  refine (rows1 _ (qbo _ _) Fone.out).mono ?_
  rintro e w33 ⟨gm2,rfl,ht,hb⟩
  replace Fone:=qH (Fone.out.below hb)
  replace Fbad:=qH (Fbad.out.below hb)
  have HB33:=qH (HB32.out.trans (hb.mono HB32.out.size))
  have HP33:=qH (HP32.out.below hb)
  clear hb HB32 HP32
  have Tm2:=qH ht
  clear ht
  go_wp2_with fail
  refine (meas_20 (t:=[told 1 (fv [(1:Rat)])]) rfl (by decide) (qb5 (n:=1) (qbo _ _) (by decide)) Tm2.out (qbo _ _) (by decide) Fone.out (qbo _ _) (by decide) Fone.out rfl (by decide) Fbad.out HP33.out qc1 (fun h=>qe6 h.2.2)).mono ?_
  rintro e w34 ⟨rfl,hb⟩
  replace Fone:=qH (Fone.out.below hb)
  replace Fbad:=qH (Fbad.out.below hb)
  replace Tm2:=qH (Tm2.out.below hb)
  have HB34:=qH (HB33.out.trans (hb.mono HB33.out.size))
  have HP34:=qH (HP33.out.below hb)
  clear hb HB33 HP33
  clear Tm2
  go_wp2_with fail
  obtain⟨w35,hw⟩:∃W,W=w34.alloc (.cells #[.string ⟨#[]⟩,.string ⟨#[]⟩] 46):=⟨_,rfl⟩
  have hb:Below w34.heap.size w34 w35:=hw▸qbp qB qN
  have hr:w35.heap[w34.heap.size]? = some (.cells #[.string ⟨#[]⟩,.string ⟨#[]⟩] 46 (0,0)):=by rw [hw];exact qM _ _ _ rfl
  have hs:w35.heap.size=w34.heap.size+1:=by rw [hw,qab]
  rw [←hw]
  try rw [←hs]
  clear hw hs
  replace Fone:=qH (Fone.out.below hb)
  replace Fbad:=qH (Fbad.out.below hb)
  have HB35:=qH (HB34.out.trans (hb.mono HB34.out.size))
  have HP35:=qH (HP34.out.below hb)
  clear hb HB34 HP34
  clear hr
  skip
  refine (rows1 _ (qbo _ _) Fone.out).mono ?_
  rintro e w36 ⟨gm3,rfl,ht,hb⟩
  replace Fone:=qH (Fone.out.below hb)
  replace Fbad:=qH (Fbad.out.below hb)
  have HB36:=qH (HB35.out.trans (hb.mono HB35.out.size))
  have HP36:=qH (HP35.out.below hb)
  clear hb HB35 HP35
  have Tm3:=qH ht
  clear ht
  go_wp2_with fail
  refine (q_m1 _).mono ?_
  rintro e w37 ⟨am1q,gm1q,cm1q,rfl,hf,hb⟩
  replace Fone:=qH (Fone.out.below hb)
  replace Fbad:=qH (Fbad.out.below hb)
  replace Tm3:=qH (Tm3.out.below hb)
  have HB37:=qH (HB36.out.trans (hb.mono HB36.out.size))
  have HP37:=qH (HP36.out.below hb)
  clear hb HB36 HP36
  have Fm1q:=qH hf
  clear hf
  go_wp2_with fail
  refine (meas_2 (t:=[told 1 (fv [(1:Rat)])]) rfl (by decide) (qb5 (n:=1) (qbo _ _) (by decide)) Tm3.out (qbo _ _) (by decide) Fone.out (qbo _ _) (by decide) Fm1q.out rfl (by decide) (qfF _) HP37.out qc1 qet (qeU (by decide +kernel)) qeV (fun h=>absurd h.2.2.1 (by decide))).mono ?_
  rintro e w38 ⟨rfl,hb⟩
  replace Fone:=qH (Fone.out.below hb)
  replace Fbad:=qH (Fbad.out.below hb)
  replace Tm3:=qH (Tm3.out.below hb)
  replace Fm1q:=qH (Fm1q.out.below hb)
  have HB38:=qH (HB37.out.trans (hb.mono HB37.out.size))
  have HP38:=qH (HP37.out.below hb)
  clear hb HB37 HP37
  clear Tm3 Fm1q
  go_wp2_with fail
  obtain⟨w39,hw⟩:∃W,W=w38.alloc (.cells #[.string ⟨#[]⟩,.string ⟨#[]⟩] 46):=⟨_,rfl⟩
  have hb:Below w38.heap.size w38 w39:=hw▸qbp qB qN
  have hr:w39.heap[w38.heap.size]? = some (.cells #[.string ⟨#[]⟩,.string ⟨#[]⟩] 46 (0,0)):=by rw [hw];exact qM _ _ _ rfl
  have hs:w39.heap.size=w38.heap.size+1:=by rw [hw,qab]
  rw [←hw]
  try rw [←hs]
  clear hw hs
  replace Fone:=qH (Fone.out.below hb)
  replace Fbad:=qH (Fbad.out.below hb)
  have HB39:=qH (HB38.out.trans (hb.mono HB38.out.size))
  have HP39:=qH (HP38.out.below hb)
  clear hb HB38 HP38
  clear hr
  skip
  refine (rows1 _ rfl Fbad.out).mono ?_
  rintro e w40 ⟨gm4,rfl,ht,hb⟩
  replace Fone:=qH (Fone.out.below hb)
  replace Fbad:=qH (Fbad.out.below hb)
  have HB40:=qH (HB39.out.trans (hb.mono HB39.out.size))
  have HP40:=qH (HP39.out.below hb)
  clear hb HB39 HP39
  have Tm4:=qH ht
  clear ht
  go_wp2_with fail
  refine (meas_60 (t:=[[fd0]]) rfl (by decide) (qb5 (l:=[fd0]) (n:=1) rfl (by decide)) Tm4.out rfl (by decide) Fbad.out rfl (by decide) Fbad.out rfl (by decide) Fbad.out HP40.out qhg).mono ?_
  rintro e w41 ⟨rfl,hb⟩
  replace Fone:=qH (Fone.out.below hb)
  replace Fbad:=qH (Fbad.out.below hb)
  replace Tm4:=qH (Tm4.out.below hb)
  have HB41:=qH (HB40.out.trans (hb.mono HB40.out.size))
  have HP41:=qH (HP40.out.below hb)
  clear hb HB40 HP40
  clear Tm4
  go_wp2_with fail
  obtain⟨w42,hw⟩:∃W,W=w41.alloc (.cells #[.string ⟨#[]⟩,.string ⟨#[]⟩] 46):=⟨_,rfl⟩
  have hb:Below w41.heap.size w41 w42:=hw▸qbp qB qN
  have hr:w42.heap[w41.heap.size]? = some (.cells #[.string ⟨#[]⟩,.string ⟨#[]⟩] 46 (0,0)):=by rw [hw];exact qM _ _ _ rfl
  have hs:w42.heap.size=w41.heap.size+1:=by rw [hw,qab]
  rw [←hw]
  try rw [←hs]
  clear hw hs
  replace Fone:=qH (Fone.out.below hb)
  replace Fbad:=qH (Fbad.out.below hb)
  have HB42:=qH (HB41.out.trans (hb.mono HB41.out.size))
  have HP42:=qH (HP41.out.below hb)
  clear hb HB41 HP41
  clear hr
  skip
  refine (rows1 _ (qbo _ _) Fone.out).mono ?_
  rintro e w43 ⟨gm5,rfl,ht,hb⟩
  replace Fone:=qH (Fone.out.below hb)
  replace Fbad:=qH (Fbad.out.below hb)
  have HB43:=qH (HB42.out.trans (hb.mono HB42.out.size))
  have HP43:=qH (HP42.out.below hb)
  clear hb HB42 HP42
  have Tm5:=qH ht
  clear ht
  go_wp2_with fail
  refine (q_0 _).mono ?_
  rintro e w44 ⟨az0,gz0,cz0,rfl,hf,hb⟩
  replace Fone:=qH (Fone.out.below hb)
  replace Fbad:=qH (Fbad.out.below hb)
  replace Tm5:=qH (Tm5.out.below hb)
  have HB44:=qH (HB43.out.trans (hb.mono HB43.out.size))
  have HP44:=qH (HP43.out.below hb)
  clear hb HB43 HP43
  have Fz0:=qH hf
  clear hf
  go_wp2_with fail
  refine (q_5 _).mono ?_
  rintro e w45 ⟨az5,gz5,cz5,rfl,hf,hb⟩
  replace Fone:=qH (Fone.out.below hb)
  replace Fbad:=qH (Fbad.out.below hb)
  replace Tm5:=qH (Tm5.out.below hb)
  replace Fz0:=qH (Fz0.out.below hb)
  have HB45:=qH (HB44.out.trans (hb.mono HB44.out.size))
  have HP45:=qH (HP44.out.below hb)
  clear hb HB44 HP44
  have Fz5:=qH hf
  clear hf
  go_wp2_with fail
  refine (kx_meas0 (show TCells _ _ _ _ (ttab 1 1 (fm [[(1:Rat)]])) from Tm5.out) Fone.out Fz0.out Fz5.out HP45.out).mono ?_
  rintro e w46 ⟨rfl,hb⟩
  replace Fone:=qH (Fone.out.below hb)
  replace Fbad:=qH (Fbad.out.below hb)
  replace Tm5:=qH (Tm5.out.below hb)
  replace Fz0:=qH (Fz0.out.below hb)
  replace Fz5:=qH (Fz5.out.below hb)
  have HB46:=qH (HB45.out.trans (hb.mono HB45.out.size))
  have HP46:=qH (HP45.out.below hb)
  clear hb HB45 HP45
  clear Tm5 Fz0 Fz5
  go_wp2_with fail
  obtain⟨w47,hw⟩:∃W,W=w46.alloc (.cells #[.string ⟨#[48]⟩,.string ⟨#[49]⟩] 46):=⟨_,rfl⟩
  have hb:Below w46.heap.size w46 w47:=hw▸qbp qB qN
  have hr:w47.heap[w46.heap.size]? = some (.cells #[.string ⟨#[48]⟩,.string ⟨#[49]⟩] 46 (0,0)):=by rw [hw];exact qM _ _ _ rfl
  have hs:w47.heap.size=w46.heap.size+1:=by rw [hw,qab]
  rw [←hw]
  try rw [←hs]
  clear hw hs
  replace Fone:=qH (Fone.out.below hb)
  replace Fbad:=qH (Fbad.out.below hb)
  have HB47:=qH (HB46.out.trans (hb.mono HB46.out.size))
  have HP47:=qH (HP46.out.below hb)
  clear hb HB46 HP46
  have Rz:=qH hr
  clear hr
  have lz:=(qG Rz.out).1
  have r60:=rowC (B:=w47.heap.size) Rz.out 0
  have r61:=rowC (B:=w47.heap.size) Rz.out 1
  as_aux_lemma =>
   refine wp_region_held_drew (S:=fun W=>Below w47.heap.size w47 W) (by kernel_rfl) qB.drew (fun hS0=>?_)
   have V0:Below w47.heap.size w47 w47.drew:=hS0
   clear hS0
   refine hT 0 (h:=hT 1 (h:=hT 2 (h:=hT 3 (h:=hT 4 (h:=hT 5 (h:=hT 6 (h:=hT 7 (h:=hT 8 (h:=hT 9 (h:=hT 10 (h:=hT 11 (h:=hT 12 (h:=hT 13 (h:=hT 14 (h:=hT 15 (h:=hT 16 (h:=hT 17 (h:=hT 18 (h:=hT 19 (h:=hT 20 (h:=hT 21 (h:=hT 22 (h:=?_)))))))))))))))))))))))
   refine Go.Proofs.YtfminfgabiipjaaGreatDoor.gr [(23,189),(24,190),(25,191),(26,192),(27,193)] [(24,[23]),(25,[24]),(26,[25]),(27,[26])] [0,1,2,3,4,5,6,7,8,9,10,11,12,13,14,15,16,17,18,19,20,21,22] [23,24,25,26,27] [] 28 119 (fl2 [(23,PS 1 [⟨#[48]⟩]),(24,PL 1 (told 1 (fv [(0:Rat)]))),(25,PP (told 1 (fv [(0:Rat)]))),(26,fun z _=>z=.agg #[.string ⟨#[48]⟩,.string ⟨#[49]⟩]),(27,fun z _=>z=.bool true)]) _ 91
     (hS:=fun w' h=>V0.trans (h.mono V0.size)) (hstep:=⟨⟨_,rfl,fun v w3 hb hF K hK=>?_⟩,⟨_,rfl,fun v w3 hb hF K hK=>?_⟩,⟨_,rfl,fun v w3 hb hF K hK=>?_⟩,⟨_,rfl,fun v w3 hb hF K hK=>?_⟩,⟨_,rfl,fun v w3 hb hF K hK=>?_⟩,trivial⟩) (hend:=fun v w3 hb hF _ fu=>?_)
   · as_aux_lemma =>
      exact gW hK (h:=⟨⟨w3.heap.size,rfl,SCells.row (L:=[⟨#[48]⟩]) (heap_alloc_new w3 _)⟩,qbp qB qN⟩)
   · as_aux_lemma =>
      obtain⟨gq,eq,hq⟩:PS 1 [⟨#[48]⟩] _ w3:=hF.1
      exact gC hK (q_at 1 (L:=[⟨#[48]⟩]) (l:=[(0:Rat)]) hq rfl rfl (by decide) (by simp only [qan,qaq,ft_0];decide +kernel) (by decide)) (h:=fun e w4 ⟨ao,g,c,e1,h1,h2⟩=>⟨_,e1,pl_of h1 (qbo _ _) (by decide),h2⟩)
   · as_aux_lemma =>
      obtain⟨gq,cq,eq,hq⟩:PL 1 (told 1 (fv [(0:Rat)])) _ w3:=hF.1
      exact gV hK ⟨gq,rfl,hq⟩
   · as_aux_lemma =>
      obtain⟨gq,eq,hq⟩:PP (told 1 (fv [(0:Rat)])) _ w3:=hF.1
      obtain⟨e60,e61⟩:=qhs hq (by decide) (x1:=⟨#[48]⟩) (x2:=⟨#[49]⟩) (by rw [show fv [(0:Rat)] 0=0 from rfl,ft_0])
      exact gV hK rfl
   · as_aux_lemma =>
      have eq:v 26=_:=hF.1
      exact gV hK rfl
   have eL:v 27=_:=hF 27 (by decide) (by decide)
   have V1:=V0.trans (hb.mono V0.size)
   rw [eL]
   clear eL hF hb V0
   as_aux_lemma =>
    refine hT 28 (h:=hT 29 (h:=hT 30 (h:=hT 31 (h:=hT 32 (h:=hT 33 (h:=hT 35 (h:=?_)))))))
    refine Go.Proofs.YtfminfgabiipjaaGreatDoor.gr [(34,200),(36,202),(37,203),(38,204),(39,205)] [(37,[36]),(38,[36]),(39,[34,37,38])] [0,1,2,3,4,5,6,7,8,9,10,11,12,13,14,15,16,17,18,19,20,21,22,23,24,25,26,27,28,29,30,31,32,33,35] [34,36,37,38,39] [] 40 119 (fl2 [(34,PF 60),(36,fun z _=>z=.tuple #[.slice none 0 0,.int .i64 60]),(37,fun z _=>z=.slice none 0 0),(38,fun z _=>z=.int .i64 60),(39,fun z _=>z=.bool true)]) _ 79
      (hS:=fun w' h=>V1.trans (h.mono V1.size)) (hstep:=⟨⟨_,rfl,fun v w3 hb hF K hK=>?_⟩,⟨_,rfl,fun v w3 hb hF K hK=>?_⟩,⟨_,rfl,fun v w3 hb hF K hK=>?_⟩,⟨_,rfl,fun v w3 hb hF K hK=>?_⟩,⟨_,rfl,fun v w3 hb hF K hK=>?_⟩,trivial⟩) (hend:=fun v w3 hb hF _ fu=>?_)
    · as_aux_lemma =>
       exact gC hK (qbV 60 w3) (h:=fun e w4 ⟨b,e1,h1,h2⟩=>⟨_,e1,⟨b,rfl,h2⟩,h1⟩)
    · as_aux_lemma =>
       exact gC hK (solve_60 (ao:=none) (g:=0) (c:=0) (t:=[]) rfl (by decide) (fun k hk=>absurd hk (Nat.not_lt_zero k)) ⟨fun h=>absurd h (by decide),fun k hk=>absurd hk (by simp)⟩ rfl (by decide) (Fbad.out.below (V1.trans (hb.mono V1.size))) (HP47.out.below (V1.trans (hb.mono V1.size))) tab_nil) (he:=by (go_simp <;> first | with_reducible rfl | (repeat' apply qA) <;> rfl)) (h:=fun e w4 ⟨e1,h1⟩=>⟨_,e1,rfl,h1⟩)
    · as_aux_lemma =>
       have eq:v 36=_:=hF.1
       exact gV hK rfl
    · as_aux_lemma =>
       have eq:v 36=_:=hF.1
       exact gV hK rfl
    · as_aux_lemma =>
       obtain⟨bq,eq,hq⟩:PF 60 _ w3:=hF.1
       have e37:v 37=_:=hF.2.1
       have e38:v 38=_:=hF.2.2.1
       exact gC hK (qbN 60 bq w3 hq) (h:=fun e w4 ⟨e1,e2⟩=>⟨_,e1,rfl,by rw [e2];exact Below.refl _ _⟩)
    have eL:v 39=_:=hF 39 (by decide) (by decide)
    have V2:=V1.trans (hb.mono V1.size)
    rw [eL]
    clear eL hF hb V1
    as_aux_lemma =>
     refine hT 40 (h:=hT 41 (h:=hT 43 (h:=hT 46 (h:=?_))))
     refine Go.Proofs.YtfminfgabiipjaaGreatDoor.gr [(42,208),(44,210),(45,211),(47,213),(48,214),(49,215),(50,216)] [(45,[44]),(47,[45]),(48,[47]),(49,[47]),(50,[42,48,49])] [0,1,2,3,4,5,6,7,8,9,10,11,12,13,14,15,16,17,18,19,20,21,22,23,24,25,26,27,28,29,30,31,32,33,34,35,36,37,38,39,40,41,43,46] [42,44,45,47,48,49,50] [] 51 119 (fl2 [(42,PF 20),(44,PT 1 [(told 1 (fv [(1:Rat)]))]),(45,PT 1 [(told 1 (fv [(1:Rat)]))]),(47,fun z _=>z=.tuple #[.slice none 0 0,.int .i64 20]),(48,fun z _=>z=.slice none 0 0),(49,fun z _=>z=.int .i64 20),(50,fun z _=>z=.bool true)]) _ 68
       (hS:=fun w' h=>V2.trans (h.mono V2.size)) (hstep:=⟨⟨_,rfl,fun v w3 hb hF K hK=>?_⟩,⟨_,rfl,fun v w3 hb hF K hK=>?_⟩,⟨_,rfl,fun v w3 hb hF K hK=>?_⟩,⟨_,rfl,fun v w3 hb hF K hK=>?_⟩,⟨_,rfl,fun v w3 hb hF K hK=>?_⟩,⟨_,rfl,fun v w3 hb hF K hK=>?_⟩,⟨_,rfl,fun v w3 hb hF K hK=>?_⟩,trivial⟩) (hend:=fun v w3 hb hF _ fu=>?_)
     · as_aux_lemma =>
        exact gC hK (qbV 20 w3) (h:=fun e w4 ⟨b,e1,h1,h2⟩=>⟨_,e1,⟨b,rfl,h2⟩,h1⟩)
     · as_aux_lemma =>
        exact gW hK (h:=⟨⟨w3.heap.size,1,rfl,qds (qM _ _ _ rfl) (qbo _ _) ((Fone.out.below (V2.trans (hb.mono V2.size))).below (qbp qB qN))⟩,qbp qB qN⟩)
     · as_aux_lemma =>
        obtain⟨gq,cq,eq,hq⟩:PT 1 [(told 1 (fv [(1:Rat)]))] _ w3:=hF.1
        exact gC hK (qcz (.slice (some ⟨gq,0,none⟩) 1 cq) w3) (h:=fun e w4 ⟨e1,e2⟩=>⟨_,e1,⟨gq,cq,rfl,e2▸hq⟩,by rw [e2];exact Below.refl _ _⟩)
     · as_aux_lemma =>
        obtain⟨ga,ca,ea,haq⟩:PT 1 [(told 1 (fv [(1:Rat)]))] _ w3:=hF.1
        exact gC hK (solve_20 (t:=[(told 1 (fv [(1:Rat)]))]) rfl (by decide) (qb5 (n:=1) (qbo _ _) (by decide)) haq rfl (by decide) (Fbad.out.below (V2.trans (hb.mono V2.size))) (HP47.out.below (V2.trans (hb.mono V2.size))) qc1 qe6) (he:=by (go_simp <;> first | with_reducible rfl | (repeat' apply qA) <;> rfl)) (h:=fun e w4 ⟨e1,h1⟩=>⟨_,e1,rfl,h1⟩)
     · as_aux_lemma =>
        have eq:v 47=_:=hF.1
        exact gV hK rfl
     · as_aux_lemma =>
        have eq:v 47=_:=hF.1
        exact gV hK rfl
     · as_aux_lemma =>
        obtain⟨bq,eq,hq⟩:PF 20 _ w3:=hF.1
        have e48:v 48=_:=hF.2.1
        have e49:v 49=_:=hF.2.2.1
        exact gC hK (qbN 20 bq w3 hq) (h:=fun e w4 ⟨e1,e2⟩=>⟨_,e1,rfl,by rw [e2];exact Below.refl _ _⟩)
     have eL:v 50=_:=hF 50 (by decide) (by decide)
     have V3:=V2.trans (hb.mono V2.size)
     rw [eL]
     clear eL hF hb V2
     as_aux_lemma =>
      refine hT 51 (h:=hT 52 (h:=hT 54 (h:=?_)))
      refine Go.Proofs.YtfminfgabiipjaaGreatDoor.gr [(53,219),(55,221),(56,222),(57,223),(58,224),(59,225),(60,226)] [(56,[55]),(57,[56]),(58,[57]),(59,[57]),(60,[53,58,59])] [0,1,2,3,4,5,6,7,8,9,10,11,12,13,14,15,16,17,18,19,20,21,22,23,24,25,26,27,28,29,30,31,32,33,34,35,36,37,38,39,40,41,42,43,44,45,46,47,48,49,50,51,52,54] [53,55,56,57,58,59,60] [] 61 119 (fl2 [(53,PF 2),(55,PT 1 [(told 1 (fv [(1:Rat)]))]),(56,PT 1 [(told 1 (fv [(1:Rat)]))]),(57,fun z _=>z=.tuple #[.slice none 0 0,.int .i64 2]),(58,fun z _=>z=.slice none 0 0),(59,fun z _=>z=.int .i64 2),(60,fun z _=>z=.bool true)]) _ 58
        (hS:=fun w' h=>V3.trans (h.mono V3.size)) (hstep:=⟨⟨_,rfl,fun v w3 hb hF K hK=>?_⟩,⟨_,rfl,fun v w3 hb hF K hK=>?_⟩,⟨_,rfl,fun v w3 hb hF K hK=>?_⟩,⟨_,rfl,fun v w3 hb hF K hK=>?_⟩,⟨_,rfl,fun v w3 hb hF K hK=>?_⟩,⟨_,rfl,fun v w3 hb hF K hK=>?_⟩,⟨_,rfl,fun v w3 hb hF K hK=>?_⟩,trivial⟩) (hend:=fun v w3 hb hF _ fu=>?_)
      · as_aux_lemma =>
         exact gC hK (qbV 2 w3) (h:=fun e w4 ⟨b,e1,h1,h2⟩=>⟨_,e1,⟨b,rfl,h2⟩,h1⟩)
      · as_aux_lemma =>
         exact gW hK (h:=⟨⟨w3.heap.size,1,rfl,qds (qM _ _ _ rfl) (qbo _ _) ((Fone.out.below (V3.trans (hb.mono V3.size))).below (qbp qB qN))⟩,qbp qB qN⟩)
      · as_aux_lemma =>
         obtain⟨gq,cq,eq,hq⟩:PT 1 [(told 1 (fv [(1:Rat)]))] _ w3:=hF.1
         exact gC hK (qcz (.slice (some ⟨gq,0,none⟩) 1 cq) w3) (h:=fun e w4 ⟨e1,e2⟩=>⟨_,e1,⟨gq,cq,rfl,e2▸hq⟩,by rw [e2];exact Below.refl _ _⟩)
      · as_aux_lemma =>
         obtain⟨ga,ca,ea,haq⟩:PT 1 [(told 1 (fv [(1:Rat)]))] _ w3:=hF.1
         exact gC hK (qjs (t:=[(told 1 (fv [(1:Rat)]))]) rfl (by decide) (qb5 (n:=1) (qbo _ _) (by decide)) haq rfl (by decide) (qfF _) (HP47.out.below (V3.trans (hb.mono V3.size))) qc1 qeV (fun h=>absurd h.1 (by decide))) (he:=by (go_simp <;> first | with_reducible rfl | (repeat' apply qA) <;> rfl)) (h:=fun e w4 ⟨e1,h1⟩=>⟨_,e1,rfl,h1⟩)
      · as_aux_lemma =>
         have eq:v 57=_:=hF.1
         exact gV hK rfl
      · as_aux_lemma =>
         have eq:v 57=_:=hF.1
         exact gV hK rfl
      · as_aux_lemma =>
         obtain⟨bq,eq,hq⟩:PF 2 _ w3:=hF.1
         have e58:v 58=_:=hF.2.1
         have e59:v 59=_:=hF.2.2.1
         exact gC hK (qbN 2 bq w3 hq) (h:=fun e w4 ⟨e1,e2⟩=>⟨_,e1,rfl,by rw [e2];exact Below.refl _ _⟩)
      have eL:v 60=_:=hF 60 (by decide) (by decide)
      have V4:=V3.trans (hb.mono V3.size)
      rw [eL]
      clear eL hF hb V3
      as_aux_lemma =>
       refine hT 61 (h:=hT 62 (h:=hT 64 (h:=hT 65 (h:=?_))))
       refine Go.Proofs.YtfminfgabiipjaaGreatDoor.gr [(63,229),(66,232),(67,233),(68,234),(69,235),(70,236),(71,237),(72,238),(73,239)] [(67,[66]),(69,[68]),(70,[67,69]),(71,[70]),(72,[70]),(73,[63,71,72])] [0,1,2,3,4,5,6,7,8,9,10,11,12,13,14,15,16,17,18,19,20,21,22,23,24,25,26,27,28,29,30,31,32,33,34,35,36,37,38,39,40,41,42,43,44,45,46,47,48,49,50,51,52,53,54,55,56,57,58,59,60,61,62,64,65] [63,66,67,68,69,70,71,72,73] [] 74 119 (fl2 [(63,PF 2),(66,PT 2 [(told 1 (fv [(1:Rat)])),(told 1 (fv [(1:Rat)]))]),(67,PT 2 [(told 1 (fv [(1:Rat)])),(told 1 (fv [(1:Rat)]))]),(68,PS 2 [⟨#[49]⟩,⟨#[49]⟩]),(69,PL 2 (told 2 (fv [(1:Rat),1]))),(70,fun z _=>z=.tuple #[.slice none 0 0,.int .i64 2]),(71,fun z _=>z=.slice none 0 0),(72,fun z _=>z=.int .i64 2),(73,fun z _=>z=.bool true)]) _ 45
         (hS:=fun w' h=>V4.trans (h.mono V4.size)) (hstep:=⟨⟨_,rfl,fun v w3 hb hF K hK=>?_⟩,⟨_,rfl,fun v w3 hb hF K hK=>?_⟩,⟨_,rfl,fun v w3 hb hF K hK=>?_⟩,⟨_,rfl,fun v w3 hb hF K hK=>?_⟩,⟨_,rfl,fun v w3 hb hF K hK=>?_⟩,⟨_,rfl,fun v w3 hb hF K hK=>?_⟩,⟨_,rfl,fun v w3 hb hF K hK=>?_⟩,⟨_,rfl,fun v w3 hb hF K hK=>?_⟩,⟨_,rfl,fun v w3 hb hF K hK=>?_⟩,trivial⟩) (hend:=fun v w3 hb hF _ fu=>?_)
       · as_aux_lemma =>
          exact gC hK (qbV 2 w3) (h:=fun e w4 ⟨b,e1,h1,h2⟩=>⟨_,e1,⟨b,rfl,h2⟩,h1⟩)
       · as_aux_lemma =>
          exact gW hK (h:=⟨⟨w3.heap.size,2,rfl,tab2 (qM _ _ _ rfl) ((Fone.out.below (V4.trans (hb.mono V4.size))).below (qbp qB qN)) ((Fone.out.below (V4.trans (hb.mono V4.size))).below (qbp qB qN)) (qbo _ _) (qbo _ _)⟩,qbp qB qN⟩)
       · as_aux_lemma =>
          obtain⟨gq,cq,eq,hq⟩:PT 2 [(told 1 (fv [(1:Rat)])),(told 1 (fv [(1:Rat)]))] _ w3:=hF.1
          exact gC hK (qcz (.slice (some ⟨gq,0,none⟩) 2 cq) w3) (h:=fun e w4 ⟨e1,e2⟩=>⟨_,e1,⟨gq,cq,rfl,e2▸hq⟩,by rw [e2];exact Below.refl _ _⟩)
       · as_aux_lemma =>
          exact gW hK (h:=⟨⟨w3.heap.size,rfl,SCells.row (L:=[⟨#[49]⟩,⟨#[49]⟩]) (heap_alloc_new w3 _)⟩,qbp qB qN⟩)
       · as_aux_lemma =>
          obtain⟨gq,eq,hq⟩:PS 2 [⟨#[49]⟩,⟨#[49]⟩] _ w3:=hF.1
          exact gC hK (q_at 2 (L:=[⟨#[49]⟩,⟨#[49]⟩]) (l:=[(1:Rat),1]) hq rfl rfl (by decide) (by simp only [qan,qaq,ft_1];decide +kernel) (by decide)) (h:=fun e w4 ⟨ao,g,c,e1,h1,h2⟩=>⟨_,e1,pl_of h1 (qbo _ _) (by decide),h2⟩)
       · as_aux_lemma =>
          obtain⟨ga,ca,ea,haq⟩:PT 2 [(told 1 (fv [(1:Rat)])),(told 1 (fv [(1:Rat)]))] _ w3:=hF.1
          obtain⟨gb,cb,eb,hbq⟩:PL 2 (told 2 (fv [(1:Rat),1])) _ w3:=hF.2.1
          exact gC hK (qjs (t:=[(told 1 (fv [(1:Rat)])),(told 1 (fv [(1:Rat)]))]) rfl (by decide) (fun k hk=>by have hk:k<2:=hk;rcases (show k=0∨k=1 by omega) with rfl | rfl <;> exact (by decide:1≤1000)) haq (qbo _ _) (by decide) hbq (HP47.out.below (V4.trans (hb.mono V4.size))) (show TOk (ttab 2 1 (fm [[(1:Rat)],[(1:Rat)]])) from qc2 (by decide) (by decide) (by decide) (by decide) (qby (by decide +kernel))) (qeU (by decide +kernel)) (fun h=>absurd h.2 (by decide))) (he:=by (go_simp <;> first | with_reducible rfl | (repeat' apply qA) <;> rfl)) (h:=fun e w4 ⟨e1,h1⟩=>⟨_,e1,rfl,h1⟩)
       · as_aux_lemma =>
          have eq:v 70=_:=hF.1
          exact gV hK rfl
       · as_aux_lemma =>
          have eq:v 70=_:=hF.1
          exact gV hK rfl
       · as_aux_lemma =>
          obtain⟨bq,eq,hq⟩:PF 2 _ w3:=hF.1
          have e71:v 71=_:=hF.2.1
          have e72:v 72=_:=hF.2.2.1
          exact gC hK (qbN 2 bq w3 hq) (h:=fun e w4 ⟨e1,e2⟩=>⟨_,e1,rfl,by rw [e2];exact Below.refl _ _⟩)
       have eL:v 73=_:=hF 73 (by decide) (by decide)
       have V5:=V4.trans (hb.mono V4.size)
       rw [eL]
       clear eL hF hb V4
       as_aux_lemma =>
        refine hT 74 (h:=hT 75 (h:=?_))
        refine Go.Proofs.YtfminfgabiipjaaGreatDoor.gr [(76,242),(77,243),(78,244),(79,245),(80,246),(81,247),(82,248),(83,249),(84,250),(85,251),(86,252)] [(78,[77]),(79,[78]),(80,[79]),(82,[81]),(83,[80,82]),(84,[83]),(85,[83]),(86,[76,84,85])] [0,1,2,3,4,5,6,7,8,9,10,11,12,13,14,15,16,17,18,19,20,21,22,23,24,25,26,27,28,29,30,31,32,33,34,35,36,37,38,39,40,41,42,43,44,45,46,47,48,49,50,51,52,53,54,55,56,57,58,59,60,61,62,63,64,65,66,67,68,69,70,71,72,73,74,75] [76,77,78,79,80,81,82,83,84,85,86] [] 87 119 (fl2 [(76,PF 7),(77,PS 1 [⟨#[48]⟩]),(78,PL 1 (told 1 (fv [(0:Rat)]))),(79,PT 1 [(told 1 (fv [(0:Rat)]))]),(80,PT 1 [(told 1 (fv [(0:Rat)]))]),(81,PS 1 [⟨#[48]⟩]),(82,PL 1 (told 1 (fv [(0:Rat)]))),(83,fun z _=>z=.tuple #[.slice none 0 0,.int .i64 7]),(84,fun z _=>z=.slice none 0 0),(85,fun z _=>z=.int .i64 7),(86,fun z _=>z=.bool true)]) _ 32
          (hS:=fun w' h=>V5.trans (h.mono V5.size)) (hstep:=⟨⟨_,rfl,fun v w3 hb hF K hK=>?_⟩,⟨_,rfl,fun v w3 hb hF K hK=>?_⟩,⟨_,rfl,fun v w3 hb hF K hK=>?_⟩,⟨_,rfl,fun v w3 hb hF K hK=>?_⟩,⟨_,rfl,fun v w3 hb hF K hK=>?_⟩,⟨_,rfl,fun v w3 hb hF K hK=>?_⟩,⟨_,rfl,fun v w3 hb hF K hK=>?_⟩,⟨_,rfl,fun v w3 hb hF K hK=>?_⟩,⟨_,rfl,fun v w3 hb hF K hK=>?_⟩,⟨_,rfl,fun v w3 hb hF K hK=>?_⟩,⟨_,rfl,fun v w3 hb hF K hK=>?_⟩,trivial⟩) (hend:=fun v w3 hb hF _ fu=>?_)
        · as_aux_lemma =>
           exact gC hK (qbV 7 w3) (h:=fun e w4 ⟨b,e1,h1,h2⟩=>⟨_,e1,⟨b,rfl,h2⟩,h1⟩)
        · as_aux_lemma =>
           exact gW hK (h:=⟨⟨w3.heap.size,rfl,SCells.row (L:=[⟨#[48]⟩]) (heap_alloc_new w3 _)⟩,qbp qB qN⟩)
        · as_aux_lemma =>
           obtain⟨gq,eq,hq⟩:PS 1 [⟨#[48]⟩] _ w3:=hF.1
           exact gC hK (q_at 1 (L:=[⟨#[48]⟩]) (l:=[(0:Rat)]) hq rfl rfl (by decide) (by simp only [qan,qaq,ft_0];decide +kernel) (by decide)) (h:=fun e w4 ⟨ao,g,c,e1,h1,h2⟩=>⟨_,e1,pl_of h1 (qbo _ _) (by decide),h2⟩)
        · as_aux_lemma =>
           obtain⟨ga,ca,ea,haq⟩:PL 1 (told 1 (fv [(0:Rat)])) _ w3:=hF.1
           exact gW hK (h:=⟨⟨w3.heap.size,1,rfl,qds (qM _ _ _ rfl) (qbo _ _) (haq.below (qbp qB qN))⟩,qbp qB qN⟩)
        · as_aux_lemma =>
           obtain⟨gq,cq,eq,hq⟩:PT 1 [(told 1 (fv [(0:Rat)]))] _ w3:=hF.1
           exact gC hK (qcz (.slice (some ⟨gq,0,none⟩) 1 cq) w3) (h:=fun e w4 ⟨e1,e2⟩=>⟨_,e1,⟨gq,cq,rfl,e2▸hq⟩,by rw [e2];exact Below.refl _ _⟩)
        · as_aux_lemma =>
           exact gW hK (h:=⟨⟨w3.heap.size,rfl,SCells.row (L:=[⟨#[48]⟩]) (heap_alloc_new w3 _)⟩,qbp qB qN⟩)
        · as_aux_lemma =>
           obtain⟨gq,eq,hq⟩:PS 1 [⟨#[48]⟩] _ w3:=hF.1
           exact gC hK (q_at 1 (L:=[⟨#[48]⟩]) (l:=[(0:Rat)]) hq rfl rfl (by decide) (by simp only [qan,qaq,ft_0];decide +kernel) (by decide)) (h:=fun e w4 ⟨ao,g,c,e1,h1,h2⟩=>⟨_,e1,pl_of h1 (qbo _ _) (by decide),h2⟩)
        · as_aux_lemma =>
           obtain⟨ga,ca,ea,haq⟩:PT 1 [(told 1 (fv [(0:Rat)]))] _ w3:=hF.1
           obtain⟨gb,cb,eb,hbq⟩:PL 1 (told 1 (fv [(0:Rat)])) _ w3:=hF.2.1
           exact gC hK (kx_zero (show TCells _ _ _ _ (ttab 1 1 (fm [[(0:Rat)]])) from haq) hbq (HP47.out.below (V5.trans (hb.mono V5.size)))) (he:=by (go_simp <;> first | with_reducible rfl | (repeat' apply qA) <;> rfl)) (h:=fun e w4 ⟨e1,h1⟩=>⟨_,e1,rfl,h1⟩)
        · as_aux_lemma =>
           have eq:v 83=_:=hF.1
           exact gV hK rfl
        · as_aux_lemma =>
           have eq:v 83=_:=hF.1
           exact gV hK rfl
        · as_aux_lemma =>
           obtain⟨bq,eq,hq⟩:PF 7 _ w3:=hF.1
           have e84:v 84=_:=hF.2.1
           have e85:v 85=_:=hF.2.2.1
           exact gC hK (qbN 7 bq w3 hq) (h:=fun e w4 ⟨e1,e2⟩=>⟨_,e1,rfl,by rw [e2];exact Below.refl _ _⟩)
        have eL:v 86=_:=hF 86 (by decide) (by decide)
        have V6:=V5.trans (hb.mono V5.size)
        rw [eL]
        clear eL hF hb V5
        as_aux_lemma =>
         refine hT 87 (h:=hT 88 (h:=?_))
         refine Go.Proofs.YtfminfgabiipjaaGreatDoor.gr [(89,255),(90,256),(91,257),(92,258),(93,259),(94,260),(95,261),(96,262),(97,263),(98,264),(99,265),(100,266)] [(90,[89]),(92,[91]),(93,[92]),(94,[93]),(96,[95]),(97,[94,96]),(98,[97]),(99,[97]),(100,[90,98,99])] [0,1,2,3,4,5,6,7,8,9,10,11,12,13,14,15,16,17,18,19,20,21,22,23,24,25,26,27,28,29,30,31,32,33,34,35,36,37,38,39,40,41,42,43,44,45,46,47,48,49,50,51,52,53,54,55,56,57,58,59,60,61,62,63,64,65,66,67,68,69,70,71,72,73,74,75,76,77,78,79,80,81,82,83,84,85,86,87,88] [89,90,91,92,93,94,95,96,97,98,99,100] [] 101 119 (fl2 [(89,PS 1 [⟨#[49,47,50]⟩]),(90,PI [⟨#[49,47,50]⟩]),(91,PS 1 [⟨#[50,47,51]⟩]),(92,PL 1 (told 1 (fv [(2 / 3:Rat)]))),(93,PT 1 [(told 1 (fv [(2 / 3:Rat)]))]),(94,PT 1 [(told 1 (fv [(2 / 3:Rat)]))]),(95,PS 1 [⟨#[49,47,51]⟩]),(96,PL 1 (told 1 (fv [(1 / 3:Rat)]))),(97,PR 1 (told 1 (fv [(1 / 2:Rat)]))),(98,PL 1 (told 1 (fv [(1 / 2:Rat)]))),(99,fun z _=>z=.int .i64 0),(100,fun z _=>z=.bool true)]) _ 18
           (hS:=fun w' h=>V6.trans (h.mono V6.size)) (hstep:=⟨⟨_,rfl,fun v w3 hb hF K hK=>?_⟩,⟨_,rfl,fun v w3 hb hF K hK=>?_⟩,⟨_,rfl,fun v w3 hb hF K hK=>?_⟩,⟨_,rfl,fun v w3 hb hF K hK=>?_⟩,⟨_,rfl,fun v w3 hb hF K hK=>?_⟩,⟨_,rfl,fun v w3 hb hF K hK=>?_⟩,⟨_,rfl,fun v w3 hb hF K hK=>?_⟩,⟨_,rfl,fun v w3 hb hF K hK=>?_⟩,⟨_,rfl,fun v w3 hb hF K hK=>?_⟩,⟨_,rfl,fun v w3 hb hF K hK=>?_⟩,⟨_,rfl,fun v w3 hb hF K hK=>?_⟩,⟨_,rfl,fun v w3 hb hF K hK=>?_⟩,trivial⟩) (hend:=fun v w3 hb hF _ fu=>?_)
         · as_aux_lemma =>
            exact gW hK (h:=⟨⟨w3.heap.size,rfl,SCells.row (L:=[⟨#[49,47,50]⟩]) (heap_alloc_new w3 _)⟩,qbp qB qN⟩)
         · as_aux_lemma =>
            obtain⟨gq,eq,hq⟩:PS 1 [⟨#[49,47,50]⟩] _ w3:=hF.1
            exact gC hK (qhw gq [⟨#[49,47,50]⟩] w3 hq) (h:=fun e w4 ⟨b,e1,h1,h2⟩=>⟨_,e1,⟨b,rfl,h2⟩,h1⟩)
         · as_aux_lemma =>
            exact gW hK (h:=⟨⟨w3.heap.size,rfl,SCells.row (L:=[⟨#[50,47,51]⟩]) (heap_alloc_new w3 _)⟩,qbp qB qN⟩)
         · as_aux_lemma =>
            obtain⟨gq,eq,hq⟩:PS 1 [⟨#[50,47,51]⟩] _ w3:=hF.1
            exact gC hK (q_at 1 (L:=[⟨#[50,47,51]⟩]) (l:=[(2 / 3:Rat)]) hq rfl rfl (by decide) (by simp only [qan,qaq,ft_23];decide +kernel) (by decide)) (h:=fun e w4 ⟨ao,g,c,e1,h1,h2⟩=>⟨_,e1,pl_of h1 (qbo _ _) (by decide),h2⟩)
         · as_aux_lemma =>
            obtain⟨ga,ca,ea,haq⟩:PL 1 (told 1 (fv [(2 / 3:Rat)])) _ w3:=hF.1
            exact gW hK (h:=⟨⟨w3.heap.size,1,rfl,qds (qM _ _ _ rfl) (qbo _ _) (haq.below (qbp qB qN))⟩,qbp qB qN⟩)
         · as_aux_lemma =>
            obtain⟨gq,cq,eq,hq⟩:PT 1 [(told 1 (fv [(2 / 3:Rat)]))] _ w3:=hF.1
            exact gC hK (qcz (.slice (some ⟨gq,0,none⟩) 1 cq) w3) (h:=fun e w4 ⟨e1,e2⟩=>⟨_,e1,⟨gq,cq,rfl,e2▸hq⟩,by rw [e2];exact Below.refl _ _⟩)
         · as_aux_lemma =>
            exact gW hK (h:=⟨⟨w3.heap.size,rfl,SCells.row (L:=[⟨#[49,47,51]⟩]) (heap_alloc_new w3 _)⟩,qbp qB qN⟩)
         · as_aux_lemma =>
            obtain⟨gq,eq,hq⟩:PS 1 [⟨#[49,47,51]⟩] _ w3:=hF.1
            exact gC hK (q_at 1 (L:=[⟨#[49,47,51]⟩]) (l:=[(1 / 3:Rat)]) hq rfl rfl (by decide) (by simp only [qan,qaq,ft_13];decide +kernel) (by decide)) (h:=fun e w4 ⟨ao,g,c,e1,h1,h2⟩=>⟨_,e1,pl_of h1 (qbo _ _) (by decide),h2⟩)
         · as_aux_lemma =>
            obtain⟨ga,ca,ea,haq⟩:PT 1 [(told 1 (fv [(2 / 3:Rat)]))] _ w3:=hF.1
            obtain⟨gb,cb,eb,hbq⟩:PL 1 (told 1 (fv [(1 / 3:Rat)])) _ w3:=hF.2.1
            exact gC hK (kx_half (show TCells _ _ _ _ (ttab 1 1 (fm [[(2 / 3:Rat)]])) from haq) hbq (HP47.out.below (V6.trans (hb.mono V6.size)))) (he:=by (go_simp <;> first | with_reducible rfl | (repeat' apply qA) <;> rfl)) (h:=fun e w4 ⟨⟨g,e1,h1⟩,h2⟩=>⟨_,e1,⟨g,rfl,h1⟩,h2⟩)
         · as_aux_lemma =>
            obtain⟨gq,eq,hq⟩:PR 1 (told 1 (fv [(1 / 2:Rat)])) _ w3:=hF.1
            exact gV hK ⟨gq,1,rfl,hq⟩
         · as_aux_lemma =>
            obtain⟨gq,eq,hq⟩:PR 1 (told 1 (fv [(1 / 2:Rat)])) _ w3:=hF.1
            exact gV hK rfl
         · as_aux_lemma =>
            obtain⟨bq,eq,hq⟩:PI [⟨#[49,47,50]⟩] _ w3:=hF.1
            obtain⟨gr,cr,er,hr⟩:PL 1 (told 1 (fv [(1 / 2:Rat)])) _ w3:=hF.2.1
            have e99:v 99=_:=hF.2.2.1
            exact gC hK (qdX (L:=[⟨#[49,47,50]⟩]) (l:=[(1 / 2:Rat)]) hq rfl rfl (by decide) (by simp only [qan,qaq,ft_12];decide +kernel) (by decide) hr) (h:=fun e w4 ⟨e1,h1⟩=>⟨_,e1,rfl,h1⟩)
         have eL:v 100=_:=hF 100 (by decide) (by decide)
         have V7:=V6.trans (hb.mono V6.size)
         rw [eL]
         clear eL hF hb V6
         as_aux_lemma =>
          refine hT 101 (h:=hT 102 (h:=?_))
          refine Go.Proofs.YtfminfgabiipjaaGreatDoor.gr [(103,269),(104,270),(105,271),(106,272),(107,273),(108,274),(109,275),(110,276),(111,277),(112,278),(113,279),(114,280),(115,281),(116,282)] [(104,[103]),(106,[105]),(108,[107]),(109,[106,108]),(110,[109]),(112,[111]),(113,[110,112]),(114,[113]),(115,[113]),(116,[104,114,115])] [0,1,2,3,4,5,6,7,8,9,10,11,12,13,14,15,16,17,18,19,20,21,22,23,24,25,26,27,28,29,30,31,32,33,34,35,36,37,38,39,40,41,42,43,44,45,46,47,48,49,50,51,52,53,54,55,56,57,58,59,60,61,62,63,64,65,66,67,68,69,70,71,72,73,74,75,76,77,78,79,80,81,82,83,84,85,86,87,88,89,90,91,92,93,94,95,96,97,98,99,100,101,102] [103,104,105,106,107,108,109,110,111,112,113,114,115,116] [] 117 119 (fl2 [(103,PS 2 [⟨#[50]⟩,⟨#[49]⟩]),(104,PI [⟨#[50]⟩,⟨#[49]⟩]),(105,PS 2 [⟨#[48]⟩,⟨#[49]⟩]),(106,PL 2 (told 2 (fv [(0:Rat),1]))),(107,PS 2 [⟨#[49]⟩,⟨#[48]⟩]),(108,PL 2 (told 2 (fv [(1:Rat),0]))),(109,PT 2 [(told 2 (fv [(0:Rat),1])),(told 2 (fv [(1:Rat),0]))]),(110,PT 2 [(told 2 (fv [(0:Rat),1])),(told 2 (fv [(1:Rat),0]))]),(111,PS 2 [⟨#[49]⟩,⟨#[50]⟩]),(112,PL 2 (told 2 (fv [(1:Rat),2]))),(113,PR 2 (told 2 (fv [(2:Rat),1]))),(114,PL 2 (told 2 (fv [(2:Rat),1]))),(115,fun z _=>z=.int .i64 0),(116,fun z _=>z=.bool true)]) _ 2
            (hS:=fun w' h=>V7.trans (h.mono V7.size)) (hstep:=⟨⟨_,rfl,fun v w3 hb hF K hK=>?_⟩,⟨_,rfl,fun v w3 hb hF K hK=>?_⟩,⟨_,rfl,fun v w3 hb hF K hK=>?_⟩,⟨_,rfl,fun v w3 hb hF K hK=>?_⟩,⟨_,rfl,fun v w3 hb hF K hK=>?_⟩,⟨_,rfl,fun v w3 hb hF K hK=>?_⟩,⟨_,rfl,fun v w3 hb hF K hK=>?_⟩,⟨_,rfl,fun v w3 hb hF K hK=>?_⟩,⟨_,rfl,fun v w3 hb hF K hK=>?_⟩,⟨_,rfl,fun v w3 hb hF K hK=>?_⟩,⟨_,rfl,fun v w3 hb hF K hK=>?_⟩,⟨_,rfl,fun v w3 hb hF K hK=>?_⟩,⟨_,rfl,fun v w3 hb hF K hK=>?_⟩,⟨_,rfl,fun v w3 hb hF K hK=>?_⟩,trivial⟩) (hend:=fun v w3 hb hF _ fu=>?_)
          · as_aux_lemma =>
             exact gW hK (h:=⟨⟨w3.heap.size,rfl,SCells.row (L:=[⟨#[50]⟩,⟨#[49]⟩]) (heap_alloc_new w3 _)⟩,qbp qB qN⟩)
          · as_aux_lemma =>
             obtain⟨gq,eq,hq⟩:PS 2 [⟨#[50]⟩,⟨#[49]⟩] _ w3:=hF.1
             exact gC hK (qhw gq [⟨#[50]⟩,⟨#[49]⟩] w3 hq) (h:=fun e w4 ⟨b,e1,h1,h2⟩=>⟨_,e1,⟨b,rfl,h2⟩,h1⟩)
          · as_aux_lemma =>
             exact gW hK (h:=⟨⟨w3.heap.size,rfl,SCells.row (L:=[⟨#[48]⟩,⟨#[49]⟩]) (heap_alloc_new w3 _)⟩,qbp qB qN⟩)
          · as_aux_lemma =>
             obtain⟨gq,eq,hq⟩:PS 2 [⟨#[48]⟩,⟨#[49]⟩] _ w3:=hF.1
             exact gC hK (q_at 2 (L:=[⟨#[48]⟩,⟨#[49]⟩]) (l:=[(0:Rat),1]) hq rfl rfl (by decide) (by simp only [qan,qaq,ft_0,ft_1];decide +kernel) (by decide)) (h:=fun e w4 ⟨ao,g,c,e1,h1,h2⟩=>⟨_,e1,pl_of h1 (qbo _ _) (by decide),h2⟩)
          · as_aux_lemma =>
             exact gW hK (h:=⟨⟨w3.heap.size,rfl,SCells.row (L:=[⟨#[49]⟩,⟨#[48]⟩]) (heap_alloc_new w3 _)⟩,qbp qB qN⟩)
          · as_aux_lemma =>
             obtain⟨gq,eq,hq⟩:PS 2 [⟨#[49]⟩,⟨#[48]⟩] _ w3:=hF.1
             exact gC hK (q_at 2 (L:=[⟨#[49]⟩,⟨#[48]⟩]) (l:=[(1:Rat),0]) hq rfl rfl (by decide) (by simp only [qan,qaq,ft_0,ft_1];decide +kernel) (by decide)) (h:=fun e w4 ⟨ao,g,c,e1,h1,h2⟩=>⟨_,e1,pl_of h1 (qbo _ _) (by decide),h2⟩)
          · as_aux_lemma =>
             obtain⟨ga,ca,ea,haq⟩:PL 2 (told 2 (fv [(0:Rat),1])) _ w3:=hF.1
             obtain⟨gb,cb,eb,hbq⟩:PL 2 (told 2 (fv [(1:Rat),0])) _ w3:=hF.2.1
             exact gW hK (h:=⟨⟨w3.heap.size,2,rfl,tab2 (qM _ _ _ rfl) (haq.below (qbp qB qN)) (hbq.below (qbp qB qN)) (qbo _ _) (qbo _ _)⟩,qbp qB qN⟩)
          · as_aux_lemma =>
             obtain⟨gq,cq,eq,hq⟩:PT 2 [(told 2 (fv [(0:Rat),1])),(told 2 (fv [(1:Rat),0]))] _ w3:=hF.1
             exact gC hK (qcz (.slice (some ⟨gq,0,none⟩) 2 cq) w3) (h:=fun e w4 ⟨e1,e2⟩=>⟨_,e1,⟨gq,cq,rfl,e2▸hq⟩,by rw [e2];exact Below.refl _ _⟩)
          · as_aux_lemma =>
             exact gW hK (h:=⟨⟨w3.heap.size,rfl,SCells.row (L:=[⟨#[49]⟩,⟨#[50]⟩]) (heap_alloc_new w3 _)⟩,qbp qB qN⟩)
          · as_aux_lemma =>
             obtain⟨gq,eq,hq⟩:PS 2 [⟨#[49]⟩,⟨#[50]⟩] _ w3:=hF.1
             exact gC hK (q_at 2 (L:=[⟨#[49]⟩,⟨#[50]⟩]) (l:=[(1:Rat),2]) hq rfl rfl (by decide) (by simp only [qan,qaq,ft_1,ft_2];decide +kernel) (by decide)) (h:=fun e w4 ⟨ao,g,c,e1,h1,h2⟩=>⟨_,e1,pl_of h1 (qbo _ _) (by decide),h2⟩)
          · as_aux_lemma =>
             obtain⟨ga,ca,ea,haq⟩:PT 2 [(told 2 (fv [(0:Rat),1])),(told 2 (fv [(1:Rat),0]))] _ w3:=hF.1
             obtain⟨gb,cb,eb,hbq⟩:PL 2 (told 2 (fv [(1:Rat),2])) _ w3:=hF.2.1
             exact gC hK (kx_swap (show TCells _ _ _ _ (ttab 2 2 (fm [[(0:Rat),1],[(1:Rat),0]])) from haq) hbq (HP47.out.below (V7.trans (hb.mono V7.size)))) (he:=by (go_simp <;> first | with_reducible rfl | (repeat' apply qA) <;> rfl)) (h:=fun e w4 ⟨⟨g,e1,h1⟩,h2⟩=>⟨_,e1,⟨g,rfl,h1⟩,h2⟩)
          · as_aux_lemma =>
             obtain⟨gq,eq,hq⟩:PR 2 (told 2 (fv [(2:Rat),1])) _ w3:=hF.1
             exact gV hK ⟨gq,2,rfl,hq⟩
          · as_aux_lemma =>
             obtain⟨gq,eq,hq⟩:PR 2 (told 2 (fv [(2:Rat),1])) _ w3:=hF.1
             exact gV hK rfl
          · as_aux_lemma =>
             obtain⟨bq,eq,hq⟩:PI [⟨#[50]⟩,⟨#[49]⟩] _ w3:=hF.1
             obtain⟨gr,cr,er,hr⟩:PL 2 (told 2 (fv [(2:Rat),1])) _ w3:=hF.2.1
             have e115:v 115=_:=hF.2.2.1
             exact gC hK (qdX (L:=[⟨#[50]⟩,⟨#[49]⟩]) (l:=[(2:Rat),1]) hq rfl rfl (by decide) (by simp only [qan,qaq,ft_1,ft_2];decide +kernel) (by decide) hr) (h:=fun e w4 ⟨e1,h1⟩=>⟨_,e1,rfl,h1⟩)
          have eL:v 116=_:=hF 116 (by decide) (by decide)
          have V8:=V7.trans (hb.mono V7.size)
          rw [eL]
          clear eL hF hb V7
          as_aux_lemma =>
           refine hT 117 (h:=hT 118 (h:=?_))
           refine wpAnyH_done (by kernel_rfl) ?_ _
           clear r60 r61 lz
           clear Rz
           obtain⟨w48,hwi,hb⟩:∃W,W=w3∧Below w47.heap.size w47 W:=⟨_,rfl,V8⟩
           rw [←hwi]
           clear hwi V8
           replace Fone:=qH (Fone.out.below hb)
           replace Fbad:=qH (Fbad.out.below hb)
           have HB48:=qH (HB47.out.trans (hb.mono HB47.out.size))
           have HP48:=qH (HP47.out.below hb)
           clear hb HB47 HP47
           as_aux_lemma =>
            go_wp2_with fail
            refine (qbV 2 _).mono ?_
            rintro e w49 ⟨bx4,rfl,hb,hr⟩
            replace Fone:=qH (Fone.out.below hb)
            replace Fbad:=qH (Fbad.out.below hb)
            have HB49:=qH (HB48.out.trans (hb.mono HB48.out.size))
            have HP49:=qH (HP48.out.below hb)
            clear hb HB48 HP48
            have Ix4:=qH hr
            clear hr
            go_wp2_with fail
            refine (rows1 _ (qbo _ _) Fone.out).mono ?_
            rintro e w50 ⟨gr1,rfl,ht,hb⟩
            replace Fone:=qH (Fone.out.below hb)
            replace Fbad:=qH (Fbad.out.below hb)
            replace Ix4:=qH (zkeep hb _ _ Ix4.out)
            have HB50:=qH (HB49.out.trans (hb.mono HB49.out.size))
            have HP50:=qH (HP49.out.below hb)
            clear hb HB49 HP49
            have Tr1:=qH ht
            clear ht
            go_wp2_with fail
            refine (q_m1 _).mono ?_
            rintro e w51 ⟨ar1q,gr1q,cr1q,rfl,hf,hb⟩
            replace Fone:=qH (Fone.out.below hb)
            replace Fbad:=qH (Fbad.out.below hb)
            replace Ix4:=qH (zkeep hb _ _ Ix4.out)
            replace Tr1:=qH (Tr1.out.below hb)
            have HB51:=qH (HB50.out.trans (hb.mono HB50.out.size))
            have HP51:=qH (HP50.out.below hb)
            clear hb HB50 HP50
            have Fr1q:=qH hf
            clear hf
            go_wp2_with fail
            refine (qha (t:=[told 1 (fv [(1:Rat)])]) rfl (by decide) (qb5 (n:=1) (qbo _ _) (by decide)) Tr1.out (qbo _ _) (by decide) Fone.out (qbo _ _) (by decide) Fr1q.out HP51.out qc1 qet (qeU (by decide +kernel)) (fun h=>h.2.2 neg_m1)).mono ?_
            rintro e w52 ⟨rfl,hb⟩
            replace Fone:=qH (Fone.out.below hb)
            replace Fbad:=qH (Fbad.out.below hb)
            replace Ix4:=qH (zkeep hb _ _ Ix4.out)
            replace Tr1:=qH (Tr1.out.below hb)
            replace Fr1q:=qH (Fr1q.out.below hb)
            have HB52:=qH (HB51.out.trans (hb.mono HB51.out.size))
            have HP52:=qH (HP51.out.below hb)
            clear hb HB51 HP51
            clear Tr1 Fr1q
            go_wp2_with fail
            refine (qbN _ _ _ Ix4.out).mono ?_
            rintro e w53 ⟨rfl,hw⟩
            subst hw
            clear Ix4
            as_aux_lemma =>
             go_wp2_with fail
             refine (qbV 7 _).mono ?_
             rintro e w53 ⟨bx5,rfl,hb,hr⟩
             replace Fone:=qH (Fone.out.below hb)
             replace Fbad:=qH (Fbad.out.below hb)
             have HB53:=qH (HB52.out.trans (hb.mono HB52.out.size))
             have HP53:=qH (HP52.out.below hb)
             clear hb HB52 HP52
             have Ix5:=qH hr
             clear hr
             go_wp2_with fail
             refine (rows1 _ (qbo _ _) Fone.out).mono ?_
             rintro e w54 ⟨gr2,rfl,ht,hb⟩
             replace Fone:=qH (Fone.out.below hb)
             replace Fbad:=qH (Fbad.out.below hb)
             replace Ix5:=qH (zkeep hb _ _ Ix5.out)
             have HB54:=qH (HB53.out.trans (hb.mono HB53.out.size))
             have HP54:=qH (HP53.out.below hb)
             clear hb HB53 HP53
             have Tr2:=qH ht
             clear ht
             go_wp2_with fail
             refine (q_0 _).mono ?_
             rintro e w55 ⟨ar2q,gr2q,cr2q,rfl,hf,hb⟩
             replace Fone:=qH (Fone.out.below hb)
             replace Fbad:=qH (Fbad.out.below hb)
             replace Ix5:=qH (zkeep hb _ _ Ix5.out)
             replace Tr2:=qH (Tr2.out.below hb)
             have HB55:=qH (HB54.out.trans (hb.mono HB54.out.size))
             have HP55:=qH (HP54.out.below hb)
             clear hb HB54 HP54
             have Fr2q:=qH hf
             clear hf
             go_wp2_with fail
             refine (kx_none (show TCells _ _ _ _ (ttab 1 1 (fm [[(1:Rat)]])) from Tr2.out) Fone.out Fr2q.out HP55.out).mono ?_
             rintro e w56 ⟨rfl,hb⟩
             replace Fone:=qH (Fone.out.below hb)
             replace Fbad:=qH (Fbad.out.below hb)
             replace Ix5:=qH (zkeep hb _ _ Ix5.out)
             replace Tr2:=qH (Tr2.out.below hb)
             replace Fr2q:=qH (Fr2q.out.below hb)
             have HB56:=qH (HB55.out.trans (hb.mono HB55.out.size))
             have HP56:=qH (HP55.out.below hb)
             clear hb HB55 HP55
             clear Tr2 Fr2q
             go_wp2_with fail
             refine (qbN _ _ _ Ix5.out).mono ?_
             rintro e w57 ⟨rfl,hw⟩
             subst hw
             clear Ix5
             as_aux_lemma =>
              go_wp2_with fail
              refine (qbV 2 _).mono ?_
              rintro e w57 ⟨bx6,rfl,hb,hr⟩
              replace Fone:=qH (Fone.out.below hb)
              replace Fbad:=qH (Fbad.out.below hb)
              have HB57:=qH (HB56.out.trans (hb.mono HB56.out.size))
              have HP57:=qH (HP56.out.below hb)
              clear hb HB56 HP56
              have Ix6:=qH hr
              clear hr
              go_wp2_with fail
              refine (rows1 _ (qbo _ _) Fone.out).mono ?_
              rintro e w58 ⟨gr3,rfl,ht,hb⟩
              replace Fone:=qH (Fone.out.below hb)
              replace Fbad:=qH (Fbad.out.below hb)
              replace Ix6:=qH (zkeep hb _ _ Ix6.out)
              have HB58:=qH (HB57.out.trans (hb.mono HB57.out.size))
              have HP58:=qH (HP57.out.below hb)
              clear hb HB57 HP57
              have Tr3:=qH ht
              clear ht
              go_wp2_with fail
              refine (q_1_1 _).mono ?_
              rintro e w59 ⟨ar3q,gr3q,cr3q,rfl,hf,hb⟩
              replace Fone:=qH (Fone.out.below hb)
              replace Fbad:=qH (Fbad.out.below hb)
              replace Ix6:=qH (zkeep hb _ _ Ix6.out)
              replace Tr3:=qH (Tr3.out.below hb)
              have HB59:=qH (HB58.out.trans (hb.mono HB58.out.size))
              have HP59:=qH (HP58.out.below hb)
              clear hb HB58 HP58
              have Fr3q:=qH hf
              clear hf
              go_wp2_with fail
              refine (qha (t:=[told 1 (fv [(1:Rat)])]) rfl (by decide) (qb5 (n:=1) (qbo _ _) (by decide)) Tr3.out (qbo _ _) (by decide) Fr3q.out (qbo _ _) (by decide) Fone.out HP59.out qc1 (qeU (by decide +kernel)) qet (fun h=>absurd h.1 (by decide))).mono ?_
              rintro e w60 ⟨rfl,hb⟩
              replace Fone:=qH (Fone.out.below hb)
              replace Fbad:=qH (Fbad.out.below hb)
              replace Ix6:=qH (zkeep hb _ _ Ix6.out)
              replace Tr3:=qH (Tr3.out.below hb)
              replace Fr3q:=qH (Fr3q.out.below hb)
              have HB60:=qH (HB59.out.trans (hb.mono HB59.out.size))
              have HP60:=qH (HP59.out.below hb)
              clear hb HB59 HP59
              clear Tr3 Fr3q
              go_wp2_with fail
              refine (qbN _ _ _ Ix6.out).mono ?_
              rintro e w61 ⟨rfl,hw⟩
              subst hw
              clear Ix6
              as_aux_lemma =>
               go_wp2_with fail
               refine (qbV 2 _).mono ?_
               rintro e w61 ⟨bx7,rfl,hb,hr⟩
               replace Fone:=qH (Fone.out.below hb)
               replace Fbad:=qH (Fbad.out.below hb)
               have HB61:=qH (HB60.out.trans (hb.mono HB60.out.size))
               have HP61:=qH (HP60.out.below hb)
               clear hb HB60 HP60
               have Ix7:=qH hr
               clear hr
               go_wp2_with fail
               refine (rows1 _ (qbo _ _) Fone.out).mono ?_
               rintro e w62 ⟨gr4,rfl,ht,hb⟩
               replace Fone:=qH (Fone.out.below hb)
               replace Fbad:=qH (Fbad.out.below hb)
               replace Ix7:=qH (zkeep hb _ _ Ix7.out)
               have HB62:=qH (HB61.out.trans (hb.mono HB61.out.size))
               have HP62:=qH (HP61.out.below hb)
               clear hb HB61 HP61
               have Tr4:=qH ht
               clear ht
               go_wp2_with fail
               refine (qha (t:=[told 1 (fv [(1:Rat)])]) rfl (by decide) (qb5 (n:=1) (qbo _ _) (by decide)) Tr4.out (qbo _ _) (by decide) Fone.out rfl (by decide) (qfF _) HP62.out qc1 qet qeV (fun h=>absurd h.2.1 (by decide))).mono ?_
               rintro e w63 ⟨rfl,hb⟩
               replace Fone:=qH (Fone.out.below hb)
               replace Fbad:=qH (Fbad.out.below hb)
               replace Ix7:=qH (zkeep hb _ _ Ix7.out)
               replace Tr4:=qH (Tr4.out.below hb)
               have HB63:=qH (HB62.out.trans (hb.mono HB62.out.size))
               have HP63:=qH (HP62.out.below hb)
               clear hb HB62 HP62
               clear Tr4
               go_wp2_with fail
               refine (qbN _ _ _ Ix7.out).mono ?_
               rintro e w64 ⟨rfl,hw⟩
               subst hw
               clear Ix7
               as_aux_lemma =>
                go_wp2_with fail
                refine (qbV 20 _).mono ?_
                rintro e w64 ⟨bx8,rfl,hb,hr⟩
                replace Fone:=qH (Fone.out.below hb)
                replace Fbad:=qH (Fbad.out.below hb)
                have HB64:=qH (HB63.out.trans (hb.mono HB63.out.size))
                have HP64:=qH (HP63.out.below hb)
                clear hb HB63 HP63
                have Ix8:=qH hr
                clear hr
                go_wp2_with fail
                refine (rows1 _ (qbo _ _) Fone.out).mono ?_
                rintro e w65 ⟨gr5,rfl,ht,hb⟩
                replace Fone:=qH (Fone.out.below hb)
                replace Fbad:=qH (Fbad.out.below hb)
                replace Ix8:=qH (zkeep hb _ _ Ix8.out)
                have HB65:=qH (HB64.out.trans (hb.mono HB64.out.size))
                have HP65:=qH (HP64.out.below hb)
                clear hb HB64 HP64
                have Tr5:=qH ht
                clear ht
                go_wp2_with fail
                refine (qhB (t:=[told 1 (fv [(1:Rat)])]) rfl (by decide) (qb5 (n:=1) (qbo _ _) (by decide)) Tr5.out (qbo _ _) (by decide) Fone.out rfl (by decide) Fbad.out HP65.out qc1 (fun h=>qe6 h.2)).mono ?_
                rintro e w66 ⟨rfl,hb⟩
                replace Fone:=qH (Fone.out.below hb)
                replace Fbad:=qH (Fbad.out.below hb)
                replace Ix8:=qH (zkeep hb _ _ Ix8.out)
                replace Tr5:=qH (Tr5.out.below hb)
                have HB66:=qH (HB65.out.trans (hb.mono HB65.out.size))
                have HP66:=qH (HP65.out.below hb)
                clear hb HB65 HP65
                clear Tr5
                go_wp2_with fail
                refine (qbN _ _ _ Ix8.out).mono ?_
                rintro e w67 ⟨rfl,hw⟩
                subst hw
                clear Ix8
                as_aux_lemma =>
                 go_wp2_with fail
                 refine (qbV 20 _).mono ?_
                 rintro e w67 ⟨bx9,rfl,hb,hr⟩
                 replace Fone:=qH (Fone.out.below hb)
                 replace Fbad:=qH (Fbad.out.below hb)
                 have HB67:=qH (HB66.out.trans (hb.mono HB66.out.size))
                 have HP67:=qH (HP66.out.below hb)
                 clear hb HB66 HP66
                 have Ix9:=qH hr
                 clear hr
                 go_wp2_with fail
                 refine (rows1 _ (qbo _ _) Fone.out).mono ?_
                 rintro e w68 ⟨gr6,rfl,ht,hb⟩
                 replace Fone:=qH (Fone.out.below hb)
                 replace Fbad:=qH (Fbad.out.below hb)
                 replace Ix9:=qH (zkeep hb _ _ Ix9.out)
                 have HB68:=qH (HB67.out.trans (hb.mono HB67.out.size))
                 have HP68:=qH (HP67.out.below hb)
                 clear hb HB67 HP67
                 have Tr6:=qH ht
                 clear ht
                 go_wp2_with fail
                 refine (qhB (t:=[told 1 (fv [(1:Rat)])]) rfl (by decide) (qb5 (n:=1) (qbo _ _) (by decide)) Tr6.out rfl (by decide) Fbad.out rfl (by decide) (qfF _) HP68.out qc1 (fun h=>qe6 h.1)).mono ?_
                 rintro e w69 ⟨rfl,hb⟩
                 replace Fone:=qH (Fone.out.below hb)
                 replace Fbad:=qH (Fbad.out.below hb)
                 replace Ix9:=qH (zkeep hb _ _ Ix9.out)
                 replace Tr6:=qH (Tr6.out.below hb)
                 have HB69:=qH (HB68.out.trans (hb.mono HB68.out.size))
                 have HP69:=qH (HP68.out.below hb)
                 clear hb HB68 HP68
                 clear Tr6
                 go_wp2_with fail
                 refine (qbN _ _ _ Ix9.out).mono ?_
                 rintro e w70 ⟨rfl,hw⟩
                 subst hw
                 clear Ix9
                 as_aux_lemma =>
                  clear Fbad
                  go_wp2_with fail
                  refine (qi8 _).mono ?_
                  rintro e w70 ⟨S9,rfl,hS,hb⟩
                  replace Fone:=qH (Fone.out.below hb)
                  have HB70:=qH (HB69.out.trans (hb.mono HB69.out.size))
                  have HP70:=qH (HP69.out.below hb)
                  clear hb HB69 HP69
                  have HS9:=hS
                  clear hS
                  go_wp2_with fail
                  obtain⟨w71,hw⟩:∃W,W=w70.alloc (.cells #[.string S9,.string ⟨#[49]⟩] 46):=⟨_,rfl⟩
                  have hb:Below w70.heap.size w70 w71:=hw▸qbp qB qN
                  have hr:w71.heap[w70.heap.size]? = some (.cells #[.string S9,.string ⟨#[49]⟩] 46 (0,0)):=by rw [hw];exact qM _ _ _ rfl
                  have hs:w71.heap.size=w70.heap.size+1:=by rw [hw,qab]
                  rw [←hw]
                  try rw [←hs]
                  clear hw hs
                  replace Fone:=qH (Fone.out.below hb)
                  have HB71:=qH (HB70.out.trans (hb.mono HB70.out.size))
                  have HP71:=qH (HP70.out.below hb)
                  clear hb HB70 HP70
                  have N19:=qH hr
                  clear hr
                  obtain⟨w72,hw⟩:∃W,W=w71.alloc (.cells #[.string ⟨#[49]⟩,.string S9] 46):=⟨_,rfl⟩
                  have hb:Below w71.heap.size w71 w72:=hw▸qbp qB qN
                  have hr:w72.heap[w71.heap.size]? = some (.cells #[.string ⟨#[49]⟩,.string S9] 46 (0,0)):=by rw [hw];exact qM _ _ _ rfl
                  have hs:w72.heap.size=w71.heap.size+1:=by rw [hw,qab]
                  rw [←hw]
                  try rw [←hs]
                  clear hw hs
                  replace Fone:=qH (Fone.out.below hb)
                  replace N19:=qH (zkeep hb _ _ N19.out)
                  have HB72:=qH (HB71.out.trans (hb.mono HB71.out.size))
                  have HP72:=qH (HP71.out.below hb)
                  clear hb HB71 HP71
                  have N20:=qH hr
                  clear hr
                  obtain⟨w73,hw⟩:∃W,W=w72.alloc (.cells #[.string S9,.string ⟨#[49]⟩] 46):=⟨_,rfl⟩
                  have hb:Below w72.heap.size w72 w73:=hw▸qbp qB qN
                  have hr:w73.heap[w72.heap.size]? = some (.cells #[.string S9,.string ⟨#[49]⟩] 46 (0,0)):=by rw [hw];exact qM _ _ _ rfl
                  have hs:w73.heap.size=w72.heap.size+1:=by rw [hw,qab]
                  rw [←hw]
                  try rw [←hs]
                  clear hw hs
                  replace Fone:=qH (Fone.out.below hb)
                  replace N19:=qH (zkeep hb _ _ N19.out)
                  replace N20:=qH (zkeep hb _ _ N20.out)
                  have HB73:=qH (HB72.out.trans (hb.mono HB72.out.size))
                  have HP73:=qH (HP72.out.below hb)
                  clear hb HB72 HP72
                  have Fn9:=qH (qew HS9 hr)
                  clear hr
                  skip
                  refine (rows1 _ (qbo _ _) Fn9.out).mono ?_
                  rintro e w74 ⟨gn9,rfl,ht,hb⟩
                  replace Fone:=qH (Fone.out.below hb)
                  replace N19:=qH (zkeep hb _ _ N19.out)
                  replace N20:=qH (zkeep hb _ _ N20.out)
                  replace Fn9:=qH (Fn9.out.below hb)
                  have HB74:=qH (HB73.out.trans (hb.mono HB73.out.size))
                  have HP74:=qH (HP73.out.below hb)
                  clear hb HB73 HP73
                  have Tn9:=qH ht
                  clear ht
                  clear Fn9
                  go_wp2_with fail
                  refine (q_2 _).mono ?_
                  rintro e w75 ⟨an2,gn2,cn2,rfl,hf,hb⟩
                  replace Fone:=qH (Fone.out.below hb)
                  replace N19:=qH (zkeep hb _ _ N19.out)
                  replace N20:=qH (zkeep hb _ _ N20.out)
                  replace Tn9:=qH (Tn9.out.below hb)
                  have HB75:=qH (HB74.out.trans (hb.mono HB74.out.size))
                  have HP75:=qH (HP74.out.below hb)
                  clear hb HB74 HP74
                  have Fn2:=qH hf
                  clear hf
                  go_wp2_with fail
                  refine (kx_big (show TCells _ _ _ _ (ttab 1 1 fun _ _=>q9) from Tn9.out) Fone.out Fone.out Fn2.out HP75.out).mono ?_
                  rintro e w76 ⟨rfl,hb⟩
                  replace Fone:=qH (Fone.out.below hb)
                  replace N19:=qH (zkeep hb _ _ N19.out)
                  replace N20:=qH (zkeep hb _ _ N20.out)
                  replace Tn9:=qH (Tn9.out.below hb)
                  replace Fn2:=qH (Fn2.out.below hb)
                  have HB76:=qH (HB75.out.trans (hb.mono HB75.out.size))
                  have HP76:=qH (HP75.out.below hb)
                  clear hb HB75 HP75
                  clear Tn9 Fn2
                  go_wp2_with fail
                  obtain⟨w77,hw⟩:∃W,W=w76.alloc (.cells #[.string ⟨#[]⟩,.string ⟨#[]⟩] 46):=⟨_,rfl⟩
                  have hb:Below w76.heap.size w76 w77:=hw▸qbp qB qN
                  have hr:w77.heap[w76.heap.size]? = some (.cells #[.string ⟨#[]⟩,.string ⟨#[]⟩] 46 (0,0)):=by rw [hw];exact qM _ _ _ rfl
                  have hs:w77.heap.size=w76.heap.size+1:=by rw [hw,qab]
                  rw [←hw]
                  try rw [←hs]
                  clear hw hs
                  replace Fone:=qH (Fone.out.below hb)
                  replace N19:=qH (zkeep hb _ _ N19.out)
                  replace N20:=qH (zkeep hb _ _ N20.out)
                  have HB77:=qH (HB76.out.trans (hb.mono HB76.out.size))
                  have HP77:=qH (HP76.out.below hb)
                  clear hb HB76 HP76
                  clear hr
                  have l19:=(qG N19.out).1
                  have l20:=(qG N20.out).1
                  have p0:=rowC (B:=w77.heap.size) N19.out 0
                  have p1:=rowC (B:=w77.heap.size) N19.out 1
                  have q0:=rowC (B:=w77.heap.size) N20.out 0
                  have q1:=rowC (B:=w77.heap.size) N20.out 1
                  as_aux_lemma =>
                   refine wp_region_held_drew (S:=fun W=>Below w77.heap.size w77 W) (by kernel_rfl) qB.drew (fun hS0=>?_)
                   have V0:Below w77.heap.size w77 w77.drew:=hS0
                   clear hS0
                   refine hT 0 (h:=?_)
                   refine hC 1 (HWK.out _ (HP77.out.below V0)) (h:=?_)
                   rintro e u1 ⟨rfl,hb⟩
                   have V1:Below w77.heap.size w77 u1:=undrew hb
                   clear hb V0
                   refine⟨_,rfl,V1,hN (h:=?_)⟩
                   refine hT 2 (h:=hT 3 (h:=hT 4 (h:=hT 5 (h:=hT 6 (h:=hT 8 (h:=?_))))))
                   refine Go.Proofs.YtfminfgabiipjaaGreatDoor.gr [(7,382),(9,384),(10,385),(11,386),(12,387),(13,388),(14,389),(15,390),(16,391),(17,392)] [(10,[9]),(11,[10]),(13,[12]),(14,[11,13]),(15,[14]),(16,[14]),(17,[7,15,16])] [0,1,2,3,4,5,6,8] [7,9,10,11,12,13,14,15,16,17] [] 18 56 (fl2 [(7,PF 6),(9,PL 1 (told 1 fun _=>i9)),(10,PT 1 [(told 1 fun _=>i9)]),(11,PT 1 [(told 1 fun _=>i9)]),(12,PS 1 [⟨#[50]⟩]),(13,PL 1 (told 1 (fv [(2:Rat)]))),(14,fun z _=>z=.tuple #[.slice none 0 0,.int .i64 6]),(15,fun z _=>z=.slice none 0 0),(16,fun z _=>z=.int .i64 6),(17,fun z _=>z=.bool true)]) _ 38
                     (hS:=fun w' h=>V1.trans (h.mono V1.size)) (hstep:=⟨⟨_,rfl,fun v w3 hb hF K hK=>?_⟩,⟨_,rfl,fun v w3 hb hF K hK=>?_⟩,⟨_,rfl,fun v w3 hb hF K hK=>?_⟩,⟨_,rfl,fun v w3 hb hF K hK=>?_⟩,⟨_,rfl,fun v w3 hb hF K hK=>?_⟩,⟨_,rfl,fun v w3 hb hF K hK=>?_⟩,⟨_,rfl,fun v w3 hb hF K hK=>?_⟩,⟨_,rfl,fun v w3 hb hF K hK=>?_⟩,⟨_,rfl,fun v w3 hb hF K hK=>?_⟩,⟨_,rfl,fun v w3 hb hF K hK=>?_⟩,trivial⟩) (hend:=fun v w3 hb hF _ fu=>?_)
                   · as_aux_lemma =>
                      exact gC hK (qbV 6 w3) (h:=fun e w4 ⟨b,e1,h1,h2⟩=>⟨_,e1,⟨b,rfl,h2⟩,h1⟩)
                   · as_aux_lemma =>
                      exact gW hK (h:=⟨⟨w3.heap.size,1,rfl,qh8 HS9 (qM _ _ _ rfl)⟩,qbp qB qN⟩)
                   · as_aux_lemma =>
                      obtain⟨ga,ca,ea,haq⟩:PL 1 (told 1 fun _=>i9) _ w3:=hF.1
                      exact gW hK (h:=⟨⟨w3.heap.size,1,rfl,qds (qM _ _ _ rfl) (qbo _ _) (haq.below (qbp qB qN))⟩,qbp qB qN⟩)
                   · as_aux_lemma =>
                      obtain⟨gq,cq,eq,hq⟩:PT 1 [(told 1 fun _=>i9)] _ w3:=hF.1
                      exact gC hK (qcz (.slice (some ⟨gq,0,none⟩) 1 cq) w3) (h:=fun e w4 ⟨e1,e2⟩=>⟨_,e1,⟨gq,cq,rfl,e2▸hq⟩,by rw [e2];exact Below.refl _ _⟩)
                   · as_aux_lemma =>
                      exact gW hK (h:=⟨⟨w3.heap.size,rfl,SCells.row (L:=[⟨#[50]⟩]) (heap_alloc_new w3 _)⟩,qbp qB qN⟩)
                   · as_aux_lemma =>
                      obtain⟨gq,eq,hq⟩:PS 1 [⟨#[50]⟩] _ w3:=hF.1
                      exact gC hK (q_at 1 (L:=[⟨#[50]⟩]) (l:=[(2:Rat)]) hq rfl rfl (by decide) (by simp only [qan,qaq,ft_2];decide +kernel) (by decide)) (h:=fun e w4 ⟨ao,g,c,e1,h1,h2⟩=>⟨_,e1,pl_of h1 (qbo _ _) (by decide),h2⟩)
                   · as_aux_lemma =>
                      obtain⟨ga,ca,ea,haq⟩:PT 1 [(told 1 fun _=>i9)] _ w3:=hF.1
                      obtain⟨gb,cb,eb,hbq⟩:PL 1 (told 1 (fv [(2:Rat)])) _ w3:=hF.2.1
                      exact gC hK (kx_over (show TCells _ _ _ _ (ttab 1 1 fun _ _=>i9) from haq) hbq (HP77.out.below (V1.trans (hb.mono V1.size)))) (he:=by (go_simp <;> first | with_reducible rfl | (repeat' apply qA) <;> rfl)) (h:=fun e w4 ⟨e1,h1⟩=>⟨_,e1,rfl,h1⟩)
                   · as_aux_lemma =>
                      have eq:v 14=_:=hF.1
                      exact gV hK rfl
                   · as_aux_lemma =>
                      have eq:v 14=_:=hF.1
                      exact gV hK rfl
                   · as_aux_lemma =>
                      obtain⟨bq,eq,hq⟩:PF 6 _ w3:=hF.1
                      have e15:v 15=_:=hF.2.1
                      have e16:v 16=_:=hF.2.2.1
                      exact gC hK (qbN 6 bq w3 hq) (h:=fun e w4 ⟨e1,e2⟩=>⟨_,e1,rfl,by rw [e2];exact Below.refl _ _⟩)
                   have eL:v 17=_:=hF 17 (by decide) (by decide)
                   have V2:=V1.trans (hb.mono V1.size)
                   rw [eL]
                   clear eL hF hb V1
                   as_aux_lemma =>
                    refine hT 18 (h:=hT 19 (h:=hT 22 (h:=hT 26 (h:=hT 28 (h:=?_)))))
                    refine Go.Proofs.YtfminfgabiipjaaGreatDoor.gr [(20,395),(21,396),(23,398),(24,399),(25,400),(27,402),(29,404),(30,405),(31,406),(32,407)] [(21,[20]),(24,[23]),(25,[24]),(29,[25,27]),(30,[29]),(31,[29]),(32,[21,30,31])] [0,1,2,3,4,5,6,7,8,9,10,11,12,13,14,15,16,17,18,19,22,26,28] [20,21,23,24,25,27,29,30,31,32] [] 33 56 (fl2 [(20,PS 1 [⟨#[49]⟩]),(21,PI [⟨#[49]⟩]),(23,PL 1 (told 1 fun _=>q9)),(24,PT 1 [(told 1 fun _=>q9)]),(25,PT 1 [(told 1 fun _=>q9)]),(27,PL 1 (told 1 fun _=>q9)),(29,PR 1 (told 1 (fv [(1:Rat)]))),(30,PL 1 (told 1 (fv [(1:Rat)]))),(31,fun z _=>z=.int .i64 0),(32,fun z _=>z=.bool true)]) _ 23
                      (hS:=fun w' h=>V2.trans (h.mono V2.size)) (hstep:=⟨⟨_,rfl,fun v w3 hb hF K hK=>?_⟩,⟨_,rfl,fun v w3 hb hF K hK=>?_⟩,⟨_,rfl,fun v w3 hb hF K hK=>?_⟩,⟨_,rfl,fun v w3 hb hF K hK=>?_⟩,⟨_,rfl,fun v w3 hb hF K hK=>?_⟩,⟨_,rfl,fun v w3 hb hF K hK=>?_⟩,⟨_,rfl,fun v w3 hb hF K hK=>?_⟩,⟨_,rfl,fun v w3 hb hF K hK=>?_⟩,⟨_,rfl,fun v w3 hb hF K hK=>?_⟩,⟨_,rfl,fun v w3 hb hF K hK=>?_⟩,trivial⟩) (hend:=fun v w3 hb hF _ fu=>?_)
                    · as_aux_lemma =>
                       exact gW hK (h:=⟨⟨w3.heap.size,rfl,SCells.row (L:=[⟨#[49]⟩]) (heap_alloc_new w3 _)⟩,qbp qB qN⟩)
                    · as_aux_lemma =>
                       obtain⟨gq,eq,hq⟩:PS 1 [⟨#[49]⟩] _ w3:=hF.1
                       exact gC hK (qhw gq [⟨#[49]⟩] w3 hq) (h:=fun e w4 ⟨b,e1,h1,h2⟩=>⟨_,e1,⟨b,rfl,h2⟩,h1⟩)
                    · as_aux_lemma =>
                       exact gW hK (h:=⟨⟨w3.heap.size,1,rfl,qew HS9 (qM _ _ _ rfl)⟩,qbp qB qN⟩)
                    · as_aux_lemma =>
                       obtain⟨ga,ca,ea,haq⟩:PL 1 (told 1 fun _=>q9) _ w3:=hF.1
                       exact gW hK (h:=⟨⟨w3.heap.size,1,rfl,qds (qM _ _ _ rfl) (qbo _ _) (haq.below (qbp qB qN))⟩,qbp qB qN⟩)
                    · as_aux_lemma =>
                       obtain⟨gq,cq,eq,hq⟩:PT 1 [(told 1 fun _=>q9)] _ w3:=hF.1
                       exact gC hK (qcz (.slice (some ⟨gq,0,none⟩) 1 cq) w3) (h:=fun e w4 ⟨e1,e2⟩=>⟨_,e1,⟨gq,cq,rfl,e2▸hq⟩,by rw [e2];exact Below.refl _ _⟩)
                    · as_aux_lemma =>
                       exact gW hK (h:=⟨⟨w3.heap.size,1,rfl,qew HS9 (qM _ _ _ rfl)⟩,qbp qB qN⟩)
                    · as_aux_lemma =>
                       obtain⟨ga,ca,ea,haq⟩:PT 1 [(told 1 fun _=>q9)] _ w3:=hF.1
                       obtain⟨gb,cb,eb,hbq⟩:PL 1 (told 1 fun _=>q9) _ w3:=hF.2.1
                       exact gC hK (kx_nines (show TCells _ _ _ _ (ttab 1 1 fun _ _=>q9) from haq) hbq (Fone.out.below (V2.trans (hb.mono V2.size))) (HP77.out.below (V2.trans (hb.mono V2.size)))) (he:=by (go_simp <;> first | with_reducible rfl | (repeat' apply qA) <;> rfl)) (h:=fun e w4 ⟨⟨g,e1,h1⟩,h2⟩=>⟨_,e1,⟨g,rfl,h1⟩,h2⟩)
                    · as_aux_lemma =>
                       obtain⟨gq,eq,hq⟩:PR 1 (told 1 (fv [(1:Rat)])) _ w3:=hF.1
                       exact gV hK ⟨gq,1,rfl,hq⟩
                    · as_aux_lemma =>
                       obtain⟨gq,eq,hq⟩:PR 1 (told 1 (fv [(1:Rat)])) _ w3:=hF.1
                       exact gV hK rfl
                    · as_aux_lemma =>
                       obtain⟨bq,eq,hq⟩:PI [⟨#[49]⟩] _ w3:=hF.1
                       obtain⟨gr,cr,er,hr⟩:PL 1 (told 1 (fv [(1:Rat)])) _ w3:=hF.2.1
                       have e31:v 31=_:=hF.2.2.1
                       exact gC hK (qdX (L:=[⟨#[49]⟩]) (l:=[(1:Rat)]) hq rfl rfl (by decide) (by simp only [qan,qaq,ft_1];decide +kernel) (by decide) hr) (h:=fun e w4 ⟨e1,h1⟩=>⟨_,e1,rfl,h1⟩)
                    have eL:v 32=_:=hF 32 (by decide) (by decide)
                    have V3:=V2.trans (hb.mono V2.size)
                    rw [eL]
                    clear eL hF hb V2
                    as_aux_lemma =>
                     refine hT 33 (h:=hT 34 (h:=hT 35 (h:=hT 36 (h:=hT 37 (h:=hT 38 (h:=?_))))))
                     refine Go.Proofs.YtfminfgabiipjaaGreatDoor.gr [(39,414),(40,415),(41,416),(42,417),(43,418),(44,419),(45,420),(46,421),(47,422),(48,423),(49,424),(50,425),(51,426),(52,427),(53,428)] [(41,[40]),(43,[42]),(45,[44]),(47,[46]),(48,[41,43,45,47]),(49,[48]),(50,[49]),(51,[50]),(52,[50]),(53,[39,51,52])] [0,1,2,3,4,5,6,7,8,9,10,11,12,13,14,15,16,17,18,19,20,21,22,23,24,25,26,27,28,29,30,31,32,33,34,35,36,37,38] [39,40,41,42,43,44,45,46,47,48,49,50,51,52,53] [] 54 56 (fl2 [(39,PY 3),(40,PS 3 [⟨#[48]⟩,⟨#[48]⟩,⟨#[49]⟩]),(41,PL 3 (told 3 (fv [(0:Rat),0,1]))),(42,PS 3 [⟨#[48]⟩,⟨#[50]⟩,⟨#[51]⟩]),(43,PL 3 (told 3 (fv [(0:Rat),2,3]))),(44,PS 3 [⟨#[49]⟩,⟨#[49]⟩,⟨#[49]⟩]),(45,PL 3 (told 3 (fv [(1:Rat),1,1]))),(46,PS 3 [⟨#[49]⟩,⟨#[51]⟩,⟨#[53]⟩]),(47,PL 3 (told 3 (fv [(1:Rat),3,5]))),(48,PT 4 [(told 3 (fv [(0:Rat),0,1])),(told 3 (fv [(0:Rat),2,3])),(told 3 (fv [(1:Rat),1,1])),(told 3 (fv [(1:Rat),3,5]))]),(49,PT 4 [(told 3 (fv [(0:Rat),0,1])),(told 3 (fv [(0:Rat),2,3])),(told 3 (fv [(1:Rat),1,1])),(told 3 (fv [(1:Rat),3,5]))]),(50,fun z _=>z=.tuple #[.int .i64 3,.int .i64 0]),(51,fun z _=>z=.int .i64 3),(52,fun z _=>z=.int .i64 0),(53,fun z _=>z=.bool true)]) _ 2
                       (hS:=fun w' h=>V3.trans (h.mono V3.size)) (hstep:=⟨⟨_,rfl,fun v w3 hb hF K hK=>?_⟩,⟨_,rfl,fun v w3 hb hF K hK=>?_⟩,⟨_,rfl,fun v w3 hb hF K hK=>?_⟩,⟨_,rfl,fun v w3 hb hF K hK=>?_⟩,⟨_,rfl,fun v w3 hb hF K hK=>?_⟩,⟨_,rfl,fun v w3 hb hF K hK=>?_⟩,⟨_,rfl,fun v w3 hb hF K hK=>?_⟩,⟨_,rfl,fun v w3 hb hF K hK=>?_⟩,⟨_,rfl,fun v w3 hb hF K hK=>?_⟩,⟨_,rfl,fun v w3 hb hF K hK=>?_⟩,⟨_,rfl,fun v w3 hb hF K hK=>?_⟩,⟨_,rfl,fun v w3 hb hF K hK=>?_⟩,⟨_,rfl,fun v w3 hb hF K hK=>?_⟩,⟨_,rfl,fun v w3 hb hF K hK=>?_⟩,⟨_,rfl,fun v w3 hb hF K hK=>?_⟩,trivial⟩) (hend:=fun v w3 hb hF _ fu=>?_)
                     · as_aux_lemma =>
                        exact gC hK (qdO 3 w3) (h:=fun e w4 ⟨b,e1,h1,h2⟩=>⟨_,e1,⟨b,rfl,h2⟩,h1⟩)
                     · as_aux_lemma =>
                        exact gW hK (h:=⟨⟨w3.heap.size,rfl,SCells.row (L:=[⟨#[48]⟩,⟨#[48]⟩,⟨#[49]⟩]) (heap_alloc_new w3 _)⟩,qbp qB qN⟩)
                     · as_aux_lemma =>
                        obtain⟨gq,eq,hq⟩:PS 3 [⟨#[48]⟩,⟨#[48]⟩,⟨#[49]⟩] _ w3:=hF.1
                        exact gC hK (q_at 3 (L:=[⟨#[48]⟩,⟨#[48]⟩,⟨#[49]⟩]) (l:=[(0:Rat),0,1]) hq rfl rfl (by decide) (by simp only [qan,qaq,ft_0,ft_1];decide +kernel) (by decide)) (h:=fun e w4 ⟨ao,g,c,e1,h1,h2⟩=>⟨_,e1,pl_of h1 (qbo _ _) (by decide),h2⟩)
                     · as_aux_lemma =>
                        exact gW hK (h:=⟨⟨w3.heap.size,rfl,SCells.row (L:=[⟨#[48]⟩,⟨#[50]⟩,⟨#[51]⟩]) (heap_alloc_new w3 _)⟩,qbp qB qN⟩)
                     · as_aux_lemma =>
                        obtain⟨gq,eq,hq⟩:PS 3 [⟨#[48]⟩,⟨#[50]⟩,⟨#[51]⟩] _ w3:=hF.1
                        exact gC hK (q_at 3 (L:=[⟨#[48]⟩,⟨#[50]⟩,⟨#[51]⟩]) (l:=[(0:Rat),2,3]) hq rfl rfl (by decide) (by simp only [qan,qaq,ft_0,ft_2,ft_3];decide +kernel) (by decide)) (h:=fun e w4 ⟨ao,g,c,e1,h1,h2⟩=>⟨_,e1,pl_of h1 (qbo _ _) (by decide),h2⟩)
                     · as_aux_lemma =>
                        exact gW hK (h:=⟨⟨w3.heap.size,rfl,SCells.row (L:=[⟨#[49]⟩,⟨#[49]⟩,⟨#[49]⟩]) (heap_alloc_new w3 _)⟩,qbp qB qN⟩)
                     · as_aux_lemma =>
                        obtain⟨gq,eq,hq⟩:PS 3 [⟨#[49]⟩,⟨#[49]⟩,⟨#[49]⟩] _ w3:=hF.1
                        exact gC hK (q_at 3 (L:=[⟨#[49]⟩,⟨#[49]⟩,⟨#[49]⟩]) (l:=[(1:Rat),1,1]) hq rfl rfl (by decide) (by simp only [qan,qaq,ft_1];decide +kernel) (by decide)) (h:=fun e w4 ⟨ao,g,c,e1,h1,h2⟩=>⟨_,e1,pl_of h1 (qbo _ _) (by decide),h2⟩)
                     · as_aux_lemma =>
                        exact gW hK (h:=⟨⟨w3.heap.size,rfl,SCells.row (L:=[⟨#[49]⟩,⟨#[51]⟩,⟨#[53]⟩]) (heap_alloc_new w3 _)⟩,qbp qB qN⟩)
                     · as_aux_lemma =>
                        obtain⟨gq,eq,hq⟩:PS 3 [⟨#[49]⟩,⟨#[51]⟩,⟨#[53]⟩] _ w3:=hF.1
                        exact gC hK (q_at 3 (L:=[⟨#[49]⟩,⟨#[51]⟩,⟨#[53]⟩]) (l:=[(1:Rat),3,5]) hq rfl rfl (by decide) (by simp only [qan,qaq,ft_1,ft_3,ft_5];decide +kernel) (by decide)) (h:=fun e w4 ⟨ao,g,c,e1,h1,h2⟩=>⟨_,e1,pl_of h1 (qbo _ _) (by decide),h2⟩)
                     · as_aux_lemma =>
                        obtain⟨ga,ca,ea,haq⟩:PL 3 (told 3 (fv [(0:Rat),0,1])) _ w3:=hF.1
                        obtain⟨gb,cb,eb,hbq⟩:PL 3 (told 3 (fv [(0:Rat),2,3])) _ w3:=hF.2.1
                        obtain⟨gc,cc,ec,hcq⟩:PL 3 (told 3 (fv [(1:Rat),1,1])) _ w3:=hF.2.2.1
                        obtain⟨gd,cd,ed,hdq⟩:PL 3 (told 3 (fv [(1:Rat),3,5])) _ w3:=hF.2.2.2.1
                        exact gW hK (h:=⟨⟨w3.heap.size,4,rfl,tab4 (qM _ _ _ rfl) (haq.below (qbp qB qN)) (hbq.below (qbp qB qN)) (hcq.below (qbp qB qN)) (hdq.below (qbp qB qN)) (qbo _ _) (qbo _ _) (qbo _ _) (qbo _ _)⟩,qbp qB qN⟩)
                     · as_aux_lemma =>
                        obtain⟨gq,cq,eq,hq⟩:PT 4 [(told 3 (fv [(0:Rat),0,1])),(told 3 (fv [(0:Rat),2,3])),(told 3 (fv [(1:Rat),1,1])),(told 3 (fv [(1:Rat),3,5]))] _ w3:=hF.1
                        exact gC hK (qcz (.slice (some ⟨gq,0,none⟩) 4 cq) w3) (h:=fun e w4 ⟨e1,e2⟩=>⟨_,e1,⟨gq,cq,rfl,e2▸hq⟩,by rw [e2];exact Below.refl _ _⟩)
                     · as_aux_lemma =>
                        obtain⟨ga,ca,ea,haq⟩:PT 4 [(told 3 (fv [(0:Rat),0,1])),(told 3 (fv [(0:Rat),2,3])),(told 3 (fv [(1:Rat),1,1])),(told 3 (fv [(1:Rat),3,5]))] _ w3:=hF.1
                        exact gC hK (kx_three (show TCells _ _ _ _ (ttab 4 3 (fm [[(0:Rat),0,1],[(0:Rat),2,3],[(1:Rat),1,1],[(1:Rat),3,5]])) from haq)) (he:=by (go_simp <;> first | with_reducible rfl | (repeat' apply qA) <;> rfl)) (h:=fun e w4 ⟨e1,h1⟩=>⟨_,e1,rfl,h1⟩)
                     · as_aux_lemma =>
                        have eq:v 50=_:=hF.1
                        exact gV hK rfl
                     · as_aux_lemma =>
                        have eq:v 50=_:=hF.1
                        exact gV hK rfl
                     · as_aux_lemma =>
                        obtain⟨bq,eq,hq⟩:PY 3 _ w3:=hF.1
                        have e51:v 51=_:=hF.2.1
                        have e52:v 52=_:=hF.2.2.1
                        exact gC hK (qde 3 bq w3 hq) (h:=fun e w4 ⟨e1,e2⟩=>⟨_,e1,rfl,by rw [e2];exact Below.refl _ _⟩)
                     have eL:v 53=_:=hF 53 (by decide) (by decide)
                     have V4:=V3.trans (hb.mono V3.size)
                     rw [eL]
                     clear eL hF hb V3
                     as_aux_lemma =>
                      refine hT 54 (h:=hT 55 (h:=?_))
                      refine wpAnyH_done (by kernel_rfl) ?_ _
                      clear p0 p1 q0 q1
                      go_wp2_with fail
                      go_ret
                      exact⟨rfl,HB77.out.trans (V4.mono HB77.out.size)⟩
end Go.Proofs.YtfminfgabiipjaaGreatDoor
