/- Ae, part 41: Wk -/
import Derived.Deep.RegionHeld3
import Derived.Test.YtfminfgabiipjaaGreatDoorAe0
import Derived.Test.YtfminfgabiipjaaGreatDoorAe28
import Derived.Test.YtfminfgabiipjaaGreatDoorAe40
set_option maxRecDepth 100000
set_option maxHeartbeats 16000000
namespace Go.Proofs.YtfminfgabiipjaaGreatDoor
open Go.RowKit
theorem qjC (w0:World) (hP:HasT w0):Calls Tryz.prog 10 #[] w0 fun e w'=>e=.returned (.bool true)∧Below w0.heap.size w0 w':=by
 have HB0:=qH (Below.refl w0.heap.size w0)
 have HP0:=qH hP
 clear hP
 go_enter Tryz.func10,Tryz.ntmps10
 go_wp2_with fail
 refine (q_1 _).mono ?_
 rintro e w1 ⟨ax1,gx1,cx1,rfl,hf,hb⟩
 have HB1:=qH (HB0.out.trans (hb.mono HB0.out.size))
 have HP1:=qH (HP0.out.below hb)
 clear hb HB0 HP0
 have Fx1:=qH hf
 clear hf
 go_wp2_with fail
 refine (q_2 _).mono ?_
 rintro e w2 ⟨ax2,gx2,cx2,rfl,hf,hb⟩
 replace Fx1:=qH (Fx1.out.below hb)
 have HB2:=qH (HB1.out.trans (hb.mono HB1.out.size))
 have HP2:=qH (HP1.out.below hb)
 clear hb HB1 HP1
 have Fx2:=qH hf
 clear hf
 go_wp2_with fail
 refine (rows2 _ (qbo _ _) Fx1.out (qbo _ _) Fx2.out).mono ?_
 rintro e w3 ⟨gx3,rfl,ht,hb⟩
 replace Fx1:=qH (Fx1.out.below hb)
 replace Fx2:=qH (Fx2.out.below hb)
 have HB3:=qH (HB2.out.trans (hb.mono HB2.out.size))
 have HP3:=qH (HP2.out.below hb)
 clear hb HB2 HP2
 have Tx3:=qH (show TCells w3 (some ⟨gx3,0,none⟩) gx3 0 (ttab 2 1 (fm [[(1:Rat)],[(2:Rat)]])) from ht)
 clear ht
 clear Fx1 Fx2
 go_wp2_with fail
 refine (qhx _ [⟨#[52,47,53]⟩,⟨#[55,47,53]⟩] 2 rfl).mono ?_
 rintro e w4 ⟨bx4,rfl,hi,hb⟩
 replace Tx3:=qH (Tx3.out.below hb)
 have HB4:=qH (HB3.out.trans (hb.mono HB3.out.size))
 have HP4:=qH (HP3.out.below hb)
 clear hb HB3 HP3
 have Ix4:=qH hi
 clear hi
 go_wp2_with fail
 refine (q_2_1 _).mono ?_
 rintro e w5 ⟨ax5,gx5,cx5,rfl,hf,hb⟩
 replace Tx3:=qH (Tx3.out.below hb)
 replace Ix4:=qH (Ix4.out.below hb)
 have HB5:=qH (HB4.out.trans (hb.mono HB4.out.size))
 have HP5:=qH (HP4.out.below hb)
 clear hb HB4 HP4
 have Fx5:=qH hf
 clear hf
 go_wp2_with fail
 refine (q_1_3 _).mono ?_
 rintro e w6 ⟨ax6,gx6,cx6,rfl,hf,hb⟩
 replace Tx3:=qH (Tx3.out.below hb)
 replace Ix4:=qH (Ix4.out.below hb)
 replace Fx5:=qH (Fx5.out.below hb)
 have HB6:=qH (HB5.out.trans (hb.mono HB5.out.size))
 have HP6:=qH (HP5.out.below hb)
 clear hb HB5 HP5
 have Fx6:=qH hf
 clear hf
 go_wp2_with fail
 refine (rows2 _ (qbo _ _) Fx5.out (qbo _ _) Fx6.out).mono ?_
 rintro e w7 ⟨gx7,rfl,ht,hb⟩
 replace Tx3:=qH (Tx3.out.below hb)
 replace Ix4:=qH (Ix4.out.below hb)
 replace Fx5:=qH (Fx5.out.below hb)
 replace Fx6:=qH (Fx6.out.below hb)
 have HB7:=qH (HB6.out.trans (hb.mono HB6.out.size))
 have HP7:=qH (HP6.out.below hb)
 clear hb HB6 HP6
 have Tx7:=qH (show TCells w7 (some ⟨gx7,0,none⟩) gx7 0 (ttab 2 2 (fm [[(2:Rat),1],[(1:Rat),3]])) from ht)
 clear ht
 clear Fx5 Fx6
 go_wp2_with fail
 refine (q_3_5 _).mono ?_
 rintro e w8 ⟨ax8,gx8,cx8,rfl,hf,hb⟩
 replace Tx3:=qH (Tx3.out.below hb)
 replace Ix4:=qH (Ix4.out.below hb)
 replace Tx7:=qH (Tx7.out.below hb)
 have HB8:=qH (HB7.out.trans (hb.mono HB7.out.size))
 have HP8:=qH (HP7.out.below hb)
 clear hb HB7 HP7
 have Fx8:=qH hf
 clear hf
 go_wp2_with fail
 refine (ex1 Tx7.out Fx8.out HP8.out).mono ?_
 rintro e w9 ⟨⟨gr,rfl,hf⟩,hb⟩
 replace Tx3:=qH (Tx3.out.below hb)
 replace Ix4:=qH (Ix4.out.below hb)
 replace Tx7:=qH (Tx7.out.below hb)
 replace Fx8:=qH (Fx8.out.below hb)
 have HB9:=qH (HB8.out.trans (hb.mono HB8.out.size))
 have HP9:=qH (HP8.out.below hb)
 clear hb HB8 HP8
 have FR:=qH hf
 clear hf
 clear Tx7 Fx8
 go_wp2_with fail
 refine (qdX (L:=[⟨#[52,47,53]⟩,⟨#[55,47,53]⟩]) (l:=[(4 / 5:Rat),7 / 5]) Ix4.out rfl rfl (by decide) (by simp only [qan,qaq,ft_45,ft_75];decide +kernel) (by decide) FR.out).mono ?_
 rintro e w10 ⟨rfl,hb⟩
 replace Tx3:=qH (Tx3.out.below hb)
 replace Ix4:=qH (Ix4.out.below hb)
 replace FR:=qH (FR.out.below hb)
 have HB10:=qH (HB9.out.trans (hb.mono HB9.out.size))
 have HP10:=qH (HP9.out.below hb)
 clear hb HB9 HP9
 clear Ix4 FR
 go_wp2_with fail
 refine (qbV 7 _).mono ?_
 rintro e w11 ⟨bx9,rfl,hb,hr⟩
 replace Tx3:=qH (Tx3.out.below hb)
 have HB11:=qH (HB10.out.trans (hb.mono HB10.out.size))
 have HP11:=qH (HP10.out.below hb)
 clear hb HB10 HP10
 have Ix9:=qH hr
 clear hr
 go_wp2_with fail
 refine (q_1_2 _).mono ?_
 rintro e w12 ⟨ax10,gx10,cx10,rfl,hf,hb⟩
 replace Tx3:=qH (Tx3.out.below hb)
 replace Ix9:=qH (zkeep hb _ _ Ix9.out)
 have HB12:=qH (HB11.out.trans (hb.mono HB11.out.size))
 have HP12:=qH (HP11.out.below hb)
 clear hb HB11 HP11
 have Fx10:=qH hf
 clear hf
 go_wp2_with fail
 refine (q_2_4 _).mono ?_
 rintro e w13 ⟨ax11,gx11,cx11,rfl,hf,hb⟩
 replace Tx3:=qH (Tx3.out.below hb)
 replace Ix9:=qH (zkeep hb _ _ Ix9.out)
 replace Fx10:=qH (Fx10.out.below hb)
 have HB13:=qH (HB12.out.trans (hb.mono HB12.out.size))
 have HP13:=qH (HP12.out.below hb)
 clear hb HB12 HP12
 have Fx11:=qH hf
 clear hf
 go_wp2_with fail
 refine (rows2 _ (qbo _ _) Fx10.out (qbo _ _) Fx11.out).mono ?_
 rintro e w14 ⟨gx12,rfl,ht,hb⟩
 replace Tx3:=qH (Tx3.out.below hb)
 replace Ix9:=qH (zkeep hb _ _ Ix9.out)
 replace Fx10:=qH (Fx10.out.below hb)
 replace Fx11:=qH (Fx11.out.below hb)
 have HB14:=qH (HB13.out.trans (hb.mono HB13.out.size))
 have HP14:=qH (HP13.out.below hb)
 clear hb HB13 HP13
 have Tx12:=qH (show TCells w14 (some ⟨gx12,0,none⟩) gx12 0 (ttab 2 2 (fm [[(1:Rat),2],[(2:Rat),4]])) from ht)
 clear ht
 clear Fx10 Fx11
 go_wp2_with fail
 refine (q_1_2 _).mono ?_
 rintro e w15 ⟨ax13,gx13,cx13,rfl,hf,hb⟩
 replace Tx3:=qH (Tx3.out.below hb)
 replace Ix9:=qH (zkeep hb _ _ Ix9.out)
 replace Tx12:=qH (Tx12.out.below hb)
 have HB15:=qH (HB14.out.trans (hb.mono HB14.out.size))
 have HP15:=qH (HP14.out.below hb)
 clear hb HB14 HP14
 have Fx13:=qH hf
 clear hf
 go_wp2_with fail
 refine (ex2 Tx12.out Fx13.out HP15.out).mono ?_
 rintro e w16 ⟨rfl,hb⟩
 replace Tx3:=qH (Tx3.out.below hb)
 replace Ix9:=qH (zkeep hb _ _ Ix9.out)
 replace Tx12:=qH (Tx12.out.below hb)
 replace Fx13:=qH (Fx13.out.below hb)
 have HB16:=qH (HB15.out.trans (hb.mono HB15.out.size))
 have HP16:=qH (HP15.out.below hb)
 clear hb HB15 HP15
 clear Tx12 Fx13
 go_wp2_with fail
 refine (qbN _ _ _ Ix9.out).mono ?_
 rintro e w17 ⟨rfl,hw⟩
 subst hw
 clear Ix9
 go_wp2_with fail
 refine (qbV 2 _).mono ?_
 rintro e w17 ⟨bx14,rfl,hb,hr⟩
 replace Tx3:=qH (Tx3.out.below hb)
 have HB17:=qH (HB16.out.trans (hb.mono HB16.out.size))
 have HP17:=qH (HP16.out.below hb)
 clear hb HB16 HP16
 have Ix14:=qH hr
 clear hr
 go_wp2_with fail
 refine (q_1_2 _).mono ?_
 rintro e w18 ⟨ax15,gx15,cx15,rfl,hf,hb⟩
 replace Tx3:=qH (Tx3.out.below hb)
 replace Ix14:=qH (zkeep hb _ _ Ix14.out)
 have HB18:=qH (HB17.out.trans (hb.mono HB17.out.size))
 have HP18:=qH (HP17.out.below hb)
 clear hb HB17 HP17
 have Fx15:=qH hf
 clear hf
 go_wp2_with fail
 refine (rows1 _ (qbo _ _) Fx15.out).mono ?_
 rintro e w19 ⟨gx16,rfl,ht,hb⟩
 replace Tx3:=qH (Tx3.out.below hb)
 replace Ix14:=qH (zkeep hb _ _ Ix14.out)
 replace Fx15:=qH (Fx15.out.below hb)
 have HB19:=qH (HB18.out.trans (hb.mono HB18.out.size))
 have HP19:=qH (HP18.out.below hb)
 clear hb HB18 HP18
 have Tx16:=qH (show TCells w19 (some ⟨gx16,0,none⟩) gx16 0 (ttab 1 2 (fm [[(1:Rat),2]])) from ht)
 clear ht
 clear Fx15
 go_wp2_with fail
 refine (q_1 _).mono ?_
 rintro e w20 ⟨ax17,gx17,cx17,rfl,hf,hb⟩
 replace Tx3:=qH (Tx3.out.below hb)
 replace Ix14:=qH (zkeep hb _ _ Ix14.out)
 replace Tx16:=qH (Tx16.out.below hb)
 have HB20:=qH (HB19.out.trans (hb.mono HB19.out.size))
 have HP20:=qH (HP19.out.below hb)
 clear hb HB19 HP19
 have Fx17:=qH hf
 clear hf
 go_wp2_with fail
 refine (ex3 Tx16.out Fx17.out HP20.out).mono ?_
 rintro e w21 ⟨rfl,hb⟩
 replace Tx3:=qH (Tx3.out.below hb)
 replace Ix14:=qH (zkeep hb _ _ Ix14.out)
 replace Tx16:=qH (Tx16.out.below hb)
 replace Fx17:=qH (Fx17.out.below hb)
 have HB21:=qH (HB20.out.trans (hb.mono HB20.out.size))
 have HP21:=qH (HP20.out.below hb)
 clear hb HB20 HP20
 clear Tx16 Fx17
 go_wp2_with fail
 refine (qbN _ _ _ Ix14.out).mono ?_
 rintro e w22 ⟨rfl,hw⟩
 subst hw
 clear Ix14
 go_wp2_with fail
 refine (qdO 1 _).mono ?_
 rintro e w22 ⟨bx18,rfl,hb,hr⟩
 replace Tx3:=qH (Tx3.out.below hb)
 have HB22:=qH (HB21.out.trans (hb.mono HB21.out.size))
 have HP22:=qH (HP21.out.below hb)
 clear hb HB21 HP21
 have Ix18:=qH hr
 clear hr
 go_wp2_with fail
 refine (q_1_2 _).mono ?_
 rintro e w23 ⟨ax19,gx19,cx19,rfl,hf,hb⟩
 replace Tx3:=qH (Tx3.out.below hb)
 replace Ix18:=qH (zkeep hb _ _ Ix18.out)
 have HB23:=qH (HB22.out.trans (hb.mono HB22.out.size))
 have HP23:=qH (HP22.out.below hb)
 clear hb HB22 HP22
 have Fx19:=qH hf
 clear hf
 go_wp2_with fail
 refine (q_2_4 _).mono ?_
 rintro e w24 ⟨ax20,gx20,cx20,rfl,hf,hb⟩
 replace Tx3:=qH (Tx3.out.below hb)
 replace Ix18:=qH (zkeep hb _ _ Ix18.out)
 replace Fx19:=qH (Fx19.out.below hb)
 have HB24:=qH (HB23.out.trans (hb.mono HB23.out.size))
 have HP24:=qH (HP23.out.below hb)
 clear hb HB23 HP23
 have Fx20:=qH hf
 clear hf
 go_wp2_with fail
 refine (rows2 _ (qbo _ _) Fx19.out (qbo _ _) Fx20.out).mono ?_
 rintro e w25 ⟨gx21,rfl,ht,hb⟩
 replace Tx3:=qH (Tx3.out.below hb)
 replace Ix18:=qH (zkeep hb _ _ Ix18.out)
 replace Fx19:=qH (Fx19.out.below hb)
 replace Fx20:=qH (Fx20.out.below hb)
 have HB25:=qH (HB24.out.trans (hb.mono HB24.out.size))
 have HP25:=qH (HP24.out.below hb)
 clear hb HB24 HP24
 have Tx21:=qH (show TCells w25 (some ⟨gx21,0,none⟩) gx21 0 (ttab 2 2 (fm [[(1:Rat),2],[(2:Rat),4]])) from ht)
 clear ht
 clear Fx19 Fx20
 go_wp2_with fail
 refine (ex4 Tx21.out).mono ?_
 rintro e w26 ⟨rfl,hb⟩
 replace Tx3:=qH (Tx3.out.below hb)
 replace Ix18:=qH (zkeep hb _ _ Ix18.out)
 replace Tx21:=qH (Tx21.out.below hb)
 have HB26:=qH (HB25.out.trans (hb.mono HB25.out.size))
 have HP26:=qH (HP25.out.below hb)
 clear hb HB25 HP25
 clear Tx21
 go_wp2_with fail
 refine (qde _ _ _ Ix18.out).mono ?_
 rintro e w27 ⟨rfl,hw⟩
 subst hw
 clear Ix18
 go_wp2_with fail
 refine (qdO 0 _).mono ?_
 rintro e w27 ⟨bx22,rfl,hb,hr⟩
 replace Tx3:=qH (Tx3.out.below hb)
 have HB27:=qH (HB26.out.trans (hb.mono HB26.out.size))
 have HP27:=qH (HP26.out.below hb)
 clear hb HB26 HP26
 have Ix22:=qH hr
 clear hr
 go_wp2_with fail
 refine (q_0 _).mono ?_
 rintro e w28 ⟨ax23,gx23,cx23,rfl,hf,hb⟩
 replace Tx3:=qH (Tx3.out.below hb)
 replace Ix22:=qH (zkeep hb _ _ Ix22.out)
 have HB28:=qH (HB27.out.trans (hb.mono HB27.out.size))
 have HP28:=qH (HP27.out.below hb)
 clear hb HB27 HP27
 have Fx23:=qH hf
 clear hf
 go_wp2_with fail
 refine (rows1 _ (qbo _ _) Fx23.out).mono ?_
 rintro e w29 ⟨gx24,rfl,ht,hb⟩
 replace Tx3:=qH (Tx3.out.below hb)
 replace Ix22:=qH (zkeep hb _ _ Ix22.out)
 replace Fx23:=qH (Fx23.out.below hb)
 have HB29:=qH (HB28.out.trans (hb.mono HB28.out.size))
 have HP29:=qH (HP28.out.below hb)
 clear hb HB28 HP28
 have Tx24:=qH (show TCells w29 (some ⟨gx24,0,none⟩) gx24 0 (ttab 1 1 (fm [[(0:Rat)]])) from ht)
 clear ht
 clear Fx23
 go_wp2_with fail
 refine (ex5 Tx24.out).mono ?_
 rintro e w30 ⟨rfl,hb⟩
 replace Tx3:=qH (Tx3.out.below hb)
 replace Ix22:=qH (zkeep hb _ _ Ix22.out)
 replace Tx24:=qH (Tx24.out.below hb)
 have HB30:=qH (HB29.out.trans (hb.mono HB29.out.size))
 have HP30:=qH (HP29.out.below hb)
 clear hb HB29 HP29
 clear Tx24
 go_wp2_with fail
 refine (qde _ _ _ Ix22.out).mono ?_
 rintro e w31 ⟨rfl,hw⟩
 subst hw
 clear Ix22
 go_wp2_with fail
 refine (qdO 2 _).mono ?_
 rintro e w31 ⟨bx25,rfl,hb,hr⟩
 replace Tx3:=qH (Tx3.out.below hb)
 have HB31:=qH (HB30.out.trans (hb.mono HB30.out.size))
 have HP31:=qH (HP30.out.below hb)
 clear hb HB30 HP30
 have Ix25:=qH hr
 clear hr
 go_wp2_with fail
 refine (q_1_0_1 _).mono ?_
 rintro e w32 ⟨ax26,gx26,cx26,rfl,hf,hb⟩
 replace Tx3:=qH (Tx3.out.below hb)
 replace Ix25:=qH (zkeep hb _ _ Ix25.out)
 have HB32:=qH (HB31.out.trans (hb.mono HB31.out.size))
 have HP32:=qH (HP31.out.below hb)
 clear hb HB31 HP31
 have Fx26:=qH hf
 clear hf
 go_wp2_with fail
 refine (q_0_1_1 _).mono ?_
 rintro e w33 ⟨ax27,gx27,cx27,rfl,hf,hb⟩
 replace Tx3:=qH (Tx3.out.below hb)
 replace Ix25:=qH (zkeep hb _ _ Ix25.out)
 replace Fx26:=qH (Fx26.out.below hb)
 have HB33:=qH (HB32.out.trans (hb.mono HB32.out.size))
 have HP33:=qH (HP32.out.below hb)
 clear hb HB32 HP32
 have Fx27:=qH hf
 clear hf
 go_wp2_with fail
 refine (rows2 _ (qbo _ _) Fx26.out (qbo _ _) Fx27.out).mono ?_
 rintro e w34 ⟨gx28,rfl,ht,hb⟩
 replace Tx3:=qH (Tx3.out.below hb)
 replace Ix25:=qH (zkeep hb _ _ Ix25.out)
 replace Fx26:=qH (Fx26.out.below hb)
 replace Fx27:=qH (Fx27.out.below hb)
 have HB34:=qH (HB33.out.trans (hb.mono HB33.out.size))
 have HP34:=qH (HP33.out.below hb)
 clear hb HB33 HP33
 have Tx28:=qH (show TCells w34 (some ⟨gx28,0,none⟩) gx28 0 (ttab 2 3 (fm [[(1:Rat),0,1],[(0:Rat),1,1]])) from ht)
 clear ht
 clear Fx26 Fx27
 go_wp2_with fail
 refine (ex6 Tx28.out).mono ?_
 rintro e w35 ⟨rfl,hb⟩
 replace Tx3:=qH (Tx3.out.below hb)
 replace Ix25:=qH (zkeep hb _ _ Ix25.out)
 replace Tx28:=qH (Tx28.out.below hb)
 have HB35:=qH (HB34.out.trans (hb.mono HB34.out.size))
 have HP35:=qH (HP34.out.below hb)
 clear hb HB34 HP34
 clear Tx28
 go_wp2_with fail
 refine (qde _ _ _ Ix25.out).mono ?_
 rintro e w36 ⟨rfl,hw⟩
 subst hw
 clear Ix25
 go_wp2_with fail
 refine (qhx _ [⟨#[49,49,47,53]⟩] 1 rfl).mono ?_
 rintro e w36 ⟨bx29,rfl,hi,hb⟩
 replace Tx3:=qH (Tx3.out.below hb)
 have HB36:=qH (HB35.out.trans (hb.mono HB35.out.size))
 have HP36:=qH (HP35.out.below hb)
 clear hb HB35 HP35
 have Ix29:=qH hi
 clear hi
 go_wp2_with fail
 refine (q_3_4 _).mono ?_
 rintro e w37 ⟨ax30,gx30,cx30,rfl,hf,hb⟩
 replace Tx3:=qH (Tx3.out.below hb)
 replace Ix29:=qH (Ix29.out.below hb)
 have HB37:=qH (HB36.out.trans (hb.mono HB36.out.size))
 have HP37:=qH (HP36.out.below hb)
 clear hb HB36 HP36
 have Fx30:=qH hf
 clear hf
 go_wp2_with fail
 refine (q_1_1 _).mono ?_
 rintro e w38 ⟨ax31,gx31,cx31,rfl,hf,hb⟩
 replace Tx3:=qH (Tx3.out.below hb)
 replace Ix29:=qH (Ix29.out.below hb)
 replace Fx30:=qH (Fx30.out.below hb)
 have HB38:=qH (HB37.out.trans (hb.mono HB37.out.size))
 have HP38:=qH (HP37.out.below hb)
 clear hb HB37 HP37
 have Fx31:=qH hf
 clear hf
 go_wp2_with fail
 refine (ex7 Tx3.out Fx30.out Fx31.out HP38.out).mono ?_
 rintro e w39 ⟨⟨gr,rfl,hf⟩,hb⟩
 replace Tx3:=qH (Tx3.out.below hb)
 replace Ix29:=qH (Ix29.out.below hb)
 replace Fx30:=qH (Fx30.out.below hb)
 replace Fx31:=qH (Fx31.out.below hb)
 have HB39:=qH (HB38.out.trans (hb.mono HB38.out.size))
 have HP39:=qH (HP38.out.below hb)
 clear hb HB38 HP38
 have FR:=qH hf
 clear hf
 clear Fx30 Fx31
 go_wp2_with fail
 refine (qdX (L:=[⟨#[49,49,47,53]⟩]) (l:=[(11 / 5:Rat)]) Ix29.out rfl rfl (by decide) (by simp only [qan,qaq,ft_115];decide +kernel) (by decide) FR.out).mono ?_
 rintro e w40 ⟨rfl,hb⟩
 replace Tx3:=qH (Tx3.out.below hb)
 replace Ix29:=qH (Ix29.out.below hb)
 replace FR:=qH (FR.out.below hb)
 have HB40:=qH (HB39.out.trans (hb.mono HB39.out.size))
 have HP40:=qH (HP39.out.below hb)
 clear hb HB39 HP39
 clear Ix29 FR
 go_wp2_with fail
 refine (qhx _ [⟨#[49]⟩] 1 rfl).mono ?_
 rintro e w41 ⟨bx32,rfl,hi,hb⟩
 replace Tx3:=qH (Tx3.out.below hb)
 have HB41:=qH (HB40.out.trans (hb.mono HB40.out.size))
 have HP41:=qH (HP40.out.below hb)
 clear hb HB40 HP40
 have Ix32:=qH hi
 clear hi
 go_wp2_with fail
 refine (q_1 _).mono ?_
 rintro e w42 ⟨ax33,gx33,cx33,rfl,hf,hb⟩
 replace Tx3:=qH (Tx3.out.below hb)
 replace Ix32:=qH (Ix32.out.below hb)
 have HB42:=qH (HB41.out.trans (hb.mono HB41.out.size))
 have HP42:=qH (HP41.out.below hb)
 clear hb HB41 HP41
 have Fx33:=qH hf
 clear hf
 go_wp2_with fail
 refine (q_1 _).mono ?_
 rintro e w43 ⟨ax34,gx34,cx34,rfl,hf,hb⟩
 replace Tx3:=qH (Tx3.out.below hb)
 replace Ix32:=qH (Ix32.out.below hb)
 replace Fx33:=qH (Fx33.out.below hb)
 have HB43:=qH (HB42.out.trans (hb.mono HB42.out.size))
 have HP43:=qH (HP42.out.below hb)
 clear hb HB42 HP42
 have Fx34:=qH hf
 clear hf
 go_wp2_with fail
 refine (rows2 _ (qbo _ _) Fx33.out (qbo _ _) Fx34.out).mono ?_
 rintro e w44 ⟨gx35,rfl,ht,hb⟩
 replace Tx3:=qH (Tx3.out.below hb)
 replace Ix32:=qH (Ix32.out.below hb)
 replace Fx33:=qH (Fx33.out.below hb)
 replace Fx34:=qH (Fx34.out.below hb)
 have HB44:=qH (HB43.out.trans (hb.mono HB43.out.size))
 have HP44:=qH (HP43.out.below hb)
 clear hb HB43 HP43
 have Tx35:=qH (show TCells w44 (some ⟨gx35,0,none⟩) gx35 0 (ttab 2 1 (fm [[(1:Rat)],[(1:Rat)]])) from ht)
 clear ht
 clear Fx33 Fx34
 go_wp2_with fail
 refine (q_0_3 _).mono ?_
 rintro e w45 ⟨ax36,gx36,cx36,rfl,hf,hb⟩
 replace Tx3:=qH (Tx3.out.below hb)
 replace Ix32:=qH (Ix32.out.below hb)
 replace Tx35:=qH (Tx35.out.below hb)
 have HB45:=qH (HB44.out.trans (hb.mono HB44.out.size))
 have HP45:=qH (HP44.out.below hb)
 clear hb HB44 HP44
 have Fx36:=qH hf
 clear hf
 go_wp2_with fail
 refine (q_2_1 _).mono ?_
 rintro e w46 ⟨ax37,gx37,cx37,rfl,hf,hb⟩
 replace Tx3:=qH (Tx3.out.below hb)
 replace Ix32:=qH (Ix32.out.below hb)
 replace Tx35:=qH (Tx35.out.below hb)
 replace Fx36:=qH (Fx36.out.below hb)
 have HB46:=qH (HB45.out.trans (hb.mono HB45.out.size))
 have HP46:=qH (HP45.out.below hb)
 clear hb HB45 HP45
 have Fx37:=qH hf
 clear hf
 go_wp2_with fail
 refine (ex8 Tx35.out Fx36.out Fx37.out HP46.out).mono ?_
 rintro e w47 ⟨⟨gr,rfl,hf⟩,hb⟩
 replace Tx3:=qH (Tx3.out.below hb)
 replace Ix32:=qH (Ix32.out.below hb)
 replace Tx35:=qH (Tx35.out.below hb)
 replace Fx36:=qH (Fx36.out.below hb)
 replace Fx37:=qH (Fx37.out.below hb)
 have HB47:=qH (HB46.out.trans (hb.mono HB46.out.size))
 have HP47:=qH (HP46.out.below hb)
 clear hb HB46 HP46
 have FR:=qH hf
 clear hf
 clear Tx35 Fx36 Fx37
 go_wp2_with fail
 refine (qdX (L:=[⟨#[49]⟩]) (l:=[(1:Rat)]) Ix32.out rfl rfl (by decide) (by simp only [qan,qaq,ft_1];decide +kernel) (by decide) FR.out).mono ?_
 rintro e w48 ⟨rfl,hb⟩
 replace Tx3:=qH (Tx3.out.below hb)
 replace Ix32:=qH (Ix32.out.below hb)
 replace FR:=qH (FR.out.below hb)
 have HB48:=qH (HB47.out.trans (hb.mono HB47.out.size))
 have HP48:=qH (HP47.out.below hb)
 clear hb HB47 HP47
 clear Ix32 FR
 go_wp2_with fail
 refine (qbV 7 _).mono ?_
 rintro e w49 ⟨bx38,rfl,hb,hr⟩
 replace Tx3:=qH (Tx3.out.below hb)
 have HB49:=qH (HB48.out.trans (hb.mono HB48.out.size))
 have HP49:=qH (HP48.out.below hb)
 clear hb HB48 HP48
 have Ix38:=qH hr
 clear hr
 go_wp2_with fail
 refine (q_1_1 _).mono ?_
 rintro e w50 ⟨ax39,gx39,cx39,rfl,hf,hb⟩
 replace Tx3:=qH (Tx3.out.below hb)
 replace Ix38:=qH (zkeep hb _ _ Ix38.out)
 have HB50:=qH (HB49.out.trans (hb.mono HB49.out.size))
 have HP50:=qH (HP49.out.below hb)
 clear hb HB49 HP49
 have Fx39:=qH hf
 clear hf
 go_wp2_with fail
 refine (rows1 _ (qbo _ _) Fx39.out).mono ?_
 rintro e w51 ⟨gx40,rfl,ht,hb⟩
 replace Tx3:=qH (Tx3.out.below hb)
 replace Ix38:=qH (zkeep hb _ _ Ix38.out)
 replace Fx39:=qH (Fx39.out.below hb)
 have HB51:=qH (HB50.out.trans (hb.mono HB50.out.size))
 have HP51:=qH (HP50.out.below hb)
 clear hb HB50 HP50
 have Tx40:=qH (show TCells w51 (some ⟨gx40,0,none⟩) gx40 0 (ttab 1 2 (fm [[(1:Rat),1]])) from ht)
 clear ht
 clear Fx39
 go_wp2_with fail
 refine (q_1 _).mono ?_
 rintro e w52 ⟨ax41,gx41,cx41,rfl,hf,hb⟩
 replace Tx3:=qH (Tx3.out.below hb)
 replace Ix38:=qH (zkeep hb _ _ Ix38.out)
 replace Tx40:=qH (Tx40.out.below hb)
 have HB52:=qH (HB51.out.trans (hb.mono HB51.out.size))
 have HP52:=qH (HP51.out.below hb)
 clear hb HB51 HP51
 have Fx41:=qH hf
 clear hf
 go_wp2_with fail
 refine (q_1 _).mono ?_
 rintro e w53 ⟨ax42,gx42,cx42,rfl,hf,hb⟩
 replace Tx3:=qH (Tx3.out.below hb)
 replace Ix38:=qH (zkeep hb _ _ Ix38.out)
 replace Tx40:=qH (Tx40.out.below hb)
 replace Fx41:=qH (Fx41.out.below hb)
 have HB53:=qH (HB52.out.trans (hb.mono HB52.out.size))
 have HP53:=qH (HP52.out.below hb)
 clear hb HB52 HP52
 have Fx42:=qH hf
 clear hf
 go_wp2_with fail
 refine (ex9 Tx40.out Fx41.out Fx42.out HP53.out).mono ?_
 rintro e w54 ⟨rfl,hb⟩
 replace Tx3:=qH (Tx3.out.below hb)
 replace Ix38:=qH (zkeep hb _ _ Ix38.out)
 replace Tx40:=qH (Tx40.out.below hb)
 replace Fx41:=qH (Fx41.out.below hb)
 replace Fx42:=qH (Fx42.out.below hb)
 have HB54:=qH (HB53.out.trans (hb.mono HB53.out.size))
 have HP54:=qH (HP53.out.below hb)
 clear hb HB53 HP53
 clear Tx40 Fx41 Fx42
 go_wp2_with fail
 refine (qbN _ _ _ Ix38.out).mono ?_
 rintro e w55 ⟨rfl,hw⟩
 subst hw
 clear Ix38
 go_wp2_with fail
 refine (q_3_4 _).mono ?_
 rintro e w55 ⟨ax43,gx43,cx43,rfl,hf,hb⟩
 replace Tx3:=qH (Tx3.out.below hb)
 have HB55:=qH (HB54.out.trans (hb.mono HB54.out.size))
 have HP55:=qH (HP54.out.below hb)
 clear hb HB54 HP54
 have Fx43:=qH hf
 clear hf
 go_wp2_with fail
 refine (q_1_1o2 _).mono ?_
 rintro e w56 ⟨ax44,gx44,cx44,rfl,hf,hb⟩
 replace Tx3:=qH (Tx3.out.below hb)
 replace Fx43:=qH (Fx43.out.below hb)
 have HB56:=qH (HB55.out.trans (hb.mono HB55.out.size))
 have HP56:=qH (HP55.out.below hb)
 clear hb HB55 HP55
 have Fx44:=qH hf
 clear hf
 go_wp2_with fail
 refine (q_1 _).mono ?_
 rintro e w57 ⟨ax45,gx45,cx45,rfl,hf,hb⟩
 replace Tx3:=qH (Tx3.out.below hb)
 replace Fx43:=qH (Fx43.out.below hb)
 replace Fx44:=qH (Fx44.out.below hb)
 have HB57:=qH (HB56.out.trans (hb.mono HB56.out.size))
 have HP57:=qH (HP56.out.below hb)
 clear hb HB56 HP56
 have Fx45:=qH hf
 clear hf
 go_wp2_with fail
 refine (ex10 Tx3.out Fx43.out Fx44.out Fx45.out HP57.out).mono ?_
 rintro e w58 ⟨rfl,hb⟩
 replace Tx3:=qH (Tx3.out.below hb)
 replace Fx43:=qH (Fx43.out.below hb)
 replace Fx44:=qH (Fx44.out.below hb)
 replace Fx45:=qH (Fx45.out.below hb)
 have HB58:=qH (HB57.out.trans (hb.mono HB57.out.size))
 have HP58:=qH (HP57.out.below hb)
 clear hb HB57 HP57
 clear Tx3 Fx43 Fx44 Fx45
 obtain⟨w59,hw⟩:∃W,W=w58.alloc (.cells #[.string ⟨#[54]⟩,.string ⟨#[49]⟩] 46):=⟨_,rfl⟩
 have hb:Below w58.heap.size w58 w59:=hw▸qbp qB qN
 have hr:w59.heap[w58.heap.size]? = some (.cells #[.string ⟨#[54]⟩,.string ⟨#[49]⟩] 46 (0,0)):=by rw [hw];exact qM _ _ _ rfl
 have hsz:w58.heap.size+1=w59.heap.size:=by rw [hw];simp only [qab]
 have HB59:=qH (HB58.out.trans (hb.mono HB58.out.size))
 have HP59:=qH (HP58.out.below hb)
 clear hb HB58 HP58
 have M:=qH hr
 have HW:=qH hw
 have Hsz:=qH hsz
 clear hr hw hsz
 go_wp2_with fail
 rw [←HW.out,Hsz.out]
 clear HW Hsz
 generalize w58.heap.size=gm at *
 skip
 refine (q_1 _).mono ?_
 rintro e w60 ⟨ax46,gx46,cx46,rfl,hf,hb⟩
 replace M:=qH (zkeep hb _ _ M.out)
 have HB60:=qH (HB59.out.trans (hb.mono HB59.out.size))
 have HP60:=qH (HP59.out.below hb)
 clear hb HB59 HP59
 have Fx46:=qH hf
 clear hf
 go_wp2_with fail
 refine (rows1 _ (qbo _ _) Fx46.out).mono ?_
 rintro e w61 ⟨gx47,rfl,ht,hb⟩
 replace M:=qH (zkeep hb _ _ M.out)
 replace Fx46:=qH (Fx46.out.below hb)
 have HB61:=qH (HB60.out.trans (hb.mono HB60.out.size))
 have HP61:=qH (HP60.out.below hb)
 clear hb HB60 HP60
 have Tx47:=qH (show TCells w61 (some ⟨gx47,0,none⟩) gx47 0 (ttab 1 1 (fm [[(1:Rat)]])) from ht)
 clear ht
 clear Fx46
 go_wp2_with fail
 refine (q_0 _).mono ?_
 rintro e w62 ⟨ax48,gx48,cx48,rfl,hf,hb⟩
 replace M:=qH (zkeep hb _ _ M.out)
 replace Tx47:=qH (Tx47.out.below hb)
 have HB62:=qH (HB61.out.trans (hb.mono HB61.out.size))
 have HP62:=qH (HP61.out.below hb)
 clear hb HB61 HP61
 have Fx48:=qH hf
 clear hf
 go_wp2_with fail
 refine (q_m1 _).mono ?_
 rintro e w63 ⟨ax49,gx49,cx49,rfl,hf,hb⟩
 replace M:=qH (zkeep hb _ _ M.out)
 replace Tx47:=qH (Tx47.out.below hb)
 replace Fx48:=qH (Fx48.out.below hb)
 have HB63:=qH (HB62.out.trans (hb.mono HB62.out.size))
 have HP63:=qH (HP62.out.below hb)
 clear hb HB62 HP62
 have Fx49:=qH hf
 clear hf
 go_wp2_with fail
 refine (q_1 _).mono ?_
 rintro e w64 ⟨ax50,gx50,cx50,rfl,hf,hb⟩
 replace M:=qH (zkeep hb _ _ M.out)
 replace Tx47:=qH (Tx47.out.below hb)
 replace Fx48:=qH (Fx48.out.below hb)
 replace Fx49:=qH (Fx49.out.below hb)
 have HB64:=qH (HB63.out.trans (hb.mono HB63.out.size))
 have HP64:=qH (HP63.out.below hb)
 clear hb HB63 HP63
 have Fx50:=qH hf
 clear hf
 go_wp2_with fail
 refine (ex11 Tx47.out Fx48.out Fx49.out Fx50.out HP64.out).mono ?_
 rintro e w65 ⟨rfl,hb⟩
 replace M:=qH (zkeep hb _ _ M.out)
 replace Tx47:=qH (Tx47.out.below hb)
 replace Fx48:=qH (Fx48.out.below hb)
 replace Fx49:=qH (Fx49.out.below hb)
 replace Fx50:=qH (Fx50.out.below hb)
 have HB65:=qH (HB64.out.trans (hb.mono HB64.out.size))
 have HP65:=qH (HP64.out.below hb)
 clear hb HB64 HP64
 clear Tx47 Fx48 Fx49 Fx50
 obtain⟨w66,hw⟩:∃W,W=w65.alloc (.cells #[.string ⟨#[]⟩,.string ⟨#[]⟩] 46):=⟨_,rfl⟩
 have hb:Below w65.heap.size w65 w66:=hw▸qbp qB qN
 have hr:w66.heap[w65.heap.size]? = some (.cells #[.string ⟨#[]⟩,.string ⟨#[]⟩] 46 (0,0)):=by rw [hw];exact qM _ _ _ rfl
 have hsz:w65.heap.size+1=w66.heap.size:=by rw [hw];simp only [qab]
 replace M:=qH (zkeep hb _ _ M.out)
 have HB66:=qH (HB65.out.trans (hb.mono HB65.out.size))
 have HP66:=qH (HP65.out.below hb)
 clear hb HB65 HP65
 have N:=qH hr
 have HW:=qH hw
 have Hsz:=qH hsz
 clear hr hw hsz
 go_wp2_with fail
 rw [←HW.out]
 clear HW Hsz N
 have hM:=M.out
 have lM:=(qG hM).1
 have C0:∀W,Below w66.heap.size w66 W→W.cell? ⟨gm,0,none⟩=some (.string ⟨#[54]⟩):=fun W h=>(h.cell (p:=⟨gm,0,none⟩) lM).trans (cell_of_row _ _ 0 _ _ _ hM)
 have C1:∀W,Below w66.heap.size w66 W→W.cell? ⟨gm,1,none⟩=some (.string ⟨#[49]⟩):=fun W h=>(h.cell (p:=⟨gm,1,none⟩) lM).trans (cell_of_row _ _ 1 _ _ _ hM)
 have hst:Below w66.heap.size w66 w66:=Below.refl _ _
 have hstD:Below w66.heap.size w66 w66.drew:=hst.drew
 have z0:=C0 _ hst
 have z1:=C1 _ hst
 clear hM
 refine wp_region_held_drew (S:=fun W=>Below w66.heap.size w66 W) (by kernel_rfl) (hstD) (fun hS0=>?_)
 refine qbC 0 (v:=?_) rfl (by kernel_rfl) (fun _ _ _ h=>h) (by assumption) (by rfl) (fun w hSw=>?_) ?_
 rotate_left 1
 ·(try dsimp only at hSw);go_simp <;> with_reducible rfl
 try simp only [Act.put,qac,qae,qaf]
 refine qbC 1 (v:=?_) rfl (by kernel_rfl) (fun _ _ _ h=>h) (by assumption) (by rfl) (fun w hSw=>?_) ?_
 rotate_left 1
 ·(try dsimp only at hSw);go_simp <;> with_reducible rfl
 try simp only [Act.put,qac,qae,qaf]
 refine qbC 2 (v:=?_) rfl (by kernel_rfl) (fun _ _ _ h=>h) (by assumption) (by rfl) (fun w hSw=>?_) ?_
 rotate_left 1
 ·(try dsimp only at hSw);go_simp <;> with_reducible rfl
 try simp only [Act.put,qac,qae,qaf]
 refine qcd 3 rfl (by kernel_rfl) (fun K hK=>?_)
 go_simp
 refine Way.on hK (fun W=>Below w66.heap.size w66 W) _ _ (fun W h=>h) (by (with_reducible repeat first | assumption | exact Below.refl _ _ | apply Below.drew | apply ball)) (fun hS0=>?_)
 clear hK K
 try simp only [Act.put,qac,qae,qaf]
 refine qcd 4 rfl (by kernel_rfl) (fun K hK=>?_)
 go_simp
 refine (q_at 1 (L:=[⟨#[54]⟩]) (l:=[(6:Rat)]) ((sc1 w66 _ rfl).below (by (with_reducible repeat first | assumption | exact Below.refl _ _ | apply Below.drew | apply ball))) rfl rfl (by decide) (by simp only [qan,qaq,ft_6];decide +kernel) (by decide)).mono ?_
 rintro e v1 ⟨a6,g6,c6,rfl,hf,hb⟩
 have V1:Below w66.heap.size w66 v1:=bjoin (by (with_reducible repeat first | assumption | exact Below.refl _ _ | apply Below.drew | apply ball)) hb
 have ha:=hf.addr (by rw [qbo];decide)
 subst ha
 obtain⟨e60,e61⟩:=qhs hf (by decide) (x1:=⟨#[54]⟩) (x2:=⟨#[49]⟩) (by rw [show fv [(6:Rat)] 0=6 from rfl,ft_6])
 clear hf hb
 go_wp2_with fail
 refine Way.on hK (fun W=>Below w66.heap.size w66 W) _ _ (fun W h=>h) (V1) (fun hS0=>?_)
 clear hK K
 try simp only [Act.put,qac,qae,qaf]
 refine qbC 5 (v:=?_) rfl (by kernel_rfl) (fun _ _ _ h=>h) (by assumption) (by rfl) (fun w hSw=>?_) ?_
 rotate_left 1
 ·(try dsimp only at hSw);go_simp <;> with_reducible rfl
 try simp only [Act.put,qac,qae,qaf]
 refine qcd 6 rfl (by kernel_rfl) (fun K hK=>?_)
 go_simp
 refine Way.on hK (fun W=>Below w66.heap.size w66 W) _ _ (fun W h=>h) (V1) (fun hS0=>?_)
 clear hK K
 try simp only [Act.put,qac,qae,qaf]
 refine qbC 7 (v:=?_) rfl (by kernel_rfl) (fun _ _ _ h=>h) (by assumption) (by rfl) (fun w hSw=>?_) ?_
 rotate_left 1
 ·(try dsimp only at hSw);go_simp <;> with_reducible rfl
 try simp only [Act.put,qac,qae,qaf]
 refine qbC 8 (v:=?_) rfl (by kernel_rfl) (fun _ _ _ h=>h) (by assumption) (by rfl) (fun w hSw=>?_) ?_
 rotate_left 1
 ·(try dsimp only at hSw);go_simp <;> with_reducible rfl
 try simp only [Act.put,qac,qae,qaf]
 refine qbC 9 (v:=?_) rfl (by kernel_rfl) (fun _ _ _ h=>h) (by assumption) (by rfl) (fun w hSw=>?_) ?_
 rotate_left 1
 ·(try dsimp only at hSw);go_simp <;> with_reducible rfl
 try simp only [Act.put,qac,qae,qaf]
 refine qbC 10 (v:=?_) rfl (by kernel_rfl) (fun _ _ _ h=>h) (by assumption) (by rfl) (fun w hSw=>?_) ?_
 rotate_left 1
 ·(try dsimp only at hSw);go_simp <;> with_reducible rfl
 try simp only [Act.put,qac,qae,qaf]
 refine qbC 11 (v:=?_) rfl (by kernel_rfl) (fun _ _ _ h=>h) (by assumption) (by rfl) (fun w hSw=>?_) ?_
 rotate_left 1
 ·(try dsimp only at hSw);go_simp <;> with_reducible rfl
 try simp only [Act.put,qac,qae,qaf]
 refine qbC 12 (v:=?_) rfl (by kernel_rfl) (fun _ _ _ h=>h) (by assumption) (by rfl) (fun w hSw=>?_) ?_
 rotate_left 1
 ·(try dsimp only at hSw);go_simp <;> with_reducible rfl
 try simp only [Act.put,qac,qae,qaf]
 refine qbC 13 (v:=?_) rfl (by kernel_rfl) (fun _ _ _ h=>h) (by assumption) (by rfl) (fun w hSw=>?_) ?_
 rotate_left 1
 ·(try dsimp only at hSw);go_simp <;> with_reducible rfl
 try simp only [Act.put,qac,qae,qaf]
 refine qbC 14 (v:=?_) rfl (by kernel_rfl) (fun _ _ _ h=>h) (by assumption) (by rfl) (fun w hSw=>?_) ?_
 rotate_left 1
 ·(try dsimp only at hSw);go_simp <;> with_reducible rfl
 try simp only [Act.put,qac,qae,qaf]
 refine qbC 15 (v:=?_) rfl (by kernel_rfl) (fun _ _ _ h=>h) (by assumption) (by rfl) (fun w hSw=>?_) ?_
 rotate_left 1
 ·(try dsimp only at hSw);go_simp <;> with_reducible rfl
 try simp only [Act.put,qac,qae,qaf]
 refine qbC 16 (v:=?_) rfl (by kernel_rfl) (fun _ _ _ h=>h) (by assumption) (by rfl) (fun w hSw=>?_) ?_
 rotate_left 1
 ·(try dsimp only at hSw);go_simp <;> with_reducible rfl
 try simp only [Act.put,qac,qae,qaf]
 refine qbC 17 (v:=?_) rfl (by kernel_rfl) (fun _ _ _ h=>h) (by assumption) (by rfl) (fun w hSw=>?_) ?_
 rotate_left 1
 ·(try dsimp only at hSw);go_simp <;> with_reducible rfl
 try simp only [Act.put,qac,qae,qaf]
 refine qcd 18 rfl (by kernel_rfl) (fun K hK=>?_)
 go_simp
 refine (ex12 _).mono ?_
 rintro e v2 ⟨rfl,hb⟩
 have V2:Below w66.heap.size w66 v2:=bjoin V1 hb
 clear hb
 go_wp2_with fail
 refine Way.on hK (fun W=>Below w66.heap.size w66 W) _ _ (fun W h=>h) (V2) (fun hS0=>?_)
 clear hK K
 try simp only [Act.put,qac,qae,qaf]
 refine qbC 19 (v:=?_) rfl (by kernel_rfl) (fun _ _ _ h=>h) (by assumption) (by rfl) (fun w hSw=>?_) ?_
 rotate_left 1
 ·(try dsimp only at hSw);go_simp <;> with_reducible rfl
 try simp only [Act.put,qac,qae,qaf]
 refine qbC 20 (v:=?_) rfl (by kernel_rfl) (fun _ _ _ h=>h) (by assumption) (by rfl) (fun w hSw=>?_) ?_
 rotate_left 1
 ·(try dsimp only at hSw);go_simp <;> with_reducible rfl
 try simp only [Act.put,qac,qae,qaf]
 refine qbC 21 (v:=?_) rfl (by kernel_rfl) (fun _ _ _ h=>h) (by assumption) (by rfl) (fun w hSw=>?_) ?_
 rotate_left 1
 ·(try dsimp only at hSw);go_simp <;> with_reducible rfl
 try simp only [Act.put,qac,qae,qaf]
 refine hd_two 22 24 rfl rfl (by kernel_rfl) (fun K hK=>?_) (fun K hK=>?_)
 ·
  go_simp
  refine Way.on hK (fun W=>Below w66.heap.size w66 W) _ _ (fun W h=>h) (qbp V2 qN) (fun hS0=>?_)
  clear hK K
  try simp only [Act.put,qac,qae,qaf]
  refine hd_two 23 24 rfl rfl (by kernel_rfl) (fun K hK=>?_) (fun K hK=>?_)
  ·
   go_simp
   refine (q_at 1 (L:=[⟨#[49]⟩]) (l:=[(1:Rat)]) (by first | exact (sc1 v2 _ rfl).below (by (with_reducible repeat first | assumption | exact Below.refl _ _ | apply Below.drew | apply ball)) | exact (sc1 (v2.alloc _) _ (by simp only [qab])).below (by (with_reducible repeat first | assumption | exact Below.refl _ _ | apply Below.drew | apply ball))) rfl rfl (by decide) (by simp only [qan,qaq,ft_1];decide +kernel) (by decide)).mono ?_
   rintro e v3 ⟨a3,g3,c3,rfl,hf,hb⟩
   have V3:Below w66.heap.size w66 v3:=bjoin (by (with_reducible repeat first | assumption | exact Below.refl _ _ | apply Below.drew | apply ball)) hb
   have K3:=qH hb
   have G3:=qH hf
   clear hf hb
   go_wp2_with fail
   refine Way.on hK (fun W=>Below w66.heap.size w66 W) _ _ (fun W h=>h) (V3) (fun hS0=>?_)
   clear hK K
   try simp only [Act.put,qac,qae,qaf]
   refine qcd 24 rfl (by kernel_rfl) (fun K hK=>?_)
   go_simp
   refine Way.on hK (fun W=>Below w66.heap.size w66 W) _ _ (fun W h=>h) (qbp V3 qN) (fun hS0=>?_)
   clear hK K
   try simp only [Act.put,qac,qae,qaf]
   refine qcd 25 rfl (by kernel_rfl) (fun K hK=>?_)
   go_simp
   refine (q_at 2 (L:=[⟨#[49]⟩,⟨#[50]⟩]) (l:=[(1:Rat),2]) (by first | exact (sc2 v3 _ _ rfl).below (by (with_reducible repeat first | assumption | exact Below.refl _ _ | apply Below.drew | apply ball)) | exact ((sc2 v2 _ _ rfl).below (by (with_reducible repeat first | assumption | exact Below.refl _ _ | apply Below.drew | apply ball))).below K3.out | exact ((sc2 (v2.alloc _) _ _ (by simp only [qab])).below (by (with_reducible repeat first | assumption | exact Below.refl _ _ | apply Below.drew | apply ball))).below K3.out) rfl rfl (by decide) (by simp only [qan,qaq,ft_1,ft_2];decide +kernel) (by decide)).mono ?_
   rintro e v4 ⟨a4,g4,c4,rfl,hf,hb⟩
   have V4:Below w66.heap.size w66 v4:=bjoin (by (with_reducible repeat first | assumption | exact Below.refl _ _ | apply Below.drew | apply ball)) hb
   have G4:=qH (qA (G3.out.below (show Below v3.heap.size v3 v4 from bjoin (by (with_reducible repeat first | assumption | exact Below.refl _ _ | apply Below.drew | apply ball)) hb)) hf)
   clear hf hb
   go_wp2_with fail
   refine Way.on hK (fun W=>Below w66.heap.size w66 W) _ _ (fun W h=>h) (V4) (fun hS0=>?_)
   clear hK K
   try simp only [Act.put,qac,qae,qaf]
   refine qcd 26 rfl (by kernel_rfl) (fun K hK=>?_)
   go_simp
   refine Way.on hK (fun W=>Below w66.heap.size w66 W) _ _ (fun W h=>h) (qbp V4 qN) (fun hS0=>?_)
   clear hK K
   try simp only [Act.put,qac,qae,qaf]
   refine qcd 27 rfl (by kernel_rfl) (fun K hK=>?_)
   go_simp
   refine (rows2 v4 (qbo _ _) G4.out.1 (qbo _ _) G4.out.2).mono ?_
   rintro e v5 ⟨g5,rfl,ht,hb⟩
   have V5:Below w66.heap.size w66 v5:=V4.trans (hb.mono V4.size)
   have G5:=qH ht
   clear ht hb
   go_wp2_with fail
   refine Way.on hK (fun W=>Below w66.heap.size w66 W) _ _ (fun W h=>h) (V5) (fun hS0=>?_)
   clear hK K
   try simp only [Act.put,qac,qae,qaf]
   refine qcd 28 rfl (by kernel_rfl) (fun K hK=>?_)
   go_simp
   refine (ex13 G5.out).mono ?_
   rintro e v6 ⟨rfl,hb⟩
   have V6:Below w66.heap.size w66 v6:=V5.trans (hb.mono V5.size)
   clear hb
   go_wp2_with fail
   refine Way.on hK (fun W=>Below w66.heap.size w66 W) _ _ (fun W h=>h) (V6) (fun hS0=>?_)
   clear hK K
   try simp only [Act.put,qac,qae,qaf]
   refine qbC 29 (v:=?_) rfl (by kernel_rfl) (fun _ _ _ h=>h) (by assumption) (by rfl) (fun w hSw=>?_) ?_
   rotate_left 1
   ·(try dsimp only at hSw);go_simp <;> with_reducible rfl
   try simp only [Act.put,qac,qae,qaf]
   refine qbC 30 (v:=?_) rfl (by kernel_rfl) (fun _ _ _ h=>h) (by assumption) (by rfl) (fun w hSw=>?_) ?_
   rotate_left 1
   ·(try dsimp only at hSw);go_simp <;> with_reducible rfl
   try simp only [Act.put,qac,qae,qaf]
   refine qbC 31 (v:=?_) rfl (by kernel_rfl) (fun _ _ _ h=>h) (by assumption) (by rfl) (fun w hSw=>?_) ?_
   rotate_left 1
   ·(try dsimp only at hSw);go_simp <;> with_reducible rfl
   try simp only [Act.put,qac,qae]
   refine wpAnyH_done (by kernel_rfl) ?_ _
   go_wp2_with fail
   go_ret
   exact⟨rfl,HB66.out.trans (V6.mono HB66.out.size)⟩
  ·
   go_simp
   refine Way.on hK (fun W=>Below w66.heap.size w66 W) _ _ (fun W h=>h) (qbp (qbp V2 qN) qN) (fun hS0=>?_)
   clear hK K
   try simp only [Act.put,qac,qae,qaf]
   refine qcd 23 rfl (by kernel_rfl) (fun K hK=>?_)
   go_simp
   refine (q_at 1 (L:=[⟨#[49]⟩]) (l:=[(1:Rat)]) (by first | exact (sc1 v2 _ rfl).below (by (with_reducible repeat first | assumption | exact Below.refl _ _ | apply Below.drew | apply ball)) | exact (sc1 (v2.alloc _) _ (by simp only [qab])).below (by (with_reducible repeat first | assumption | exact Below.refl _ _ | apply Below.drew | apply ball))) rfl rfl (by decide) (by simp only [qan,qaq,ft_1];decide +kernel) (by decide)).mono ?_
   rintro e v3 ⟨a3,g3,c3,rfl,hf,hb⟩
   have V3:Below w66.heap.size w66 v3:=bjoin (by (with_reducible repeat first | assumption | exact Below.refl _ _ | apply Below.drew | apply ball)) hb
   have K3:=qH hb
   have G3:=qH hf
   clear hf hb
   go_wp2_with fail
   refine Way.on hK (fun W=>Below w66.heap.size w66 W) _ _ (fun W h=>h) (V3) (fun hS0=>?_)
   clear hK K
   try simp only [Act.put,qac,qae,qaf]
   refine qcd 25 rfl (by kernel_rfl) (fun K hK=>?_)
   go_simp
   refine (q_at 2 (L:=[⟨#[49]⟩,⟨#[50]⟩]) (l:=[(1:Rat),2]) (by first | exact (sc2 v3 _ _ rfl).below (by (with_reducible repeat first | assumption | exact Below.refl _ _ | apply Below.drew | apply ball)) | exact ((sc2 v2 _ _ rfl).below (by (with_reducible repeat first | assumption | exact Below.refl _ _ | apply Below.drew | apply ball))).below K3.out | exact ((sc2 (v2.alloc _) _ _ (by simp only [qab])).below (by (with_reducible repeat first | assumption | exact Below.refl _ _ | apply Below.drew | apply ball))).below K3.out) rfl rfl (by decide) (by simp only [qan,qaq,ft_1,ft_2];decide +kernel) (by decide)).mono ?_
   rintro e v4 ⟨a4,g4,c4,rfl,hf,hb⟩
   have V4:Below w66.heap.size w66 v4:=bjoin (by (with_reducible repeat first | assumption | exact Below.refl _ _ | apply Below.drew | apply ball)) hb
   have G4:=qH (qA (G3.out.below (show Below v3.heap.size v3 v4 from bjoin (by (with_reducible repeat first | assumption | exact Below.refl _ _ | apply Below.drew | apply ball)) hb)) hf)
   clear hf hb
   go_wp2_with fail
   refine Way.on hK (fun W=>Below w66.heap.size w66 W) _ _ (fun W h=>h) (V4) (fun hS0=>?_)
   clear hK K
   try simp only [Act.put,qac,qae,qaf]
   refine qcd 26 rfl (by kernel_rfl) (fun K hK=>?_)
   go_simp
   refine Way.on hK (fun W=>Below w66.heap.size w66 W) _ _ (fun W h=>h) (qbp V4 qN) (fun hS0=>?_)
   clear hK K
   try simp only [Act.put,qac,qae,qaf]
   refine qcd 27 rfl (by kernel_rfl) (fun K hK=>?_)
   go_simp
   refine (rows2 v4 (qbo _ _) G4.out.1 (qbo _ _) G4.out.2).mono ?_
   rintro e v5 ⟨g5,rfl,ht,hb⟩
   have V5:Below w66.heap.size w66 v5:=V4.trans (hb.mono V4.size)
   have G5:=qH ht
   clear ht hb
   go_wp2_with fail
   refine Way.on hK (fun W=>Below w66.heap.size w66 W) _ _ (fun W h=>h) (V5) (fun hS0=>?_)
   clear hK K
   try simp only [Act.put,qac,qae,qaf]
   refine qcd 28 rfl (by kernel_rfl) (fun K hK=>?_)
   go_simp
   refine (ex13 G5.out).mono ?_
   rintro e v6 ⟨rfl,hb⟩
   have V6:Below w66.heap.size w66 v6:=V5.trans (hb.mono V5.size)
   clear hb
   go_wp2_with fail
   refine Way.on hK (fun W=>Below w66.heap.size w66 W) _ _ (fun W h=>h) (V6) (fun hS0=>?_)
   clear hK K
   try simp only [Act.put,qac,qae,qaf]
   refine qbC 29 (v:=?_) rfl (by kernel_rfl) (fun _ _ _ h=>h) (by assumption) (by rfl) (fun w hSw=>?_) ?_
   rotate_left 1
   ·(try dsimp only at hSw);go_simp <;> with_reducible rfl
   try simp only [Act.put,qac,qae,qaf]
   refine qbC 30 (v:=?_) rfl (by kernel_rfl) (fun _ _ _ h=>h) (by assumption) (by rfl) (fun w hSw=>?_) ?_
   rotate_left 1
   ·(try dsimp only at hSw);go_simp <;> with_reducible rfl
   try simp only [Act.put,qac,qae,qaf]
   refine qbC 31 (v:=?_) rfl (by kernel_rfl) (fun _ _ _ h=>h) (by assumption) (by rfl) (fun w hSw=>?_) ?_
   rotate_left 1
   ·(try dsimp only at hSw);go_simp <;> with_reducible rfl
   try simp only [Act.put,qac,qae]
   refine wpAnyH_done (by kernel_rfl) ?_ _
   go_wp2_with fail
   go_ret
   exact⟨rfl,HB66.out.trans (V6.mono HB66.out.size)⟩
 ·
  go_simp
  refine Way.on hK (fun W=>Below w66.heap.size w66 W) _ _ (fun W h=>h) (qbp V2 qN) (fun hS0=>?_)
  clear hK K
  try simp only [Act.put,qac,qae,qaf]
  refine qcd 22 rfl (by kernel_rfl) (fun K hK=>?_)
  go_simp
  refine Way.on hK (fun W=>Below w66.heap.size w66 W) _ _ (fun W h=>h) (qbp (qbp V2 qN) qN) (fun hS0=>?_)
  clear hK K
  try simp only [Act.put,qac,qae,qaf]
  refine qcd 23 rfl (by kernel_rfl) (fun K hK=>?_)
  go_simp
  refine (q_at 1 (L:=[⟨#[49]⟩]) (l:=[(1:Rat)]) (by first | exact (sc1 v2 _ rfl).below (by (with_reducible repeat first | assumption | exact Below.refl _ _ | apply Below.drew | apply ball)) | exact (sc1 (v2.alloc _) _ (by simp only [qab])).below (by (with_reducible repeat first | assumption | exact Below.refl _ _ | apply Below.drew | apply ball))) rfl rfl (by decide) (by simp only [qan,qaq,ft_1];decide +kernel) (by decide)).mono ?_
  rintro e v3 ⟨a3,g3,c3,rfl,hf,hb⟩
  have V3:Below w66.heap.size w66 v3:=bjoin (by (with_reducible repeat first | assumption | exact Below.refl _ _ | apply Below.drew | apply ball)) hb
  have K3:=qH hb
  have G3:=qH hf
  clear hf hb
  go_wp2_with fail
  refine Way.on hK (fun W=>Below w66.heap.size w66 W) _ _ (fun W h=>h) (V3) (fun hS0=>?_)
  clear hK K
  try simp only [Act.put,qac,qae,qaf]
  refine qcd 25 rfl (by kernel_rfl) (fun K hK=>?_)
  go_simp
  refine (q_at 2 (L:=[⟨#[49]⟩,⟨#[50]⟩]) (l:=[(1:Rat),2]) (by first | exact (sc2 v3 _ _ rfl).below (by (with_reducible repeat first | assumption | exact Below.refl _ _ | apply Below.drew | apply ball)) | exact ((sc2 v2 _ _ rfl).below (by (with_reducible repeat first | assumption | exact Below.refl _ _ | apply Below.drew | apply ball))).below K3.out | exact ((sc2 (v2.alloc _) _ _ (by simp only [qab])).below (by (with_reducible repeat first | assumption | exact Below.refl _ _ | apply Below.drew | apply ball))).below K3.out) rfl rfl (by decide) (by simp only [qan,qaq,ft_1,ft_2];decide +kernel) (by decide)).mono ?_
  rintro e v4 ⟨a4,g4,c4,rfl,hf,hb⟩
  have V4:Below w66.heap.size w66 v4:=bjoin (by (with_reducible repeat first | assumption | exact Below.refl _ _ | apply Below.drew | apply ball)) hb
  have G4:=qH (qA (G3.out.below (show Below v3.heap.size v3 v4 from bjoin (by (with_reducible repeat first | assumption | exact Below.refl _ _ | apply Below.drew | apply ball)) hb)) hf)
  clear hf hb
  go_wp2_with fail
  refine Way.on hK (fun W=>Below w66.heap.size w66 W) _ _ (fun W h=>h) (V4) (fun hS0=>?_)
  clear hK K
  try simp only [Act.put,qac,qae,qaf]
  refine qcd 26 rfl (by kernel_rfl) (fun K hK=>?_)
  go_simp
  refine Way.on hK (fun W=>Below w66.heap.size w66 W) _ _ (fun W h=>h) (qbp V4 qN) (fun hS0=>?_)
  clear hK K
  try simp only [Act.put,qac,qae,qaf]
  refine qcd 27 rfl (by kernel_rfl) (fun K hK=>?_)
  go_simp
  refine (rows2 v4 (qbo _ _) G4.out.1 (qbo _ _) G4.out.2).mono ?_
  rintro e v5 ⟨g5,rfl,ht,hb⟩
  have V5:Below w66.heap.size w66 v5:=V4.trans (hb.mono V4.size)
  have G5:=qH ht
  clear ht hb
  go_wp2_with fail
  refine Way.on hK (fun W=>Below w66.heap.size w66 W) _ _ (fun W h=>h) (V5) (fun hS0=>?_)
  clear hK K
  try simp only [Act.put,qac,qae,qaf]
  refine qcd 28 rfl (by kernel_rfl) (fun K hK=>?_)
  go_simp
  refine (ex13 G5.out).mono ?_
  rintro e v6 ⟨rfl,hb⟩
  have V6:Below w66.heap.size w66 v6:=V5.trans (hb.mono V5.size)
  clear hb
  go_wp2_with fail
  refine Way.on hK (fun W=>Below w66.heap.size w66 W) _ _ (fun W h=>h) (V6) (fun hS0=>?_)
  clear hK K
  try simp only [Act.put,qac,qae,qaf]
  refine qbC 29 (v:=?_) rfl (by kernel_rfl) (fun _ _ _ h=>h) (by assumption) (by rfl) (fun w hSw=>?_) ?_
  rotate_left 1
  ·(try dsimp only at hSw);go_simp <;> with_reducible rfl
  try simp only [Act.put,qac,qae,qaf]
  refine qbC 30 (v:=?_) rfl (by kernel_rfl) (fun _ _ _ h=>h) (by assumption) (by rfl) (fun w hSw=>?_) ?_
  rotate_left 1
  ·(try dsimp only at hSw);go_simp <;> with_reducible rfl
  try simp only [Act.put,qac,qae,qaf]
  refine qbC 31 (v:=?_) rfl (by kernel_rfl) (fun _ _ _ h=>h) (by assumption) (by rfl) (fun w hSw=>?_) ?_
  rotate_left 1
  ·(try dsimp only at hSw);go_simp <;> with_reducible rfl
  try simp only [Act.put,qac,qae]
  refine wpAnyH_done (by kernel_rfl) ?_ _
  go_wp2_with fail
  go_ret
  exact⟨rfl,HB66.out.trans (V6.mono HB66.out.size)⟩
end Go.Proofs.YtfminfgabiipjaaGreatDoor
