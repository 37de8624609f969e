import Derived.Deep.RegionLaw
import Derived.Test.YtplkdeknjghobaaGreatDoorBe15
set_option maxRecDepth 100000
set_option maxHeartbeats 0
namespace Go.Proofs.YtplkdeknjghobaaGreatDoor
open Go.RowKit
def NormAs (w:World) (t:Tbl) (bl wl:List FT) (n R:Nat) (e:Ending) (w':World):Prop :=
 ∃(tb:Nat) (gs:Nat->Nat) (M:Nat->Nat->Int) (Z:Nat),e=.returned (.agg #[.slice (some ⟨tb,0,none⟩) n n])/\Below w.heap.size w w'/\w.heap.size<=tb/\0<Z/\MatAt w' tb n (n+1) gs M /\
  (∀r,r<n->∀c,c<n+1->((M r c:Int):Rat)=(Z:Rat)*normQ t bl wl R r c)/\∀r,r<n->∀c,c<n+1->Fit (M r c).natAbs 63440
theorem qmv {t:Tbl} {bl wl:List FT} {R n:Nat} (hT:TOk t) (hR:t.length=R) (hn:wid t=n) (hb:FAll bl) (hbl:bl.length=R) (hw:FAll wl) (hwl:wl.length=R) (hneg:¬Neg wl) {i:Nat} (hi:i<R):NRow t bl wl i/\(besides t bl i).length=n+1:=by
 have h:=hT.rows i (by omega);have hc:=hT.c2;have hl:(besides t bl i).length=n+1:=by unfold besides;rw [qaf,h.1,hn];rfl
 exact⟨⟨h.2.snoc (hb i (by omega)),by omega,qd1 hw (by omega),(hw i (by omega)).vn.fit,Int.not_lt.1 fun hlt=>hneg ⟨i,by omega,hlt⟩⟩,hl⟩
theorem qcb {W:World} {u:Value} {x:Nat} (h:MagAt W u x):∃(a:Option Addr) (n c:Nat),u=.slice a n c:=by
 obtain⟨a,_,_,c,n,_,rfl,_,_⟩:=h;exact⟨a,n,c,rfl⟩
theorem qhP {W:World} {a:Option Addr} {n c:Nat} {b:Bool} {z:Int} (h:IntAt W (.agg #[.slice a n c,.bool b]) z):MagAt W (.slice a n c) z.natAbs:=by
 obtain⟨_,e,h⟩:=h;simp only [qaJ,qaL,qaH] at e;rw [e.1];exact h
theorem qlj {W:World} {u v:Value} {e:TypeId}:∀j x,[u,v][j]? = some x->(W.alloc (.cells #[u,v] e)).cell? ((⟨W.heap.size,0,none⟩:Addr).add j)=some x:=by
 intro j x h;rw [Addr.add_mid,qC _ _ (0+j) _ _ _ (qM _ _ _ rfl),qaO];exact (qat ..).trans h
theorem zint_not:∀x∈(Value.agg #[zs0,.bool false]).cells.toList,qcH x:=by
 intro x hx k d e;rcases qaP.1 (show x∈[zs0,.bool false] from hx) with h | h
 ·rw [h] at e;cases e
 ·rw [qap.1 h] at e;cases e
theorem zrow_not {n:Nat}:∀x∈(iflat ([]++List.replicate n (zs0,false))).toArray.toList,qcH x:=by
 intro x hx k d e;have hx:x∈iflat ([]++List.replicate n (zs0,false)):=hx;rw [qbq] at hx;unfold iflat at hx;obtain⟨p,hp,hx⟩:=List.mem_flatMap.1 hx;rw [(List.mem_replicate.1 hp).2] at hx;rcases qaP.1 hx with h | h
 ·rw [h] at e;cases e
 ·rw [qap.1 h] at e;cases e
theorem two_one {a:Option Addr} {n c:Nat} {b:Bool}:∀u∈[Value.slice a n c,.bool b],u.oneCell'=true:=by
 intro x hx;rcases qaP.1 hx with h | h
 ·rw [h];rfl
 ·rw [qap.1 h];rfl
theorem two_not {a:Option Addr} {n c:Nat} {b:Bool}:∀u∈[Value.slice a n c,.bool b],qcH u:=by
 intro x hx k d e;rcases qaP.1 hx with h | h
 ·rw [h] at e;cases e
 ·rw [qap.1 h] at e;cases e
theorem qfG {a:Option Addr} {n c:Nat}:qcH (.slice a n c):=fun k d e=>by cases e
theorem qkQ (b off c:Nat) (t:Tbl) (b2 off2 c2:Nat) (bl:List FT) (b3 off3 c3:Nat) (wl:List FT) (R n:Nat) (w:World) (hT:TOk t) (hR:t.length=R) (hn:wid t=n) (hc:TCells w (some ⟨b,off,none⟩) b off t)
    (hb:FAll bl) (hbl:bl.length=R) (hbc:FCells w (some ⟨b2,off2,none⟩) b2 off2 bl) (hw:FAll wl) (hwl:wl.length=R) (hwc:FCells w (some ⟨b3,off3,none⟩) b3 off3 wl) (hneg:¬Neg wl) :
    Calls Tryz.prog 197 #[.slice (some ⟨b,off,none⟩) R c,.slice (some ⟨b2,off2,none⟩) R c2,.slice (some ⟨b3,off3,none⟩) R c3] w fun e w'=>NormAs w t bl wl n R e w':=by
  have hrow:∀i,i<R->NRow t bl wl i/\(besides t bl i).length=n+1:=fun i hi=>qmv hT hR hn hb hbl hw hwl hneg hi
  have hR40:R<=40:=by have:=hT.r2;omega
  have hR1:1<=R:=by have:=hT.r1;omega
  have hn10:n<=10:=by have:=hT.c2;omega
  have hn1:1<=n:=by have:=hT.c1;omega
  have HC:=qH (qA hc (qA hbc (qA hwc (qA hT (qA hR (qA hn (qA hb (qA hbl (qA hw hwl)))))))));have HR:=qH hrow;have hfi:=qfg;obtain⟨il,hil,zl0,zl1,zl2⟩:=info_parts qjX;obtain⟨it,hit,zt0,zt1,zt2⟩:=info_parts infoI;obtain⟨ib,hib,zb0,zb1,zb2⟩:=info_parts infoM;have HIn:=qH (qA hil (qA zl0 (qA zl1 (qA zl2 (qA hit (qA zt0 (qA zt1 (qA zt2 (qA hib (qA zb0 (qA zb1 zb2)))))))))));clear hrow hc hbc hwc hT hR hn hb hbl hw hwl hneg hil zl0 zl1 zl2 hit zt0 zt1 zt2 hib zb0 zb1 zb2;go_enter Tryz.func197,Tryz.ntmps197;go_wp2_with fail
  go_loopw [9,29] (fun x9 x29 W=>∃(i:Nat) (vl vt:Value) (gs:Nat->Nat) (ps:List (Value×Bool)) (vs:List Value),i<=R/\x29=.int .i64 i/\Hid (NSt W w.heap.size t bl wl n (nkeep wl i) (nkeep wl i) (nkeep wl i) vl vt x9 gs ps vs (fun p=>((ntop t bl wl ((nkeep wl R).getD p 0):Nat):Int)))/\Hid (Below w.heap.size w W)) (fun _ x29 _=>R-(intOf x29).toNat)
  case atStart =>
    have hb:Below w.heap.size w (((w.alloc (.cells #[zs0] 278)).alloc (.cells #[zs0] 276)).alloc (.cells #[zs0] 237)):=qbS (qbS (qbS qB qN) qN) qN;exact⟨0,.slice none 0 0,.slice none 0 0,fun _=>0,[],[],qam _,rfl,qH ⟨(qL _ _ _ (by simp only [qab];omega)).trans ((qL _ _ _ (by simp only [qab];omega)).trans (qM _ _ _ rfl)),(qL _ _ _ (by simp only [qab];omega)).trans (qM _ _ _ (by simp only [qab])),qM _ _ _ (by simp only [qab]),Rws.nil _ _ _ _,Rws.nil _ _ _ _,Rws.nil _ _ _ _,fun p hp=>absurd hp (by simp [nkeep]),fun p hp=>absurd hp (by simp [nkeep]),fun k hk=>absurd hk (by simp),rfl,⟨rfl,fun k hk=>absurd hk (by simp [nkeep])⟩⟩,qH hb⟩
  case round =>
    obtain⟨i,vl,vt,gs,ps,vs,hi,rfl,hN,hB⟩:=hrel
    by_cases hiR:i<R
    · have hii:(i:Int)<R:=by omega
      have hit:i<t.length:=by have:=HC.out.2.2.2.2.1;omega
      obtain⟨ra,rb,ro,rc,hck,hfk⟩:=(HC.out.1.below hB.out).row i hit;have hrl:=HC.out.2.2.2.1.rows i hit;rw [HC.out.2.2.2.2.2.1] at hrl;rw [hrl.1] at hck;obtain⟨d0,d1⟩:=(HC.out.2.2.1.below hB.out).cell i (by have:=HC.out.2.2.2.2.2.2.2.2.2;omega);have hok:=HC.out.2.2.2.2.2.2.2.2.1 i (by have:=HC.out.2.2.2.2.2.2.2.2.2;omega);obtain⟨WN,hWN⟩:∃N,(wl.getD i fd0).1=N:=⟨_,rfl⟩;obtain⟨WD,hWD⟩:∃D,(wl.getD i fd0).2=D:=⟨_,rfl⟩;rw [hWN,hWD] at hok;rw [hWN] at d0;rw [hWD] at d1;obtain⟨e0,e1⟩:=(HC.out.2.1.below hB.out).cell i (by have:=HC.out.2.2.2.2.2.2.2.1;omega);obtain⟨BN,hBN⟩:∃N,(bl.getD i fd0).1=N:=⟨_,rfl⟩;obtain⟨BD,hBD⟩:∃D,(bl.getD i fd0).2=D:=⟨_,rfl⟩;rw [hBN] at e0;rw [hBD] at e1;have HW:=qH (qA hWN (qA hWD (qA hok (qA hBN (qA hBD (qA hrl hfk))))));clear hWN hWD hok hBN hBD hrl hfk;go_wp2_with fail;refine (least.qcy WN HW.out.2.2.1.vn _).mono ?_;rintro e w2 ⟨u2,rfl,hb2,hu2⟩;obtain⟨a2,n2,c2',b2',rfl⟩:=least.qbT hu2;have H2:=qH (qA hb2 hu2);clear hb2 hu2;go_wp2_with fail;obtain⟨W3,hW3⟩:=qY (w2.alloc (.cells #[.slice a2 n2 c2',.bool b2'] 242));have hb23:Below w2.heap.size w2 W3:=hW3▸qbS qB qN;have hg3:W3.heap[w2.heap.size]? = some (.cells #[.slice a2 n2 c2',.bool b2'] 242 (0,0)):=by rw [hW3];exact qM _ _ _ rfl
      have hwn:(ival WN.data.toList).natAbs=wnum wl i:=by unfold wnum;rw [HW.out.1]
      have hm3:=(qhP H2.out.2).below hb23;rw [hwn] at hm3;rw [<-hW3];have H3:=qH (qA (bjoin H2.out.1 hb23) (qA hg3 hm3));clear hW3 hb23 hg3 hwn;refine (least.qcF (wnum wl i) _ W3 hm3).mono ?_;rintro e w4 ⟨rfl,hw4⟩;subst hw4;clear hm3
      by_cases hz:wnum wl i=0
      · rw [qV hz]
        have HZ:=qH hz;clear hz;go_wp2;go_roundw
        case rel=>exact⟨i+1,vl,vt,gs,ps,vs,hiR,by go_num,by rw [show nkeep wl (i+1)=nkeep wl i by simp only [nkeep,if_pos HZ.out]];exact qH (hN.out.below H3.out.1),qH (hB.out.trans (H3.out.1.mono hB.out.size))⟩
        case measure=>simp [intOf];omega
      · rw [qU hz]
        have HZ:=qH hz;have hb4:=H3.out.1;have g0:=qC _ _ 0 _ _ _ H3.out.2.1;have e0':=(hb4.cell (qac wr _ e0)).trans e0;have e1':=(hb4.cell (qac wr _ e1)).trans e1;have d1':=(hb4.cell (qac wr _ d1)).trans d1;clear hz hb4;go_wp2_with fail;refine (qho ra rb ro n rc (t.getD i []) (BN,BD) _ HW.out.2.2.2.2.2.1.1 hn1 (by omega) (HW.out.2.2.2.2.2.2.below H3.out.1)).mono ?_;rintro e w5 ⟨g5,rfl,hb5,hf5⟩;have HM5:=qH (MagAt.below H3.out.2.2 hb5);have H5:=qH (qA (bjoin H3.out.1 hb5) hf5);have g0':=(hb5.cell (qac w4 _ g0)).trans g0;have d1'':=(hb5.cell (qac w4 _ d1')).trans d1';clear hb5 hf5 g0 d1' e0' e1';go_wp2_with fail;have hbes:t.getD i []++[(BN,BD)]=besides t bl i:=by unfold besides;rw [<-HW.out.2.2.2.1,<-HW.out.2.2.2.2.1]
        have hrow:=HR.out i hiR;rw [hbes] at H5;refine (qex (c:=n+1) hrow.2 (by omega) H5.out.2 hrow.1.fa).mono ?_;rintro e w6 ⟨g6,v6,rfl,hg6s,hb6,hm6,hr6⟩;obtain⟨a6,n6,c6,rfl⟩:=qcb hm6;have HM6:=qH (MagAt.below HM5.out hb6);have H6:=qH (qA (bjoin H5.out.1 hb6) (qA hm6 (qA hr6 (qaj H5.out.1.size hg6s))));have g0:=(hb6.cell (qac w5 _ g0')).trans g0';have d1':=(hb6.cell (qac w5 _ d1'')).trans d1'';clear hb6 hm6 hr6 hg6s g0' d1'' hbes hrow;go_wp2_with fail;refine (least.qcy WD HW.out.2.2.1.vd _).mono ?_;rintro e w7 ⟨u7,rfl,hb7,hu7⟩;obtain⟨a7,n7,c7,b7,rfl⟩:=least.qbT hu7;have HS7:=qH hb7;have HM7:=qH (MagAt.below HM6.out hb7);have H7:=qH (qA (bjoin H6.out.1 hb7) (qA (qhP hu7) (H6.out.2.1.below hb7)));have g0':=(hb7.cell (qac w6 _ g0)).trans g0;clear hb7 hu7 g0 d1';have hfd:(ival WD.data.toList).natAbs=fden (wl.getD i fd0):=by unfold fden;rw [HW.out.2.1]
        rw [hfd] at H7;clear hfd;go_wp2_with fail;refine (least.qco _ _ 67 738 (by omega) _ _ w7 H7.out.2.1 H7.out.2.2 (HR.out i hiR).1.wd.2 (HR.out i hiR).1.below.2).mono ?_;rintro e w8 ⟨u8,rfl,hb8,hu8⟩;obtain⟨a8,n8,c8,rfl⟩:=qcb hu8;have HS8:=qH (bjoin HS7.out hb8);have HM8:=qH (MagAt.below HM7.out hb8);have H8:=qH (qA (bjoin H7.out.1 hb8) (qA hu8 (H7.out.2.2.below hb8)));have g0:=(hb8.cell (qac w7 _ g0')).trans g0';clear hb8 hu8 g0';go_wp2_with fail;refine (least.qco _ _ 805 738 (by omega) _ _ w8 H8.out.2.1 H8.out.2.2 (((HR.out i hiR).1.wd.2.mul (HR.out i hiR).1.below.2).mono (by omega)) (HR.out i hiR).1.below.2).mono ?_;rintro e w9 ⟨u9,rfl,hb9,hu9⟩;obtain⟨a9,n9,c9,rfl⟩:=qcb hu9;have HS9:=qH (bjoin HS8.out hb9);have HM9:=qH (MagAt.below HM8.out hb9);have H9:=qH (qA (bjoin H8.out.1 hb9) (show MagAt w9 (.slice a9 n9 c9) (wdn t bl wl i) from hu9));have g0':=(hb9.cell (qac w8 _ g0)).trans g0;clear hb9 hu9 g0 HM5 HM6 HM7 HM8;go_wp2_with fail;refine (least.qdU (wnum wl i) (wdn t bl wl i) 1543 (by omega) _ _ w9 HM9.out H9.out.2 ((HR.out i hiR).1.wn.mono (by omega)) (HR.out i hiR).1.d.2).mono ?_;rintro e w10 ⟨u10,rfl,hb10,hu10⟩;obtain⟨a10,n10,c10,rfl⟩:=qcb hu10;have HS10:=qH (bjoin HS9.out hb10);have H10:=qH (qA (bjoin H9.out.1 hb10) (qA hu10 (qA (H9.out.2.below hb10) (HM9.out.below hb10))));have g0:=(hb10.cell (qac w9 _ g0')).trans g0';clear hb10 hu10 g0';go_wp2_with fail;refine (least.qb7 (wnum wl i) _ 1543 (by omega) _ _ w10 H10.out.2.2.2 H10.out.2.1 ((HR.out i hiR).1.wn.mono (by omega)) (HR.out i hiR).1.g.2 (HR.out i hiR).1.g.1).mono ?_;rintro e w11 ⟨u11,r11,rfl,hb11,hu11,hr11⟩;obtain⟨a11,n11,c11,rfl⟩:=qcb hu11;obtain⟨a11',n11',c11',rfl⟩:=qcb hr11;have HS11:=qH (bjoin HS10.out hb11);have H11:=qH (qA (bjoin H10.out.1 hb11) (qA (show MagAt w11 (.slice a11 n11 c11) (ntop t bl wl i) from hu11) (qA (H10.out.2.1.below hb11) (H10.out.2.2.1.below hb11))));clear hb11 hu11 hr11 g0;go_wp2_with fail;refine (least.qb7 (wdn t bl wl i) _ 1543 (by omega) _ _ w11 H11.out.2.2.2 H11.out.2.2.1 (HR.out i hiR).1.d.2 (HR.out i hiR).1.g.2 (HR.out i hiR).1.g.1).mono ?_;rintro e w12 ⟨u12,r12,rfl,hb12,hu12,hr12⟩;obtain⟨a12,n12,c12,rfl⟩:=qcb hu12;obtain⟨a12',n12',c12',rfl⟩:=qcb hr12;have HS12:=qH (bjoin HS11.out hb12);have H12:=qH (qA (bjoin H11.out.1 hb12) (qA (show MagAt w12 (.slice a12 n12 c12) (nden t bl wl i) from hu12) (H11.out.2.1.below hb12)));clear hb12 hu12 hr12;have hk40:(nkeep wl i).length<=40:=by have:=(qfu wl i).1;omega
        have hN12:=hN.out.below H12.out.1;have hr12:=H6.out.2.2.1.below HS12.out;have hal:Below w12.heap.size w12 (w12.alloc (.cells #[rowv g6 (n+1)] 237)):=qbS qB qN;have hNa:=hN12.below hal;have hne6:vt.ownBlock≠some g6:=fun e=>by have:=(hN.out.rt.lt g6 e).2;have:=H6.out.2.2.2;omega
        have hsz12:w.heap.size+1+1+1<=w12.heap.size:=by
          have h1:=(qG hN12.ct).1;omega
        have cl12:=qC _ _ 0 _ _ _ hN12.cl;have HNa:=qH (qA hNa (qA (hr12.below hal) (qA hne6 (qA hsz12 hal))));clear hN12 hr12 hNa hne6 hsz12 hal d0 d1 e0 e1 hck
        go_wp2_with (first | (at_builtin;(refine qds rfl (.tmp 81) (.tmp 83) 276 rfl (w.heap.size+1+1+1) 237 il (.slice none 0 0) 1 24 Tryz.underlying276 HIn.out.1 HIn.out.2.1 HIn.out.2.2.1 HIn.out.2.2.2.1 rfl (by decide) (fun x hx=>by rw [qap.1 hx];exact qfG) vl (nkeep wl i).length _ rfl HNa.out.1.rl ⟨w12.heap.size,0,none⟩ 1 1 [rowv g6 (n+1)] rfl rfl (qcL _ _ _) (fun u hu=>by rw [qap.1 hu];rfl) (fun u hu=>by rw [qap.1 hu];exact qfG) (by decide) (by unfold maxLen;omega) (by omega) (qaj HNa.out.2.2.2.1 HNa.out.2.2.2.2.size) ?_);intro vl' w13 hrl hgl _;obtain⟨ca,fa⟩:=nst_cl HNa.out.1 hgl;obtain⟨al',cl',rfl⟩:=hrl.shape;have HL:=qH (qA hrl hgl);clear hrl hgl) | fail)
        obtain⟨W14,hW14⟩:=qY (w13.setCell ⟨w.heap.size+1,0,none⟩ (.slice al' ((nkeep wl i).length+1) cl'));rw [<-hW14];have hN13:=HNa.out.1.addL HNa.out.2.1 HNa.out.2.2.1 HL.out.1 HL.out.2;have hs14:=nst_soft HNa.out.1 HL.out.2 (.slice al' ((nkeep wl i).length+1) cl');rw [<-hW14] at hN13 hs14;have hm14:MagAt W14 (.slice a11 n11 c11) (ntop t bl wl i)/\MagAt W14 (.slice a12 n12 c12) (nden t bl wl i):=⟨hs14.1 _ _ (H12.out.2.2.below HNa.out.2.2.2.2),hs14.1 _ _ (H12.out.2.1.below HNa.out.2.2.2.2)⟩;have hB14:Below w.heap.size w W14:=hs14.2 w w.heap.size (hB.out.trans ((bjoin H12.out.1 HNa.out.2.2.2.2).mono hB.out.size)) (by omega) (by have:=HNa.out.2.2.2.1;have:=HNa.out.2.2.2.2.size;omega);have hsz14:w.heap.size+1+1+1<=W14.heap.size:=by
          have h1:=(qG hN13.ct).1;omega
        have ct14:=qC _ _ 0 _ _ _ hN13.ct;have hstD:Below W14.heap.size W14 W14.drew:=qB.drew;have HSg:=qH (fun W (h:Below W14.heap.size W14 W)=>least.qb3 (ntop t bl wl i) false (.slice a11 n11 c11) W (hm14.1.below h));have H14:=qH (qA hN13 (qA hm14.2 (qA hB14 (qA hsz14 (ql7 wl HZ.out R hiR).1))));have HW14:=qH hW14;clear hW14 hN13 hs14 hm14 hB14 hsz14 ca fa cl12
        go_region_law (first | (refine qhb rfl (.tmp 85) (.tmp 88) 237 (by rfl) (w.heap.size+1+1+1) 242 it (.agg #[zs0,.bool false]) 2 32 Tryz.underlying237 HIn.out.2.2.2.2.1 HIn.out.2.2.2.2.2.1 HIn.out.2.2.2.2.2.2.1 HIn.out.2.2.2.2.2.2.2.1 rfl (by decide) zint_not vt (nkeep wl i).length _ (by rfl) H15.out.1.rt ⟨w15.heap.size,0,none⟩ 1 1 [.slice a15 n15 c15,.bool b15] (by rfl) rfl qlj two_one two_not (by decide) (by unfold maxLen;omega) (by omega) H15.out.2.1 ?_;intro vt' w16 hrt hgt hot;obtain⟨q0,qf⟩:=nst_ct H15.out.1 hgt;obtain⟨at',ct',rfl⟩:=hrt.shape;have HT:=qH (qA hrt (qA hgt hot));clear hrt hgt hot) | (go_simp;go_at_call 180;refine (HSg.out _ hstD).mono ?_;rintro e w15 ⟨u15,rfl,hb15,hu15⟩;obtain⟨a15,n15,c15,b15,rfl⟩:=least.qbT hu15;have hal15:Below w15.heap.size w15 (w15.alloc (.cells #[.slice a15 n15 c15,.bool b15] 242)):=qbS qB qN;have hb:=hstD.trans (bjoin hb15 hal15);have ct15a:=hb.cell (qac W14 _ ct14) |>.trans ct14;have ct15:=(hstD.trans hb15).cell (qac W14 _ ct14) |>.trans ct14;have H15:=qH (qA (H14.out.1.below hb) (qA (qaj H14.out.2.2.2.1 hb.size) (qA hb (hu15.below hal15))));clear hb15 hu15 hal15 hb))
        all_goals
          have hT:(if false=true then -((ntop t bl wl i:Nat):Int) else ((ntop t bl wl i:Nat):Int))=((ntop t bl wl ((nkeep wl R).getD (nkeep wl i).length 0):Nat):Int):=by rw [H14.out.2.2.2.2];rfl
          have hN16:=H15.out.1.addT2 (i:=i) hT H15.out.2.2.2 HT.out.1 HT.out.2.1 HT.out.2.2;have hs16:=qmw H15.out.1 HT.out.2.1 (.slice at' ((nkeep wl i).length+1) ct');obtain⟨W16,hW16⟩:=qY (w16.setCell ⟨w.heap.size+1+1,0,none⟩ (.slice at' ((nkeep wl i).length+1) ct'));rw [<-hW16] at hN16 hs16 ⊢;have hm16:=hs16.1 _ _ (H14.out.2.1.below H15.out.2.2.1);have hB16:=hs16.2 w w.heap.size (H14.out.2.2.1.trans (H15.out.2.2.1.mono H14.out.2.2.1.size)) (by omega) (by have:=H15.out.2.1;omega);have hal16:Below W16.heap.size W16 (W16.alloc (.cells #[.slice a12 n12 c12] 238)):=qbS qB qN;have hsz16:w.heap.size+1+1+1<=W16.heap.size:=by
            have h1:=(qG hN16.ct).1;omega
          have H16:=qH (qA (hN16.below hal16) (qA (hm16.below hal16) (qA (hB16.trans (hal16.mono hB16.size)) (qaj hsz16 hal16.size))));clear hT hN16 hs16 hm16 hB16 hal16 hsz16 hW16 q0 qf ct14 ct15 ct15a
          go_wp2_with (first | (at_builtin;(refine qds rfl (.tmp 90) (.tmp 92) 313 rfl (w.heap.size+1+1+1) 238 ib (.slice none 0 0) 1 24 Tryz.underlying313 HIn.out.2.2.2.2.2.2.2.2.1 HIn.out.2.2.2.2.2.2.2.2.2.1 HIn.out.2.2.2.2.2.2.2.2.2.2.1 HIn.out.2.2.2.2.2.2.2.2.2.2.2 rfl (by decide) (fun x hx=>by rw [qap.1 hx];exact qfG) u9 (nkeep wl i).length _ rfl H16.out.1.rb ⟨W16.heap.size,0,none⟩ 1 1 [.slice a12 n12 c12] rfl rfl (qcL _ _ _) (fun u hu=>by rw [qap.1 hu];rfl) (fun u hu=>by rw [qap.1 hu];exact qfG) (by decide) (by unfold maxLen;omega) (by omega) H16.out.2.2.2 ?_);intro vb' w17 hrb hgb _;obtain⟨ab',cb',rfl⟩:=hrb.shape;have HBb:=qH (qA hrb hgb);clear hrb hgb) | fail)
          go_roundw
        all_goals first
          | exact⟨i+1,_,_,_,_,_,hiR,by go_num,by rw [show nkeep wl (i+1)=nkeep wl i++[i] by simp only [nkeep,if_neg HZ.out]];exact qH (H16.out.1.addB (i:=i) H16.out.2.1 HBb.out.1 HBb.out.2),qH (H16.out.1.rb.old HBb.out.2 H16.out.2.2.1 (by omega) (by have:=H16.out.2.2.2;omega))⟩
          | (simp [intOf];omega)
    · obtain rfl:i=R:=by omega
      obtain⟨KS,hKS⟩:=qX (nkeep wl i);rw [hKS] at hN;have hk40:KS.length<=40:=by have:=(qfu wl i).1;rw [hKS] at this;omega
      have hmem:∀x∈KS,NRow t bl wl x/\(besides t bl x).length=n+1:=fun x hx=>HR.out x ((qfu wl i).2 x (by rw [hKS];exact hx)).1
      obtain⟨ab,gb,cb,hvb,hvc,_⟩:=hN.out.rb.vcells;obtain⟨k,hk⟩:=qX KS.length;rw [hk] at hvb;subst hvb;have hcm:=qhp ab gb 0 k cb vs (KS.map (nden t bl wl)) 1543 wr (by rw [qaw];exact hk) hvc hN.out.mb (fun x hx=>by rw [mapD (by omega)];exact (hmem _ (qcE (by omega))).1.den) (by omega) (by omega) (by omega);have HCM:=qH hcm;have HK:=qH (qA hKS (qA hk hmem));rw [hk] at hk40;have hN1:=hN.out;obtain⟨al,cl,hvl⟩:=hN1.rl.shape;obtain⟨at',ct,hvt⟩:=hN1.rt.shape;rw [hk] at hvl hvt;subst hvl;subst hvt;have HN1:=qH hN1;have HBr:=qH hB.out;clear hcm hKS hk hmem hvc hN1 hN hB;go_wp2_with fail;refine HCM.out.mono ?_;rintro e w18 ⟨v18,rfl,hb18,hm18⟩;obtain⟨a18,n18,c18,rfl⟩:=qcb hm18;have hN18:=HN1.out.below hb18;have ct18:=qC _ _ 0 _ _ _ hN18.ct;have H18:=qH (qA hN18 (qA (show MagAt w18 (.slice a18 n18 c18) (nall t bl wl KS) from hm18) (HBr.out.trans (hb18.mono HBr.out.size))));clear hb18 hm18 hN18 HCM;go_wp2_with fail
      go_loopw [99] (fun x99 W=>∃(j:Nat) (ps:List (Value×Bool)),j<=k/\x99=.int .i64 j/\Hid (NSt W w.heap.size t bl wl n KS KS KS (.slice al k cl) (.slice at' k ct) (.slice ab k cb) gs ps vs (fun p=>if p<j then nfac t bl wl KS (KS.getD p 0) else ((ntop t bl wl (KS.getD p 0):Nat):Int)))/\Hid (MagAt W (.slice a18 n18 c18) (nall t bl wl KS))/\Hid (Below w.heap.size w W)) (fun x99 _=>k-(intOf x99).toNat)
      case atStart=>exact⟨0,ps,qam _,rfl,qH (H18.out.1.congrT (fun p hp=>by rw [if_neg (by omega)])),qH H18.out.2.1,qH H18.out.2.2⟩
      case round =>
        obtain⟨j,ps2,hj,rfl,hN2,hA2,hB2⟩:=hrel
        by_cases hjk:j<k
        · have hji:(j:Int)<k:=by omega
          have ctr:=qC _ _ 0 _ _ _ hN2.out.ct;have hjS:j<KS.length:=by have:=HK.out.2.1;omega
          obtain⟨ao3,g3,cap3,e3,hvc3,_⟩:=hN2.out.rb.vcells;have hvl3:vs.length=KS.length:=by have:=hN2.out.mb.1;rw [qaw] at this;exact this
          have hao:=hvc3.addr (by omega);rw [HK.out.2.1] at e3;simp only [qbE,true_and] at e3;obtain⟨e3a,e3c⟩:=e3;subst hao;subst e3a;subst e3c;have hcb:=hvc3.cell j (by omega);have hmb:=hN2.out.mb.2 j (by rw [qaw];exact hjS);rw [mapD hjS] at hmb;obtain⟨vj,hvj⟩:=qX (vs.getD j undef);rw [hvj] at hcb hmb;obtain⟨aj,nj,cj,rfl⟩:=qcb hmb;have HMb:=qH hmb;rw [qaO] at hcb;clear hvj hmb hvc3 hvl3;go_wp2_with fail;refine (least.qb7 _ _ 61721 (by omega) _ _ wr hA2.out HMb.out (qhW (fun x hx=>(HK.out.2.2 x hx).1) (by have:=HK.out.2.1;omega)) ((HK.out.2.2 _ (qcE hjS)).1.den.2.mono (by omega)) (HK.out.2.2 _ (qcE hjS)).1.den.1).mono ?_;rintro e w20 ⟨u20,r20,rfl,hb20,hu20,hr20⟩;obtain⟨a20,n20,c20,rfl⟩:=qcb hu20;obtain⟨a20',n20',c20',rfl⟩:=qcb hr20;have hN20:=hN2.out.below hb20;obtain⟨gt,capt,a2,m2,d2,b2',et,hgtl,hgth,t0,t1,tf,hit⟩:=hN20.top hjS;rw [HK.out.2.1] at et;simp only [qbE,true_and] at et;obtain⟨et1,et2⟩:=et;subst et1;subst et2;simp only [if_neg (Nat.lt_irrefl j)] at hit;have ct20:=qC _ _ 0 _ _ _ hN20.ct;have hst:Below w20.heap.size w20 w20:=Below.refl _ _;have hstD:Below w20.heap.size w20 w20.drew:=hst.drew;have HSc:=qH (fun W (h:Below w20.heap.size w20 W)=>least.qcN ((ntop t bl wl (KS.getD j 0):Nat):Int) _ 67 61721 (by omega) _ _ W (hit.below h) (hu20.below h) (by rw [qal];exact (HK.out.2.2 _ (qcE hjS)).1.top) ((qhW (fun x hx=>(HK.out.2.2 x hx).1) (by have:=HK.out.2.1;omega)).le (qaS _ _)));have H20:=qH (qA hN20 (qA (hA2.out.below hb20) (qA (hB2.out.trans (hb20.mono hB2.out.size)) (qA tf hgth))));clear hN20 hit hb20 hu20 hr20 tf hcb ctr ct18;go_wp2_with fail
          go_region_with (first | (go_at_call 174;refine (HSc.out _ hstD).mono ?_;rintro e w21 ⟨u21,rfl,hb21,hu21⟩;obtain⟨a21,n21,c21,b21,rfl⟩:=least.qbT hu21;have hb:=hstD.trans hb21;have x0:=hb.cell (qac w20 _ t0) |>.trans t0;have x1:=hb.cell (qac w20 _ t1) |>.trans t1;have x2:=hb.cell (qac w20 _ ct20) |>.trans ct20;have y0:=(hb.frozen (p:=⟨gt,j*2,none⟩) hgtl).trans (H20.out.2.2.2.1 _);have y1:=(hb.frozen (p:=⟨gt,j*2+1,none⟩) hgtl).trans (H20.out.2.2.2.1 _);have H21:=qH (qA (H20.out.1.below hb) (qA (H20.out.2.1.below hb) (qA (H20.out.2.2.1.trans (hb.mono H20.out.2.2.1.size)) hu21)));clear hb21 hu21 hb))
          all_goals go_wp2_with fail
          all_goals go_roundw
          all_goals first
            | (refine⟨j+1,ps2.set j (.slice a21 n21 c21,b21),hjk,by go_num,?_,qH ((H21.out.1.setSoft _ _ _ _).mag H21.out.2.1),qH ((H21.out.1.setSoft _ _ _ _).old H21.out.2.2.1 (fun x e=>by have:=qai e;have:=H20.out.2.2.2.2;omega) H21.out.2.2.1.size)⟩
               have h:=H21.out.1;rw [<-HK.out.2.1] at h;have h2:=h.setT hjS H21.out.2.2.2;rw [HK.out.2.1] at h2;exact qH (h2.congrT (fun p _=>by
                 by_cases e:p=j
                 · subst e;rw [if_pos rfl,if_pos (by omega)];rfl
                 · rw [if_neg e]
                   by_cases e2:p<j
                   · rw [if_pos e2,if_pos (by omega)]
                   · rw [if_neg e2,if_neg (by omega)])))
            | (simp [intOf];omega)
        · obtain rfl:j=k:=by omega
          have hN3:=hN2.out.congrT (T':=fun p=>nfac t bl wl KS (KS.getD p 0)) (fun p hp=>by rw [if_pos (by rw [<-HK.out.2.1];exact hp)]);have haw:0<t.length:=by have:=HC.out.2.2.2.2.1;omega
          obtain⟨ra0,rb0,ro0,rc0,hc0,_⟩:=(HC.out.1.below hB2.out).row 0 haw;rw [qbh] at hc0;have hn':(t.getD 0 []).length=n:=HC.out.2.2.2.2.2.1;rw [hn'] at hc0;have h0i:(0:Int)<(i:Int):=by omega
          have hmk:=qmg n (by omega) wr;obtain⟨W25,hW25⟩:=qY (wr.alloc (.cells (madeCells #[zs0] n) 237));have hm25:=MatPart.made wr n (n+1) (fun _=>0) (fun r c=>isum (fun p=>nterm t bl wl KS r c (KS.getD p 0)) j);have hb25:Below wr.heap.size wr W25:=hW25▸qbS qB qN;rw [<-hW25] at hmk hm25;have hs25:W25.heap.size=wr.heap.size+1:=by rw [hW25,qab]
          clear hW25;obtain⟨W26,hW26⟩:=qY (W25.alloc (.cells #[.slice (some ⟨wr.heap.size,0,none⟩) n n] 278));have hb26:Below W25.heap.size W25 W26:=hW26▸qbS qB qN;have hr26:W26.heap[W25.heap.size]? = some (.cells #[.slice (some ⟨wr.heap.size,0,none⟩) n n] 278 (0,0)):=by rw [hW26];exact qM _ _ _ rfl
          have H26:=qH (qA (hm25.below hb26) (qA hr26 (qA (hb25.trans (hb26.mono hb25.size)) (qA hN3 (qA hB2.out hs25)))));clear hm25 hb25 hb26 hr26 hN3 hn' hs25 hN2 hA2 hB2 ct18;go_wp2_with fail;rw [<-hW26];clear hW26 hmk;obtain⟨wA,hwA⟩:=qY wr;subst hwA;have hmi:∀W:World,(Instr.makeSlice 237 (.int .i64 ((n:Int)+1)) (.int .i64 ((n:Int)+1))).run Tryz.prog W=.ok (.slice (some ⟨W.heap.size,0,none⟩) (n+1) (n+1)) (W.alloc (.cells (madeCells #[zs0,.bool false] ((n+1)*2)) 242)):=fun W=>qgT (n+1) (by omega) W
          have HMI:=qH hmi;clear hmi
          go_loopw [129] (fun x129 W=>∃(r:Nat) (gs3:Nat->Nat),r<=n/\x129=.int .i64 r/\Hid (MatPart W wA.heap.size n r (n+1) gs3 (fun r c=>isum (fun p=>nterm t bl wl KS r c (KS.getD p 0)) j))/\Hid (W.heap[W25.heap.size]? = some (.cells #[.slice (some ⟨wA.heap.size,0,none⟩) n n] 278 (0,0)))/\Hid (Below wA.heap.size wA W)) (fun x129 _=>n-(intOf x129).toNat)
          case atStart=>exact⟨0,fun _=>0,qam _,rfl,qH H26.out.1,qH H26.out.2.1,qH H26.out.2.2.1⟩
          case round =>
            obtain⟨r,gs3,hr,rfl,hM3,hS3,hB3⟩:=hrel;obtain⟨wB,hwB⟩:=qY wr;subst hwB
            by_cases hrn:r<n
            · have hri:(r:Int)<n:=by omega
              obtain⟨V0,hV0⟩:=qY (wB.alloc (.cells #[.int .i64 r] 3));have hbV:Below wB.heap.size wB V0:=hV0▸qbS qB qN;have hrV:V0.heap[wB.heap.size]? = some (.cells #[.int .i64 r] 3 (0,0)):=by rw [hV0];exact qM _ _ _ rfl
              have hMV:=hM3.out.below hbV;have hSV:=(hbV.block _ (qG hS3.out).1).trans hS3.out;have cs:=qC _ _ 0 _ _ _ hSV;have cr:=qC _ _ 0 _ _ _ hrV;obtain⟨V1,hV1⟩:=qY (V0.alloc (.cells (madeCells #[zs0,.bool false] ((n+1)*2)) 242));have hb1:Below V0.heap.size V0 V1:=hV1▸qbS qB qN;have hi1:=IRow.made V0 (n+1);have hmi:=HMI.out V0;rw [<-hV1] at hi1 hmi;obtain⟨q0,q1⟩:=(hMV.below hb1).at hrn;have HV:=qH (qA hMV (qA hSV (qA hrV (qA hb1 (qA hi1 (hB3.out.trans (hbV.mono hB3.out.size)))))));have hmi2:(Instr.makeSlice 237 (.int .i64 ((n:Int)+1)) (.int .i64 ((n:Int)+1))).run Tryz.prog V0.drew=.ok (.slice (some ⟨V0.heap.size,0,none⟩) (n+1) (n+1)) V1.drew:=by rw [HMI.out V0.drew,hV1];rfl
              have cs1:=(hb1.cell (qac V0 _ cs)).trans cs;have cr1:=(hb1.cell (qac V0 _ cr)).trans cr;clear hbV hrV hMV hSV hb1 hi1 hV1 hmi;go_wp2_with fail;rw [<-hV0];clear hV0
              go_region
              obtain⟨V2,hV2⟩:=qY ((V1.setCell ⟨wA.heap.size,r,none⟩ (rowv V0.heap.size (n+1))).drew);rw [<-hV2];have hrow2:=qiN (g:=V0.heap.size) (HV.out.1.below HV.out.2.2.2.1).row hrn;have hkp:=least.qbX V1 wA.heap.size r (rowv V0.heap.size (n+1));have hne2:V0.heap.size≠wA.heap.size:=by
                have:=(qG HV.out.1.row).1;omega
              have hi2:IRow V2 V0.heap.size (n+1) []:=by
                rw [hV2];exact⟨(hkp.block _ (qG HV.out.2.2.2.2.1.1).1 (fun e=>hne2 (qai e))).trans HV.out.2.2.2.2.1.1,HV.out.2.2.2.2.1.2⟩
              have hsy2:V2.heap[W25.heap.size]? = some (.cells #[.slice (some ⟨wA.heap.size,0,none⟩) n n] 278 (0,0)):=by
                rw [hV2];have h1:=zkeep HV.out.2.2.2.1 _ _ HV.out.2.1;exact (hkp.block _ (qG h1).1 (fun e=>by have:=qai e;have:=H26.out.2.2.2.2.2;omega)).trans h1
              have hrc2:V2.heap[wB.heap.size]? = some (.cells #[.int .i64 r] 3 (0,0)):=by
                rw [hV2];have h1:=zkeep HV.out.2.2.2.1 _ _ HV.out.2.2.1;exact (hkp.block _ (qG h1).1 (fun e=>by have:=qai e;have:=(qG hM3.out.row).1;omega)).trans h1
              have hrs2:∀x,x<r->qcm V2 (gs3 x) (n+1) (fun c=>isum (fun p=>nterm t bl wl KS x c (KS.getD p 0)) j)/\gs3 x<V0.heap.size:=fun x hx=>by
                have h0:=HV.out.1.rows x hx;have h1:=(HV.out.1.below HV.out.2.2.2.1).rows x hx;refine⟨?_,?_⟩
                · rw [hV2];exact (h1.keepRows hkp (HV.out.1.below HV.out.2.2.2.1).row qh1).below qB.drew
                · obtain⟨_,_,h2,_⟩:=h0
                  exact (qG h2.1).1
              have hro2:V2.heap[wA.heap.size]? = some (.cells (rowvs (r+1) (n+1) (fun x=>if x=r then V0.heap.size else gs3 x)++List.replicate (n-(r+1)) zs0).toArray 237 (0,0)):=by rw [hV2];exact hrow2
              have hB2':Below wA.heap.size wA V2:=by rw [hV2];exact ((HV.out.2.2.2.2.2.trans (HV.out.2.2.2.1.mono HV.out.2.2.2.2.2.size)).setCell (p:=⟨wA.heap.size,r,none⟩) qN _).drew
              have hsz2:wB.heap.size<V0.heap.size:=(qG HV.out.2.2.1).1;have hNV:=H26.out.2.2.2.1.below hB2';have H2:=qH (qA hi2 (qA hsy2 (qA hrc2 (qA hrs2 (qA hro2 (qA hB2' hNV))))));have Hsz:=qH (qA hsz2 (qA (show wA.heap.size<V0.heap.size from Nat.lt_of_le_of_ne HV.out.2.2.2.2.2.size (fun e=>hne2 e.symm)) (show W25.heap.size<V0.heap.size from (qG HV.out.2.1).1)));clear hV2 hrow2 hkp hne2 hi2 hsy2 hrc2 hrs2 hro2 hB2' hsz2 hNV cs cr cs1 cr1 q0 q1 hmi2 hM3 hS3 hB3;go_wp2_with fail
              go_loopw [141] (fun x141 W=>∃(cc:Nat) (qs:List (Value×Bool)),cc<=n+1/\x141=.int .i64 cc/\Hid (qs.length=cc/\IRow W V0.heap.size (n+1) qs/\qct W qs (fun c=>isum (fun p=>nterm t bl wl KS r c (KS.getD p 0)) j))/\Hid (V2.grownBy W (some V0.heap.size))) (fun x141 _=>n+1-(intOf x141).toNat)
              case atStart=>exact⟨0,[],qam _,rfl,qH ⟨rfl,H2.out.1,fun x hx=>absurd hx (by simp)⟩,qH (qcT _ _)⟩
              case round =>
                obtain⟨cc,qs,hcc,rfl,hQ,hG⟩:=hrel;have hsf:Soft V2 wr (some V0.heap.size):=⟨hG.out,fun g e=>by cases e;exact⟨_,_,_,H2.out.1.1,zrow_not⟩⟩;have hlow:∀{x:Nat},x<V0.heap.size->(some V0.heap.size:Option Nat)≠some x:=fun hx e=>by have:=qai e;omega
                by_cases hcn:cc<n+1
                · have hci:(cc:Int)<(n:Int)+1:=by omega
                  obtain⟨V3,hV3⟩:=qY (wr.alloc (.cells #[.int .i64 cc] 3));have hb3:Below wr.heap.size wr V3:=hV3▸qbS qB qN;have hr3:V3.heap[wr.heap.size]? = some (.cells #[.int .i64 cc] 3 (0,0)):=by rw [hV3];exact qM _ _ _ rfl
                  have hNr:=(H2.out.2.2.2.2.2.2.soft hsf (fun g e=>by cases e;exact H26.out.2.2.2.1.lt (qao Hsz.out.2.1))).below hb3;have hy3:=zkeep hb3 _ _ (hsf.blk H2.out.2.1 (hlow Hsz.out.2.2));have hx3:=zkeep hb3 _ _ (hsf.blk H2.out.2.2.1 (hlow Hsz.out.1));have ht3:=zkeep hb3 _ _ (hsf.blk H2.out.2.2.2.2.1 (hlow Hsz.out.2.1));have hgw:V0.heap.size<wr.heap.size:=(qG hQ.out.2.1.1).1;have hl0:=(qG H26.out.2.2.2.1.cl).1;have D0:∀W,V3.grownBy W (some V0.heap.size)->W.cell? ⟨W25.heap.size,0,none⟩=some (.slice (some ⟨wA.heap.size,0,none⟩) n n):=fun W h=>qc8 h hy3 (Nat.ne_of_lt Hsz.out.2.2) 0
                  have D1:∀W,V3.grownBy W (some V0.heap.size)->W.cell? ⟨wB.heap.size,0,none⟩=some (.int .i64 r):=fun W h=>qc8 h hx3 (Nat.ne_of_lt Hsz.out.1) 0
                  have D2:∀W,V3.grownBy W (some V0.heap.size)->W.cell? ⟨wA.heap.size,r,none⟩=some (rowv V0.heap.size (n+1)):=fun W h=>by
                    have h1:=qiM ht3 (j:=r) (by omega);simp only [if_true] at h1;exact (qd6 h (p:=⟨wA.heap.size,r,none⟩) (qG ht3).1 (Nat.ne_of_lt Hsz.out.2.1)).trans h1
                  have D3:∀W,V3.grownBy W (some V0.heap.size)->W.cell? ⟨wr.heap.size,0,none⟩=some (.int .i64 cc):=fun W h=>qc8 h hr3 (qbl hgw) 0
                  have D4:∀W,V3.grownBy W (some V0.heap.size)->W.cell? ⟨w.heap.size+1,0,none⟩=some (.slice al j cl):=fun W h=>qc8 h hNr.cl (by have:=Hsz.out.2.1;omega) 0
                  have HSm:=qH (fun W (h:Below V3.heap.size V3 W)=>qh7 j (.pointer (some ⟨w.heap.size+1+1,0,none⟩)) (.pointer (some ⟨w.heap.size+1,0,none⟩)) (.pointer (some ⟨wB.heap.size,0,none⟩)) (.pointer (some ⟨wr.heap.size,0,none⟩)) (fun p=>nterm t bl wl KS r cc (KS.getD p 0)) 63398 (by omega) W (by omega) (fun W' p hp hb'=>by
                    have hb2:=h.trans (hb'.mono h.size);exact qmy HK.out.2.1 (hNr.below hb2) HK.out.2.2 hk40 hp (by omega) hcn hn10 (qC _ _ 0 _ _ _ (zkeep hb2 _ _ hx3)) (qC _ _ 0 _ _ _ (zkeep hb2 _ _ hr3))) (fun p hp=>by
                      have hpS:p<KS.length:=by have:=HK.out.2.1;omega
                      have hl:=(HK.out.2.2 _ (qcE hpS)).2;exact qiH (fun x hx=>(HK.out.2.2 x hx).1) (by have:=HK.out.2.1;omega) hpS (by omega) (by omega)))
                  have hst:Below V3.heap.size V3 V3:=Below.refl _ _;have hstD:Below V3.heap.size V3 V3.drew:=hst.drew;have H3:=qH (qA hb3 (qA (hQ.out.2.1.below hb3) (qA (hQ.out.2.2.below hb3) hgw)));clear hsf hlow hb3 hr3 hNr hy3 hx3 ht3 hl0 hgw;go_wp2_with fail;rw [<-hV3];clear hV3
                  go_region_held3 (fun W=>V3.grownBy W (some V0.heap.size)) (first | with_reducible exact qcT _ _ | with_reducible exact qb2 _ hstD | with_reducible exact qb2 _ HB5 | exact qbU (qbU (qb2 _ HB5) (least.qbX _ _ _ _)) (least.qbX _ _ _ _)) (first | (go_at_call 170;refine (HSm.out _ hstD).mono ?_;rintro e w5 ⟨u5,rfl,hb5,hu5⟩;have HB5:Below V3.heap.size V3 w5:=bjoin hstD hb5;obtain⟨a5,n5,c5,b5,rfl⟩:=least.qbT hu5;have hat:=(H3.out.2.1.below HB5).at (by have:=hQ.out.1;omega);rw [hQ.out.1] at hat;obtain⟨⟨z0,z1⟩,zf⟩:=hat;have zf0:=zf (cc*2);have zf1:=zf (cc*2+1);have HX:=qH (qkb (H3.out.2.1.below HB5) (H3.out.2.2.1.below HB5) hQ.out.1 hcn hu5);clear hb5 hu5 zf))
                  all_goals go_wp2_with fail
                  all_goals go_roundw
                  all_goals first
                    | exact⟨cc+1,_,hcn,by go_num,qH ⟨by rw [qaf,hQ.out.1];rfl,HX.out.1,HX.out.2⟩,qH (qbU (qbU (qcd hG.out (bjoin H3.out.1 HB5)) (least.qbX _ _ _ _)) (least.qbX _ _ _ _))⟩
                    | (simp [intOf];omega)
                · obtain rfl:cc=n+1:=by omega
                  have hMn:MatPart wr wA.heap.size n (r+1) (n+1) (fun x=>if x=r then V0.heap.size else gs3 x) (fun r c=>isum (fun p=>nterm t bl wl KS r c (KS.getD p 0)) j):=by
                    refine⟨hsf.blk H2.out.2.2.2.2.1 (hlow Hsz.out.2.1),fun x hx=>?_,hrn⟩
                    by_cases e:x=r
                    · subst e;simp only [if_true];exact⟨qs,hQ.out.1,hQ.out.2.1,hQ.out.2.2⟩
                    · simp only [if_neg e]
                      have h:=H2.out.2.2.2.1 x (by omega);exact hsf.introw h.1 (hlow h.2)
                  have hSn:=hsf.blk H2.out.2.1 (hlow Hsz.out.2.2);have hBn:=hsf.old H2.out.2.2.2.2.2.1 (fun x e=>by have:=qai e;have:=Hsz.out.2.1;omega) H2.out.2.2.2.2.2.1.size;have HE:=qH (qA hMn (qA hSn hBn));clear hMn hSn hBn hsf hlow;go_wp2;go_roundw
                  case rel=>exact⟨r+1,_,hrn,by go_num,qH HE.out.1,qH HE.out.2.1,qH HE.out.2.2⟩
                  case measure=>simp [intOf];omega
            · obtain rfl:r=n:=by omega
              have hMd:=hM3.out.done;have hN4:=H26.out.2.2.2.1.below hB3.out;have c0:=qC _ _ 0 _ _ _ hN4.cs;have f0:=qF _ _ 0 _ _ hN4.cs;have y0:=qC _ _ 0 _ _ _ hS3.out;have hset:=heap_setCell_same _ _ 0 _ _ (.slice (some ⟨wA.heap.size,0,none⟩) r r) hN4.cs;have hsf:=Soft.ofSet hN4.cs (qgW qfG) 0 (.slice (some ⟨wA.heap.size,0,none⟩) r r);have hlow:=(qG H26.out.2.2.2.1.cs).1;have hMe:MatAt (wB.setCell ⟨w.heap.size,0,none⟩ (.slice (some ⟨wA.heap.size,0,none⟩) r r)) wA.heap.size r (r+1) gs3 (fun r c=>isum (fun p=>nterm t bl wl KS r c (KS.getD p 0)) j):=by
                refine⟨hsf.blk hMd.row (fun e=>by have:=qai e;omega),fun x hx=>hsf.introw (hMd.rows x hx) fun e=>?_⟩;obtain⟨_,_,h2,_⟩:=hMd.rows x hx;rw [<-qai e] at h2;have:=h2.1.symm.trans hN4.cs;simp at this
              have hBe:=(H26.out.2.2.2.2.1.trans (hB3.out.mono H26.out.2.2.2.2.1.size)).setCell (p:=⟨w.heap.size,0,none⟩) qN (.slice (some ⟨wA.heap.size,0,none⟩) r r);have HE:=qH (qA hMe (qA hBe (qA hset (qao (qaF qN hlow)))));clear hMd hN4 hset hsf hlow hMe hBe;go_wp2_with fail;refine qR (v:=.agg #[.slice (some ⟨wA.heap.size,0,none⟩) r r]) (rA_ rfl w.heap.size HE.out.2.2.1 Tryz.underlying278 1) rfl ⟨wA.heap.size,gs3,_,nall t bl wl KS,rfl,HE.out.2.1,HE.out.2.2.2,nall_pos (fun x hx=>(HK.out.2.2 x hx).1),HE.out.1,fun a ha c hc=>?_,fun a ha c hc=>?_⟩
              · have h:=norm_sum (t:=t) (bl:=bl) (wl:=wl) (R:=i) (r:=a) (c:=c) (fun x hx=>(HR.out x hx).1) (fun x hx=>by have:=(HR.out x hx).2;omega)
                rw [HK.out.1,HK.out.2.1] at h;exact h
              · refine (qfm _ 63398 j (fun p hp=>?_)).mono (by omega)
                have hpS:p<KS.length:=by have:=HK.out.2.1;omega
                have hl:=(HK.out.2.2 _ (qcE hpS)).2;exact qiH (fun x hx=>(HK.out.2.2 x hx).1) (by have:=HK.out.2.1;omega) hpS (by omega) (by omega)
