import Derived.Deep.RegionLaw
import Derived.Test.YtjalhnlhcdfncaaGreatDoorBu14
set_option maxRecDepth 100000
set_option maxHeartbeats 0
namespace Go.Proofs.YtjalhnlhcdfncaaGreatDoor
open Go.RowKit Go.Proofs.Tryz
def NormAs (w:World) (t:Tbl) (bl wl:List FT) (n R:Nat) (e:Ending) (F:World):Prop :=
 ∃(E:Nat) (G:Nat->Nat) (M:Nat->Nat->Int) (Z:Nat),e=.returned (.agg #[.slice (some ⟨E,0,none⟩) n n])/\Below w.heap.size w F/\w.heap.size<=E/\0<Z/\MatAt F E n (n+1) G M /\
  (∀r,r<n->∀c,c<n+1->((M r c:Int):Rat)=(Z:Rat)*normQ t bl wl R r c)/\∀r,r<n->∀c,c<n+1->Fit (M r c).natAbs 63440
theorem qm9 {t:Tbl} {bl wl:List FT} {R n:Nat} (hT:TOk t) (V:t.length=R) (O:wid t=n) (H:FAll bl) (I:bl.length=R) (G:FAll wl) (U:wl.length=R) (E:¬Neg wl) {i:Nat} (Z:i<R):NRow t bl wl i/\(besides t bl i).length=n+1:=by
 have h:=hT.rows i (by omega);have Y:=hT.c2;have J:(besides t bl i).length=n+1:=by unfold besides;rw [qaf,h.1,O];rfl
 exact⟨⟨h.2.snoc (H i (by omega)),by omega,qd1 G (by omega),(G i (by omega)).vn.fit,Int.not_lt.1 fun F=>E ⟨i,by omega,F⟩⟩,J⟩
theorem qcc {W:World} {u:Value} {x:Nat} (h:MagAt W u x):∃(a:Option Addr) (n c:Nat),u=.slice a n c:=by
 obtain⟨a,_,_,c,n,_,rfl,_,_⟩:=h;exact⟨a,n,c,rfl⟩
theorem qhS {W:World} {a:Option Addr} {n c:Nat} {b:Bool} {z:Int} (h:IntAt W (.agg #[.slice a n c,.bool b]) z):MagAt W (.slice a n c) z.natAbs:=by
 obtain⟨_,e,h⟩:=h;simp only [qaY,qa5,qaW] at e;rw [e.1];exact h
theorem ql1 {W:World} {u v:Value} {e:TypeId}:∀j x,[u,v][j]? = some x->(W.alloc (.cells #[u,v] e)).cell? ((⟨W.heap.size,0,none⟩:Addr).add j)=some x:=by
 intro j x h;rw [Addr.add_mid,qC _ _ (0+j) _ _ _ (qM _ _ _ rfl),qaR];exact (qaC ..).trans h
theorem zint_not:∀x∈(Value.agg #[zs0,.bool false]).cells.toList,qcL x:=by
 intro x hx k d e;rcases qav.1 (show x∈[zs0,.bool false] from hx) with h | h
 ·rw [h] at e;cases e
 ·rw [qan.1 h] at e;cases e
theorem zrow_not {n:Nat}:∀x∈(iflat ([]++List.replicate n (zs0,false))).toArray.toList,qcL x:=by
 intro x hx k d e;have hx:x∈iflat ([]++List.replicate n (zs0,false)):=hx;rw [qbj] at hx;unfold iflat at hx;obtain⟨p,E,hx⟩:=List.mem_flatMap.1 hx;rw [(List.mem_replicate.1 E).2] at hx;rcases qav.1 hx with h | h
 ·rw [h] at e;cases e
 ·rw [qan.1 h] at e;cases e
theorem two_one {a:Option Addr} {n c:Nat} {b:Bool}:∀u∈[Value.slice a n c,.bool b],u.oneCell'=true:=by
 intro x hx;rcases qav.1 hx with h | h
 ·rw [h];rfl
 ·rw [qan.1 h];rfl
theorem two_not {a:Option Addr} {n c:Nat} {b:Bool}:∀u∈[Value.slice a n c,.bool b],qcL u:=by
 intro x hx k d e;rcases qav.1 hx with h | h
 ·rw [h] at e;cases e
 ·rw [qan.1 h] at e;cases e
theorem qfI {a:Option Addr} {n c:Nat}:qcL (.slice a n c):=fun k d e=>by cases e
theorem qlq (b gz c:Nat) (t:Tbl) (b2 dm c2:Nat) (bl:List FT) (b3 dn c3:Nat) (wl:List FT) (R n:Nat) (w:World) (hT:TOk t) (hR:t.length=R) (hn:wid t=n) (hc:TCells w (some ⟨b,gz,none⟩) b gz t)
    (hb:FAll bl) (fw:bl.length=R) (iC:FCells w (some ⟨b2,dm,none⟩) b2 dm bl) (hw:FAll wl) (gm:wl.length=R) (jc:FCells w (some ⟨b3,dn,none⟩) b3 dn wl) (d9:¬Neg wl) :
    Calls prog 189 #[.slice (some ⟨b,gz,none⟩) R c,.slice (some ⟨b2,dm,none⟩) R c2,.slice (some ⟨b3,dn,none⟩) R c3] w fun e w'=>NormAs w t bl wl n R e w':=by
  have ak:∀i,i<R->NRow t bl wl i/\(besides t bl i).length=n+1:=fun i hi=>qm9 hT hR hn hb fw hw gm d9 hi
  have kE:R<=40:=by have:=hT.r2;omega
  have kL:1<=R:=by have:=hT.r1;omega
  have iT:n<=10:=by have:=hT.c2;omega
  have jU:1<=n:=by have:=hT.c1;omega
  have HC:=qH (qA hc (qA iC (qA jc (qA hT (qA hR (qA hn (qA hb (qA fw (qA hw gm)))))))));have HR:=qH ak;have kP:=qfj;obtain⟨il,iO,jk,jl,jm⟩:=info_parts qkn;obtain⟨it,av,jo,jq,jr⟩:=info_parts infoI;obtain⟨ib,iN,jg,jh,ji⟩:=info_parts infoM;have U:=qH (qA iO (qA jk (qA jl (qA jm (qA av (qA jo (qA jq (qA jr (qA iN (qA jg (qA jh ji)))))))))));clear ak hc iC jc hT hR hn hb fw hw gm d9 iO jk jl jm av jo jq jr iN jg jh ji;go_enter func189,ntmps189;go_wp2_with fail
  go_loopw [9,29] (fun x9 x29 W=>∃(i:Nat) (vl vt:Value) (gs:Nat->Nat) (ps:List (Value×Bool)) (vs:List Value),i<=R/\x29=.int .i64 i/\Hu (NSt W w.heap.size t bl wl n (nkeep wl i) (nkeep wl i) (nkeep wl i) vl vt x9 gs ps vs (fun p=>((ntop t bl wl ((nkeep wl R).getD p 0):Nat):Int)))/\Hu (Below w.heap.size w W)) (fun _ x29 _=>R-(intOf x29).toNat)
  case atStart =>
    have hb:Below w.heap.size w (((w.alloc (.cells #[zs0] 262)).alloc (.cells #[zs0] 260)).alloc (.cells #[zs0] 212)):=qbY (qbY (qbY qB qN) qN) qN;exact⟨0,.slice none 0 0,.slice none 0 0,fun _=>0,[],[],qaj _,rfl,qH ⟨(qL _ _ _ (by simp only [qab];omega)).trans ((qL _ _ _ (by simp only [qab];omega)).trans (qM _ _ _ rfl)),(qL _ _ _ (by simp only [qab];omega)).trans (qM _ _ _ (by simp only [qab])),qM _ _ _ (by simp only [qab]),Rws.nil _ _ _ _,Rws.nil _ _ _ _,Rws.nil _ _ _ _,fun p hp=>absurd hp (by simp [nkeep]),fun p hp=>absurd hp (by simp [nkeep]),fun k hk=>absurd hk (by simp),rfl,⟨rfl,fun k hk=>absurd hk (by simp [nkeep])⟩⟩,qH hb⟩
  case round =>
    obtain⟨i,vl,vt,gs,ps,vs,hi,rfl,hN,hB⟩:=hrel
    by_cases E:i<R
    · have kQ:(i:Int)<R:=by omega
      have av:i<t.length:=by have:=HC.o.2.2.2.2.1;omega
      obtain⟨ra,rb,ro,rc,iE,iI⟩:=(HC.o.1.below hB.o).row i av;have aG:=HC.o.2.2.2.1.rows i av;rw [HC.o.2.2.2.2.2.1] at aG;rw [aG.1] at iE;obtain⟨d0,d1⟩:=(HC.o.2.2.1.below hB.o).cell i (by have:=HC.o.2.2.2.2.2.2.2.2.2;omega);have fH:=HC.o.2.2.2.2.2.2.2.2.1 i (by have:=HC.o.2.2.2.2.2.2.2.2.2;omega);obtain⟨WN,dI⟩:∃N,(wl.getD i fd0).1=N:=⟨_,rfl⟩;obtain⟨WD,dH⟩:∃D,(wl.getD i fd0).2=D:=⟨_,rfl⟩;rw [dI,dH] at fH;rw [dI] at d0;rw [dH] at d1;obtain⟨e0,e1⟩:=(HC.o.2.1.below hB.o).cell i (by have:=HC.o.2.2.2.2.2.2.2.1;omega);obtain⟨BN,fe⟩:∃N,(bl.getD i fd0).1=N:=⟨_,rfl⟩;obtain⟨BD,eZ⟩:∃D,(bl.getD i fd0).2=D:=⟨_,rfl⟩;rw [fe] at e0;rw [eZ] at e1;have HW:=qH (qA dI (qA dH (qA fH (qA fe (qA eZ (qA aG iI))))));clear dI dH fH fe eZ aG iI;go_wp2_with fail;refine ((qcl .l) WN HW.o.2.2.1.vn _).mono ?_;rintro e w2 ⟨u2,rfl,bf,fQ⟩;obtain⟨a2,n2,c2',b2',rfl⟩:=qbZ fQ;have H2:=qH (qA bf fQ);clear bf fQ;go_wp2_with fail;obtain⟨W3,dG⟩:=qY (w2.alloc (.cells #[.slice a2 n2 c2',.bool b2'] 217));have bJ:Below w2.heap.size w2 W3:=dG▸qbY qB qN;have iJ:W3.heap[w2.heap.size]? = some (.cells #[.slice a2 n2 c2',.bool b2'] 217 (0,0)):=by rw [dG];exact qM _ _ _ rfl
      have jd:(ival WN.data.toList).natAbs=wnum wl i:=by unfold wnum;rw [HW.o.1]
      have dM:=(qhS H2.o.2).below bJ;rw [jd] at dM;rw [<-dG];have H3:=qH (qA (bjoin H2.o.1 bJ) (qA iJ dM));clear dG bJ iJ jd;refine ((qcK .l) (wnum wl i) _ W3 dM).mono ?_;rintro e w4 ⟨rfl,jV⟩;subst jV;clear dM
      by_cases hz:wnum wl i=0
      · rw [qV hz]
        have HZ:=qH hz;clear hz;go_wp2;go_roundw
        case rel=>exact⟨i+1,vl,vt,gs,ps,vs,E,by go_num,by rw [show nkeep wl (i+1)=nkeep wl i by simp only [nkeep,if_pos HZ.o]];exact qH (hN.o.below H3.o.1),qH (hB.o.trans (H3.o.1.mono hB.o.size))⟩
        case measure=>simp [intOf];omega
      · rw [qU hz]
        have HZ:=qH hz;have dK:=H3.o.1;have g0:=qC _ _ 0 _ _ _ H3.o.2.1;have jJ:=(dK.cell (qac wr _ e0)).trans e0;have jK:=(dK.cell (qac wr _ e1)).trans e1;have bv:=(dK.cell (qac wr _ d1)).trans d1;clear hz dK;go_wp2_with fail;refine (qhk ra rb ro n rc (t.getD i []) (BN,BD) _ HW.o.2.2.2.2.2.1.1 jU (by omega) (HW.o.2.2.2.2.2.2.below H3.o.1)).mono ?_;rintro e w5 ⟨g5,rfl,aD,iG⟩;have gF:=qH (MagAt.below H3.o.2.2 aD);have H5:=qH (qA (bjoin H3.o.1 aD) iG);have ae:=(aD.cell (qac w4 _ g0)).trans g0;have bz:=(aD.cell (qac w4 _ bv)).trans bv;clear aD iG g0 bv jJ jK;go_wp2_with fail;have dV:t.getD i []++[(BN,BD)]=besides t bl i:=by unfold besides;rw [<-HW.o.2.2.2.1,<-HW.o.2.2.2.2.1]
        have ak:=HR.o i E;rw [dV] at H5;refine (qer (c:=n+1) ak.2 (by omega) H5.o.2 ak.1.fa).mono ?_;rintro e w6 ⟨g6,v6,rfl,dW,bM,fG,iV⟩;obtain⟨a6,n6,c6,rfl⟩:=qcc fG;have gG:=qH (MagAt.below gF.o bM);have H6:=qH (qA (bjoin H5.o.1 bM) (qA fG (qA iV (qal H5.o.1.size dW))));have g0:=(bM.cell (qac w5 _ ae)).trans ae;have bv:=(bM.cell (qac w5 _ bz)).trans bz;clear bM fG iV dW ae bz dV ak;go_wp2_with fail;refine ((qcl .l) WD HW.o.2.2.1.vd _).mono ?_;rintro e w7 ⟨u7,rfl,bg,fU⟩;obtain⟨a7,n7,c7,b7,rfl⟩:=qbZ fU;have jy:=qH bg;have gH:=qH (MagAt.below gG.o bg);have H7:=qH (qA (bjoin H6.o.1 bg) (qA (qhS fU) (H6.o.2.1.below bg)));have ae:=(bg.cell (qac w6 _ g0)).trans g0;clear bg fU g0 bv;have iH:(ival WD.data.toList).natAbs=fden (wl.getD i fd0):=by unfold fden;rw [HW.o.2.1]
        rw [iH] at H7;clear iH;go_wp2_with fail;refine ((qcn .l) _ _ 67 738 (by omega) _ _ w7 H7.o.2.1 H7.o.2.2 (HR.o i E).1.wd.2 (HR.o i E).1.below.2).mono ?_;rintro e w8 ⟨u8,rfl,bi,fV⟩;obtain⟨a8,n8,c8,rfl⟩:=qcc fV;have jA:=qH (bjoin jy.o bi);have gI:=qH (MagAt.below gH.o bi);have H8:=qH (qA (bjoin H7.o.1 bi) (qA fV (H7.o.2.2.below bi)));have g0:=(bi.cell (qac w7 _ ae)).trans ae;clear bi fV ae;go_wp2_with fail;refine ((qcn .l) _ _ 805 738 (by omega) _ _ w8 H8.o.2.1 H8.o.2.2 (((HR.o i E).1.wd.2.mul (HR.o i E).1.below.2).mono (by omega)) (HR.o i E).1.below.2).mono ?_;rintro e w9 ⟨u9,rfl,bN,fZ⟩;obtain⟨a9,n9,c9,rfl⟩:=qcc fZ;have jB:=qH (bjoin jA.o bN);have gJ:=qH (MagAt.below gI.o bN);have H9:=qH (qA (bjoin H8.o.1 bN) (show MagAt w9 (.slice a9 n9 c9) (wdn t bl wl i) from fZ));have ae:=(bN.cell (qac w8 _ g0)).trans g0;clear bN fZ g0 gF gG gH gI;go_wp2_with fail;refine ((qcZ .l) (wnum wl i) (wdn t bl wl i) 1543 (by omega) _ _ w9 gJ.o H9.o.2 ((HR.o i E).1.wn.mono (by omega)) (HR.o i E).1.d.2).mono ?_;rintro e jY ⟨u10,rfl,ai,cB⟩;obtain⟨kH,n10,c10,rfl⟩:=qcc cB;have gM:=qH (bjoin jB.o ai);have bq:=qH (qA (bjoin H9.o.1 ai) (qA cB (qA (H9.o.2.below ai) (gJ.o.below ai))));have g0:=(ai.cell (qac w9 _ ae)).trans ae;clear ai cB ae;go_wp2_with fail;refine ((qb5 .l) (wnum wl i) _ 1543 (by omega) _ _ jY bq.o.2.2.2 bq.o.2.1 ((HR.o i E).1.wn.mono (by omega)) (HR.o i E).1.g.2 (HR.o i E).1.g.1).mono ?_;rintro e jf ⟨u11,kT,rfl,aB,cK,ed⟩;obtain⟨eU,n11,c11,rfl⟩:=qcc cK;obtain⟨ku,kF,c11',rfl⟩:=qcc ed;have gN:=qH (bjoin gM.o aB);have dw:=qH (qA (bjoin bq.o.1 aB) (qA (show MagAt jf (.slice eU n11 c11) (ntop t bl wl i) from cK) (qA (bq.o.2.1.below aB) (bq.o.2.2.1.below aB))));clear aB cK ed g0;go_wp2_with fail;refine ((qb5 .l) (wdn t bl wl i) _ 1543 (by omega) _ _ jf dw.o.2.2.2 dw.o.2.2.1 (HR.o i E).1.d.2 (HR.o i E).1.g.2 (HR.o i E).1.g.1).mono ?_;rintro e bn ⟨u12,kU,rfl,aU,cO,aF⟩;obtain⟨a12,n12,c12,rfl⟩:=qcc cO;obtain⟨kv,n12',ky,rfl⟩:=qcc aF;have gP:=qH (bjoin gN.o aU);have dx:=qH (qA (bjoin dw.o.1 aU) (qA (show MagAt bn (.slice a12 n12 c12) (nden t bl wl i) from cO) (dw.o.2.1.below aU)));clear aU cO aF;have bO:(nkeep wl i).length<=40:=by have:=(qfy wl i).1;omega
        have aO:=hN.o.below dx.o.1;have aF:=H6.o.2.2.1.below gP.o;have dJ:Below bn.heap.size bn (bn.alloc (.cells #[rowv g6 (n+1)] 212)):=qbY qB qN;have iA:=aO.below dJ;have dZ:vt.ownBlock≠some g6:=fun e=>by have:=(hN.o.rt.lt g6 e).2;have:=H6.o.2.2.2;omega
        have bZ:w.heap.size+1+1+1<=bn.heap.size:=by
          have h1:=(qG aO.ct).1;omega
        have gX:=qC _ _ 0 _ _ _ aO.cl;have J:=qH (qA iA (qA (aF.below dJ) (qA dZ (qA bZ dJ))));clear aO aF iA dZ bZ dJ d0 d1 e0 e1 iE
        go_wp2_with (first | (at_builtin;(refine qds rfl (.tmp 81) (.tmp 83) 260 rfl (w.heap.size+1+1+1) 212 il (.slice none 0 0) 1 24 underlying260 U.o.1 U.o.2.1 U.o.2.2.1 U.o.2.2.2.1 rfl (by decide) (fun x hx=>by rw [qan.1 hx];exact qfI) vl (nkeep wl i).length _ rfl J.o.1.rl ⟨bn.heap.size,0,none⟩ 1 1 [rowv g6 (n+1)] rfl rfl (qdC _ _ _) (fun u hu=>by rw [qan.1 hu];rfl) (fun u hu=>by rw [qan.1 hu];exact qfI) (by decide) (by unfold maxLen;omega) (by omega) (qal J.o.2.2.2.1 J.o.2.2.2.2.size) ?_);intro lh jZ aG fC _;obtain⟨ca,fa⟩:=nst_cl J.o.1 fC;obtain⟨al',cl',rfl⟩:=aG.shape;have HL:=qH (qA aG fC);clear aG fC) | fail)
        obtain⟨aa,aR⟩:=qY (jZ.setCell ⟨w.heap.size+1,0,none⟩ (.slice al' ((nkeep wl i).length+1) cl'));rw [<-aR];have az:=J.o.1.addL J.o.2.1 J.o.2.2.1 HL.o.1 HL.o.2;have aH:=nst_soft J.o.1 HL.o.2 (.slice al' ((nkeep wl i).length+1) cl');rw [<-aR] at az aH;have bQ:MagAt aa (.slice eU n11 c11) (ntop t bl wl i)/\MagAt aa (.slice a12 n12 c12) (nden t bl wl i):=⟨aH.1 _ _ (dx.o.2.2.below J.o.2.2.2.2),aH.1 _ _ (dx.o.2.1.below J.o.2.2.2.2)⟩;have dR:Below w.heap.size w aa:=aH.2 w w.heap.size (hB.o.trans ((bjoin dx.o.1 J.o.2.2.2.2).mono hB.o.size)) (by omega) (by have:=J.o.2.2.2.1;have:=J.o.2.2.2.2.size;omega);have cu:w.heap.size+1+1+1<=aa.heap.size:=by
          have h1:=(qG az.ct).1;omega
        have ax:=qC _ _ 0 _ _ _ az.ct;have H:Below aa.heap.size aa aa.drew:=qB.drew;have jD:=qH (fun W (h:Below aa.heap.size aa W)=>(qcf .l) (ntop t bl wl i) false (.slice eU n11 c11) W (bQ.1.below h));have aX:=qH (qA az (qA bQ.2 (qA dR (qA cu (qmK wl HZ.o R E).1))));have kr:=qH aR;clear aR az aH bQ dR cu ca fa gX
        go_region_law (first | (refine qg5 rfl (.tmp 85) (.tmp 88) 212 (by rfl) (w.heap.size+1+1+1) 217 it (.agg #[zs0,.bool false]) 2 32 underlying212 U.o.2.2.2.2.1 U.o.2.2.2.2.2.1 U.o.2.2.2.2.2.2.1 U.o.2.2.2.2.2.2.2.1 rfl (by decide) zint_not vt (nkeep wl i).length _ (by rfl) au.o.1.rt ⟨dO.heap.size,0,none⟩ 1 1 [.slice gT n15 c15,.bool b15] (by rfl) rfl ql1 two_one two_not (by decide) (by unfold maxLen;omega) (by omega) au.o.2.1 ?_;intro ll kg fM fD iU;obtain⟨q0,qf⟩:=nst_ct au.o.1 fD;obtain⟨at',gY,rfl⟩:=fM.shape;have HT:=qH (qA fM (qA fD iU));clear fM fD iU) | (go_simp;go_at_call 161;refine (jD.o _ H).mono ?_;rintro e dO ⟨u15,rfl,bH,cZ⟩;obtain⟨gT,n15,c15,b15,rfl⟩:=qbZ cZ;have aM:Below dO.heap.size dO (dO.alloc (.cells #[.slice gT n15 c15,.bool b15] 217)):=qbY qB qN;have hb:=H.trans (bjoin bH aM);have eX:=hb.cell (qac aa _ ax) |>.trans ax;have gZ:=(H.trans bH).cell (qac aa _ ax) |>.trans ax;have au:=qH (qA (aX.o.1.below hb) (qA (qal aX.o.2.2.2.1 hb.size) (qA hb (cZ.below aM))));clear bH cZ aM hb))
        all_goals
          have hT:(if false=true then -((ntop t bl wl i:Nat):Int) else ((ntop t bl wl i:Nat):Int))=((ntop t bl wl ((nkeep wl R).getD (nkeep wl i).length 0):Nat):Int):=by rw [aX.o.2.2.2.2];rfl
          have aP:=au.o.1.addT2 (i:=i) hT au.o.2.2.2 HT.o.1 HT.o.2.1 HT.o.2.2;have aW:=qna au.o.1 HT.o.2.1 (.slice at' ((nkeep wl i).length+1) gY);obtain⟨bu,dS⟩:=qY (kg.setCell ⟨w.heap.size+1+1,0,none⟩ (.slice at' ((nkeep wl i).length+1) gY));rw [<-dS] at aP aW ⊢;have dY:=aW.1 _ _ (aX.o.2.1.below au.o.2.2.1);have bA:=aW.2 w w.heap.size (aX.o.2.2.1.trans (au.o.2.2.1.mono aX.o.2.2.1.size)) (by omega) (by have:=au.o.2.1;omega);have af:Below bu.heap.size bu (bu.alloc (.cells #[.slice a12 n12 c12] 213)):=qbY qB qN;have cz:w.heap.size+1+1+1<=bu.heap.size:=by
            have h1:=(qG aP.ct).1;omega
          have aI:=qH (qA (aP.below af) (qA (dY.below af) (qA (bA.trans (af.mono bA.size)) (qal cz af.size))));clear hT aP aW dY bA af cz dS q0 qf ax gZ eX
          go_wp2_with (first | (at_builtin;(refine qds rfl (.tmp 90) (.tmp 92) 286 rfl (w.heap.size+1+1+1) 213 ib (.slice none 0 0) 1 24 underlying286 U.o.2.2.2.2.2.2.2.2.1 U.o.2.2.2.2.2.2.2.2.2.1 U.o.2.2.2.2.2.2.2.2.2.2.1 U.o.2.2.2.2.2.2.2.2.2.2.2 rfl (by decide) (fun x hx=>by rw [qan.1 hx];exact qfI) u9 (nkeep wl i).length _ rfl aI.o.1.rb ⟨bu.heap.size,0,none⟩ 1 1 [.slice a12 n12 c12] rfl rfl (qdC _ _ _) (fun u hu=>by rw [qan.1 hu];rfl) (fun u hu=>by rw [qan.1 hu];exact qfI) (by decide) (by unfold maxLen;omega) (by omega) aI.o.2.2.2 ?_);intro lg lm fK iK _;obtain⟨kI,cb',rfl⟩:=fK.shape;have eT:=qH (qA fK iK);clear fK iK) | fail)
          go_roundw
        all_goals first
          | exact⟨i+1,_,_,_,_,_,E,by go_num,by rw [show nkeep wl (i+1)=nkeep wl i++[i] by simp only [nkeep,if_neg HZ.o]];exact qH (aI.o.1.addB (i:=i) aI.o.2.1 eT.o.1 eT.o.2),qH (aI.o.1.rb.old eT.o.2 aI.o.2.2.1 (by omega) (by have:=aI.o.2.2.2;omega))⟩
          | (simp [intOf];omega)
    · obtain rfl:i=R:=by omega
      obtain⟨G,bE⟩:=qX (nkeep wl i);rw [bE] at hN;have bO:G.length<=40:=by have:=(qfy wl i).1;rw [bE] at this;omega
      have bU:∀x∈G,NRow t bl wl x/\(besides t bl x).length=n+1:=fun x hx=>HR.o x ((qfy wl i).2 x (by rw [bE];exact hx)).1
      obtain⟨ab,gb,cb,iW,iX,_⟩:=hN.o.rb.vcells;obtain⟨k,hk⟩:=qX G.length;rw [hk] at iW;subst iW;have iF:=qhl ab gb 0 k cb vs (G.map (nden t bl wl)) 1543 wr (by rw [qaD];exact hk) iX hN.o.mb (fun x hx=>by rw [mapD (by omega)];exact (bU _ (qcH (by omega))).1.den) (by omega) (by omega) (by omega);have gD:=qH iF;have O:=qH (qA bE (qA hk bU));rw [hk] at bO;have dB:=hN.o;obtain⟨al,cl,iZ⟩:=dB.rl.shape;obtain⟨at',ct,jb⟩:=dB.rt.shape;rw [hk] at iZ jb;subst iZ;subst jb;have jw:=qH dB;have gB:=qH hB.o;clear iF bE hk bU iX dB hN hB;go_wp2_with fail;refine gD.o.mono ?_;rintro e ko ⟨lc,rfl,bI,bR⟩;obtain⟨gU,n18,c18,rfl⟩:=qcc bR;have bF:=jw.o.below bI;have dP:=qC _ _ 0 _ _ _ bF.ct;have eQ:=qH (qA bF (qA (show MagAt ko (.slice gU n18 c18) (nall t bl wl G) from bR) (gB.o.trans (bI.mono gB.o.size))));clear bI bR bF gD;go_wp2_with fail
      go_loopw [99] (fun x99 W=>∃(j:Nat) (ps:List (Value×Bool)),j<=k/\x99=.int .i64 j/\Hu (NSt W w.heap.size t bl wl n G G G (.slice al k cl) (.slice at' k ct) (.slice ab k cb) gs ps vs (fun p=>if p<j then nfac t bl wl G (G.getD p 0) else ((ntop t bl wl (G.getD p 0):Nat):Int)))/\Hu (MagAt W (.slice gU n18 c18) (nall t bl wl G))/\Hu (Below w.heap.size w W)) (fun x99 _=>k-(intOf x99).toNat)
      case atStart=>exact⟨0,ps,qaj _,rfl,qH (eQ.o.1.congrT (fun p hp=>by rw [if_neg (by omega)])),qH eQ.o.2.1,qH eQ.o.2.2⟩
      case round =>
        obtain⟨j,ps2,hj,rfl,aL,eY,bB⟩:=hrel
        by_cases jS:j<k
        · have kR:(j:Int)<k:=by omega
          have jI:=qC _ _ 0 _ _ _ aL.o.ct;have aN:j<G.length:=by have:=O.o.2.1;omega
          obtain⟨kJ,g3,kC,e3,di,_⟩:=aL.o.rb.vcells;have ja:vs.length=G.length:=by have:=aL.o.mb.1;rw [qaD] at this;exact this
          have jP:=di.addr (by omega);rw [O.o.2.1] at e3;simp only [qbS,true_and] at e3;obtain⟨jL,jM⟩:=e3;subst jP;subst jL;subst jM;have fA:=di.cell j (by omega);have bT:=aL.o.mb.2 j (by rw [qaD];exact aN);rw [mapD aN] at bT;obtain⟨vj,iY⟩:=qX (vs.getD j undef);rw [iY] at fA bT;obtain⟨aj,nj,cj,rfl⟩:=qcc bT;have jv:=qH bT;rw [qaR] at fA;clear iY bT di ja;go_wp2_with fail;refine ((qb5 .l) _ _ 61721 (by omega) _ _ wr eY.o jv.o (qh3 (fun x hx=>(O.o.2.2 x hx).1) (by have:=O.o.2.1;omega)) ((O.o.2.2 _ (qcH aN)).1.den.2.mono (by omega)) (O.o.2.2 _ (qcH aN)).1.den.1).mono ?_;rintro e ag ⟨u20,kV,rfl,aV,df,ek⟩;obtain⟨a20,n20,c20,rfl⟩:=qcc df;obtain⟨kw,kG,kz,rfl⟩:=qcc ek;have aQ:=aL.o.below aV;obtain⟨gt,kD,a2,m2,d2,b2',et,dX,iL,t0,t1,tf,av⟩:=aQ.top aN;rw [O.o.2.1] at et;simp only [qbS,true_and] at et;obtain⟨jN,jO⟩:=et;subst jN;subst jO;simp only [if_neg (Nat.lt_irrefl j)] at av;have dQ:=qC _ _ 0 _ _ _ aQ.ct;have fO:Below ag.heap.size ag ag:=Below.refl _ _;have H:Below ag.heap.size ag ag.drew:=fO.drew;have jC:=qH (fun W (h:Below ag.heap.size ag W)=>(qcz .l) ((ntop t bl wl (G.getD j 0):Nat):Int) _ 67 61721 (by omega) _ _ W (av.below h) (df.below h) (by rw [qar];exact (O.o.2.2 _ (qcH aN)).1.top) ((qh3 (fun x hx=>(O.o.2.2 x hx).1) (by have:=O.o.2.1;omega)).le (qaV _ _)));have aJ:=qH (qA aQ (qA (eY.o.below aV) (qA (bB.o.trans (aV.mono bB.o.size)) (qA tf iL))));clear aQ av aV df ek tf fA jI dP;go_wp2_with fail
          go_region_with (first | (go_at_call 155;refine (jC.o _ H).mono ?_;rintro e lq ⟨u21,rfl,dU,dh⟩;obtain⟨a21,n21,c21,jF,rfl⟩:=qbZ dh;have hb:=H.trans dU;have x0:=hb.cell (qac ag _ t0) |>.trans t0;have x1:=hb.cell (qac ag _ t1) |>.trans t1;have x2:=hb.cell (qac ag _ dQ) |>.trans dQ;have y0:=(hb.frozen (p:=⟨gt,j*2,none⟩) dX).trans (aJ.o.2.2.2.1 _);have y1:=(hb.frozen (p:=⟨gt,j*2+1,none⟩) dX).trans (aJ.o.2.2.2.1 _);have aK:=qH (qA (aJ.o.1.below hb) (qA (aJ.o.2.1.below hb) (qA (aJ.o.2.2.1.trans (hb.mono aJ.o.2.2.1.size)) dh)));clear dU dh hb))
          all_goals go_wp2_with fail
          all_goals go_roundw
          all_goals first
            | (refine⟨j+1,ps2.set j (.slice a21 n21 c21,jF),jS,by go_num,?_,qH ((aK.o.1.setSoft _ _ _ _).mag aK.o.2.1),qH ((aK.o.1.setSoft _ _ _ _).old aK.o.2.2.1 (fun x e=>by have:=qag e;have:=aJ.o.2.2.2.2;omega) aK.o.2.2.1.size)⟩
               have h:=aK.o.1;rw [<-O.o.2.1] at h;have h2:=h.setT aN aK.o.2.2.2;rw [O.o.2.1] at h2;exact qH (h2.congrT (fun p _=>by
                 by_cases e:p=j
                 · subst e;rw [if_pos rfl,if_pos (by omega)];rfl
                 · rw [if_neg e]
                   by_cases e2:p<j
                   · rw [if_pos e2,if_pos (by omega)]
                   · rw [if_neg e2,if_neg (by omega)])))
            | (simp [intOf];omega)
        · obtain rfl:j=k:=by omega
          have iw:=aL.o.congrT (T':=fun p=>nfac t bl wl G (G.getD p 0)) (fun p hp=>by rw [if_pos (by rw [<-O.o.2.1];exact hp)]);have jQ:0<t.length:=by have:=HC.o.2.2.2.2.1;omega
          obtain⟨kW,kX,kZ,kY,iD,_⟩:=(HC.o.1.below bB.o).row 0 jQ;rw [qbA] at iD;have iR:(t.getD 0 []).length=n:=HC.o.2.2.2.2.2.1;rw [iR] at iD;have kK:(0:Int)<(i:Int):=by omega
          have iQ:=qmY n (by omega) wr;obtain⟨ah,aS⟩:=qY (wr.alloc (.cells (madeCells #[zs0] n) 212));have bS:=MatPart.made wr n (n+1) (fun _=>0) (fun r c=>isum (fun p=>nterm t bl wl G r c (G.getD p 0)) j);have bK:Below wr.heap.size wr ah:=aS▸qbY qB qN;rw [<-aS] at iQ bS;have eG:ah.heap.size=wr.heap.size+1:=by rw [aS,qab]
          clear aS;obtain⟨gQ,aT⟩:=qY (ah.alloc (.cells #[.slice (some ⟨wr.heap.size,0,none⟩) n n] 262));have bL:Below ah.heap.size ah gQ:=aT▸qbY qB qN;have eu:gQ.heap[ah.heap.size]? = some (.cells #[.slice (some ⟨wr.heap.size,0,none⟩) n n] 262 (0,0)):=by rw [aT];exact qM _ _ _ rfl
          have Y:=qH (qA (bS.below bL) (qA eu (qA (bK.trans (bL.mono bK.size)) (qA iw (qA bB.o eG)))));clear bS bK bL eu iw iR eG aL eY bB dP;go_wp2_with fail;rw [<-aT];clear aT iQ;obtain⟨V,jW⟩:=qY wr;subst jW;have bV:∀W:World,(Instr.makeSlice 212 (.int .i64 ((n:Int)+1)) (.int .i64 ((n:Int)+1))).run prog W=.ok (.slice (some ⟨W.heap.size,0,none⟩) (n+1) (n+1)) (W.alloc (.cells (madeCells #[zs0,.bool false] ((n+1)*2)) 217)):=fun W=>qgI (n+1) (by omega) W
          have gL:=qH bV;clear bV
          go_loopw [129] (fun x129 W=>∃(r:Nat) (ay:Nat->Nat),r<=n/\x129=.int .i64 r/\Hu (MatPart W V.heap.size n r (n+1) ay (fun r c=>isum (fun p=>nterm t bl wl G r c (G.getD p 0)) j))/\Hu (W.heap[ah.heap.size]? = some (.cells #[.slice (some ⟨V.heap.size,0,none⟩) n n] 262 (0,0)))/\Hu (Below V.heap.size V W)) (fun x129 _=>n-(intOf x129).toNat)
          case atStart=>exact⟨0,fun _=>0,qaj _,rfl,qH Y.o.1,qH Y.o.2.1,qH Y.o.2.2.1⟩
          case round =>
            obtain⟨r,ay,hr,rfl,dz,dC,bD⟩:=hrel;obtain⟨wB,jX⟩:=qY wr;subst jX
            by_cases dN:r<n
            · have kS:(r:Int)<n:=by omega
              obtain⟨V0,dD⟩:=qY (wB.alloc (.cells #[.int .i64 r] 3));have dL:Below wB.heap.size wB V0:=dD▸qbY qB qN;have fJ:V0.heap[wB.heap.size]? = some (.cells #[.int .i64 r] 3 (0,0)):=by rw [dD];exact qM _ _ _ rfl
              have fo:=dz.o.below dL;have fu:=(dL.block _ (qG dC.o).1).trans dC.o;have cs:=qC _ _ 0 _ _ _ fu;have cr:=qC _ _ 0 _ _ _ fJ;obtain⟨V1,dE⟩:=qY (V0.alloc (.cells (madeCells #[zs0,.bool false] ((n+1)*2)) 217));have bG:Below V0.heap.size V0 V1:=dE▸qbY qB qN;have fF:=IRow.made V0 (n+1);have bV:=gL.o V0;rw [<-dE] at fF bV;obtain⟨q0,q1⟩:=(fo.below bG).at dN;have HV:=qH (qA fo (qA fu (qA fJ (qA bG (qA fF (bD.o.trans (dL.mono bD.o.size)))))));have iP:(Instr.makeSlice 212 (.int .i64 ((n:Int)+1)) (.int .i64 ((n:Int)+1))).run prog V0.drew=.ok (.slice (some ⟨V0.heap.size,0,none⟩) (n+1) (n+1)) V1.drew:=by rw [gL.o V0.drew,dE];rfl
              have jH:=(bG.cell (qac V0 _ cs)).trans cs;have jG:=(bG.cell (qac V0 _ cr)).trans cr;clear dL fJ fo fu bG fF dE bV;go_wp2_with fail;rw [<-dD];clear dD
              go_region
              obtain⟨V2,aA⟩:=qY ((V1.setCell ⟨V.heap.size,r,none⟩ (rowv V0.heap.size (n+1))).drew);rw [<-aA];have bY:=qi3 (g:=V0.heap.size) (HV.o.1.below HV.o.2.2.2.1).row dN;have bP:=qb0 V1 V.heap.size r (rowv V0.heap.size (n+1));have bW:V0.heap.size≠V.heap.size:=by
                have:=(qG HV.o.1.row).1;omega
              have iM:IRow V2 V0.heap.size (n+1) []:=by
                rw [aA];exact⟨(bP.block _ (qG HV.o.2.2.2.2.1.1).1 (fun e=>bW (qag e))).trans HV.o.2.2.2.2.1.1,HV.o.2.2.2.2.1.2⟩
              have eO:V2.heap[ah.heap.size]? = some (.cells #[.slice (some ⟨V.heap.size,0,none⟩) n n] 262 (0,0)):=by
                rw [aA];have h1:=zkeep HV.o.2.2.2.1 _ _ HV.o.2.1;exact (bP.block _ (qG h1).1 (fun e=>by have:=qag e;have:=Y.o.2.2.2.2.2;omega)).trans h1
              have eB:V2.heap[wB.heap.size]? = some (.cells #[.int .i64 r] 3 (0,0)):=by
                rw [aA];have h1:=zkeep HV.o.2.2.2.1 _ _ HV.o.2.2.1;exact (bP.block _ (qG h1).1 (fun e=>by have:=qag e;have:=(qG dz.o.row).1;omega)).trans h1
              have eF:∀x,x<r->qcm V2 (ay x) (n+1) (fun c=>isum (fun p=>nterm t bl wl G x c (G.getD p 0)) j)/\ay x<V0.heap.size:=fun x hx=>by
                have h0:=HV.o.1.rows x hx;have h1:=(HV.o.1.below HV.o.2.2.2.1).rows x hx;refine⟨?_,?_⟩
                · rw [aA];exact (h1.keepRows bP (HV.o.1.below HV.o.2.2.2.1).row qh5).below qB.drew
                · obtain⟨_,_,h2,_⟩:=h0
                  exact (qG h2.1).1
              have eD:V2.heap[V.heap.size]? = some (.cells (rowvs (r+1) (n+1) (fun x=>if x=r then V0.heap.size else ay x)++List.replicate (n-(r+1)) zs0).toArray 212 (0,0)):=by rw [aA];exact bY
              have bC:Below V.heap.size V V2:=by rw [aA];exact ((HV.o.2.2.2.2.2.trans (HV.o.2.2.2.1.mono HV.o.2.2.2.2.2.size)).setCell (p:=⟨V.heap.size,r,none⟩) qN _).drew
              have eP:wB.heap.size<V0.heap.size:=(qG HV.o.2.2.1).1;have iy:=Y.o.2.2.2.1.below bC;have H2:=qH (qA iM (qA eO (qA eB (qA eF (qA eD (qA bC iy))))));have Z:=qH (qA eP (qA (show V.heap.size<V0.heap.size from Nat.lt_of_le_of_ne HV.o.2.2.2.2.2.size (fun e=>bW e.symm)) (show ah.heap.size<V0.heap.size from (qG HV.o.2.1).1)));clear aA bY bP bW iM eO eB eF eD bC eP iy cs cr jH jG q0 q1 iP dz dC bD;go_wp2_with fail
              go_loopw [141] (fun x141 W=>∃(cc:Nat) (qs:List (Value×Bool)),cc<=n+1/\x141=.int .i64 cc/\Hu (qs.length=cc/\IRow W V0.heap.size (n+1) qs/\qcu W qs (fun c=>isum (fun p=>nterm t bl wl G r c (G.getD p 0)) j))/\Hu (V2.grownBy W (some V0.heap.size))) (fun x141 _=>n+1-(intOf x141).toNat)
              case atStart=>exact⟨0,[],qaj _,rfl,qH ⟨rfl,H2.o.1,fun x hx=>absurd hx (by simp)⟩,qH (qcs _ _)⟩
              case round =>
                obtain⟨cc,qs,kM,rfl,hQ,hG⟩:=hrel;have I:Soft V2 wr (some V0.heap.size):=⟨hG.o,fun g e=>by cases e;exact⟨_,_,_,H2.o.1.1,zrow_not⟩⟩;have F:∀{x:Nat},x<V0.heap.size->(some V0.heap.size:Option Nat)≠some x:=fun hx e=>by have:=qag e;omega
                by_cases fB:cc<n+1
                · have kN:(cc:Int)<(n:Int)+1:=by omega
                  obtain⟨V3,dF⟩:=qY (wr.alloc (.cells #[.int .i64 cc] 3));have aC:Below wr.heap.size wr V3:=dF▸qbY qB qN;have fI:V3.heap[wr.heap.size]? = some (.cells #[.int .i64 cc] 3 (0,0)):=by rw [dF];exact qM _ _ _ rfl
                  have fq:=(H2.o.2.2.2.2.2.2.soft I (fun g e=>by cases e;exact Y.o.2.2.2.1.lt (qaq Z.o.2.1))).below aC;have je:=zkeep aC _ _ (I.blk H2.o.2.1 (F Z.o.2.2));have gu:=zkeep aC _ _ (I.blk H2.o.2.2.1 (F Z.o.1));have fP:=zkeep aC _ _ (I.blk H2.o.2.2.2.2.1 (F Z.o.2.1));have fE:V0.heap.size<wr.heap.size:=(qG hQ.o.2.1.1).1;have jT:=(qG Y.o.2.2.2.1.cl).1;have D0:∀W,V3.grownBy W (some V0.heap.size)->W.cell? ⟨ah.heap.size,0,none⟩=some (.slice (some ⟨V.heap.size,0,none⟩) n n):=fun W h=>qc5 h je (Nat.ne_of_lt Z.o.2.2) 0
                  have D1:∀W,V3.grownBy W (some V0.heap.size)->W.cell? ⟨wB.heap.size,0,none⟩=some (.int .i64 r):=fun W h=>qc5 h gu (Nat.ne_of_lt Z.o.1) 0
                  have D2:∀W,V3.grownBy W (some V0.heap.size)->W.cell? ⟨V.heap.size,r,none⟩=some (rowv V0.heap.size (n+1)):=fun W h=>by
                    have h1:=qi2 fP (j:=r) (by omega);simp only [if_true] at h1;exact (qd5 h (p:=⟨V.heap.size,r,none⟩) (qG fP).1 (Nat.ne_of_lt Z.o.2.1)).trans h1
                  have D3:∀W,V3.grownBy W (some V0.heap.size)->W.cell? ⟨wr.heap.size,0,none⟩=some (.int .i64 cc):=fun W h=>qc5 h fI (qbo fE) 0
                  have D4:∀W,V3.grownBy W (some V0.heap.size)->W.cell? ⟨w.heap.size+1,0,none⟩=some (.slice al j cl):=fun W h=>qc5 h fq.cl (by have:=Z.o.2.1;omega) 0
                  have jE:=qH (fun W (h:Below V3.heap.size V3 W)=>qib j (.pointer (some ⟨w.heap.size+1+1,0,none⟩)) (.pointer (some ⟨w.heap.size+1,0,none⟩)) (.pointer (some ⟨wB.heap.size,0,none⟩)) (.pointer (some ⟨wr.heap.size,0,none⟩)) (fun p=>nterm t bl wl G r cc (G.getD p 0)) 63398 (by omega) W (by omega) (fun W' p hp jR=>by
                    have bf:=h.trans (jR.mono h.size);exact qnc O.o.2.1 (fq.below bf) O.o.2.2 bO hp (by omega) fB iT (qC _ _ 0 _ _ _ (zkeep bf _ _ gu)) (qC _ _ 0 _ _ _ (zkeep bf _ _ fI))) (fun p hp=>by
                      have bX:p<G.length:=by have:=O.o.2.1;omega
                      have hl:=(O.o.2.2 _ (qcH bX)).2;exact qiV (fun x hx=>(O.o.2.2 x hx).1) (by have:=O.o.2.1;omega) bX (by omega) (by omega)))
                  have fO:Below V3.heap.size V3 V3:=Below.refl _ _;have H:Below V3.heap.size V3 V3.drew:=fO.drew;have H3:=qH (qA aC (qA (hQ.o.2.1.below aC) (qA (hQ.o.2.2.below aC) fE)));clear I F aC fI fq je gu fP jT fE;go_wp2_with fail;rw [<-dF];clear dF
                  go_region_held3 (fun W=>V3.grownBy W (some V0.heap.size)) (first | with_reducible exact qcs _ _ | with_reducible exact qb6 _ H | with_reducible exact qb6 _ aY | exact qbX (qbX (qb6 _ aY) (qb0 _ _ _ _)) (qb0 _ _ _ _)) (first | (go_at_call 151;refine (jE.o _ H).mono ?_;rintro e w5 ⟨u5,rfl,aD,fT⟩;have aY:Below V3.heap.size V3 w5:=bjoin H aD;obtain⟨a5,n5,c5,b5,rfl⟩:=qbZ fT;have iB:=(H3.o.2.1.below aY).at (by have:=hQ.o.1;omega);rw [hQ.o.1] at iB;obtain⟨⟨z0,z1⟩,zf⟩:=iB;have lw:=zf (cc*2);have lC:=zf (cc*2+1);have HX:=qH (qkJ (H3.o.2.1.below aY) (H3.o.2.2.1.below aY) hQ.o.1 fB fT);clear aD fT zf))
                  all_goals go_wp2_with fail
                  all_goals go_roundw
                  all_goals first
                    | exact⟨cc+1,_,fB,by go_num,qH ⟨by rw [qaf,hQ.o.1];rfl,HX.o.1,HX.o.2⟩,qH (qbX (qbX (qco hG.o (bjoin H3.o.1 aY)) (qb0 _ _ _ _)) (qb0 _ _ _ _))⟩
                    | (simp [intOf];omega)
                · obtain rfl:cc=n+1:=by omega
                  have iq:MatPart wr V.heap.size n (r+1) (n+1) (fun x=>if x=r then V0.heap.size else ay x) (fun r c=>isum (fun p=>nterm t bl wl G r c (G.getD p 0)) j):=by
                    refine⟨I.blk H2.o.2.2.2.2.1 (F Z.o.2.1),fun x hx=>?_,dN⟩
                    by_cases e:x=r
                    · subst e;simp only [if_true];exact⟨qs,hQ.o.1,hQ.o.2.1,hQ.o.2.2⟩
                    · simp only [if_neg e]
                      have h:=H2.o.2.2.2.1 x (by omega);exact I.introw h.1 (F h.2)
                  have hSn:=I.blk H2.o.2.1 (F Z.o.2.2);have ig:=I.old H2.o.2.2.2.2.2.1 (fun x e=>by have:=qag e;have:=Z.o.2.1;omega) H2.o.2.2.2.2.2.1.size;have HE:=qH (qA iq (qA hSn ig));clear iq hSn ig I F;go_wp2;go_roundw
                  case rel=>exact⟨r+1,_,dN,by go_num,qH HE.o.1,qH HE.o.2.1,qH HE.o.2.2⟩
                  case measure=>simp [intOf];omega
            · obtain rfl:r=n:=by omega
              have dA:=dz.o.done;have aZ:=Y.o.2.2.2.1.below bD.o;have c0:=qC _ _ 0 _ _ _ aZ.cs;have f0:=qF _ _ 0 _ _ aZ.cs;have y0:=qC _ _ 0 _ _ _ dC.o;have eH:=heap_setCell_same _ _ 0 _ _ (.slice (some ⟨V.heap.size,0,none⟩) r r) aZ.cs;have I:=Soft.ofSet aZ.cs (qgP qfI) 0 (.slice (some ⟨V.heap.size,0,none⟩) r r);have F:=(qG Y.o.2.2.2.1.cs).1;have ik:MatAt (wB.setCell ⟨w.heap.size,0,none⟩ (.slice (some ⟨V.heap.size,0,none⟩) r r)) V.heap.size r (r+1) ay (fun r c=>isum (fun p=>nterm t bl wl G r c (G.getD p 0)) j):=by
                refine⟨I.blk dA.row (fun e=>by have:=qag e;omega),fun x hx=>I.introw (dA.rows x hx) fun e=>?_⟩;obtain⟨_,_,h2,_⟩:=dA.rows x hx;rw [<-qag e] at h2;have:=h2.1.symm.trans aZ.cs;simp at this
              have ic:=(Y.o.2.2.2.2.1.trans (bD.o.mono Y.o.2.2.2.2.1.size)).setCell (p:=⟨w.heap.size,0,none⟩) qN (.slice (some ⟨V.heap.size,0,none⟩) r r);have HE:=qH (qA ik (qA ic (qA eH (qaq (qaQ qN F)))));clear dA aZ eH I F ik ic;go_wp2_with fail;refine qR (v:=.agg #[.slice (some ⟨V.heap.size,0,none⟩) r r]) (rA_ rfl w.heap.size HE.o.2.2.1 underlying262 1) rfl ⟨V.heap.size,ay,_,nall t bl wl G,rfl,HE.o.2.1,HE.o.2.2.2,nall_pos (fun x hx=>(O.o.2.2 x hx).1),HE.o.1,fun a ha c hc=>?_,fun a ha c hc=>?_⟩
              · have h:=norm_sum (t:=t) (bl:=bl) (wl:=wl) (R:=i) (r:=a) (c:=c) (fun x hx=>(HR.o x hx).1) (fun x hx=>by have:=(HR.o x hx).2;omega)
                rw [O.o.1,O.o.2.1] at h;exact h
              · refine (qfr _ 63398 j (fun p hp=>?_)).mono (by omega)
                have bX:p<G.length:=by have:=O.o.2.1;omega
                have hl:=(O.o.2.2 _ (qcH bX)).2;exact qiV (fun x hx=>(O.o.2.2 x hx).1) (by have:=O.o.2.1;omega) bX (by omega) (by omega)
