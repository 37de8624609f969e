import Derived.Test.YtjalhnlhcdfncaaGreatDoorBo26
set_option maxRecDepth 100000
set_option maxHeartbeats 0
namespace Go.Proofs.YtjalhnlhcdfncaaGreatDoor
open Go.RowKit Go.Proofs.Tryz
def shi (s k:Nat):Nat:=if k % 2=1/\s % 3=0 then k / 2 else k
def shq (L:List Dr) (s k:Nat):Rat:=(L.getD (shi s k) dr0).q
theorem shi_le (s k:Nat):shi s k<=k:=by unfold shi;split <;> omega
theorem qmN (ao:Option Addr) (b off c s:Nat) (L:List Dr) (w:World) (hL:L.length<=9223372036854775807) (hc:L.length<=c) (hs:s<256) (h:DrCells w ao b off L) :
  Calls prog 12 #[.slice ao L.length c,.int .u8 (s:Int)] w fun e w'=>∃(a2:Option Addr) (g cap:Nat),e=.returned (.slice a2 (min L.length 42) cap)/\min L.length 42<=cap/\FCells w' a2 g 0 (told (min L.length 42) (shq L s))/\Below w.heap.size w w':=by
 obtain⟨n,hn⟩:=qX (min L.length 42);have aK:n<=L.length:=by omega
 have aC:n<=42:=by omega
 have aI:min (L.length:Int) 42=(n:Int):=by omega
 have H:=qH h;rw [hn];clear h hn;go_enter func12,ntmps12;have aJ:(n:Int)<=(c:Int):=by omega
 go_wp2_with fail
 go_loopw [5,6,7,14] (fun x5 x6 x7 x14 W=>∃k:Nat,x14=.int .i64 (k:Int)/\k<=n/\Kn (fun W=>Below w.heap.size w W/\Rws W w.heap.size 27 2 x5 k (fflat (told k (shq L s)))) W) (fun _ _ _ x14 _=>n-(intOf x14).toNat)
 case atStart=>exact⟨0,rfl,qaj _,.of ⟨Below.refl _ _,Rws.nil _ _ _ _⟩⟩
 case round =>
  obtain⟨k,rfl,hk,K1⟩:=hrel
  by_cases az:k<n
  ·have aF:(k:Int)<n:=by omega
   have aG:(k:Int)<(L.length:Int):=by omega
   have hd:=(H.o.below K1.o.1).cell k (by omega);have ae:=H.o.addr (by omega);subst ae;obtain⟨p1,q1,o1,z1,p2,q2,o2,z2,⟨d0,d1,d2,d3,d4,d5⟩,F,I⟩:=hd;obtain⟨dk,af⟩:=qX (L.getD k dr0);rw [af] at d0 d1 d2 d3 d4 d5 F I;obtain⟨W5,ai,N5⟩:=nw1 wr #[.bool dk.n0,.slice p1 dk.n1.length z1,.int .u16 dk.n2,.bool dk.d0,.slice p2 dk.d1.length z2,.int .u16 dk.d2] 89;have HK:=qH (qA af (qA F I));clear F I af;go_upto_region 5 with fail;rw [<-ai];clear ai d0 d1 d2 d3 d4 d5;have ah:=K1.o.1.trans (N5.o.1.mono K1.o.1.size);obtain⟨m,hm⟩:=qX (shi s k);have U:m<L.length:=by rw [<-hm];exact qaU (shi_le s k) (by omega)
   have ag:shq L s k=(L.getD m dr0).q:=by unfold shq;rw [hm]
   have ak:=(H.o.below K1.o.1).cell m U;have O:=H.o.ok m U;obtain⟨E,J⟩:=qX (L.getD m dr0);rw [J] at ak O ag;obtain⟨Y,r1,t1,c1,Z,r2,t2,c2,⟨x0,x1,x2,x3,x4,x5⟩,au,av⟩:=ak;have l5:∀{p:Addr} {v:Value},wr.cell? p=some v->W5.cell? p=some v:=fun {p v} h=>(N5.o.1.cell (qae wr _ h)).trans h
   have HX:=qH (qA (l5 x0) (qA (l5 x1) (qA (l5 x2) (qA (l5 x3) (qA (l5 x4) (l5 x5))))));have HM:=qH (qA O (qA ag (qA au av)));have HH:=qH (qA ah (qA J hm));have HL:=qH U;clear O ag au av ah hm J l5 x0 x1 x2 x3 x4 x5 U;obtain⟨tt,ax⟩:∃t:Bool,decide (k % 2=1/\s % 3=0)=t:=⟨_,rfl⟩;have HT:=qH ax;clear ax
   go_cut [26] (fun x26 W=>x26=.bool tt/\Hu (W=W5))
   case first =>
    rcases (show k % 2=0\/k % 2=1 by omega) with hx | hx
    ·have e1:(k:Int).tmod 2=0:=by rw [Int.tmod_eq_emod_of_nonneg (by omega)];omega
     have e2:(k:Int) % 2=0:=by omega
     have ht:tt=false:=by rw [<-HT.o];exact qU (by omega)
     clear hx;go_wp2;go_meet;exact⟨by rw [ht],qH rfl⟩
    ·have e1:(k:Int).tmod 2=1:=by rw [Int.tmod_eq_emod_of_nonneg (by omega)];omega
     have e2:(k:Int) % 2=1:=by omega
     rcases (show s % 3=0\/s % 3=1\/s % 3=2 by omega) with hy | hy | hy
     ·have e3:(s:Int).tmod 3=0:=by rw [Int.tmod_eq_emod_of_nonneg (by omega)];omega
      have e4:(s:Int) % 3=0:=by omega
      have ht:tt=true:=by rw [<-HT.o];exact qV (by omega)
      clear hx hy;go_wp2;go_meet;exact⟨by rw [ht],qH rfl⟩
     ·have e3:(s:Int).tmod 3=1:=by rw [Int.tmod_eq_emod_of_nonneg (by omega)];omega
      have e4:(s:Int) % 3=1:=by omega
      have ht:tt=false:=by rw [<-HT.o];exact qU (by omega)
      clear hx hy;go_wp2;go_meet;exact⟨by rw [ht],qH rfl⟩
     ·have e3:(s:Int).tmod 3=2:=by rw [Int.tmod_eq_emod_of_nonneg (by omega)];omega
      have e4:(s:Int) % 3=2:=by omega
      have ht:tt=false:=by rw [<-HT.o];exact qU (by omega)
      clear hx hy;go_wp2;go_meet;exact⟨by rw [ht],qH rfl⟩
   case rest =>
    obtain⟨rfl,aj⟩:=hcut;obtain rfl:=aj.o.symm;clear aj
    go_upto_if 26 with fail
    go_cut [7] (fun x7 W'=>x7=.pointer (some ⟨wr.heap.size,0,none⟩)/\Hu (∃(Y:Option Addr) (r1 t1 c1:Nat) (Z:Option Addr) (r2 t2 c2:Nat),(Below wr.heap.size wr W'/\W'.heap[wr.heap.size]? = some (.cells #[.bool E.n0,.slice Y E.n1.length c1,.int .u16 E.n2,.bool E.d0,.slice Z E.d1.length c2,.int .u16 E.d2] 89 (0,0)))/\KCells W' .u16 Y r1 t1 E.n1/\KCells W' .u16 Z r2 t2 E.d1))
    case first =>
     cases tt with
     | false =>
      have e:dk=E:=by
       rw [<-HK.o.1,<-HH.o.2.1,<-HH.o.2.2];unfold shi;rw [if_neg (of_decide_eq_false HT.o)]
      have HE:=qH (qA (HK.o.2.1.below N5.o.1) (HK.o.2.2.below N5.o.1));have HR:=qH N5.o;rw [e] at HE HR;go_wp2;go_meet;exact⟨rfl,qH ⟨p1,q1,o1,z1,p2,q2,o2,z2,HR.o,HE.o.1,HE.o.2⟩⟩
     | true =>
      have hc:=of_decide_eq_true HT.o;have aA:k / 2=m:=by rw [<-HH.o.2.2];unfold shi;rw [if_pos hc]
      have e1:(k:Int).tdiv 2=(m:Int):=by rw [Int.tdiv_eq_ediv_of_nonneg (by omega)];omega
      have e2:(k:Int) / 2=(m:Int):=by omega
      have aH:(m:Int)<(L.length:Int):=by have:=HL.o;omega
      obtain⟨x0,x1,x2,x3,x4,x5⟩:=HX.o;have V:=qS N5.o.1 (g:=wr.heap.size) qN #[.bool E.n0,.slice Y E.n1.length c1,.int .u16 E.n2,.bool E.d0,.slice Z E.d1.length c2,.int .u16 E.d2];have HE:=qH (qA V (qA (HM.o.2.2.1.below V) (HM.o.2.2.2.below V)));have HR:=qH N5.o.2;clear V hc aA
      go_wp2_with (first | (with_reducible refine sR_ rfl 89 _ _ rfl (wr.heap.size) #[.bool E.n0,.slice Y E.n1.length c1,.int .u16 E.n2,.bool E.d0,.slice Z E.d1.length c2,.int .u16 E.d2] HR.o 6 ?_) | fail)
      go_meet;exact⟨rfl,qH ⟨Y,r1,t1,c1,Z,r2,t2,c2,⟨HE.o.1,qT _ _ _ _ _ _ HR.o⟩,HE.o.2.1,HE.o.2.2⟩⟩
    case rest =>
     obtain⟨rfl,hI⟩:=hcut;obtain⟨Y,r1,t1,c1,Z,r2,t2,c2,aa,F,I⟩:=hI.o;have HS:=qH (qoY E Y Z r1 t1 c1 r2 t2 c2 _ HM.o.1 F I);have HR:=qH aa;obtain⟨z1,z2,hz⟩:=qcW (shq L s k);have HZ:=qH hz;rw [<-HM.o.2.1,qe7,hz] at HS;clear F I aa hI hz
     go_wp2_with (first | (with_reducible refine lW_ rfl 89 _ rfl (wr.heap.size) #[.bool E.n0,.slice Y E.n1.length c1,.int .u16 E.n2,.bool E.d0,.slice Z E.d1.length c2,.int .u16 E.d2] HR.o.2 underlying89 6 ?_) | fail)
     refine HS.o.mono ?_;rintro e w2 ⟨rfl,hb⟩;have K2:=(K1.below HR.o.1).below hb;clear hb HS
     go_wp2_with (first | (at_builtin;refine qeI rfl _ _ rfl K2.o.1 rfl K2.o.2 rfl rfl rfl (by omega) ?_;intro v' w' aB ay) | fail)
     go_roundw
     case rel=>exact⟨k+1,by go_num,az,.of ⟨ay.o,by rw [qe3,HZ.o];exact aB.o⟩⟩
     case measure=>simp [intOf];omega
  ·obtain rfl:k=n:=by omega
   have aD:¬(k:Int)<(k:Int):=by omega
   go_wp2;go_ret;obtain⟨a2,g,cap,rfl,h1,h2⟩:=qdD K1.o.2 (qcb _ _);exact⟨a2,g,cap,rfl,h2,h1,K1.o.1⟩
end Go.Proofs.YtjalhnlhcdfncaaGreatDoor
namespace Go.Proofs.YtjalhnlhcdfncaaGreatDoor.p4
open Go.RowKit Go.Proofs.Tryz
theorem qoW (x:Int):x=if decide (x<0)=true then -(x.natAbs:Int) else (x.natAbs:Int):=by
 by_cases h:x<0
 ·rw [qV h,if_pos rfl];omega
 ·rw [qU h,if_neg (by decide)];omega
theorem plus_any (x y:Int) (K:Nat) (hK:K<=17592186030000) (v u:Value) (w:World) (hv:qca w v x) (hu:qca w u y) (hx:Fit x.natAbs K) (hy:Fit y.natAbs K) :
  Calls prog 99 #[v,u] w fun e w'=>∃p,e=.returned p/\Below w.heap.size w w'/\qca w' p (x+y):=by
 obtain⟨m,rfl,hm⟩:=hv;obtain⟨o,rfl,ho⟩:=hu;have hX:=qoW x;have hY:=qoW y;have HS:=qH fun (W:World) (h:Below w.heap.size w W)=>qkX x.natAbs y.natAbs K (by omega) m o W ((hm.below h).digs hx) ((ho.below h).digs hy)
 have HO:=qH fun (W:World) (h:Below w.heap.size w W)=>qeW x.natAbs y.natAbs K (by omega) m o W (hm.below h) (ho.below h) hx hy
 have HD:=qH fun (W:World) (h:Below w.heap.size w W)=>qei x.natAbs y.natAbs K (by omega) m o W (hm.below h) (ho.below h) hx
 have HE:=qH fun (W:World) (h:Below w.heap.size w W)=>qei y.natAbs x.natAbs K (by omega) o m W (ho.below h) (hm.below h) hy
 generalize decide (x<0)=b at *;generalize decide (y<0)=c at *;have HM:=qH fun (W:World) (q:Value) (z:Nat) (h:DigAt W q z (K+1))=>qdW z (K+1) b q W h (by omega)
 have HN:=qH fun (W:World) (q:Value) (z:Nat) (h:DigAt W q z (K+1))=>qdW z (K+1) c q W h (by omega)
 have V:=qH (qA hX (qA hY (qA hx hy)));obtain⟨am,bm,om,cm,nm,M,rfl,_,_⟩:=hm;obtain⟨ao,bo,oo,co,no,O,rfl,_,_⟩:=ho;clear hX hY hx hy;obtain⟨W1,aa,K1⟩:=kn3 w #[.bool b,.slice am nm cm] 105 #[.bool c,.slice ao no co] 105 #[.bool false,.slice none 0 0] 105;have hb:Below (w.heap.size+1+1) W1 W1:=Below.refl _ _;have lt:=(qG K1.o.2.2.2).1;have c0:=rowC (B:=w.heap.size+1+1) K1.o.2.1 0;have c1:=rowC (B:=w.heap.size+1+1) K1.o.2.1 1;have c2:=rowC (B:=w.heap.size+1+1) K1.o.2.2.1 0;have c3:=rowC (B:=w.heap.size+1+1) K1.o.2.2.1 1
 by_cases Y:b=c
 ·subst Y;have Y:(b == b)=true:=beq_self_eq_true b;go_enter func99,ntmps99;go_wp2_with fail;rw [<-aa];clear aa;go_wp2_with fail;refine wp_region_held_drew (S:=fun W=>Below (w.heap.size+1+1) W1 W) (by kernel_rfl) (hb).drew (fun hS0=>?_);refine hT 0 (h:=hT 1 (h:=hT 2 (h:=hT 3 (h:=hT 4 (h:=hT 5 (h:=?_))))));refine hC 6 (HS.o _ K1.o.1.drew) (h:=?_);rintro e w2 ⟨q,rfl,E,Z⟩;obtain⟨aq,cq,nq,rfl⟩:∃a c n,q=Value.slice a n c:=by obtain⟨a,_,_,c,n,_,rfl,_⟩:=Z;exact⟨a,c,n,rfl⟩
  have K2:=K1.ond (q:=fun W=>DigAt W _ _ _) E Z;have F:=hS0.trans (E.mono (qan lt));refine⟨_,rfl,F,hN (h:=?_)⟩;refine hC 7 (HM.o _ _ _ Z) (h:=?_);rintro e w3 ⟨p,rfl,I,U⟩;obtain⟨b3,a3,n3,c3,rfl⟩:=U.shape;have J:=K2.on (q:=fun W=>qca W _ _) I U;have H:=F.trans (I.mono (qak (qan lt) E.size));refine⟨_,rfl,H,hN (h:=?_)⟩;refine hSt 8 2 J.o.1.1.2.2.2 (h:=⟨qS H qN _,?_⟩);go_wp2_with fail;exact qR (v:=.agg #[.bool b3,.slice a3 n3 c3]) (rA_ rfl (w.heap.size+1+1) (qT _ _ _ _ _ _ J.o.1.1.2.2.2) underlying105 2) rfl ⟨_,rfl,qS J.o.1.1.1 (by omega) _,qcd (by have:=V.o;rw [this.1,this.2.1];cases b <;> simpa [Int.neg_add] using U) J.o.1.1.2.2.2 (nd2 _ _ _ _)⟩
 ·have Y:(b == c)=false:=by cases b <;> cases c <;> simp at *
  go_enter func99,ntmps99;go_wp2_with fail;rw [<-aa];clear aa;go_wp2_with fail;refine (HO.o _ K1.o.1).mono ?_;rintro e w0 ⟨r,rfl,af,ah,ai⟩;have K0:=K1.on (q:=fun _=>(r<0↔x.natAbs<y.natAbs)/\(r=0↔x.natAbs=y.natAbs)) af ⟨ah,ai⟩;have ae:Below (w.heap.size+1+1) W1 w0:=af.mono (qan lt);have hb:=Below.refl (w.heap.size+1+1) w0;have c0:=fun W (h:Below (w.heap.size+1+1) w0 W)=>c0 W (ae.trans h)
  have c1:=fun W (h:Below (w.heap.size+1+1) w0 W)=>c1 W (ae.trans h)
  have c2:=fun W (h:Below (w.heap.size+1+1) w0 W)=>c2 W (ae.trans h)
  have c3:=fun W (h:Below (w.heap.size+1+1) w0 W)=>c3 W (ae.trans h)
  have ag:=qai lt af.size;clear ah ai af
  by_cases h0:0<=r
  ·go_wp2_with fail;refine wp_region_held_drew (S:=fun W=>Below (w.heap.size+1+1) w0 W) (by kernel_rfl) hb.drew (fun hS0=>?_);refine hT 0 (h:=hT 1 (h:=hT 2 (h:=hT 3 (h:=hT 4 (h:=hT 5 (h:=?_))))));refine hC 6 (HD.o _ K0.o.1.1.drew (by have:=K0.o.2;omega)) (h:=?_);rintro e w2 ⟨q,rfl,E,Z⟩;obtain⟨aq,cq,nq,rfl⟩:∃a c n,q=Value.slice a n c:=by obtain⟨a,_,_,c,n,_,rfl,_⟩:=Z;exact⟨a,c,n,rfl⟩
   have K2:=K0.ond (q:=fun W=>MagAt W _ _) E Z;have F:=hS0.trans (E.mono (qan ag));refine⟨_,rfl,F,hN (h:=?_)⟩;refine hC 7 (HM.o _ _ _ (Z.digs ((V.o.2.2.1.le (Nat.sub_le _ _)).mono (qbf K)))) (h:=?_);rintro e w3 ⟨p,rfl,I,U⟩;obtain⟨b3,a3,n3,c3,rfl⟩:=U.shape;have J:=K2.on (q:=fun W=>qca W _ _) I U;have H:=F.trans (I.mono (qak (qan ag) E.size));refine⟨_,rfl,H,hN (h:=?_)⟩;refine hSt 8 2 J.o.1.1.1.2.2.2 (h:=⟨qS H qN _,?_⟩);go_wp2_with fail;exact qR (v:=.agg #[.bool b3,.slice a3 n3 c3]) (rA_ rfl (w.heap.size+1+1) (qT _ _ _ _ _ _ J.o.1.1.1.2.2.2) underlying105 2) rfl ⟨_,rfl,qS J.o.1.1.1.1 (by omega) _,qcd (by have h:=V.o;have:=K0.o.2;have e:(if b=true then -((x.natAbs-y.natAbs:Nat):Int) else ((x.natAbs-y.natAbs:Nat):Int))=x+y:=(by rw [h.1,h.2.1];clear U;revert Y;cases b <;> cases c <;> simp <;> omega);rw [<-e];exact U) J.o.1.1.1.2.2.2 (nd2 _ _ _ _)⟩
  ·go_wp2_with fail;refine wp_region_held_drew (S:=fun W=>Below (w.heap.size+1+1) w0 W) (by kernel_rfl) hb.drew (fun hS0=>?_);refine hT 0 (h:=hT 1 (h:=hT 2 (h:=hT 3 (h:=hT 4 (h:=hT 5 (h:=?_))))));refine hC 6 (HE.o _ K0.o.1.1.drew (by have:=K0.o.2;omega)) (h:=?_);rintro e w2 ⟨q,rfl,E,Z⟩;obtain⟨aq,cq,nq,rfl⟩:∃a c n,q=Value.slice a n c:=by obtain⟨a,_,_,c,n,_,rfl,_⟩:=Z;exact⟨a,c,n,rfl⟩
   have K2:=K0.ond (q:=fun W=>MagAt W _ _) E Z;have F:=hS0.trans (E.mono (qan ag));refine⟨_,rfl,F,hN (h:=?_)⟩;refine hC 7 (HN.o _ _ _ (Z.digs ((V.o.2.2.2.le (Nat.sub_le _ _)).mono (qbf K)))) (h:=?_);rintro e w3 ⟨p,rfl,I,U⟩;obtain⟨b3,a3,n3,c3,rfl⟩:=U.shape;have J:=K2.on (q:=fun W=>qca W _ _) I U;have H:=F.trans (I.mono (qak (qan ag) E.size));refine⟨_,rfl,H,hN (h:=?_)⟩;refine hSt 8 2 J.o.1.1.1.2.2.2 (h:=⟨qS H qN _,?_⟩);go_wp2_with fail;exact qR (v:=.agg #[.bool b3,.slice a3 n3 c3]) (rA_ rfl (w.heap.size+1+1) (qT _ _ _ _ _ _ J.o.1.1.1.2.2.2) underlying105 2) rfl ⟨_,rfl,qS J.o.1.1.1.1 (by omega) _,qcd (by have h:=V.o;have:=K0.o.2;have e:(if c=true then -((y.natAbs-x.natAbs:Nat):Int) else ((y.natAbs-x.natAbs:Nat):Int))=x+y:=(by rw [h.1,h.2.1];clear U;revert Y;cases b <;> cases c <;> simp <;> omega);rw [<-e];exact U) J.o.1.1.1.2.2.2 (nd2 _ _ _ _)⟩
def RFit (q:Rat) (K:Nat):Prop:=Fit q.num.natAbs K/\Fit q.den K
theorem qcv.parts {W:World} {v:Value} {q:Rat} (h:qcv W v q):∃(b:Bool) (a:Option Addr) (n c:Nat) (E:Option Addr) (J F:Nat),v=.agg #[.bool b,.slice a n c,.bool false,.slice E J F]/\qca W (.agg #[.bool b,.slice a n c]) q.num/\qca W (.agg #[.bool false,.slice E J F]) (q.den:Int):=by
 obtain⟨m,o,rfl,H,I⟩:=h;have U:=H;have V:=I;obtain⟨am,bm,Y,cm,n,M,rfl,_,_⟩:=U;obtain⟨ao,bo,Z,co,no,O,rfl,_,_⟩:=V;exact⟨_,_,_,_,_,_,_,rfl,⟨_,rfl,H⟩,⟨_,by rw [qU (by omega)],by simpa using I⟩⟩
theorem RFit.mul {p q:Rat} {K J:Nat} (h:RFit p K) (k:RFit q J):Fit (p.num*q.num).natAbs (K+J)/\Fit ((p.den:Int)*q.den).natAbs (K+J):=by
 rw [qaE,qaE];exact⟨h.1.mul k.1,h.2.mul k.2⟩
theorem RFit.over {p q:Rat} {K J:Nat} (h:RFit p K) (k:RFit q J):Fit (p.num*q.den).natAbs (K+J)/\Fit ((p.den:Int)*q.num).natAbs (K+J):=by
 rw [qaE,qaE];exact⟨h.1.mul k.2,h.2.mul k.1⟩
theorem row_set4 {W:World} {g:Nat} {t:TypeId} {J O:Bool} {a0 I:Option Addr} {n0 U n1 c1:Nat} (h:W.heap[g]? = some (.cells #[.bool J,.slice a0 n0 U,.bool O,.slice I n1 c1] t (0,0))) (b:Bool) (a:Option Addr) (n c:Nat) (b':Bool) (E:Option Addr) (H F:Nat) :
  ((((W.setCell ⟨g,0,none⟩ (.bool b)).setCell ⟨g,1,none⟩ (.slice a n c)).setCell ⟨g,2,none⟩ (.bool b')).setCell ⟨g,3,none⟩ (.slice E H F)).heap[g]? = some (.cells #[.bool b,.slice a n c,.bool b',.slice E H F] t (0,0)) :=
 heap_setCell_same _ g 3 _ t _ (heap_setCell_same _ g 2 _ t _ (heap_setCell_same _ g 1 _ t _ (heap_setCell_same _ g 0 _ t _ h)))
theorem qet {W W':World} {v:Value} {q:Rat} {g:Nat} {cs:Array Value} {t:TypeId} {F:Nat×Nat} (h:qcv W v q) (E:W.grownBy W' (some g)) (hg:W.heap[g]? = some (.cells cs t F)) (hne:∀x∈cs.toList,∀d,x≠.int .i64 d):qcv W' v q:=by
 obtain⟨m,o,H,I,J⟩:=h;exact⟨m,o,H,qcA I E hg hne,qcA J E hg hne⟩
theorem qmA {W:World} {v:Value} {q:Rat} {g:Nat} {t:TypeId} {J F:Bool} {a0 E:Option Addr} {n0 H n1 c1:Nat} (U:qcv W v q) (h:W.heap[g]? = some (.cells #[.bool J,.slice a0 n0 H,.bool F,.slice E n1 c1] t (0,0))) (b:Bool) (a:Option Addr) (n c:Nat) (b':Bool) (I:Option Addr) (V O:Nat) :
  qcv ((((W.setCell ⟨g,0,none⟩ (.bool b)).setCell ⟨g,1,none⟩ (.slice a n c)).setCell ⟨g,2,none⟩ (.bool b')).setCell ⟨g,3,none⟩ (.slice I V O)) v q :=
 qet (qet (qet (qet U (qgZ W g 0 _) h (nd4 _ _ _ _ _ _ _ _)) (qgZ _ g 1 _) (heap_setCell_same _ g 0 _ t _ h) (nd4 b F a0 E n0 n1 H c1)) (qgZ _ g 2 _) (heap_setCell_same _ g 1 _ t _ (heap_setCell_same _ g 0 _ t _ h)) (nd4 b F a E n n1 c c1)) (qgZ _ g 3 _) (heap_setCell_same _ g 2 _ t _ (heap_setCell_same _ g 1 _ t _ (heap_setCell_same _ g 0 _ t _ h))) (nd4 b b' a E n n1 c c1)
theorem rin_any (n d:ByteArray) (hf:FOk n.data.toList d.data.toList) (w:World) :
  Calls prog 53 #[.agg #[.string n,.string d]] w fun e w'=>∃v,e=.returned v/\Below w.heap.size w w'/\qcv w' v (fval n.data.toList d.data.toList):=by
 have av:=qH (fun (W:World)=>qlj n hf.vn W);have ax:=qH (fun (W:World)=>qlj d hf.vd W);have ae:=hf.val;have Z:=hf.pos;have HV:=qH (qA ae Z);obtain⟨H,I⟩:=qY ((w.alloc (.cells #[.string n,.string d] 27)).alloc (.cells #[.bool false,.slice none 0 0,.bool false,.slice none 0 0] 107));have au:Below w.heap.size w H:=I▸qb4 (qb4 qB qN) qN;have aj:H.heap[w.heap.size]? = some (.cells #[.string n,.string d] 27 (0,0)):=by rw [I,qL _ _ _ (by simp only [qab];omega)];exact qM _ _ _ rfl
 have hr:H.heap[w.heap.size+1]? = some (.cells #[.bool false,.slice none 0 0,.bool false,.slice none 0 0] 107 (0,0)):=by rw [I];exact qM _ _ _ (by simp)
 have l2:w.heap.size+1<H.heap.size:=(qG hr).1;have C0:∀W,Below (w.heap.size+1) H W->W.cell? ⟨w.heap.size,0,none⟩=some (.string n):=fun W h=>(h.cell (p:=⟨w.heap.size,0,none⟩) (by show w.heap.size<_;omega)).trans (qC _ _ 0 _ _ _ aj)
 have C1:∀W,Below (w.heap.size+1) H W->W.cell? ⟨w.heap.size,1,none⟩=some (.string d):=fun W h=>(h.cell (p:=⟨w.heap.size,1,none⟩) (by show w.heap.size<_;omega)).trans (qC _ _ 1 _ _ _ aj)
 have F:Below (w.heap.size+1) H H:=Below.refl _ _;have aa:Below (w.heap.size+1) H H.drew:=F.drew;have HR:=qH (qA au hr);have U:=qH l2;clear aj hr au ae Z hf;go_enter func53,ntmps53;go_wp2_with fail;rw [<-I];clear I
 go_region_held3 (fun W=>Below (w.heap.size+1) H W) (first | with_reducible exact F | with_reducible exact aa | with_reducible exact af | with_reducible exact J | ((iterate 4 refine Below.setCell ?_ (by exact qad _) _);exact af)) (first | (go_at_call_of 101 (Value.string n);refine (av.o _).mono ?_;rintro e w2 ⟨p2,rfl,ag,ah⟩;have J:Below (w.heap.size+1) H w2:=aa.trans (ag.mono (qan (qai U.o F.size)));obtain⟨b2,a2,n2,c2,rfl⟩:=ah.shape;have ak:=qH (qA ah ((ag.block _ (qai U.o F.size)).trans HR.o.2));clear ag ah) | (go_at_call_of 101 (Value.string d);refine (ax.o _).mono ?_;rintro e Y ⟨p3,rfl,V,ai⟩;have af:Below (w.heap.size+1) H Y:=J.trans (V.mono (qak (qan U.o) J.size));obtain⟨b9,a9,n9,c9,rfl⟩:=ai.shape;have E:=(V.block _ (qai U.o J.size)).trans ak.o.2;have e0:=qC Y _ 0 _ _ _ E;have e1:=qC Y _ 1 _ _ _ E;have e2:=qC Y _ 2 _ _ _ E;have e3:=qC Y _ 3 _ _ _ E;have f0:=qF Y _ 0 _ _ E;have f1:=qF Y _ 1 _ _ E;have f2:=qF Y _ 2 _ _ E;have f3:=qF Y _ 3 _ _ E;have O:=qH (qA (ak.o.1.below V) (qA ai E));clear V ai E))
 go_wp2_with fail;have hd:ival d.data.toList=((fval n.data.toList d.data.toList).den:Int):=by rw [HV.o.1.2];have:=HV.o.2;omega
 have hq:=qjS (q:=fval n.data.toList d.data.toList) O.o.1 O.o.2.1 HV.o.1.1.symm hd;have ay:b9=false:=by
  obtain⟨m6,o6,h6,_⟩:=hq;simp only [qaX,qa1,qaV,qbA] at h6;exact h6.2.2.1
 exact qR (v:=.agg #[.bool b2,.slice a2 n2 c2,.bool b9,.slice a9 n9 c9]) (rA_ rfl (w.heap.size+1) (row_set4 O.o.2.2 b2 a2 n2 c2 b9 a9 n9 c9) underlying107 4) rfl ⟨_,rfl,HR.o.1.trans (((((af.setCell (by exact qad _) _).setCell (by exact qad _) _).setCell (by exact qad _) _).setCell (by exact qad _) _).mono (by omega)),qmA hq O.o.2.2 b2 a2 n2 c2 b9 a9 n9 c9⟩
def RRightAs (w:World) (n d:List UInt8) (e:Ending) (w':World):Prop:=∃ok,e=.returned (.bool ok)/\(ok=true↔FOk n d)/\Below w.heap.size w w'
theorem wtxt_one {G:Nat}:qcj (G:Int)=⟨#[49]⟩↔G=1:=by
 have E:qcj (1:Int)=⟨#[49]⟩:=by
  rw [qeb (by decide)];unfold num;rw [show (1:Int).natAbs=1 from rfl,qcg (by decide)];rfl
 constructor
 ·intro h;have F:itxt (G:Int)=itxt (1:Int):=by
   have:=congrArg (fun b:ByteArray=>b.data.toList) (h.trans E.symm);exact this
  have H:=congrArg ival F;rw [qdr,qdr] at H;omega
 ·rintro rfl;exact E
theorem ne_lists {a b:ByteArray} (h:a≠b):(a.toList == b.toList)=false:=by
 rw [beq_eq_false_iff_ne,ByteArray.toList_eq,ByteArray.toList_eq];intro e;apply h;obtain⟨⟨x⟩⟩:=a;obtain⟨⟨y⟩⟩:=b;cases e;rfl
theorem qmK (n d:ByteArray) (hn:n.size<=140737488355328) (hd:d.size<=140737488355328) (w:World) :
  Calls prog 82 #[.agg #[.string n,.string d]] w fun e w'=>RRightAs w n.data.toList d.data.toList e w':=by
 have aN:=qH (fun (W:World)=>qjV n hn W);have aO:=qH (fun (W:World)=>qjV d hd W);obtain⟨W1,ah⟩:=qY (w.alloc (.cells #[.string n,.string d] 27));have aG:Below w.heap.size w W1:=ah▸qb4 qB qN;have ak:W1.heap[w.heap.size]? = some (.cells #[.string n,.string d] 27 (0,0)):=by rw [ah];exact qM _ _ _ rfl
 have k0:=qC W1 _ 0 _ _ _ ak;have k1:=qC W1 _ 1 _ _ _ ak;have HR:=qH (qA aG ak);clear aG ak;go_enter func82,ntmps82;go_wp2_with fail;rw [<-ah];clear ah;go_wp2_with fail;refine (aN.o _).mono ?_;rintro e w1 ⟨ok1,rfl,V,rfl⟩;have H1:=qH V;clear V;cases ok1 with
 | false =>
  have Y:Hu (¬FOk n.data.toList d.data.toList):=qH (fun h=>absurd (H1.o.2 h.vn) (by decide));go_wp2;go_ret;exact⟨false,rfl,qc5 Y.o,HR.o.1⟩
 | true =>
  go_wp2_with fail;refine (aO.o _).mono ?_;rintro e w1 ⟨aU,rfl,h2,rfl⟩;have H2:=qH h2;clear h2;cases aU with
  | false =>
   have Y:Hu (¬FOk n.data.toList d.data.toList):=qH (fun h=>absurd (H2.o.2 h.vd) (by decide));go_wp2;go_ret;exact⟨false,rfl,qc5 Y.o,HR.o.1⟩
  | true =>
   have aA:=H1.o.1 (by first | exact rfl | trivial);have az:=H2.o.1 (by first | exact rfl | trivial);have ag:=HR.o.2;obtain⟨E,aB⟩:=qY w1;rw [<-aB] at ag k0 k1 HR;rw [<-aB];clear aB;have aT:Below E.heap.size E E:=Below.refl _ _;have aL:Below E.heap.size E E.drew:=aT.drew;have aV:E.drew.heap.size=E.heap.size:=rfl;have l0:w.heap.size<E.heap.size:=(qG ag).1;have C0:∀W,Below E.heap.size E W->W.cell? ⟨w.heap.size,0,none⟩=some (.string n):=fun W h=>(h.cell (p:=⟨w.heap.size,0,none⟩) l0).trans (qC _ _ 0 _ _ _ ag)
   have C1:∀W,Below E.heap.size E W->W.cell? ⟨w.heap.size,1,none⟩=some (.string d):=fun W h=>(h.cell (p:=⟨w.heap.size,1,none⟩) l0).trans (qC _ _ 1 _ _ _ ag)
   have aP:=qH (fun (W:World) (_:Below E.heap.size E W)=>qlj n aA W);have aQ:=qH (fun (W:World) (_:Below E.heap.size E W)=>qlj d az W);have HV:=qH (qA aA az);clear aA az ag k0 k1;go_wp2_with fail;refine wp_region_held_drew (S:=fun W=>Below E.heap.size E W) (by kernel_rfl) aL (fun hS0=>?_);refine hT 0 (h:=hT 1 (h:=hT 3 (h:=hT 4 (h:=?_))));refine gr [(2,17),(5,20),(6,3),(7,4)] [] [0,1,3,4] [2,5,6,7] [6,7] 8 10 (fl2 [(2,fun x W=>qca W x (ival n.data.toList)),(5,fun x W=>qca W x (ival d.data.toList)),(6,ZC E.heap.size #[.bool false,.slice none 0 0] 105),(7,ZC E.heap.size #[.bool false,.slice none 0 0] 105)]) _ 2
    (hS:=fun w' h=>qcm h) (hstep:=⟨⟨_,rfl,fun v U H hF K hK=>?_⟩,⟨_,rfl,fun v U H hF K hK=>?_⟩,⟨_,rfl,fun v U H hF K hK=>?_⟩,⟨_,rfl,fun v U H hF K hK=>?_⟩,trivial⟩) (hend:=fun v U H hF hE f=>?_)
   ·exact gC hK (aP.o U (qcm H)) (h:=fun e U ⟨u,e1,V,h2⟩=>⟨u,e1,h2,V⟩)
   ·exact gC hK (aQ.o U (qcm H)) (h:=fun e U ⟨u,e1,V,h2⟩=>⟨u,e1,h2,V⟩)
   ·exact gW hK (h:=ZC.new H.size)
   ·exact gW hK (h:=ZC.new H.size)
   have i3:qca U (v 2) _:=hF 2 (by decide) (by decide);have i4:qca U (v 5) _:=hF 5 (by decide) (by decide);obtain⟨g3,h3,e6,J⟩:ZC _ _ _ (v 6) U:=hF 6 (by decide) (by decide);obtain⟨g4,h4,e7,aa⟩:ZC _ _ _ (v 7) U:=hF 7 (by decide) (by decide);have hne:g3≠g4:=by have:=hE 6 (by decide) 7 (by decide) (by decide);rwa [e6,e7] at this
   obtain⟨b3,a3,n3,c3,e2⟩:=i3.shape;obtain⟨b4,a4,n4,c4,e5⟩:=i4.shape;rw [e2] at i3;rw [e5] at i4;rw [e2,e5,e6,e7];have H:=qcm H;have Z:=(setRow_other U g3 g4 #[.bool b3,.slice a3 n3 c3] (fun e=>hne e.symm)).trans h4;refine hSn 8 2 h3 (h:=⟨qS H J _,?_⟩);refine hSt 9 2 Z (h:=⟨qS (qS H J _) aa _,?_⟩);obtain⟨wc,I⟩:=qY ((U.setRow g3 #[.bool b3,.slice a3 n3 c3]).setRow g4 #[.bool b4,.slice a4 n4 c4]);have aJ:qca wc _ _:=I▸qcd (qcd i3 h3 (nd2 _ _ _ _)) Z (nd2 _ _ _ _);have ai:qca wc _ _:=I▸qcd (qcd i4 h3 (nd2 _ _ _ _)) Z (nd2 _ _ _ _);have H:Below E.heap.size E wc:=I▸qS (qS H J _) aa _;have h3:wc.heap[g3]? = some (.cells #[.bool b3,.slice a3 n3 c3] 105 (0,0)):=I▸(setRow_other _ _ _ _ hne).trans (qT _ _ _ _ _ _ h3);have h4:wc.heap[g4]? = some (.cells #[.bool b4,.slice a4 n4 c4] 105 (0,0)):=I▸qT _ _ _ _ _ _ Z;rw [<-I];clear I hF hE Z e2 e5 e6 e7 i3 i4 hS0 C0 C1;have aW:=qC wc _ 0 _ _ _ h4;have aX:=qC wc _ 1 _ _ _ h4;have HB:=qH (HR.o.1.trans (H.mono HR.o.1.size));obtain⟨m4,ae,av⟩:=ai;have aK:m4=.slice a4 n4 c4:=by simp only [qaX,qa1,qaV] at ae;exact ae.2.1.symm
   have F:b4=decide (ival d.data.toList<0):=by simp only [qaX,qa1,qaV,qbA] at ae;exact ae.1
   subst aK;have ai:qca wc (.agg #[.bool b4,.slice a4 n4 c4]) (ival d.data.toList):=⟨_,by rw [F],av⟩;have aj:n4=0↔(ival d.data.toList).natAbs=0:=by
    obtain⟨ao,bo,oo,co,no,O,hO,Io,aR⟩:=av;have e1:n4=no:=by injection hO
    rw [e1,qgT Io,aR]
   clear ae J aa;cases b4 with
   | true =>
    have Y:Hu (¬FOk n.data.toList d.data.toList):=qH (fun h=>by have:=of_decide_eq_true F.symm;have:=h.pos;omega);clear F;go_wp2;go_ret;exact⟨false,rfl,qc5 Y.o,HB.o⟩
   | false =>
    have aS:=of_decide_eq_false F.symm
    by_cases h0:n4=0
    ·have Y:Hu (¬FOk n.data.toList d.data.toList):=qH (fun h=>by have:=aj.1 h0;have:=h.pos;omega);subst h0;clear F aj;go_wp2;go_ret;exact⟨false,rfl,qc5 Y.o,HB.o⟩
    ·have hz:((n4:Int) == 0)=false:=by rw [beq_eq_false_iff_ne];omega
     have au:0<ival d.data.toList:=by
      rcases qaN (ival d.data.toList).natAbs with h | h
      ·exact absurd (aj.2 h) h0
      ·omega
     have HP:=qH au;have HG:=qH (qkt (ival n.data.toList) (ival d.data.toList) 150 (by decide) _ _ wc aJ ai (qeN HV.o.1) (qeN HV.o.2));have ax:Fit ((ival n.data.toList).natAbs.gcd (ival d.data.toList).natAbs) 150:=(qeN HV.o.2).le (Nat.gcd_le_right _ (by omega));obtain⟨G,hG⟩:=qX ((ival n.data.toList).natAbs.gcd (ival d.data.toList).natAbs);rw [hG] at HG ax;have aF:=qH hG;have HX:=qH (qA h3 h4);have aM:=qH ax;clear F aj h0 au ax hG aJ ai h3 h4 av aS
     go_wp2_with (first | (with_reducible refine lW_ rfl 105 _ rfl (g3) #[.bool b3,.slice a3 n3 c3] HX.o.1 underlying105 2 ?_) | (with_reducible refine lW_ rfl 105 _ rfl (g4) #[.bool false,.slice a4 n4 c4] HX.o.2 underlying105 2 ?_))
     refine HG.o.mono ?_;rintro e w5 ⟨v5,rfl,aH,ay⟩;have HT:=qH (qlR (G:Int) 150 (by decide) v5 w5 ay (by simpa using aM.o));obtain⟨b5,a5,n5,c5,rfl⟩:=ay.shape;have aC:=qH (HB.o.trans (aH.mono HB.o.size));clear aH ay;go_wp2_with fail;refine HT.o.mono ?_;rintro e w6 ⟨rfl,aI⟩;have aD:=qH (aC.o.trans (aI.mono aC.o.size));have af:=wtxt_one (G:=G);obtain⟨S,hS⟩:=qX (qcj (G:Int));rw [hS] at af ⊢;have HO:=qH af;clear aI af hS
     by_cases V:S=⟨#[49]⟩
     ·have Y:Hu (FOk n.data.toList d.data.toList):=qH ⟨HV.o.1,HV.o.2,HP.o,aF.o.trans (HO.o.1 V)⟩;subst V;go_wp2;go_ret;exact⟨true,rfl,qfF Y.o,aD.o⟩
     ·have Y:Hu (¬FOk n.data.toList d.data.toList):=qH (fun h=>V (HO.o.2 (aF.o.symm.trans h.cop)));have hne:=ne_lists V;rw [show (⟨#[49]⟩:ByteArray).toList=[49] by rw [ByteArray.toList_eq]] at hne;clear V;go_wp2;go_ret;exact⟨false,rfl,qc5 Y.o,aD.o⟩
def SaysB (w:World) (p:Prop) (e:Ending) (w':World):Prop:=∃r:Bool,e=.returned (.bool r)/\(r=true↔p)/\Below w.heap.size w w'
theorem SaysB.no {w w':World} {p:Prop} (h:¬p) (E:Below w.heap.size w w'):SaysB w p (.returned (.bool false)) w':=⟨false,rfl,⟨fun h=>(by cases h),fun k=>absurd k h⟩,E⟩
theorem SaysB.yes {w w':World} {p:Prop} (h:p) (E:Below w.heap.size w w'):SaysB w p (.returned (.bool true)) w':=⟨true,rfl,⟨fun _=>h,fun _=>rfl⟩,E⟩
theorem qoF (Z:Option Addr) (b off n c:Nat) (l:List FT) (w:World) (hl:l.length=n) (hn:n<=1000000) (hs:∀k,k<n->(l.getD k fd0).1.size<=140737488355328/\(l.getD k fd0).2.size<=140737488355328) (hF:FCells w Z b off l) :
  Calls prog 41 #[.slice Z n c] w fun e w'=>SaysB w (FAll l) e w':=by
 have F:=qH (qA hF (qA hl hs));clear hF hl hs;go_enter func41,ntmps41;go_wp2_with fail
 go_loopw [3] (fun x3 W=>∃k:Nat,k<=n/\x3=.int .i64 k/\Hu (∀i,i<k->FOk (l.getD i fd0).1.data.toList (l.getD i fd0).2.data.toList)/\Hu (Below w.heap.size w W)) (fun x3 _=>n-(intOf x3).toNat)
 case atStart=>exact⟨0,qaj _,rfl,qH (fun i Y=>absurd Y (by omega)),qH qB⟩
 case round =>
  obtain⟨k,hk,rfl,hJ,hB⟩:=hrel
  by_cases I:k<n
  ·have aa:(k:Int)<n:=by omega
   have V:=F.o.1.addr (by have:=F.o.2.1;omega);subst V;obtain⟨d0,d1⟩:=(F.o.1.below hB.o).cell k (by have:=F.o.2.1;omega);have E:=F.o.2.2 k I;obtain⟨N,hN⟩:=qX ((l.getD k fd0).1);obtain⟨D,U⟩:=qX ((l.getD k fd0).2);rw [hN] at d0 E;rw [U] at d1 E;have H:=qH (qA hN (qA U E));clear hN U E;go_wp2_with fail;refine (qmK N D H.o.2.2.1 H.o.2.2.2 _).mono ?_;rintro e w2 ⟨ok,rfl,J,hb⟩;have O:=qH (qA J (hB.o.trans (hb.mono hB.o.size)));clear J hb;cases ok with
   | true =>
    go_wp2;go_roundw
    case rel=>exact⟨k+1,I,by go_num,qH (fun i Y=>by
     rcases (show i<k\/i=k by omega) with h | h
     ·exact hJ.o i h
     ·rw [h,H.o.1,H.o.2.1];exact O.o.1.1 (by first | exact rfl | trivial)),qH O.o.2⟩
    case measure=>simp [intOf];omega
   | false =>
    go_wp2;go_ret;exact .no (fun h=>absurd (O.o.1.2 (by have:=h k (by have:=F.o.2.1;omega);rwa [H.o.1,H.o.2.1] at this)) (by decide)) O.o.2
  ·obtain rfl:k=n:=by omega
   go_wp2;go_ret;exact .yes (fun i Y=>hJ.o i (by have:=F.o.2.1;omega)) hB.o
abbrev QV:=Bool×(Option Addr×Nat×Nat)×(Option Addr×Nat×Nat)
def qdV (v:QV):List Value:=[.bool v.1,.slice v.2.1.1 v.2.1.2.1 v.2.1.2.2,.bool false,.slice v.2.2.1 v.2.2.2.1 v.2.2.2.2]
abbrev qagg (v:QV):Value:=.agg #[.bool v.1,.slice v.2.1.1 v.2.1.2.1 v.2.1.2.2,.bool false,.slice v.2.2.1 v.2.2.2.1 v.2.2.2.2]
def qd:QV:=(false,(none,0,0),(none,0,0))
theorem qcv.qv {W:World} {v:Value} {q:Rat} (h:qcv W v q):∃u:QV,v=qagg u:=by
 obtain⟨b,a,n,c,a',n',c',rfl⟩:=h.shape;exact⟨(b,(a,n,c),(a',n',c')),rfl⟩
def qflat (l:List QV):List Value:=l.flatMap qdV
theorem qoB (l:List QV) (v:QV):qflat (l++[v])=qflat l++qdV v:=by unfold qflat;rw [List.flatMap_append];simp
theorem qjP:∀(l:List QV) (k r:Nat),k<l.length->r<4->(qflat l)[k*4+r]? = (qdV (l.getD k qd))[r]?
 | v :: l,0,r,_,hr=>by
  show (qdV v++qflat l)[0*4+r]? = (qdV v)[r]?
  rw [Nat.zero_mul,qaT,qax (show r<4 from hr)]
 | v :: l,k+1,r,E,hr=>by
  show (qdV v++qflat l)[(k+1)*4+r]? = (qdV (l.getD k qd))[r]?
  rw [show (k+1)*4+r=4+(k*4+r) by omega,qau (show (qdV v).length<=4+(k*4+r) from Nat.le_add_right _ _),show 4+(k*4+r)-(qdV v).length=k*4+r from Nat.add_sub_cancel_left _ _];exact qjP l k r (by simpa using E) hr
def QsAt (W:World) (l:List QV) (f:Nat->Rat):Prop:=∀k,k<l.length->qcv W (qagg (l.getD k qd)) (f k)
theorem QsAt.snoc {W:World} {l:List QV} {f:Nat->Rat} {v:QV} {q:Rat} (h:QsAt W l f) (H:qcv W (qagg v) q) (F:f l.length=q):QsAt W (l++[v]) f:=fun k E=>by
 rw [qaf,qaH] at E
 by_cases e:k<l.length
 ·rw [qaa,qax e,<-qaa];exact h k e
 ·obtain rfl:k=l.length:=by omega
  rw [qaa,qau qN,qaJ];rw [F];exact H
theorem not_i64 {cur:Array Value} (h:∀x∈cur.toList,qcM x):∀x∈cur.toList,∀d,x≠.int .i64 d:=fun x hx d=>h x hx .i64 d
theorem Rws.ratio {w w':World} {base E n:Nat} {e:TypeId} {v:Value} {J:List Value} (h:Rws w base e E v n J) (hg:w.grownBy w' v.ownBlock) {u:Value} {q:Rat} (F:qcv w u q):qcv w' u q:=by
 rcases h.2 with ⟨rfl,_⟩ | ⟨g,cap,cur,rfl,_,H,_,_,_,_,I⟩
 ·exact F.below (qe8 hg)
 ·exact qet F hg H (not_i64 I)
theorem infoQ:(Tryz.prog.info? 107).map (fun i=>(i.zero,i.size,i.bytes))=some (some (.agg #[.bool false,.slice none 0 0,.bool false,.slice none 0 0]),4,64):=by kernel_rfl
theorem qla (b:Bool):qcM (.bool b):=fun k d h=>by cases h
theorem qio (v:QV):∀x∈qdV v,qcM x:=by
 intro x hx;rcases qat.1 hx with rfl | hx
 ·exact qla _
 rcases qat.1 hx with rfl | hx
 ·exact qjX _ _ _
 rcases qat.1 hx with rfl | hx
 ·exact qla _
 rw [qap.1 hx];exact qjX _ _ _
theorem qmy (v:QV):∀x∈qdV v,x.oneCell'=true:=by
 intro x hx;rcases qat.1 hx with rfl | hx
 ·rfl
 rcases qat.1 hx with rfl | hx
 ·rfl
 rcases qat.1 hx with rfl | hx
 ·rfl
 rw [qap.1 hx];rfl
theorem qdn {P:Program} {E:Array Oper} {rest:List Oper} {o:Oper} {a:Act} {w w':World} {Q:Exit->Act->World->Prop} (F:o.guard=none) (s x:Operand) {t:TypeId} (J:o.op=.call { callee:=.builtin .append,args:=#[s,x],argTypes:=#[t,t] }) {v u H:Value} (O:a.eval s=v) (hx:a.eval x=u)
  (hr:(Builtin.append_ #[t,t] o.type #[v,u]).run P w=.ok H w') (h:wpList P E Q rest (a.put o.dst H) w'):wpList P E Q (o :: rest) a w:=by
 refine wpList_plain F fun K I=>?_
 unfold Oper.wp execOp;simp only [J,resolve,invoke,builtin,Sem.run_bind,Sem.run_pure,Result.andThen_ok,List.map_toArray,List.map_cons,List.map_nil,O,hx,hr];exact I _ _ h
theorem qoP {w:World} {B:Nat} {v:Value} {n:Nat} {l:List QV} {u:QV} {g:Nat} (O:TypeId) (E:Rws w B 107 4 v n (qflat l)) (hB:B<=w.heap.size) (hg:w.heap[g]? = some (.cells (qdV u).toArray 107 (0,0))) (hn:n<1000000) :
  ∃F w',(Builtin.append_ #[97,97] O #[v,.slice (some ⟨g,0,none⟩) 1 1]).run prog w=.ok F w'/\Rws w' B 107 4 F (n+1) (qflat (l++[u]))/\w.grownBy w' v.ownBlock:=by
 obtain⟨i0,Y,H,I,J⟩:=info_parts infoQ;obtain⟨F,w',hr,U,V,_⟩:=qdL (P:=prog) w B 97 O 107 i0 _ 4 64 underlying97 Y H I J rfl (by decide) (qio qd) v n (qflat l) E ⟨g,0,none⟩ 1 1 (qdV u) rfl (fun j z Z=>by
  rw [Addr.add_mid,qaT];exact (qC _ _ j _ _ _ hg).trans ((qaz ..).trans Z)) (qmy u) (qio u) (by decide) (by unfold maxLen;omega) (by omega) hB
 exact⟨F,w',hr,by rw [qoB];exact U,V⟩
theorem QsAt.keep {w w':World} {base E n:Nat} {e:TypeId} {v:Value} {I:List Value} {l:List QV} {f:Nat->Rat} (h:Rws w base e E v n I) (hg:w.grownBy w' v.ownBlock) (H:QsAt w l f):QsAt w' l f:=fun k F=>Rws.ratio h hg (H k F)
def QList (W:World) (B:Nat) (v:Value) (n:Nat) (f:Nat->Rat):Prop:=∃L:List QV,L.length=n/\Rws W B 107 4 v n (qflat L)/\QsAt W L f
theorem QList.below {W W':World} {B:Nat} {v:Value} {n:Nat} {f:Nat->Rat} (h:QList W B v n f) (E:Below W.heap.size W W'):QList W' B v n f:=by
 obtain⟨L,F,H,I⟩:=h;exact⟨L,F,H.below E,fun k J=>(I k J).below E⟩
instance stays_qlist {B:Nat} {v:Value} {n:Nat} {f:Nat->Rat}:Stays fun W=>QList W B v n f:=⟨fun h E=>h.below E⟩
theorem QList.nil (W:World) (B:Nat) (f:Nat->Rat):QList W B (.slice none 0 0) 0 f:=⟨[],rfl,Rws.nil _ _ _ _,fun k E=>absurd E (by simp)⟩
theorem qkb {J:Array Oper} {rest:List Oper} {o:Oper} {a:Act} {w:World} {Q:Exit->Act->World->Prop} (U:o.guard=none) (s x:Operand)
  (ho:o.op=.call { callee:=.builtin .append,args:=#[s,x],argTypes:=#[97,97] }) {B:Nat} {v:Value} {n:Nat} {f:Nat->Rat} {u:QV} {q:Rat}
  (I:QList w B v n f) (hB:B<=w.heap.size) (hs:a.eval s=v) {g:Nat} (hx:a.eval x=.slice (some ⟨g,0,none⟩) 1 1) (V:g=w.heap.size) (hn:n<1000000) (hu:qcv w (qagg u) q) (hq:f n=q)
  (h:∀O w',QList w' B O (n+1) f->Below B w w'->(∀x p,qcv w x p->qcv w' x p)->wpList prog J Q rest (a.put o.dst O) w') :
  wpList prog J Q (o :: rest) a (w.alloc (.cells #[.bool u.1,.slice u.2.1.1 u.2.1.2.1 u.2.1.2.2,.bool false,.slice u.2.2.1 u.2.2.2.1 u.2.2.2.2] 107)):=by
 subst V;obtain⟨L,Y,H,Z⟩:=I;have F:Below w.heap.size w (w.alloc (.cells (qdV u).toArray 107)):=qb4 qB qN;obtain⟨O,w',hr,h4,hg⟩:=qoP (u:=u) o.type (H.below F) (qak hB F.size) (heap_alloc_new w (.cells (qdV u).toArray 107)) hn;have E:w.grownBy w' v.ownBlock:=qb5 (qcl (qcw _ _) F) hg;exact qdn U s x ho hs hx hr (h O w' ⟨L++[u],by rw [qaf,Y];rfl,h4,(QsAt.keep H E Z).snoc (Rws.ratio H E hu) (by rw [Y,hq])⟩ (H.old E qB qN hB) fun x p hp=>Rws.ratio H E hp)
theorem qmZ (ao:Option Addr) (b off n c:Nat) (l:List FT) (w:World) (hl:l.length=n) (hn:n<=1000) (hA:FAll l) (hF:FCells w ao b off l) :
  Calls prog 43 #[.slice ao n c] w fun e w'=>∃v,e=.returned v/\QList w' w.heap.size v n (lval l)/\Below w.heap.size w w':=by
 have H:=qH (qA hF (qA hl hA));clear hF hl hA;go_enter func43,ntmps43;go_wp2_with fail
 go_loopw [3,4] (fun x3 x4 W=>∃k:Nat,x4=.int .i64 k/\k<=n/\Kn (fun W=>Below w.heap.size w W/\QList W w.heap.size x3 k (lval l)) W) (fun _ x4 _=>n-(intOf x4).toNat)
 case atStart=>exact⟨0,rfl,qaj _,.of ⟨Below.refl _ _,QList.nil _ _ _⟩⟩
 case round =>
  obtain⟨k,rfl,hk,I⟩:=hrel
  by_cases U:k<n
  ·have aa:(k:Int)<n:=by omega
   have O:=H.o.1.addr (by have:=H.o.2.1;omega);subst O;have V:=H.o.2.1;obtain⟨d0,d1⟩:=(H.o.1.below I.o.1).cell k (by omega);have F:=H.o.2.2 k (by omega);have E:lval l k=fval (l.getD k fd0).1.data.toList (l.getD k fd0).2.data.toList:=rfl;obtain⟨N,hN⟩:=qX ((l.getD k fd0).1);obtain⟨D,hD⟩:=qX ((l.getD k fd0).2);rw [hN] at d0 F E;rw [hD] at d1 F E;have Z:=qH (qA F E);clear hN hD F E V;go_wp2_with fail;refine (rin_any N D Z.o.1 _).mono ?_;rintro e w2 ⟨v,rfl,hb,Y⟩;obtain⟨u,rfl⟩:=Y.qv;have J:=I.on (q:=fun W=>qcv W _ _) hb Y;clear hb Y
   go_wp2_with (first | (at_builtin;refine qkb rfl _ _ rfl J.o.1.2 J.o.1.1.size rfl rfl rfl (by omega) J.o.2 Z.o.2 ?_;intro v' w' h1 h2 _;have K3:=qH (qA h1 h2);clear h1 h2) | fail)
   go_roundw
   case rel=>exact⟨k+1,by go_num,U,.of ⟨J.o.1.1.trans K3.o.2,K3.o.1⟩⟩
   case measure=>simp [intOf];omega
  ·obtain rfl:k=n:=by omega
   go_wp2;go_ret;exact⟨_,rfl,I.o.2,I.o.1⟩
def QRow (W:World) (g C:Nat) (f:Nat->Rat):Prop:=∃(cur:Array Value) (q:Nat->QV),W.heap[g]? = some (.cells cur 107 (0,0))/\(∀x∈cur.toList,qcM x) /\
 ∀j,j<C->(∀r,r<4->cur[j*4+r]? = (qdV (q j))[r]?)/\qcv W (qagg (q j)) (f j)
theorem QRow.below {W W':World} {g C:Nat} {f:Nat->Rat} (h:QRow W g C f) (F:Below W.heap.size W W'):QRow W' g C f:=by
 obtain⟨cur,q,I,J,E⟩:=h;exact⟨cur,q,zkeep F _ _ I,J,fun j H=>⟨(E j H).1,(E j H).2.below F⟩⟩
theorem QList.row {W:World} {B:Nat} {v:Value} {n:Nat} {f:Nat->Rat} (h:QList W B v n f) (hn:0<n):∃g cap,v=.slice (some ⟨g,0,none⟩) n cap/\B<=g/\n<=cap/\QRow W g n f:=by
 obtain⟨L,Y,O,U⟩:=h;rcases O.2 with ⟨_,V⟩ | ⟨g,cap,cur,rfl,E,F,H,_,_,I,J⟩
 ·omega
 ·refine⟨g,cap,rfl,E,H,cur,fun j=>L.getD j qd,F,J,fun j Z=>⟨fun r hr=>?_,U j (by omega)⟩⟩;rw [<-qjP L j r (by omega) hr,<-I,qbE (by omega),Array.getElem?_toList]
end Go.Proofs.YtjalhnlhcdfncaaGreatDoor.p4
namespace Go.Proofs.YtjalhnlhcdfncaaGreatDoor
def swR (f:Nat->Nat) (a b n:Nat):Nat->Nat:=fun k=>if a<=k/\k<a+n then f (k-a+b) else if b<=k/\k<b+n then f (k-b+a) else f k
def rot (f:Nat->Nat) (a m b:Nat):Nat->Nat:=fun k=>if a<=k/\k<b then (if k<a+(b-m) then f (k+m-a) else f (k+m-b)) else f k
theorem rot_gt {f:Nat->Nat} {i j m:Nat} (H:0<j) (E:j<i) (F:i<=m):rot (swR f (m-i) m j) (m-(i-j)) m (m+j)=rot f (m-i) m (m+j):=by
 funext k
 unfold rot swR
 repeat' split
 all_goals first | omega | (congr 1;omega) | rfl
theorem rot_lt {f:Nat->Nat} {i j m:Nat} (E:0<i) (F:i<j) (H:i<=m):rot (swR f (m-i) (m+j-i) i) (m-i) m (m+(j-i))=rot f (m-i) m (m+j):=by
 funext k
 unfold rot swR
 repeat' split
 all_goals first | omega | (congr 1;omega) | rfl
theorem rot_eq {f:Nat->Nat} {i m:Nat} (E:i<=m):swR f (m-i) m i=rot f (m-i) m (m+i):=by
 funext k
 unfold rot swR
 repeat' split
 all_goals first | omega | (congr 1;omega) | rfl
theorem swR_zero (f:Nat->Nat) (a b:Nat):swR f a b 0=f:=by
 funext k
 unfold swR
 repeat' split
 all_goals first | omega | rfl
def swp (f:Nat->Nat) (i j:Nat):Nat->Nat:=fun k=>if k=i then f j else if k=j then f i else f k
theorem swR_succ {f:Nat->Nat} {a b n:Nat} (h:a+n<b):swR f a b (n+1)=swp (swR f a b n) (a+n) (b+n):=by
 funext k
 unfold swp swR
 repeat' split
 all_goals first | omega | (congr 1;omega) | rfl
def Inc (T:Nat->Nat->Prop) (f:Nat->Nat) (a b:Nat):Prop:=∀i j,a<=i->i<j->j<b->T (f i) (f j)
theorem Inc.sub {T:Nat->Nat->Prop} {f:Nat->Nat} {a b E b':Nat} (h:Inc T f a b) (J:a<=E) (O:b'<=b):Inc T f E b':=fun i j H F I=>h i j (by omega) F (by omega)
structure Mer (T:Nat->Nat->Prop) (f f':Nat->Nat) (a b:Nat):Prop where
 o:∀k,¬(a<=k/\k<b)->f' k=f k
 mem:∀k,a<=k->k<b->∃j,a<=j/\j<b/\f' k=f j
 inc:Inc T f' a b
structure Mst (T lt:Nat->Nat->Prop) (f:Nat->Nat) (a m b:Nat):Prop where
 l:Inc T f a m
 r:Inc T f m b
 x:∀i j,a<=i->i<m->m<=j->j<b->(lt (f j) (f i)↔T (f j) (f i))
 t:∀i j,a<=i->i<m->m<=j->j<b->¬T (f j) (f i)->T (f i) (f j)
theorem rot_mem {f:Nat->Nat} {a m b k:Nat} (H:a<=m) (I:m<=b) (E:a<=k) (F:k<b):∃j,a<=j/\j<b/\rot f a m b k=f j:=by
 unfold rot;rw [if_pos ⟨E,F⟩];split
 ·exact⟨_,by omega,by omega,rfl⟩
 ·exact⟨_,by omega,by omega,rfl⟩
section
variable {T lt:Nat->Nat->Prop} (ht:∀x y z,T x y->T y z->T x z)
include ht
theorem mer_left {f:Nat->Nat} {a b i:Nat} (h:Mst T lt f a (a+1) b) (h1:a+1<=i) (h2:i<=b) (hl:∀k,a+1<=k->k<i->lt (f k) (f a)) (hr:∀k,i<=k->k<b->¬lt (f k) (f a)):Mer T f (rot f a (a+1) i) a b:=by
 have I:∀k,a+1<=k->k<i->T (f k) (f a):=fun k F E=>(h.x a k qN (by omega) F (by omega)).1 (hl k F E)
 have H:∀k,i<=k->k<b->T (f a) (f k):=fun k F E=>h.t a k qN (by omega) (by omega) E fun e=>hr k F E ((h.x a k qN (by omega) (by omega) E).2 e)
 have Y:∀k,rot f a (a+1) i k=if a<=k/\k<i-1 then f (k+1) else if k=i-1 then f a else f k:=fun k=>by
  unfold rot
  repeat' split
  all_goals first | omega | (congr 1;omega) | rfl
 refine⟨fun k hk=>?_,fun k F E=>?_,fun x y F E Z=>?_⟩
 ·rw [Y,if_neg (by omega),if_neg (by omega)]
 ·rw [Y];split
  ·exact⟨k+1,by omega,by omega,rfl⟩
  ·split
   ·exact⟨a,by omega,by omega,rfl⟩
   ·exact⟨k,F,E,rfl⟩
 ·rw [Y,Y]
  by_cases J:a<=x/\x<i-1
  ·rw [if_pos J]
   by_cases U:a<=y/\y<i-1
   ·rw [if_pos U];exact h.r _ _ (by omega) (by omega) (by omega)
   ·rw [if_neg U]
    by_cases V:y=i-1
    ·rw [if_pos V];exact I _ (by omega) (by omega)
    ·rw [if_neg V];exact ht _ _ _ (I (x+1) (by omega) (by omega)) (H y (by omega) Z)
  ·rw [if_neg J]
   by_cases O:x=i-1
   ·rw [if_pos O,if_neg (by omega),if_neg (by omega)];exact H y (by omega) Z
   ·rw [if_neg O,if_neg (by omega),if_neg (by omega)];exact h.r _ _ (by omega) E Z
omit ht in
theorem qjx {f:Nat->Nat} {a m i:Nat} (h:Mst T lt f a m (m+1)) (h1:a<=i) (h2:i<=m) (Z:∀k,a<=k->k<i->¬lt (f m) (f k)) (hr:∀k,i<=k->k<m->lt (f m) (f k)):Mer T f (rot f i m (m+1)) a (m+1):=by
 have Y:∀k,a<=k->k<i->T (f k) (f m):=fun k E F=>h.t k m E (by omega) qN (by omega) fun e=>Z k E F ((h.x k m E (by omega) qN (by omega)).2 e)
 have V:∀k,i<=k->k<m->T (f m) (f k):=fun k E F=>(h.x k m (by omega) F qN (by omega)).1 (hr k E F)
 have U:∀k,rot f i m (m+1) k=if k=i then f m else if i<k/\k<=m then f (k-1) else f k:=fun k=>by
  unfold rot
  repeat' split
  all_goals first | omega | (congr 1;omega) | rfl
 refine⟨fun k hk=>?_,fun k E F=>?_,fun x y E F h5=>?_⟩
 ·rw [U,if_neg (by omega),if_neg (by omega)]
 ·rw [U];split
  ·exact⟨m,by omega,by omega,rfl⟩
  ·split
   ·exact⟨k-1,by omega,by omega,rfl⟩
   ·exact⟨k,E,F,rfl⟩
 ·rw [U,U]
  by_cases H:x=i
  ·rw [if_pos H,if_neg (by omega),if_pos (by omega)];exact V _ (by omega) (by omega)
  ·rw [if_neg H]
   by_cases I:i<x/\x<=m
   ·rw [if_pos I,if_neg (by omega),if_pos (by omega)];exact h.l _ _ (by omega) (by omega) (by omega)
   ·rw [if_neg I]
    by_cases J:y=i
    ·rw [if_pos J];exact Y _ (by omega) (by omega)
    ·rw [if_neg J]
     by_cases O:i<y/\y<=m
     ·rw [if_pos O];exact h.l _ _ (by omega) (by omega) (by omega)
     ·rw [if_neg O];exact h.l _ _ (by omega) F (by omega)
theorem qmo {f U f2 f3:Nat->Nat} {a m b E s e:Nat} (h:Mst T lt f a m b) (ax:a<m) (az:m<b) (ah:a<E) (ai:E<b) (he:e+s=E+m) (ag:a<=s) (aA:s<=m) (aB:s<=E) (ay:e<=b)
  (hl:∀c,a<=c->c<s->E+m-1-c<b->¬lt (f (E+m-1-c)) (f c)) (hr:∀c,s<=c->c<m->c<E->lt (f (E+m-1-c)) (f c))
  (h1:U=rot f s m e) (J:Mer T U f2 a E) (F:Mer T f2 f3 E b):Mer T f f3 a b:=by
 have ae:m<=e:=by omega
 have ev:∀k,U k=if s<=k/\k<E then f (k+m-s) else if E<=k/\k<e then f (k+m-e) else f k:=fun k=>by
  rw [h1];unfold rot
  repeat' split
  all_goals first | omega | (congr 1;omega) | rfl
 have Z:∀k,a<=k->k<E->(∃i,a<=i/\i<s/\U k=f i)\/(∃j,m<=j/\j<e/\U k=f j):=fun k H O=>by
  rw [ev]
  by_cases hk:s<=k
  ·rw [if_pos ⟨hk,O⟩];exact .inr ⟨_,by omega,by omega,rfl⟩
  ·rw [if_neg (by omega),if_neg (by omega)];exact .inl ⟨k,H,by omega,rfl⟩
 have aa:∀k,E<=k->k<b->(∃i,s<=i/\i<m/\U k=f i)\/(∃j,e<=j/\j<b/\U k=f j):=fun k H O=>by
  rw [ev,if_neg (by omega)]
  by_cases hk:k<e
  ·rw [if_pos ⟨H,hk⟩];exact .inl ⟨_,by omega,by omega,rfl⟩
  ·rw [if_neg (by omega)];exact .inr ⟨k,by omega,O,rfl⟩
 have au:∀i j,a<=i->i<s->e<=j->j<b->T (f i) (f j):=fun i j H O I V=>by
  have Y:T (f (s-1)) (f e):=h.t _ _ (by omega) (by omega) ae (by omega) fun aj=>by
   have h7:=hl (s-1) (by omega) (by omega) (by omega);rw [show E+m-1-(s-1)=e by omega] at h7;exact h7 ((h.x (s-1) e (by omega) (by omega) ae (by omega)).2 aj)
  have h8:T (f i) (f e):=by
   rcases qaB i (s-1) with h9 | h9
   ·exact ht _ _ _ (h.l i (s-1) H h9 (by omega)) Y
   ·rw [show i=s-1 by omega];exact Y
  rcases qaB e j with h9 | h9
  ·exact ht _ _ _ h8 (h.r e j ae h9 V)
  ·rw [show j=e by omega];exact h8
 have av:∀j i,m<=j->j<e->s<=i->i<m->T (f j) (f i):=fun j i H O I V=>by
  have Y:T (f (e-1)) (f s):=by
   have h7:=hr s qN (by omega) (by omega);rw [show E+m-1-s=e-1 by omega] at h7;exact (h.x s (e-1) ag (by omega) (by omega) (by omega)).1 h7
  have h8:T (f j) (f s):=by
   rcases qaB j (e-1) with h9 | h9
   ·exact ht _ _ _ (h.r j (e-1) H h9 (by omega)) Y
   ·rw [show j=e-1 by omega];exact Y
  rcases qaB s i with h9 | h9
  ·exact ht _ _ _ h8 (h.l s i ag h9 V)
  ·rw [show i=s by omega];exact h8
 have af:∀x y,a<=x->x<E->E<=y->y<b->T (U x) (U y):=fun x y H O I V=>by
  rcases Z x H O with ⟨i,i1,i2,e1⟩ | ⟨j,j1,j2,e1⟩ <;> rcases aa y I V with ⟨i',k1,k2,e2⟩ | ⟨j',k1,k2,e2⟩ <;> rw [e1,e2]
  ·exact h.l i i' i1 (by omega) k2
  ·exact au i j' i1 i2 k1 k2
  ·exact av j i' j1 j2 k1 k2
  ·exact h.r j j' j1 (by omega) k2
 refine⟨fun k hk=>?_,fun k H O=>?_,fun x y H O I=>?_⟩
 ·rw [F.o k (by omega),J.o k (by omega),ev,if_neg (by omega),if_neg (by omega)]
 ·have ak:∃j,a<=j/\j<b/\f3 k=U j:=by
   rcases qaB k E with I | I
   ·obtain⟨j,j1,j2,e1⟩:=J.mem k H I;exact⟨j,j1,by omega,by rw [F.o k (by omega),e1]⟩
   ·obtain⟨j,j1,j2,e1⟩:=F.mem k I O;exact⟨j,by omega,j2,by rw [e1,J.o j (by omega)]⟩
  obtain⟨j,j1,j2,e1⟩:=ak;rw [e1];rcases qaB j E with I | I
  ·rcases Z j j1 I with ⟨i,i1,i2,e2⟩ | ⟨i,i1,i2,e2⟩
   ·exact⟨i,i1,by omega,e2⟩
   ·exact⟨i,by omega,by omega,e2⟩
  ·rcases aa j I j2 with ⟨i,i1,i2,e2⟩ | ⟨i,i1,i2,e2⟩
   ·exact⟨i,by omega,by omega,e2⟩
   ·exact⟨i,by omega,i2,e2⟩
 ·rcases qaB y E with V | V
  ·rw [F.o x (by omega),F.o y (by omega)];exact J.inc x y H O V
  ·rcases qaB x E with Y | Y
   ·rw [F.o x (by omega)];obtain⟨i,i1,i2,e1⟩:=J.mem x H Y;obtain⟨j,j1,j2,e2⟩:=F.mem y V I;rw [e1,e2,J.o j (by omega)];exact af i j i1 i2 j1 j2
   ·exact F.inc x y Y O I
end
theorem rot_ev {f:Nat->Nat} {m E s e:Nat} (he:e+s=E+m) (F:s<=m) (H:s<=E) (k:Nat):rot f s m e k=if s<=k/\k<E then f (k+m-s) else if E<=k/\k<e then f (k+m-e) else f k:=by
 unfold rot
 repeat' split
 all_goals first | omega | (congr 1;omega) | rfl
theorem Mer.refl {T:Nat->Nat->Prop} {f:Nat->Nat} {a b:Nat} (h:Inc T f a b):Mer T f f a b:=⟨fun _ _=>rfl,fun k E F=>⟨k,E,F,rfl⟩,h⟩
theorem Inc.congr {T:Nat->Nat->Prop} {f E:Nat->Nat} {a b:Nat} (h:Inc T f a b) (e:∀k,a<=k->k<b->E k=f k):Inc T E a b:=fun i j F I H=>by
 rw [e i F (by omega),e j (by omega) H];exact h i j F I H
theorem Mst.congr {T lt:Nat->Nat->Prop} {f J:Nat->Nat} {a m b:Nat} (O:a<=m) (U:m<=b) (h:Mst T lt f a m b) (e:∀k,a<=k->k<b->J k=f k):Mst T lt J a m b :=
 ⟨h.l.congr fun k E F=>e k E (by omega),h.r.congr fun k E F=>e k (by omega) F,fun i j E F I H=>by rw [e i E (by omega),e j (by omega) H];exact h.x i j E F I H,fun i j E F I H=>by rw [e i E (by omega),e j (by omega) H];exact h.t i j E F I H⟩
theorem mst_low {T lt:Nat->Nat->Prop} {f:Nat->Nat} {a m b F s e:Nat} (h:Mst T lt f a m b) (he:e+s=F+m) (_Z:a<=s) (O:s<=m) (U:s<=F) (Y:e<=b):Mst T lt (rot f s m e) a s F:=by
 have E:=rot_ev (f:=f) he O U;refine⟨fun i j H I J=>?_,fun i j H I J=>?_,fun i j H I J V=>?_,fun i j H I J V=>?_⟩
 ·rw [E,E,if_neg (by omega),if_neg (by omega),if_neg (by omega),if_neg (by omega)];exact h.l i j H I (by omega)
 ·rw [E,E,if_pos (by omega),if_pos (by omega)];exact h.r _ _ (by omega) (by omega) (by omega)
 ·rw [E j,E i,if_pos (by omega),if_neg (by omega),if_neg (by omega)];exact h.x _ _ H (by omega) (by omega) (by omega)
 ·rw [E j,E i,if_pos (by omega),if_neg (by omega),if_neg (by omega)];exact h.t _ _ H (by omega) (by omega) (by omega)
theorem mst_upp {T lt:Nat->Nat->Prop} {f:Nat->Nat} {a m b F s e:Nat} (h:Mst T lt f a m b) (he:e+s=F+m) (Z:a<=s) (U:s<=m) (V:s<=F) (_Y:e<=b):Mst T lt (rot f s m e) F e b:=by
 have E:=rot_ev (f:=f) he U V;refine⟨fun i j J H I=>?_,fun i j J H I=>?_,fun i j J H I O=>?_,fun i j J H I O=>?_⟩
 ·rw [E,E,if_neg (by omega),if_pos (by omega),if_neg (by omega),if_pos (by omega)];exact h.l _ _ (by omega) (by omega) (by omega)
 ·rw [E,E,if_neg (by omega),if_neg (by omega),if_neg (by omega),if_neg (by omega)];exact h.r i j (by omega) H I
 ·rw [E j,E i,if_neg (by omega),if_neg (by omega),if_neg (by omega),if_pos (by omega)];exact h.x _ _ (by omega) (by omega) (by omega) O
 ·rw [E j,E i,if_neg (by omega),if_neg (by omega),if_neg (by omega),if_pos (by omega)];exact h.t _ _ (by omega) (by omega) (by omega) O
theorem shift_up {f:Nat->Nat} {a k:Nat} (h:a<=k):swp (rot f a (a+1) (k+1)) k (k+1)=rot f a (a+1) (k+1+1):=by
 funext x
 unfold swp rot
 repeat' split
 all_goals first | omega | (congr 1;omega) | rfl
theorem qmM (f:Nat->Nat) (a:Nat):rot f a (a+1) (a+1)=f:=by
 funext x
 unfold rot
 repeat' split
 all_goals first | omega | (congr 1;omega) | rfl
theorem qir {f:Nat->Nat} {k m:Nat} (h:k+1<=m):swp (rot f (k+1) m (m+1)) (k+1) k=rot f k m (m+1):=by
 funext x
 unfold swp rot
 repeat' split
 all_goals first | omega | (congr 1;omega) | rfl
theorem qoX (f:Nat->Nat) (m:Nat):rot f m m (m+1)=f:=by
 funext x
 unfold rot
 repeat' split
 all_goals first | omega | (congr 1;omega) | rfl
theorem Mst.down {T lt:Nat->Nat->Prop} (V:∀x y z,T x y->T y z->T x z) {f:Nat->Nat} {a m b i h k:Nat} (H:Mst T lt f a m b) (E:a<=i) (F:i<m) (J:m<=k) (U:k<=h) (I:h<b) (O:lt (f h) (f i)):lt (f k) (f i):=by
 rcases qaB k h with h1 | h1
 ·exact (H.x i k E F J (by omega)).2 (V _ _ _ (H.r k h J h1 I) ((H.x i h E F (by omega) I).1 O))
 ·rw [show k=h by omega];exact O
theorem Mst.up {T lt:Nat->Nat->Prop} (V:∀x y z,T x y->T y z->T x z) {f:Nat->Nat} {a m b i h k:Nat} (H:Mst T lt f a m b) (E:m<=h) (F:h<b) (I:a<=i) (U:i<=k) (J:k<m) (O:lt (f h) (f i)):lt (f h) (f k):=by
 rcases qaB i k with h1 | h1
 ·exact (H.x k h (by omega) J E F).2 (V _ _ _ ((H.x i h I (by omega) E F).1 O) (H.l i k I h1 J))
 ·rw [show k=i by omega];exact O
theorem Mst.side {T lt:Nat->Nat->Prop} (J:∀x y z,T x y->T y z->T x z) {f:Nat->Nat} {a m b p c h:Nat} (H:Mst T lt f a m b) (E:a<=c) (U:c<=h) (F:h<m) (V:m+h<=p) (Y:p<b+c) (I:lt (f (p-c)) (f c)):lt (f (p-h)) (f h):=by
 have O:=(H.x c (p-c) E (by omega) (by omega) (by omega)).1 I;rcases qaB c h with h7 | h7
 ·exact (H.x h (p-h) (by omega) F (by omega) (by omega)).2 (J _ _ _ (H.r (p-h) (p-c) (by omega) (by omega) (by omega)) (J _ _ _ O (H.l c h E h7 F)))
 ·rw [show h=c by omega];exact I
theorem qlH (f:Nat->Nat) (m e:Nat):rot f m m e=f:=by
 funext x
 unfold rot
 repeat' split
 all_goals first | omega | (congr 1;omega) | rfl
theorem qoH (f:Nat->Nat) (s m:Nat) (_h:s<=m):rot f s m m=f:=by
 funext x
 unfold rot
 repeat' split
 all_goals first | omega | (congr 1;omega) | rfl
open Go.RowKit Go.Proofs.Tryz
def fnl (n:Nat) (f:Nat->Nat):List Nat:=(List.range n).map f
theorem qdC (n:Nat) (f:Nat->Nat):(fnl n f).length=n:=by unfold fnl;simp
theorem qdd {n k:Nat} (f:Nat->Nat) (h:k<n):(fnl n f)[k]? = some (f k):=by
 unfold fnl;rw [qaP,qbG h];rfl
theorem qnA {n:Nat} {f E:Nat->Nat} (h:∀k,k<n->f k=E k):fnl n f=fnl n E:=List.map_congr_left fun k F=>h k (qaq.1 F)
theorem qnC {n j:Nat} (f:Nat->Nat) (x:Nat):(fnl n f).set j x=fnl n fun k=>if k=j then x else f k:=by
 refine List.ext_getElem? fun k=>?_
 rw [List.getElem?_set]
 by_cases E:k<n
 ·rw [qdd _ E,qdd _ E,qdC]
  by_cases e:j=k
  ·subst e;rw [if_pos rfl,if_pos E,if_pos rfl]
  ·rw [if_neg e,if_neg fun h=>e h.symm]
 ·rw [qaR (by rw [qdC];omega),qaR (by rw [qdC];omega),qdC];split
  ·rw [if_neg (by omega)]
  ·rfl
theorem qgS {n i j:Nat} (f:Nat->Nat):((fnl n f).set i (f j)).set j (f i)=fnl n (swp f i j):=by
 rw [qnC,qnC];refine qnA fun k _=>?_
 unfold swp
 by_cases F:k=j
 ·rw [if_pos F]
  by_cases E:k=i
  ·rw [if_pos E];rw [<-F,E]
  ·rw [if_neg E,if_pos F]
 ·rw [if_neg F]
  by_cases E:k=i
  ·rw [if_pos E,if_pos E]
  ·rw [if_neg E,if_neg E,if_neg F]
theorem qhR (B g n c a b m:Nat) (f:Nat->Nat) (cv:Value) (w:World) (hn:n<=1000) (hO:NatR w B g n c (fnl n f)) (ha:a+m<=b) (F:b+m<=n) :
  Calls prog 263 #[.slice (some ⟨g,0,none⟩) n c,.int .i64 (a:Int),.int .i64 (b:Int),.int .i64 (m:Int),cv] w fun e w'=>e=.returned (.tuple #[])/\w.grownBy w' (some g)/\NatR w' B g n c (fnl n (swR f a b m)):=by
 have H0:Hu (NatR w B g n c (fnl n (swR f a b 0))/\w.grownBy w (some g)):=qH (by rw [swR_zero];exact⟨hO,qcw _ _⟩);clear hO;go_enter func263,ntmps263;go_wp2_with fail
 go_loopw [10] (fun x10 W=>∃i:Nat,x10=.int .i64 (i:Int)/\i<=m/\Hu (NatR W B g n c (fnl n (swR f a b i))/\w.grownBy W (some g))) (fun x10 _=>m-(intOf x10).toNat)
 case atStart=>exact⟨0,rfl,qaj _,H0⟩
 case round =>
  obtain⟨i,rfl,hi,hS⟩:=hrel
  by_cases ax:i<m
  case neg =>
   obtain rfl:i=m:=by omega
   have au:¬(i:Int)<(i:Int):=by omega
   go_wp2_with fail
   go_end0
   exact⟨rfl,hS.o.2,hS.o.1⟩
  have au:(i:Int)<(m:Int):=by omega
  obtain⟨x,hx⟩:=qX (swR f a b i (a+i));obtain⟨y,hy⟩:=qX (swR f a b i (b+i));obtain⟨p,hp⟩:=qX (a+i);obtain⟨q,hq⟩:=qX (b+i);rw [hp] at hx;rw [hq] at hy;have ay:(a:Int)+(i:Int)=(p:Int):=by omega
  have aA:(b:Int)+(i:Int)=(q:Int):=by omega
  have aj:p<n:=by omega
  have ak:q<n:=by omega
  have az:(p:Int)<(n:Int):=by omega
  have aB:(q:Int)<(n:Int):=by omega
  have aC:IntKind.i64.wrap (p:Int)=(p:Int):=by rw [IntKind.wrap_i64];omega
  have aD:IntKind.i64.wrap (q:Int)=(q:Int):=by rw [IntKind.wrap_i64];omega
  have V:=qH (qA hx (qA hy (qA hp hq)));have HR:=qH (show NatR wr.drew B g n c (fnl n (swR f a b i))/\w.grownBy wr.drew (some g) from ⟨hS.o.1.below qB.drew,qb5 hS.o.2 (keepB qB.drew)⟩);have ah:(fnl n (swR f a b i))[p]? = some x:=by rw [qdd _ aj,hx]
  have ai:(fnl n (swR f a b i))[q]? = some y:=by rw [qdd _ ak,hy]
  have HA:=qH (qA ah ai);clear hx hy hp hq ah ai;go_wp2_with fail;refine wp_region_held_drew (S:=fun _=>True) (by kernel_rfl) trivial (fun hS0=>?_);refine hT 0 (h:=hT 1 (h:=hT 2 (h:=hT 3 (h:=hT 4 (h:=hT 5 (h:=hT 6 (h:=hT 7 (h:=hT 8 (h:=hT 9 (h:=hT 10 (h:=hT 11 (h:=hT 12 (h:=hT 14 (h:=hT 15 (h:=hT 16 (h:=hT 17 (h:=hT 18 (h:=?_))))))))))))))))));refine Go.Proofs.YtjalhnlhcdfncaaGreatDoor.gr [(13,29),(19,35),(20,36)] [] [0,1,2,3,4,5,6,7,8,9,10,11,12,14,15,16,17,18] [13,19,20] [] 21 24 (fl2 [(13,fun z _=>z=.int .i64 (y:Int)),(19,fun z _=>z=.int .i64 (x:Int)),(20,fun z _=>z=.pointer (some ⟨g,p,none⟩))]) _ 3
   (hS:=fun _ _=>trivial) (hstep:=⟨⟨_,rfl,fun v w3 F I K hK=>?_⟩,⟨_,rfl,fun v w3 F I K hK=>?_⟩,⟨_,rfl,fun v w3 F I K hK=>?_⟩,trivial⟩) (hend:=fun v w3 F I _ fu=>?_)
  ·have h0:=((HR.o.1.below F).at HA.o.2).1;exact gV hK rfl
  ·have h0:=((HR.o.1.below F).at HA.o.1).1;exact gV hK rfl
  ·exact gV hK rfl
  have Y:v 13=_:=I 13 (by decide) (by decide);have Z:v 19=_:=I 19 (by decide) (by decide);have aa:v 20=_:=I 20 (by decide) (by decide);rw [Y,Z,aa];have O:=HR.o.1.below F;have ae:=qb5 HR.o.2 (keepB F);obtain⟨h0,h1⟩:=O.at HA.o.1;have E:=O.set aj y;have J:=qb5 ae (qb7 w3 g p (.int .i64 (y:Int)));refine hSg 21 (h:=⟨trivial,?_⟩);obtain⟨W5,ag⟩:=qY (w3.setCell ⟨g,p,none⟩ (.int .i64 (y:Int)));rw [<-ag] at E J ⊢;have av:p≠q:=by have h1:=V.o.2.2.1;have h2:=V.o.2.2.2;omega
  have hne:((fnl n (swR f a b i)).set p y)[q]? = some y:=by rw [qbQ av];exact HA.o.2
  obtain⟨h2,h3⟩:=E.at hne;have U:=E.set ak x;have af:=qb5 J (qb7 W5 g q (.int .i64 (x:Int)));have H:((fnl n (swR f a b i)).set p y).set q x=fnl n (swR f a b (i+1)):=by
   rw [<-V.o.1,<-V.o.2.1,qgS,<-V.o.2.2.1,<-V.o.2.2.2,swR_succ (by omega)]
  rw [H] at U;have HE:=qH (qA U af);clear ag h0 h1 O ae E J U af hne Y Z aa F I H;refine hT 22 (hS:=trivial) (h:=?_);refine hSg 23 (h:=⟨trivial,?_⟩);refine wpAnyH_done (by kernel_rfl) ?_ _;clear h2 h3 hS0;go_wp2;go_roundw
  case rel=>exact⟨i+1,by go_num,by omega,HE⟩
  case measure=>simp [intOf] <;> omega
theorem qmH (B g n c a m b:Nat) (f:Nat->Nat) (Z:Value) (w:World) (hn:n<=1000) (hO:NatR w B g n c (fnl n f)) (aG:a<m) (aJ:m<b) (aH:b<=n) :
  Calls prog 247 #[.slice (some ⟨g,0,none⟩) n c,.int .i64 (a:Int),.int .i64 (m:Int),.int .i64 (b:Int),Z] w fun e w'=>e=.returned (.tuple #[])/\w.grownBy w' (some g)/\NatR w' B g n c (fnl n (rot f a m b)):=by
 obtain⟨i0,aj⟩:∃z,m-a=z:=⟨_,rfl⟩;obtain⟨j0,av⟩:∃z,b-m=z:=⟨_,rfl⟩;have ak:(m:Int)-(a:Int)=(i0:Int):=by omega
 have ax:(b:Int)-(m:Int)=(j0:Int):=by omega
 have H0:Hu (∃d,NatR w B g n c (fnl n d)/\w.grownBy w (some g)/\rot d (m-i0) m (m+j0)=rot f a m b):=qH ⟨f,hO,qcw _ _,by rw [show m-i0=a by omega,show m+j0=b by omega]⟩;have F:0<i0/\i0<=m/\0<j0/\m+j0<=n:=by omega
 clear hO aj av;go_enter func247,ntmps247;go_wp2_with fail;clear ak ax
 go_loopw [10,11] (fun x10 x11 W=>∃i j:Nat,x10=.int .i64 (i:Int)/\x11=.int .i64 (j:Int)/\0<i/\i<=m/\0<j/\m+j<=n/\Hu (∃d,NatR W B g n c (fnl n d)/\w.grownBy W (some g)/\rot d (m-i) m (m+j)=rot f a m b)) (fun x10 x11 _=>(intOf x10).toNat+(intOf x11).toNat)
 case atStart=>exact⟨i0,j0,rfl,rfl,F.1,F.2.1,F.2.2.1,F.2.2.2,H0⟩
 case round =>
  obtain⟨i,j,rfl,rfl,hi,H,hj,aa,hS⟩:=hrel;obtain⟨mi,E⟩:∃z,m-i=z:=⟨_,rfl⟩;have aB:(m:Int)-(i:Int)=(mi:Int):=by omega
  have HM:=qH E
  by_cases au:i=j
  ·subst au;have aI:¬((i:Int)≠(i:Int)):=by omega
   have I:Hu (Calls prog 263 #[.slice (some ⟨g,0,none⟩) n c,.int .i64 (mi:Int),.int .i64 (m:Int),.int .i64 (i:Int),Z] wr fun e w'=>e=.returned (.tuple #[])/\w.grownBy w' (some g)/\NatR w' B g n c (fnl n (rot f a m b))):=qH (by
    obtain⟨d,J,O,h3⟩:=hS.o;refine (qhR B g n c mi m i d Z wr hn J (by omega) aa).mono fun e w' ⟨e1,e2,e3⟩=>⟨e1,qb5 O e2,?_⟩
    rw [<-h3,<-rot_eq H,E];exact e3)
   clear E hS;go_wp2_with fail;refine I.o.mono ?_;rintro e w2 ⟨rfl,J,O⟩;have HE:=qH (qA J O);clear J O I;go_wp2_with fail
   go_end0
   exact⟨rfl,HE.o⟩
  have hne:(i:Int)≠(j:Int):=by omega
  by_cases ai:j<i
  ·have ah:(j:Int)<(i:Int):=by omega
   obtain⟨ij,U⟩:∃z,i-j=z:=⟨_,rfl⟩;have az:(i:Int)-(j:Int)=(ij:Int):=by omega
   have V:0<ij/\ij<=m:=by omega
   have I:Hu (Calls prog 263 #[.slice (some ⟨g,0,none⟩) n c,.int .i64 (mi:Int),.int .i64 (m:Int),.int .i64 (j:Int),Z] wr fun e w'=>e=.returned (.tuple #[])/\∃d,NatR w' B g n c (fnl n d)/\w.grownBy w' (some g)/\rot d (m-ij) m (m+j)=rot f a m b):=qH (by
    obtain⟨d,J,O,h3⟩:=hS.o;refine (qhR B g n c mi m j d Z wr hn J (by omega) aa).mono fun e w' ⟨e1,e2,e3⟩=>⟨e1,_,e3,qb5 O e2,?_⟩
    rw [<-h3,<-U,<-E];exact rot_gt hj ai H)
   clear E hS U;go_wp2_with fail;refine I.o.mono ?_;rintro e w2 ⟨rfl,hX⟩;have HE:=qH hX;clear hX I;go_wp2;go_roundw
   case rel=>exact⟨ij,j,by go_num,rfl,V.1,V.2,hj,aa,HE⟩
   case measure=>simp [intOf];omega
  ·have ah:¬((j:Int)<(i:Int)):=by omega
   have ay:i<j:=by omega
   obtain⟨ji,ae⟩:∃z,j-i=z:=⟨_,rfl⟩;have aA:(j:Int)-(i:Int)=(ji:Int):=by omega
   obtain⟨mj,af⟩:∃z,m+j=z:=⟨_,rfl⟩;have aC:(m:Int)+(j:Int)=(mj:Int):=by omega
   obtain⟨mk,ag⟩:∃z,mj-i=z:=⟨_,rfl⟩;have aF:(mj:Int)-(i:Int)=(mk:Int):=by omega
   have Y:0<ji/\m+ji<=n:=by omega
   have aD:mj<=1000:=by omega
   have I:Hu (Calls prog 263 #[.slice (some ⟨g,0,none⟩) n c,.int .i64 (mi:Int),.int .i64 (mk:Int),.int .i64 (i:Int),Z] wr fun e w'=>e=.returned (.tuple #[])/\∃d,NatR w' B g n c (fnl n d)/\w.grownBy w' (some g)/\rot d (m-i) m (m+ji)=rot f a m b):=qH (by
    obtain⟨d,J,O,h3⟩:=hS.o;refine (qhR B g n c mi mk i d Z wr hn J (by omega) (by omega)).mono fun e w' ⟨e1,e2,e3⟩=>⟨e1,_,e3,qb5 O e2,?_⟩
    rw [<-h3,<-ae,<-ag,<-af,<-E];exact rot_lt hi ay H)
   clear E hS ae af ag;go_wp2_with fail;refine I.o.mono ?_;rintro e w2 ⟨rfl,hX⟩;have HE:=qH hX;clear hX I;go_wp2;go_roundw
   case rel=>exact⟨i,ji,rfl,by go_num,hi,H,Y.1,Y.2,HE⟩
   case measure=>simp [intOf];omega
end Go.Proofs.YtjalhnlhcdfncaaGreatDoor
section
namespace Go.Proofs.YtjalhnlhcdfncaaGreatDoor
open Go.RowKit Go.Proofs.Tryz
theorem rot_here {f:Nat->Nat} {j i:Nat} (h:j<=i):rot f j i (i+1) j=f i:=by
 unfold rot
 repeat' split
 all_goals first | omega | (congr 1;omega) | rfl
theorem qoG {f:Nat->Nat} {j i k:Nat} (h:k<j):rot f j i (i+1) k=f k:=by
 unfold rot;rw [if_neg (by omega)]
def Par (T lt:Nat->Nat->Prop) (f:Nat->Nat) (a b:Nat):Prop:=∀i j,a<=i->i<j->j<b->(lt (f j) (f i)↔T (f j) (f i))/\(¬T (f j) (f i)->T (f i) (f j))
theorem Par.ins {T lt:Nat->Nat->Prop} {f I:Nat->Nat} {a b i:Nat} (h:Par T lt f a b) (E:Mer T f I a i) (O:i<b):Mst T lt I a i (i+1):=by
 refine⟨E.inc,fun x y F H J=>by omega,fun x y F H J U=>?_,fun x y F H J U=>?_⟩
 ·obtain rfl:y=i:=by omega
  obtain⟨k,k1,k2,e⟩:=E.mem x F H;rw [E.o y (by omega),e];exact (h k y k1 k2 O).1
 ·obtain rfl:y=i:=by omega
  obtain⟨k,k1,k2,e⟩:=E.mem x F H;rw [E.o y (by omega),e];exact (h k y k1 k2 O).2
theorem Mer.snoc {T:Nat->Nat->Prop} {f H F:Nat->Nat} {a i:Nat} (h:Mer T f H a i) (_O:a<=i) (E:Mer T H F a (i+1)):Mer T f F a (i+1):=by
 refine⟨fun k U=>?_,fun k I J=>?_,E.inc⟩
 ·rw [E.o k U,h.o k (by omega)]
 ·obtain⟨j,j1,j2,e⟩:=E.mem k I J;rw [e];rcases qaB j i with h3 | h3
  ·obtain⟨q,q1,q2,e2⟩:=h.mem j j1 h3;exact⟨q,q1,by omega,e2⟩
  ·exact⟨j,j1,j2,h.o j (by omega)⟩
theorem Mer.all {T:Nat->Nat->Prop} {f F:Nat->Nat} {a b n:Nat} {l:List Nat} (h:Mer T f F a b) (J:b<=n) (H:∀k,k<n->f k∈l):∀k,k<n->F k∈l:=fun k I=>by
 by_cases E:a<=k/\k<b
 ·obtain⟨j,_,j2,e⟩:=h.mem k E.1 E.2;rw [e];exact H j (by omega)
 ·rw [h.o k E];exact H k I
theorem qkz (T lt:Nat->Nat->Prop) [DecidableRel lt] (ht:∀x y z,T x y->T y z->T x z) (cf:Nat->Nat->Int) (F:Nat) (cb:Array Value) (B g n c:Nat) (l:List Nat) (hn:n<=1000) (aH:∀x∈l,∀y∈l,cf x y<0↔lt x y)
  (hF:∀a b W,(callFunc F (#[a,b]++cb)).run prog W=.ok (.enter F (#[a,b]++cb)) W) (a b:Nat) (f:Nat->Nat) (w:World) (aX:a<=b) (aY:b<=n) (hO:NatR w B g n c (fnl n f)) (aI:∀k,k<n->f k∈l) (hP:Par T lt f a b) (hC:CmpOk F cb g l cf w) :
  Calls prog 203 #[.slice (some ⟨g,0,none⟩) n c,.int .i64 (a:Int),.int .i64 (b:Int),.func (.func F) #[] cb] w fun e w'=>e=.returned (.tuple #[])/\w.grownBy w' (some g)/\∃f',NatR w' B g n c (fnl n f')/\Mer T f f' a b:=by
 have HC:=qH (qA hC (qA aH (qA ht (qA aI hP))));have H0:Hu (∃E,NatR w B g n c (fnl n E)/\Mer T f E a (min (a+1) b)/\w.grownBy w (some g)):=qH ⟨f,hO,Mer.refl fun i j h1 Y h3=>by omega,qcw _ _⟩;clear hC aH ht aI hP hO;obtain⟨a1,aP⟩:∃z,a+1=z:=⟨_,rfl⟩;have aQ:(a:Int)+1=(a1:Int):=by omega
 rw [aP] at H0;go_enter func203,ntmps203;go_wp2_with fail;clear aQ
 go_loopw [8] (fun x8 W=>∃i:Nat,x8=.int .i64 (i:Int)/\a1<=i/\i<=b+1/\Hu (∃E,NatR W B g n c (fnl n E)/\Mer T f E a (min i b)/\w.grownBy W (some g))) (fun x8 _=>b+1-(intOf x8).toNat)
 case atStart=>exact⟨a1,rfl,qad _,by omega,H0⟩
 case round =>
  obtain⟨i,rfl,aZ,bf,hS⟩:=hrel
  by_cases hi:i<b
  case neg =>
   have aS:¬(i:Int)<(b:Int):=by omega
   have HE:Hu (w.grownBy wr (some g)/\∃f',NatR wr B g n c (fnl n f')/\Mer T f f' a b):=qH (by
    obtain⟨E,h1,Y,h3⟩:=hS.o;rw [Nat.min_eq_right (by omega)] at Y;exact⟨h3,E,h1,Y⟩)
   go_wp2_with fail
   go_end0
   exact⟨rfl,HE.o⟩
  have aS:(i:Int)<(b:Int):=by omega
  have HI:Hu (∃d E,d=rot E i i (i+1)/\Mer T f E a i/\(∀k,i<=k->k<i->lt (E i) (E k))/\NatR wr B g n c (fnl n d)/\w.grownBy wr (some g)):=qH (by
   obtain⟨E,h1,Y,h3⟩:=hS.o;rw [qaS (by omega)] at Y;exact⟨E,E,(qlH E i (i+1)).symm,Y,fun k k1 k2=>by omega,h1,h3⟩)
  clear hS;go_wp2_with fail
  go_loopw [9] (fun x9 W=>∃j:Nat,x9=.int .i64 (j:Int)/\a<=j/\j<=i/\Hu (∃d E,d=rot E j i (i+1)/\Mer T f E a i/\(∀k,j<=k->k<i->lt (E i) (E k))/\NatR W B g n c (fnl n d)/\w.grownBy W (some g))) (fun x9 _=>(intOf x9).toNat)
  case atStart=>exact⟨i,rfl,by omega,qad _,HI⟩
  case round =>
   obtain⟨j,rfl,aR,aM,hI⟩:=hrel;have stop:∀W,(∃d E,d=rot E j i (i+1)/\Mer T f E a i/\(∀k,j<=k->k<i->lt (E i) (E k))/\NatR W B g n c (fnl n d)/\w.grownBy W (some g)/\(j=a\/¬lt (E i) (E (j-1))))->∃E,NatR W B g n c (fnl n E)/\Mer T f E a (min (i+1) b)/\w.grownBy W (some g):=fun W ⟨d,E,h1,Y,h3,h4,h5,h6⟩=>by
    rw [qaS (by omega)];have hm:=HC.o.2.2.2.2.ins Y hi;refine⟨d,h4,Y.snoc (by omega) ?_,h5⟩;rw [h1];refine qjx hm aR aM (fun k k1 k2 k3=>?_) h3;rcases h6 with h6 | h6
    ·omega
    ·exact h6 (hm.up HC.o.2.2.1 qN (qbU _) k1 (by omega) (by omega) k3)
   have U:=qH stop;clear stop
   by_cases bg:a<j
   case neg =>
    have aL:¬((a:Int)<(j:Int)):=by omega
    have HE:Hu (∃E,NatR wr.drew B g n c (fnl n E)/\Mer T f E a (min (i+1) b)/\w.grownBy wr.drew (some g)):=qH (by
     obtain⟨d,E,h1,Y,h3,h4,h5⟩:=hI.o;exact U.o _ ⟨d,E,h1,Y,h3,h4.below qB.drew,qb5 h5 (keepB qB.drew),.inl (by omega)⟩)
    clear hI U;go_wp2_with fail;refine wp_region_held_drew (S:=fun _=>True) (by kernel_rfl) trivial (fun hS0=>?_);refine hT 0 (h:=hT 1 (h:=hT 2 (h:=hT 3 (h:=hU 4 (h:=hU 5 (h:=hU 6 (h:=hU 7 (h:=hU 8 (h:=hU 9 (h:=hU 10 (h:=hU 11 (h:=hU 12 (h:=hU 13 (h:=hU 14 (h:=hU 15 (h:=hT 16 (h:=?_)))))))))))))))));refine wpAnyH_done (by kernel_rfl) ?_ _;go_wp2;go_roundw
    case rel=>exact⟨i+1,by go_num,by omega,by omega,HE⟩
    case measure=>simp [intOf] <;> omega
   have aL:(a:Int)<(j:Int):=by omega
   obtain⟨d,E,hd,hm,ah,aa,ai⟩:=hI.o;have ax:=hm.all (by omega) HC.o.2.2.2.1;obtain⟨j1,aK⟩:∃z,j-1=z:=⟨_,rfl⟩;have aU:(j:Int)-1=(j1:Int):=by omega
   have ay:j<n:=by omega
   have V:j1<n:=by omega
   have bi:(j:Int)<(n:Int):=by omega
   have aV:(j1:Int)<(n:Int):=by omega
   have bn:IntKind.i64.wrap (j:Int)=(j:Int):=by rw [IntKind.wrap_i64];omega
   have aW:IntKind.i64.wrap (j1:Int)=(j1:Int):=by rw [IntKind.wrap_i64];omega
   obtain⟨x,hx⟩:=qX (E i);obtain⟨y,hy⟩:=qX (E j1);have J:=qdd (n:=n) d ay;have O:=qdd (n:=n) d V;rw [hd,rot_here aM,hx] at J;rw [hd,qoG (by omega),hy] at O;rw [<-hd] at J O;obtain⟨cx,fx⟩:=aa.at J;obtain⟨cy,fy⟩:=aa.at O;have aJ:=qae wr _ cx;have bx:∀W,Below wr.heap.size wr W->W.cell? ⟨g,j,none⟩=some (.int .i64 (x:Int)):=fun W Z=>(Z.cell (p:=⟨g,j,none⟩) aJ).trans cx
   have bY:∀W,Below wr.heap.size wr W->W.cell? ⟨g,j1,none⟩=some (.int .i64 (y:Int)):=fun W Z=>(Z.cell (p:=⟨g,j1,none⟩) aJ).trans cy
   have az:x∈l:=hx▸ax i (by omega);have aA:y∈l:=hy▸ax j1 V;have HK:=qH (HC.o.1 wr.drew (qb5 ai (keepB qB.drew)) x az y aA);have H:=qH (qA (HC.o.2.1 x az y aA) (qA hx (qA hy (qA aa (qA ai (qA hd (qA hm (qA ah aK))))))));clear J O cx fx cy fy az aA aa ai hx hy hd hm ah aK hI ax;go_wp2_with fail;refine wp_region_held_drew (S:=fun W=>Below wr.heap.size wr W) (by kernel_rfl) qB.drew (fun hS0=>?_);refine hT 0 (h:=hT 1 (h:=hT 2 (h:=hT 3 (h:=hT 4 (h:=hT 5 (h:=hT 6 (h:=hT 7 (h:=hT 8 (h:=hT 9 (h:=hT 10 (h:=hT 11 (h:=hT 12 (h:=hT 13 (h:=?_))))))))))))));refine hC 14 HK.o (h:=?_);rintro e w2 ⟨rfl,av⟩;have I:=qcm av;refine⟨_,rfl,I,hN (h:=?_)⟩;have HW:=qH (qA (H.o.2.2.2.1.below I) (qb5 H.o.2.2.2.2.1 (keepB I)))
   by_cases af:cf x y<0
   ·refine hT 15 (hS:=I) (h:=hT 16 (hS:=I) (h:=?_));refine wpAnyH_done (by kernel_rfl) ?_ _;have aO:Hu (lt (E i) (E j1)):=qH (by rw [H.o.2.1,H.o.2.2.1];exact H.o.1.1 af);obtain⟨wn,aN⟩:∃u,u=w2:=⟨_,rfl⟩;rw [<-aN] at HW ⊢;clear aN I av hS0 bx bY af HK;obtain⟨x2,hx⟩:∃x,d j=x:=⟨_,rfl⟩;obtain⟨y2,hy⟩:∃y,d j1=y:=⟨_,rfl⟩;have J:=qdd (n:=n) d ay;have O:=qdd (n:=n) d V;rw [hx] at J;rw [hy] at O;have HA:=qH (qA J (qA O (qA hx hy)));have HR:=HW;clear J O hx hy;go_wp2_with fail;refine wp_region_held_drew (S:=fun _=>True) (by kernel_rfl) trivial (fun hS0=>?_);refine hT 0 (h:=hT 1 (h:=hT 2 (h:=hT 3 (h:=hT 4 (h:=hT 5 (h:=hT 6 (h:=hT 7 (h:=hT 8 (h:=hT 10 (h:=hT 11 (h:=hT 12 (h:=?_))))))))))));refine Go.Proofs.YtjalhnlhcdfncaaGreatDoor.gr [(9,46),(13,50),(14,51)] [] [0,1,2,3,4,5,6,7,8,10,11,12] [9,13,14] [] 15 18 (fl2 [(9,fun z _=>z=.int .i64 (y2:Int)),(13,fun z _=>z=.int .i64 (x2:Int)),(14,fun z _=>z=.pointer (some ⟨g,j,none⟩))]) _ 3
     (hS:=fun _ _=>trivial) (hstep:=⟨⟨_,rfl,fun v w3 Z hF K hK=>?_⟩,⟨_,rfl,fun v w3 Z hF K hK=>?_⟩,⟨_,rfl,fun v w3 Z hF K hK=>?_⟩,trivial⟩) (hend:=fun v w3 Z hF _ fu=>?_)
    ·have h0:=((HR.o.1.below (qcm Z)).at HA.o.2.1).1;exact gV hK rfl
    ·have h0:=((HR.o.1.below (qcm Z)).at HA.o.1).1;exact gV hK rfl
    ·exact gV hK rfl
    have e9:v 9=_:=hF 9 (by decide) (by decide);have aB:v 13=_:=hF 13 (by decide) (by decide);have aC:v 14=_:=hF 14 (by decide) (by decide);rw [e9,aB,aC];have ak:=HR.o.1.below (qcm Z);have aD:=qb5 HR.o.2 (keepB (qcm Z));obtain⟨h0,h1⟩:=ak.at HA.o.1;have ae:=ak.set ay y2;have aj:=qb5 aD (qb7 w3 g j (.int .i64 (y2:Int)));refine hSg 15 (h:=⟨trivial,?_⟩);obtain⟨W5,aG⟩:=qY (w3.setCell ⟨g,j,none⟩ (.int .i64 (y2:Int)));rw [<-aG] at ae aj ⊢;have hne:((fnl n d).set j y2)[j1]? = some y2:=by rw [qbQ (by omega)];exact HA.o.2.1
    obtain⟨Y,h3⟩:=ae.at hne;have au:=ae.set V x2;have aF:=qb5 aj (qb7 W5 g j1 (.int .i64 (x2:Int)));have ag:((fnl n d).set j y2).set j1 x2=fnl n (rot E j1 i (i+1)):=by
     rw [<-HA.o.2.2.1,<-HA.o.2.2.2,qgS,H.o.2.2.2.2.2.1];have aT:j=j1+1:=by have:=H.o.2.2.2.2.2.2.2.2;omega
     rw [aT];exact congrArg (fnl n) (qir (by omega))
    rw [ag] at au;have HE:=qH (qA au aF);clear aG h0 h1 ak aD ae aj au aF hne e9 aB aC Z hF ag;refine hT 16 (hS:=trivial) (h:=?_);refine hSg 17 (h:=⟨trivial,?_⟩);refine wpAnyH_done (by kernel_rfl) ?_ _;clear Y h3 hS0;go_wp2;go_roundw
    case rel=>exact⟨j1,by go_num,by have:=H.o.2.2.2.2.2.2.2.2;omega,by have:=H.o.2.2.2.2.2.2.2.2;omega,qH ⟨_,E,rfl,H.o.2.2.2.2.2.2.1,fun k k1 k2=>by
     rcases qaB k j with h | h
     ·have h9:=H.o.2.2.2.2.2.2.2.2;obtain rfl:k=j1:=by omega
      exact aO.o
     ·exact H.o.2.2.2.2.2.2.2.1 k h k2,HE.o.1,HE.o.2⟩⟩
    case measure=>simp [intOf] <;> omega
   ·refine hT 15 (hS:=I) (h:=hT 16 (hS:=I) (h:=?_));refine wpAnyH_done (by kernel_rfl) ?_ _;have HE:Hu (∃E,NatR w2 B g n c (fnl n E)/\Mer T f E a (min (i+1) b)/\w.grownBy w2 (some g)):=qH (U.o _ ⟨d,E,H.o.2.2.2.2.2.1,H.o.2.2.2.2.2.2.1,H.o.2.2.2.2.2.2.2.1,HW.o.1,HW.o.2,.inr fun h=>af (H.o.1.2 (by
     rw [H.o.2.2.2.2.2.2.2.2,H.o.2.1,H.o.2.2.1] at h;exact h))⟩)
    clear I av hS0 bx bY af HK;go_wp2;go_roundw
    case rel=>exact⟨i+1,by go_num,by omega,by omega,HE⟩
    case measure=>simp [intOf] <;> omega
   end Go.Proofs.YtjalhnlhcdfncaaGreatDoor
