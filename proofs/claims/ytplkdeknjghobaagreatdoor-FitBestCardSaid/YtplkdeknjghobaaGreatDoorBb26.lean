import Derived.Deep.SlicePairs
import Derived.Test.YtplkdeknjghobaaGreatDoorBb25
set_option maxRecDepth 100000
set_option maxHeartbeats 0
namespace Go.Proofs.YtplkdeknjghobaaGreatDoor
open Go.RowKit Go.Proofs.Tryz
def ElG (m:Md) (W:World) (v:Value):Prop:=∃n,MdOk m 1 n/\ElOk m n/\∃(B:Nat) (H F:Value),v=.agg #[.int .i64 2,.slice none 0 0,H,F,.slice none 0 0,.int .i64 0,.slice none 0 0,.slice none 0 0,.int .i64 0,.int .i64 0]/\ElTo W B m n 3 3 H F
def ElF (m:Md) (e:Int):Prop:=(¬qdz m/\e=320)\/(qdz m/\m.kind≠1/\e=5)\/(∃n,MdOk m 1 n/\¬ElOk m n/\e=6)
theorem qeM {W:World} {F:Nat} {I H:Value} (h:W.heap[F]? = some (.cells #[.int .i64 2,.slice none 0 0,I,H,.slice none 0 0,.int .i64 0,.slice none 0 0,.slice none 0 0,.int .i64 0,.int .i64 0] 82 (0,0))):W.cell? ⟨F,2,none⟩=some I/\W.cell? ⟨F,3,none⟩=some H/\∀j,W.frozen? ⟨F,j,none⟩=false :=
 ⟨qC _ _ 2 _ _ _ h,qC _ _ 3 _ _ _ h,fun _j=>qF _ _ _ _ _ h⟩
structure ElSt (w2:World) (W:World) (m:Md) (n i j:Nat) (vr vo:Value):Prop where
 old:Below w2.heap.size w2 W
 row:W.heap[w2.heap.size]? = some (.cells #[.int .i64 2,.slice none 0 0,vr,vo,.slice none 0 0,.int .i64 0,.slice none 0 0,.slice none 0 0,.int .i64 0,.int .i64 0] 82 (0,0))
 tos:ElTo W (w2.heap.size+1) m n i j vr vo
theorem ElSt.below {J W W':World} {m:Md} {n i j:Nat} {I H:Value} (h:ElSt J W m n i j I H) (F:Below W.heap.size W W'):ElSt J W' m n i j I H :=
 ⟨h.old.trans (F.mono h.old.size),zkeep F _ _ h.row,h.tos.below F⟩
instance stays_elst {J:World} {m:Md} {n i j:Nat} {I H:Value}:Stays fun W=>ElSt J W m n i j I H:=⟨fun h F=>h.below F⟩
theorem qfp {W:World} {g:Nat} {q:List Int} {t:TypeId} (h:W.heap[g]? = some (.cells (q.map fun z=>Value.int .i64 z).toArray t (0,0))) (off:Nat):NCells W (some ⟨g,off,none⟩) g off (q.drop off) :=
 ⟨fun _=>rfl,fun k F=>by
  rw [qbd] at F;refine (qC _ _ _ _ _ _ h).trans ?_;rw [qau,qay,qaa,List.getElem?_drop,qad (by omega)];rfl⟩
theorem qg3 {W:World} (g k:Nat) (v:Value):W.grownBy (W.setCell ⟨g,k,none⟩ v) (some g):=qbW W g k v
theorem el1_any (m:Md) (mb:Nat) (a:Nat->Option Addr) (b' o d:Nat->Nat) (w:World) (cO:∀q,q<3->(m.row q).length<=4611686018427387904)
  (bD:w.heap[mb]? = some (.cells #[.int .i64 m.kind,.int .i64 m.inn,.slice (a 0) (m.row 0).length (d 0),.slice (a 1) (m.row 1).length (d 1),.slice (a 2) (m.row 2).length (d 2)] 38 (0,0))) (V:∀q,q<3->FCells w (a q) (b' q) (o q) (m.row q)) (hT:HasT w) (hE:HasE w) :
  Calls prog 89 #[.pointer (some ⟨mb,0,none⟩)] w fun e w'=>Below w.heap.size w w' /\
   ((∃(p2:Option Addr) (n2 c2:Nat) (p3:Option Addr) (n3 c3:Nat),e=.returned (.agg #[.int .i64 2,.slice none 0 0,.slice p2 n2 c2,.slice p3 n3 c3,.slice none 0 0,.int .i64 0,.slice none 0 0,.slice none 0 0,.int .i64 0,.int .i64 0])/\ElG m w' (.agg #[.int .i64 2,.slice none 0 0,.slice p2 n2 c2,.slice p3 n3 c3,.slice none 0 0,.int .i64 0,.slice none 0 0,.slice none 0 0,.int .i64 0,.int .i64 0]))\/∃c,e=thrown c/\ElF m c):=by
 obtain⟨W1,bO,N1⟩:=nw1 w #[.int .i64 0,.slice none 0 0,.slice none 0 0,.slice none 0 0,.slice none 0 0,.int .i64 0,.slice none 0 0,.slice none 0 0,.int .i64 0,.int .i64 0] 82;have hM:MdAt W1 (.agg #[.int .i64 m.kind,.int .i64 m.inn,.slice (a 0) (m.row 0).length (d 0),.slice (a 1) (m.row 1).length (d 1),.slice (a 2) (m.row 2).length (d 2)]) m :=
  ⟨_,_,_,_,_,_,_,_,_,_,_,_,rfl,(V 0 (by decide)).below N1.o.1,(V 1 (by decide)).below N1.o.1,(V 2 (by decide)).below N1.o.1⟩
 have bg:=qfN m _ W1 hM cO;obtain⟨kind,ak⟩:∃z,m.kind=z:=⟨_,rfl⟩;obtain⟨inn,aG⟩:∃z,m.inn=z:=⟨_,rfl⟩;obtain⟨L,hL⟩:∃L:Nat->Nat,∀q,(m.row q).length=L q:=⟨_,fun _=>rfl⟩;rw [ak,aG,hL,hL,hL] at bD bg;have bH:=qH bg;have K1:=N1.also (q:=fun W=>W.heap[mb]? = some (.cells #[.int .i64 kind,.int .i64 inn,.slice (a 0) (L 0) (d 0),.slice (a 1) (L 1) (d 1),.slice (a 2) (L 2) (d 2)] 38 (0,0))/\HasT W/\HasE W) ⟨zkeep N1.o.1 _ _ bD,hT.below N1.o.1,hE.below N1.o.1⟩;have c0:=qC _ _ 0 _ _ _ K1.o.2.1;have c1:=qC _ _ 1 _ _ _ K1.o.2.1;have c2:=qC _ _ 2 _ _ _ K1.o.2.1;have c3:=qC _ _ 3 _ _ _ K1.o.2.1;have c4:=qC _ _ 4 _ _ _ K1.o.2.1;have HX:=qH (qA ak (qA aG (qA hL V)));have ek:=@hmf_ prog;clear N1 hM bg bD V hT hE cO ak aG hL;go_enter func89,ntmps89;go_upto_region 1 with fail;rw [<-bO];clear bO;go_wp2_with fail;refine bH.o.mono ?_;rintro e I ⟨cc,rfl,dJ,bR⟩;have K2:=K1.below bR;clear bR K1 bH c0 c1 c2 c3 c4;rcases dJ with ⟨rfl,dh⟩ | ⟨rfl,df⟩
 case inr =>
  have HN:=qH df;clear df;go_wp2_with fail;refine (qcj 320 (by decide) _).mono ?_;rintro e Y ⟨rfl,rfl⟩;unfold thrown;go_wp2_with fail;exact⟨rfl,K2.o.1.1,qag ⟨320,rfl,qan ⟨HN.o,rfl⟩⟩⟩
 have bf:=qH dh;clear dh;go_wp2_with fail;refine (qeu _).mono ?_;rintro e Y ⟨rfl,hw⟩;subst hw;have c0:=qC _ _ 0 _ _ _ K2.o.2.1
 by_cases aP:kind=1
 case neg =>
  have HK:=qH aP;have ed:(kind != 1)=true:=by rw [bne_iff_ne];exact aP
  clear aP;go_wp2_with fail;refine (qcj 5 (by decide) _).mono ?_;rintro e Y ⟨rfl,rfl⟩;unfold thrown;go_wp2_with fail;exact⟨rfl,K2.o.1.1,qag ⟨5,rfl,qag (qan ⟨bf.o,by rw [HX.o.1];exact HK.o,rfl⟩)⟩⟩
 obtain⟨n,az⟩:∃n,MdOk m 1 n:=by
  obtain⟨kk,n,h⟩:=bf.o;have h1:=h.kind.1;have h2:=HX.o.1;obtain rfl:kk=1:=by omega
  exact⟨n,h⟩
 have eu:=az.inn.2.1;have eB:=az.inn.2.2;have HM:=qH az;have ae:Hu (∀c,c<3->L c=n+1/\FAll (m.row c)):=qH fun c hc=>by
  obtain⟨h1,h2⟩:=az.rows c hc;rw [HX.o.2.2.1] at h1;exact⟨h1.trans (by unfold many;rw [if_pos rfl];omega),h2⟩
 clear az bf;subst aP;obtain⟨W5,bP,N5⟩:=nw1 I #[.int .i64 2,.slice none 0 0,.slice none 0 0,.slice none 0 0,.slice none 0 0,.int .i64 0,.slice none 0 0,.slice none 0 0,.int .i64 0,.int .i64 0] 82;have K3:Kn (fun W=>(Below w.heap.size w W/\W.heap[w.heap.size]? = some (.cells #[.int .i64 0,.slice none 0 0,.slice none 0 0,.slice none 0 0,.slice none 0 0,.int .i64 0,.slice none 0 0,.slice none 0 0,.int .i64 0,.int .i64 0] 82 (0,0)))/\W.heap[mb]? = some (.cells #[.int .i64 1,.int .i64 inn,.slice (a 0) (n+1) (d 0),.slice (a 1) (n+1) (d 1),.slice (a 2) (n+1) (d 2)] 38 (0,0))/\HasT W/\HasE W) I:=.of ⟨K2.o.1,by
  have h:=K2.o.2.1
  rwa [(ae.o 0 (by decide)).1,(ae.o 1 (by decide)).1,(ae.o 2 (by decide)).1] at h,K2.o.2.2⟩
 have H0:Hu (ElSt I W5 m n 0 0 (.slice none 0 0) (.slice none 0 0)):=qH ⟨N5.o.1,N5.o.2,⟨⟨rfl,qan ⟨rfl,rfl⟩⟩,[],⟨rfl,qan ⟨rfl,rfl⟩⟩,fun c hc=>absurd hc (by omega)⟩⟩;have aL:=qH (qA (ae.o 0 (by decide)).1 (qA (ae.o 1 (by decide)).1 (ae.o 2 (by decide)).1));rw [aL.o.1,aL.o.2.1,aL.o.2.2];clear K2 aL;go_upto_region 5 with fail;rw [<-bP];have aR:=zkeep N5.o.1 _ _ K3.o.2.1;clear bP c0 N5;have c2:=qC _ _ 2 _ _ _ aR;have c3:=qC _ _ 3 _ _ _ aR;have c4:=qC _ _ 4 _ _ _ aR;clear aR;go_wp2_with fail;clear c2 c3 c4
 go_loopw [21] (fun x21 W=>∃j:Nat,x21=.int .i64 j/\j<=3/\Hu (∃vr vo,ElSt I W m n j j vr vo/\∀c,c<j->∀k,k<n+1->qil (elz m c k))) (fun x21 _=>3-(intOf x21).toNat)
 case atStart=>exact⟨0,rfl,qal _,qH ⟨_,_,H0.o,fun c hc=>absurd hc (by omega)⟩⟩
 case round =>
  obtain⟨j,rfl,hj,hI⟩:=hrel;obtain⟨vr,vo,hS,aS⟩:=hI.o
  by_cases ah:j<3
  ·have d9:(j:Int)<3:=by omega
   have HS:=qH (qA hS aS);clear hI hS aS;obtain⟨aj,bu⟩:∃z,a j=z:=⟨_,rfl⟩;obtain⟨dj,bT⟩:∃z,d j=z:=⟨_,rfl⟩;have dQ:∀W,(Instr.index 36 (.agg #[.slice (a 0) (n+1) (d 0),.slice (a 1) (n+1) (d 1),.slice (a 2) (n+1) (d 2)]) (.int .i64 (j:Int))).run prog W=.ok (.slice aj (n+1) dj) W:=fun W=>by
    rw [<-bu,<-bT];rcases (show j=0\/j=1\/j=2 by omega) with rfl | rfl | rfl <;> kernel_rfl
   have bi:=(HX.o.2.2.2 j ah).below (K3.o.1.1.trans (HS.o.1.old.mono K3.o.1.1.size));rw [bu] at bi;have bI:=qH bi;clear bi bu bT;obtain⟨W6,bQ,N6⟩:=nw3 wr #[.slice aj (n+1) dj] 35 #[.int .i64 10000] 3 #[.int .i64 1] 3
   go_upto_if 26 with fail
   rw [<-bQ];clear bQ dQ
   go_cut [7] (fun x7 W=>x7=.int .i64 (elM j)/\Kn (fun W=>Below wr.heap.size wr W/\W.heap[wr.heap.size]? = some (.cells #[.slice aj (n+1) dj] 35 (0,0))/\W.heap[wr.heap.size+1]? = some (.cells #[.int .i64 (elN j:Int)] 3 (0,0))/\W.heap[wr.heap.size+1+1]? = some (.cells #[.int .i64 (elD j:Int)] 3 (0,0))) W)
   case first =>
    by_cases dZ:(j:Int) > 0
    ·have c5:=qC _ _ 0 _ _ _ N6.o.2.2.1;have c6:=qC _ _ 0 _ _ _ N6.o.2.2.2;have f5:=qF _ _ 0 _ _ N6.o.2.2.1;have f6:=qF _ _ 0 _ _ N6.o.2.2.2;go_wp2;go_meet;have e1:elN j=15625:=by unfold elN;rw [if_neg (by omega)]
     have e2:elD j=4:=by unfold elD;rw [if_neg (by omega)]
     have e3:elM j=500000:=by unfold elM;rw [if_neg (by omega)]
     rw [e1,e2,e3];refine⟨rfl,.of ⟨(N6.o.1.setCell (p:=⟨wr.heap.size+1,0,none⟩) (qbB _) _).setCell (p:=⟨wr.heap.size+1+1,0,none⟩) (by show wr.heap.size<=wr.heap.size+1+1;omega) _,?_,?_,?_⟩⟩
     ·rw [qW _ _ _ _ (show wr.heap.size≠wr.heap.size+1+1 by omega),qW _ _ _ _ (show wr.heap.size≠wr.heap.size+1 by omega)];exact N6.o.2.1
     ·rw [qW _ _ _ _ (show wr.heap.size+1≠wr.heap.size+1+1 by omega)];exact qfa N6.o.2.2.1 _
     ·exact qfa ((qW _ _ _ _ (show wr.heap.size+1+1≠wr.heap.size+1 by omega)).trans N6.o.2.2.2) _
    ·obtain rfl:j=0:=by omega
     go_wp2;go_meet;exact⟨rfl,N6⟩
   case rest =>
    obtain⟨rfl,K6⟩:=hcut;have bK:=(qkh j).1;have bL:=(qkh j).2;obtain⟨M,bn⟩:=qX (elM j);have hA:=(ae.o j ah).2;have cB:(m.row j).length=n+1:=by rw [HX.o.2.2.1];exact (ae.o j ah).1
    have K7:=(K6.also (q:=fun W=>ElSt I W m n j j vr vo/\HasT W/\HasE W) ⟨HS.o.1.below K6.o.1,(K3.o.2.2.1.below HS.o.1.old).below K6.o.1,(K3.o.2.2.2.below HS.o.1.old).below K6.o.1⟩);have hg:GivesI 91 #[.pointer (some ⟨wr.heap.size,0,none⟩),.pointer (some ⟨wr.heap.size+1,0,none⟩),.pointer (some ⟨wr.heap.size+1+1,0,none⟩)] wc (n+1) (fun i z=>(-100000000000<=nearZ (lval (m.row j) i) (elN j)/\nearZ (lval (m.row j) i) (elN j)<=100000000000)/\z=nearT (lval (m.row j) i) (elN j) (elD j)) (fun i c=>¬(-100000000000<=nearZ (lval (m.row j) i) (elN j)/\nearZ (lval (m.row j) i) (elN j)<=100000000000)/\c=6):=by
     intro i hi W O;refine (el11_any (elN j) (elD j) (elND j) i (n+1) wr.heap.size (wr.heap.size+1) (wr.heap.size+1+1) (b' j) (o j) dj aj (m.row j) W cB (by omega) hi hA (zkeep O _ _ K7.o.1.2.1) (zkeep O _ _ K7.o.1.2.2.1) (zkeep O _ _ K7.o.1.2.2.2) ((bI.o.below K7.o.1.1).below O) (K7.o.2.2.1.below O) (K7.o.2.2.2.below O)).mono ?_;rintro e w' ⟨h1,h2⟩;refine⟨h1,?_⟩;rcases h2 with ⟨h3,rfl⟩ | ⟨h3,rfl⟩
     ·exact qan ⟨_,rfl,h3,rfl⟩
     ·exact qag ⟨6,rfl,h3,rfl⟩
    have HG:=qH (qjG 91 #[.pointer (some ⟨wr.heap.size,0,none⟩),.pointer (some ⟨wr.heap.size+1,0,none⟩),.pointer (some ⟨wr.heap.size+1+1,0,none⟩)] (n+1) (by omega) _ _ wc (fun a W=>enters func91 (by kernel_rfl) (by kernel_rfl) _ W) hg);have p5:=qC _ _ 0 _ _ _ K7.o.1.2.1;have dE:=qH bn;rw [bn] at bK bL ⊢;clear hg hA cB K6 N6 bn;go_wp2_with fail;refine HG.o.mono ?_;rintro e w6 ⟨aN,h⟩;rcases h with ⟨l,g,hl,hP,rfl,hV,bY⟩ | ⟨i,cc,hi,rfl,h3,rfl⟩
    case inr =>
     have dD:=qH (K3.o.1.1.trans ((K7.o.2.1.old.trans (aN.mono K7.o.2.1.old.size)).mono K3.o.1.1.size));have HE:=qH (qA hi h3);clear aN hi h3 HG;unfold thrown;go_wp2_with fail;refine⟨rfl,dD.o,qag ⟨6,rfl,qag (qag ⟨n,HM.o,fun h=>HE.o.2 ?_,rfl⟩)⟩⟩;have:=h j ah i HE.o.1;unfold elz at this;refine el_near (M:=if i=0 then elM j else 0) ?_ ?_ this
     ·split
      ·exact (qkh j).1
      ·exact Int.le_refl _
     ·split
      ·exact (qkh j).2
      ·decide
    obtain⟨z0,lt,rfl⟩:∃z0 lt,l=z0 :: lt:=by
     cases l with
     | nil=>simp at hl
     | cons z0 lt=>exact⟨z0,lt,rfl⟩
    have aT:=(hP 0 (by omega));have cK:lt.length=n:=by simpa using hl
    have aU:=qfP (q:=lval (m.row j) 0) (n:=elN j) (d:=elD j) (B:=100000000000) (by rcases elND j with ⟨_,h⟩ | ⟨_,h⟩ <;> omega) aT.1.1 aT.1.2;have bG:z0=nearT (lval (m.row j) 0) (elN j) (elD j):=aT.2;rw [<-bG] at aU;have dR:=aU.1;have dS:=aU.2;have av:w6.heap[g]? = some (.cells (Value.int .i64 z0 :: lt.map fun z=>Value.int .i64 z).toArray 3 (0,0)):=by
     have h:=hV.1;rw [qav,hl,qaG,List.replicate_zero,List.append_nil] at h;exact h
    have g0:w6.cell? ⟨g,0,none⟩=some (.int .i64 z0):=qC _ _ 0 _ _ _ av;have gf:=qF _ _ 0 _ _ av;obtain⟨W7,aM⟩:=qY (w6.setCell ⟨g,0,none⟩ (.int .i64 (z0+M)));obtain⟨q,hq⟩:=qY ((z0+M) :: lt);have dm:q.length=n+1:=by rw [hq];simpa using cK
    have dn:∀k,k<n+1->q.getD k 0=elz m j k:=fun k hk=>by
     rw [hq];cases k with
     | zero =>
      show z0+M=_
      unfold elz;rw [if_pos rfl,<-dE.o,bG]
     | succ k =>
      show lt.getD k 0=_
      unfold elz;rw [if_neg (by omega),Int.add_zero];exact (hP (k+1) hk).2
    have K8:=K7.below aN;have F:W7.heap[g]? = some (.cells (q.map fun z=>Value.int .i64 z).toArray 3 (0,0)):=by
     rw [aM,heap_setCell_same _ g 0 _ _ _ av,hq,qaA,qbk];rfl
    have dL:wr.heap.size<=g:=qaj K7.o.1.1.size bY;have aB:=K8.o.2.1;have dN:=HS.o.1.old.size;have bU:g≠I.heap.size:=by
     have:=(qG HS.o.1.row).1;omega
    have bV:I.heap.size+1<=g:=by
     have:=(qG HS.o.1.row).1;omega
    have U:w6.grownBy W7 (some g):=aM▸qg3 g 0 _;have bN:ElSt I W7 m n j j vr vo:=by
     refine⟨aB.old.trans ⟨U.os,U.tape,U.output,U.size,fun k hk=>U.block k (qai hk aB.old.size) (fun e=>by have:=qah e;omega)⟩,(U.block _ (qG aB.row).1 (fun e=>bU (qah e).symm)).trans aB.row,?_⟩;have:ElTo wr (I.heap.size+1) m n j j vr vo:=HS.o.1.tos;have dI:Below wr.heap.size wr W7:=(K8.o.1.1).trans ⟨U.os,U.tape,U.output,U.size,fun k hk=>U.block k (qai hk K8.o.1.1.size) (fun e=>by have:=qah e;omega)⟩;exact this.below dI
    have bA:∀{B:Nat} {e:TypeId} {s i:Nat} {x:Value} {xs:List Value},wr.ownsRow B e s x i xs->x.ownBlock≠some g:=fun {B e s i x xs} hx e1=>by
     have:=(hx.lt g e1).2;omega
    have dB:vo.ownBlock≠some g:=bA HS.o.1.tos.1;have dC:vr.ownBlock≠some g:=by obtain⟨vs,h1,_⟩:=HS.o.1.tos.2;exact bA h1
    have HQ:=qH (qA dm (qA dn (qA F (qA bN (qA bV (qA dL F))))));have dY:True:=trivial;clear aN hP hV bY hl aT aU bG av dm dn F K8 aB dN bU bV U bN bA cK HG hq;go_upto_region 13 with fail;rw [<-aM];clear aM g0 gf dR dS bK bL;have dH:=qH HS.o.2;clear HS K7 bI p5;obtain⟨sz,dz⟩:=qY wr.heap.size;have HW:=qH (qA HQ.o.2.2.2.2.1 (qA dB dC));have Z:=qH (qA HQ.o.1 (qA HQ.o.2.1 (qA HQ.o.2.2.1 HQ.o.2.2.2.1)));clear HQ dB dC;go_upto_region 14 with fail;rw [<-dz];clear dz
    go_loopw [39] (fun x39 W=>∃k:Nat,x39=.int .i64 k/\k<=n+1/\Hu (∀i,i<k->qil (elz m j i))/\Hu (W=W7)) (fun x39 _=>n+1-(intOf x39).toNat)
    case atStart=>exact⟨0,rfl,qal _,qH fun i hi=>absurd hi (by omega),qH rfl⟩
    case round =>
     obtain⟨k,rfl,hk,dx,bq⟩:=hrel;have bq:=bq.o;subst bq
     by_cases ax:k<n+1
     ·have cu:(k:Int)<(n:Int)+1:=by omega
      have dK:wr.cell? ⟨g,k,none⟩=some (.int .i64 (elz m j k)):=by
       refine (qC _ _ _ _ _ _ Z.o.2.2.1).trans ?_;have h1:=Z.o.2.1 k ax;rw [qaa,qad (by rw [Z.o.1];exact ax)] at h1;rw [qau,qay,qad (by rw [Z.o.1];exact ax)];exact congrArg (fun z=>some (Value.int .i64 z)) h1
      obtain⟨z,hz⟩:=qX (elz m j k);rw [hz] at dK;have HZ:=qH hz;clear hz
      by_cases h1:z < -1000000000
      ·go_wp2_with fail;refine (qcj 6 (by decide) _).mono ?_;rintro e Y ⟨rfl,rfl⟩;unfold thrown;go_wp2_with fail;refine⟨rfl,K3.o.1.1.trans (Z.o.2.2.2.old.mono K3.o.1.1.size),qag ⟨6,rfl,qag (qag ⟨n,HM.o,fun h=>?_,rfl⟩)⟩⟩;have:=(h j ah k ax).1;have:=HZ.o;omega
      by_cases h2:z > 1000000000
      ·go_wp2_with fail;refine (qcj 6 (by decide) _).mono ?_;rintro e Y ⟨rfl,rfl⟩;unfold thrown;go_wp2_with fail;refine⟨rfl,K3.o.1.1.trans (Z.o.2.2.2.old.mono K3.o.1.1.size),qag ⟨6,rfl,qag (qag ⟨n,HM.o,fun h=>?_,rfl⟩)⟩⟩;have:=(h j ah k ax).2;have:=HZ.o;omega
      have aX:qil (elz m j k):=by rw [HZ.o];exact⟨by omega,by omega⟩
      have dG:=qH aX;clear aX;go_wp2;go_roundw
      case rel =>
       refine⟨k+1,by go_num,ax,qH fun i hi=>?_,by first | trivial | exact qH rfl⟩;rcases qaQ i k with h | h
       ·exact dx.o i h
       ·obtain rfl:i=k:=by omega
        exact dG.o
      case measure=>simp [intOf];omega
     ·have cu:¬(k:Int)<(n:Int)+1:=by omega
      obtain rfl:k=n+1:=by omega
      go_upto_region 19 with fail;obtain⟨aK,aZ⟩:∃z,elz m j 0=z:=⟨_,rfl⟩;have bv:wr.cell? ⟨g,0,none⟩=some (.int .i64 aK):=by
       refine (qC _ _ _ _ _ _ Z.o.2.2.1).trans ?_;have h1:=Z.o.2.1 0 (by omega);rw [qaa,qad (by rw [Z.o.1];omega),aZ] at h1;rw [qau,qay,qad (by rw [Z.o.1];omega)];exact congrArg (fun z=>some (Value.int .i64 z)) h1
      refine wp_region_held_drew (S:=fun _=>True) (by kernel_rfl) trivial (fun hS0=>?_);refine hT 0 (h:=hT 2 (h:=?_));refine hT 3 (h:=?_);refine gr [(1,52),(4,55),(5,56)] [(5,[4])] [0,2,3] [1,4,5] [] 6 9 (fl2 [(1,fun z _=>z=vo),(4,fun z _=>z=.int .i64 aK),(5,fun z W=>∃g5:Nat,W.heap[g5]? = some (.cells #[.int .i64 aK] 3 (0,0))/\z=.slice (some ⟨g5,0,none⟩) 1 1)]) _ 3
       (hS:=fun _ _=>trivial) (hstep:=⟨⟨_,rfl,fun v Y O V K hK=>?_⟩,⟨_,rfl,fun v Y O V K hK=>?_⟩,⟨_,rfl,fun v Y O V K hK=>?_⟩,trivial⟩) (hend:=fun v Y O V _ fu=>?_)
      ·have h0:=(qeM (Z.o.2.2.2.below (qb4 O)).row).2.1;exact gV hK rfl
      ·have h0:=((qb4 O).cell (qac wr _ bv)).trans bv;exact gV hK rfl
      ·have e4:v 4=_:=V.1;rw [e4] at hK ⊢;exact gW hK (h:=⟨⟨Y.heap.size,qM _ _ _ rfl,rfl⟩,qbU qB qN⟩)
      have e1:v 1=_:=V 1 (by decide) (by decide);obtain⟨g5,aO,e5⟩:∃g:Nat,_:=V 5 (by decide) (by decide);have J:=Z.o.2.2.2.below (qb4 O);have bW:=zkeep (qb4 O) _ _ Z.o.2.2.1;have bJ:I.heap.size+1<=Y.heap.size:=(qG J.row).1;obtain⟨v',w4,hr,H,af⟩:=qkH 32 (c:=1) (m:=1) (l2:=[aK]) J.tos.1 bJ (qfp (q:=[aK]) aO 0) rfl (by decide) (by rw [qgw];simp;omega);rw [<-aZ,<-qkV] at H;obtain⟨a5,c5,rfl⟩:=qdU H;rw [qgw] at hr H af;rw [e1,e5];refine hE 6 (he:=by exact qfT rfl rfl rfl rfl hr) (h:=⟨trivial,hN (h:=?_)⟩);have bB:∀k,vo.ownBlock=some k->I.heap.size+1<=k:=fun k hk=>(J.tos.1.lt k hk).1
      have aH:Below I.heap.size I w4:=qdZ J.old (fun k hk=>by have:=bB k hk;omega) (by omega) af;obtain⟨aa,cZ⟩:=qcP J.row (fun e=>by have:=bB _ e;omega) af;have bM:=J.tos.2.off J.tos.1 af;have bz:=(qcP bW HW.o.2.1 af).1;have b1:=(qeM aa).2.1;have f1:=(qeM aa).2.2 3;refine hT 7 (hS:=trivial) (h:=?_);refine hSg 8 (h:=⟨trivial,?_⟩);obtain⟨W8,aC⟩:=qY (w4.setCell ⟨I.heap.size,3,none⟩ (.slice a5 (j+1) c5));have aF:w4.grownBy W8 (some I.heap.size):=aC▸qg3 _ _ _;have H8:Kn (fun W=>ElSt I W m n (j+1) j vr (.slice a5 (j+1) c5)/\W.heap[g]? = some (.cells (q.map fun z=>Value.int .i64 z).toArray 3 (0,0))) W8:=.of
       ⟨⟨aC▸aH.setCell (p:=⟨I.heap.size,3,none⟩) qN _,aC▸heap_setCell_same _ _ 3 _ _ _ aa,ElTo.apart ⟨H,bM⟩ aF (qan (Nat.lt_succ_self _))⟩,
        (aF.block _ (qG bz).1 (fun e=>by have:=HW.o.1;have:=qah e;omega)).trans bz⟩
      have dV:=HW.o.2.2;rw [<-aC];refine wpAnyH_done (by kernel_rfl) ?_ _;clear aC aF b1 f1 bz bM cZ aa aH bB H af hr bJ bW J e5 aO e1 V O bv hS0;go_upto_region 20 with fail;refine wp_region_held_drew (S:=fun _=>True) (by kernel_rfl) trivial (fun hS0=>?_);refine hT 0 (h:=hT 3 (h:=?_));refine hT 4 (v:=.slice (some ⟨g,1,none⟩) n n) (hy:=by (intro w dX;go_simp;rw [if_pos (by omega),if_neg (by omega)])) (h:=?_);have bF:I.heap.size+1<=W8.heap.size:=(qG H8.o.1.row).1;have di:q.drop 1=elRow m n j:=by
       refine List.ext_getElem (by rw [qbd,Z.o.1,qgx];omega) fun k h1 h2=>?_
       have dW:k<n:=by rwa [qgx] at h2
       have h3:=Z.o.2.1 (k+1) (by omega);rw [qaa,qad (by rw [Z.o.1];omega)] at h3;rw [List.getElem_drop,elRow_at h2];have e:q[1+k]'(by rw [Z.o.1];omega)=q[k+1]'(by rw [Z.o.1];omega):=by congr 1;omega
       rw [e];exact h3
      have dF:=qH di;clear di;refine gr [(1,60),(2,61),(5,64),(6,65)] [(5,[2]),(6,[5])] [0,3,4] [1,2,5,6] [] 7 10 (fl2 [(1,fun z _=>z=vr),(2,fun z W=>∃g5:Nat,(W.heap[g5]? = some (.cells #[] 3 (0,0))/\W8.heap.size<=g5)/\z=.slice (some ⟨g5,0,none⟩) 0 0),
        (5,fun z W=>IOwn W (I.heap.size+1) z (elRow m n j)/\qj9 n W8.heap.size z),(6,fun z W=>∃g6:Nat,∃u:Value,(W.heap[g6]? = some (.cells #[u] 32 (0,0))/\IOwn W (I.heap.size+1) u (elRow m n j))/\qj9 n W8.heap.size u/\z=.slice (some ⟨g6,0,none⟩) 1 1)]) _ 3
       (hS:=fun _ _=>trivial) (hstep:=⟨⟨_,rfl,fun v Y O V K hK=>?_⟩,⟨_,rfl,fun v Y O V K hK=>?_⟩,⟨_,rfl,fun v Y O V K hK=>?_⟩,⟨_,rfl,fun v Y O V K hK=>?_⟩,trivial⟩) (hend:=fun v Y O V _ fu=>?_)
      ·have h0:=(qeM (H8.o.1.below (qb4 O)).row).1;exact gV hK rfl
      ·exact gW hK (h:=⟨⟨Y.heap.size,⟨qM _ _ _ rfl,(qb4 O).size⟩,rfl⟩,qbU qB qN⟩)
      ·obtain⟨g5,⟨aO,dU⟩,e2⟩:∃g:Nat,_:=V.1;have ag:=qb4 O;obtain⟨vi,w4,dO,H,af,dM⟩:=qja 32 (B:=I.heap.size+1) (c:=n) (m:=n) (l2:=q.drop 1) aO (qaj bF ag.size) (qfp (zkeep ag _ _ H8.o.2) 1) (by rw [qbd,Z.o.1];omega) (by omega) (by omega);rw [dF.o] at H;have bS:Below Y.heap.size Y w4:=qeN dM;have ay:qj9 n W8.heap.size vi:=by
        refine⟨by obtain⟨ai,ci,e⟩:=qdU H;rw [qgx] at e;exact⟨ai,ci,e⟩,?_⟩;exact⟨_,af,ag.size⟩
       rw [e2] at hK ⊢;exact gW hK (he:=qfT rfl rfl rfl rfl dO) (hE:=fun h=>absurd h (by decide)) (h:=⟨⟨H,ay⟩,bS⟩)
      ·obtain⟨H,⟨ai,ci,e5⟩,ay⟩:=V.1;rw [e5] at hK H ay ⊢;have ay:qj9 n W8.heap.size (.slice ai n ci):=⟨⟨ai,ci,rfl⟩,ay⟩;exact gW hK (h:=⟨⟨Y.heap.size,_,⟨qM _ _ _ rfl,H.below (qbU qB qN)⟩,ay,rfl⟩,qbU qB qN⟩)
      have e1:v 1=_:=V 1 (by decide) (by decide);obtain⟨g6,vi,⟨bX,H⟩,⟨⟨ai,ci,dA⟩,ki,aW,cz⟩,e6⟩:∃g:Nat,_:=V 6 (by decide) (by decide);have ag:=qb4 O;have bZ:vi.ownBlock≠(Value.slice a5 (j+1) c5).ownBlock:=fun e=>by
       rw [aW] at e;have:=(H8.o.1.tos.1.lt ki e.symm).2;omega
      have aA:=H8.o.1.below ag;have aY:I.heap.size+1<=Y.heap.size:=qaj bF ag.size;have bE:=(Classical.choose_spec aA.tos.2).1;obtain⟨v7,w7,dw,au,aQ⟩:=run_irow 77 (c:=1) bE aY bX (by rw [dA];rfl) (by omega);have aJ:=ElTo.row aA.tos (by omega) H bZ au aQ;have bC:∀k,vr.ownBlock=some k->I.heap.size+1<=k:=fun k hk=>(bE.lt k hk).1
      have aI:Below I.heap.size I w7:=qdZ aA.old (fun k hk=>by have:=bC k hk;omega) (by omega) aQ;obtain⟨F,_⟩:=qcP aA.row (fun e=>by have:=bC _ e;omega) aQ;obtain⟨a7,c7,rfl⟩:=qdU au;rw [e1,e6];refine hE 7 (he:=by exact qfT rfl rfl rfl rfl dw) (h:=⟨trivial,hN (h:=?_)⟩);have b1:=(qeM F).1;have f1:=(qeM F).2.2 2;refine hT 8 (hS:=trivial) (h:=?_);refine hSg 9 (h:=⟨trivial,?_⟩);obtain⟨W9,aD⟩:=qY (w7.setCell ⟨I.heap.size,2,none⟩ (.slice a7 (j+1) c7));have aV:w7.grownBy W9 (some I.heap.size):=aD▸qg3 _ _ _;have H9:Hu (ElSt I W9 m n (j+1) (j+1) (.slice a7 (j+1) c7) (.slice a5 (j+1) c5)):=qH
       ⟨aD▸aI.setCell (p:=⟨I.heap.size,2,none⟩) qN _,aD▸heap_setCell_same _ _ 2 _ _ _ F,ElTo.apart aJ aV (qan (Nat.lt_succ_self _))⟩
      rw [<-aD];refine wpAnyH_done (by kernel_rfl) ?_ _;clear aD aV b1 f1 F aI bC aJ aQ au dw bE aY aA bZ H aW cz dA bX e6 bF ag e1 V O hS0 cu;go_wp2;go_roundw
      case rel =>
       refine⟨j+1,by go_num,ah,qH ⟨_,_,H9.o,fun c hc k hk=>?_⟩⟩;rcases qaQ c j with h | h
       ·exact dH.o c h k hk
       ·obtain rfl:c=j:=by omega
        exact dx.o k hk
      case measure=>simp [intOf];omega
  ·obtain rfl:j=3:=by omega
   obtain⟨ao,co,rfl⟩:=qdU hS.tos.1;obtain⟨ar,cr,rfl⟩:=qdU (Classical.choose_spec hS.tos.2).1;rw [qgw] at hS;have y0:=qC _ _ 0 _ _ _ hS.row;have y1:=qC _ _ 1 _ _ _ hS.row;have y2:=qC _ _ 2 _ _ _ hS.row;have y3:=qC _ _ 3 _ _ _ hS.row;have y4:=qC _ _ 4 _ _ _ hS.row;have y5:=qC _ _ 5 _ _ _ hS.row;have y6:=qC _ _ 6 _ _ _ hS.row;have y7:=qC _ _ 7 _ _ _ hS.row;have y8:=qC _ _ 8 _ _ _ hS.row;have y9:=qC _ _ 9 _ _ _ hS.row;have K9:=K3.below hS.old;have Hr:=qH K9.o.1.2;have HS:=qH (qA hS aS);have dP:w.heap.size<I.heap.size:=(qG K3.o.1.2).1;have HE:=qH (qA (qT _ _ _ #[.int .i64 2,.slice none 0 0,.slice ar 3 cr,.slice ao 3 co,.slice none 0 0,.int .i64 0,.slice none 0 0,.slice none 0 0,.int .i64 0,.int .i64 0] _ _ Hr.o) (qA (qS K9.o.1.1 (qae w.heap.size) #[.int .i64 2,.slice none 0 0,.slice ar 3 cr,.slice ao 3 co,.slice none 0 0,.int .i64 0,.slice none 0 0,.slice none 0 0,.int .i64 0,.int .i64 0]) (ElTo.apart hS.tos (qci _ _ #[.int .i64 2,.slice none 0 0,.slice ar 3 cr,.slice ao 3 co,.slice none 0 0,.int .i64 0,.slice none 0 0,.slice none 0 0,.int .i64 0,.int .i64 0]) (qan (show w.heap.size<I.heap.size+1 by omega)))));clear hI hS aS K9 dP
   go_wp2_with ((with_reducible refine sR_ rfl 82 _ _ rfl (w.heap.size) #[.int .i64 2,.slice none 0 0,.slice ar 3 cr,.slice ao 3 co,.slice none 0 0,.int .i64 0,.slice none 0 0,.slice none 0 0,.int .i64 0,.int .i64 0] Hr.o 10 ?_))
   refine qR (v:=.agg #[.int .i64 2,.slice none 0 0,.slice ar 3 cr,.slice ao 3 co,.slice none 0 0,.int .i64 0,.slice none 0 0,.slice none 0 0,.int .i64 0,.int .i64 0]) (rA_ rfl (w.heap.size) HE.o.1 underlying82 10) rfl ⟨HE.o.2.1,qan ⟨_,_,_,_,_,_,rfl,n,HM.o,fun c hc k hk=>HS.o.2 c hc k hk,_,_,_,rfl,HE.o.2.2⟩⟩
theorem qgT {W W':World} {B:Nat} {e:TypeId} {s n:Nat} {x:Value} {H:List Value} (hx:W.ownsRow B e s x n H) (I:e≠82) (J:e≠39)
  (Y:∀(g:Nat) (cs:Array Value) (t:TypeId) (F:Nat×Nat),W.heap[g]? = some (.cells cs t F)->t≠82->t≠39->W'.heap[g]? = some (.cells cs t F)):W'.ownsRow B e s x n H:=by
 refine⟨hx.1,?_⟩;rcases hx.2 with h | ⟨g,cap,cur,rfl,O,U,V⟩
 ·exact qan h
 ·exact qag ⟨g,cap,cur,rfl,O,Y _ _ _ _ U I J,V⟩
theorem ElG.kept {m:Md} {W W':World} {v:Value} (F:∀(g:Nat) (cs:Array Value) (t:TypeId) (H:Nat×Nat),W.heap[g]? = some (.cells cs t H)->t≠82->t≠39->W'.heap[g]? = some (.cells cs t H)) (h:ElG m W v):ElG m W' v:=by
 obtain⟨n,O,U,B,vr,vo,V,Y,vs,Z,I⟩:=h;exact⟨n,O,U,B,vr,vo,V,qgT Y (by decide) (by decide) F,vs,qgT Z (by decide) (by decide) F,fun c J=>⟨qgT (I c J).1 (by decide) (by decide) F,(I c J).2⟩⟩
def ElAs (w:World) (m:Md) (e:Ending) (F:World):Prop :=
 Below w.heap.size w F/\((∃v,e=.returned (.tuple #[v,.int .i64 0])/\ElG m F v)\/∃c,e=.returned (.tuple #[.agg #[.int .i64 0,.slice none 0 0,.slice none 0 0,.slice none 0 0,.slice none 0 0,.int .i64 0,.slice none 0 0,.slice none 0 0,.int .i64 0,.int .i64 0],.int .i64 c])/\ElF m c)
theorem qjC (m:Md) (v:Value) (w:World) (hM:MdAt w v m) (V:∀q,q<3->(m.row q).length<=4611686018427387904) (hT:HasT w) (hE:HasE w) :
  Calls prog 28 #[v] w fun e w'=>ElAs w m e w':=by
 obtain⟨a,b',o,d,rfl,hF⟩:=hM.parts;obtain⟨W3,U,F⟩:=nw2 w #[.int .i64 m.kind,.int .i64 m.inn,.slice (a 0) (m.row 0).length (d 0),.slice (a 1) (m.row 1).length (d 1),.slice (a 2) (m.row 2).length (d 2)] 38 #[.int .i64 0,.slice none 0 0,.slice none 0 0,.slice none 0 0,.slice none 0 0,.int .i64 0,.slice none 0 0,.slice none 0 0,.int .i64 0,.int .i64 0] 82;have aa:=@hmf_ prog;have HG:=qH (qio 89 #[.pointer (some ⟨w.heap.size,0,none⟩)] (ElG m) (ElF m) W3 (fun W=>enters func89 (by kernel_rfl) (by kernel_rfl) _ W)
  (fun W W' v hk h=>h.kept hk)
  (fun w1 Y=>el1_any m w.heap.size a b' o d w1 V (zkeep Y _ _ F.o.2.1) (fun q hq=>(hF q hq).below (F.o.1.trans (Y.mono F.o.1.size))) (hT.below (F.o.1.trans (Y.mono F.o.1.size))) (hE.below (F.o.1.trans (Y.mono F.o.1.size)))))
 have Z:=qH (qA F.o.1 F.o.2.2);clear hM V hT hE hF F;go_enter func28,ntmps28;go_upto_region 1 with fail;rw [<-U];clear U;go_wp2_with fail;refine HG.o.mono ?_;rintro e w5 ⟨I,h⟩;have J:=qH (Z.o.1.trans (I.mono Z.o.1.size));have O:=qH (zkeep I _ _ Z.o.2);clear I HG;rcases h with ⟨p2,n2,c2,p3,n3,c3,rfl,hg⟩ | ⟨cc,rfl,hf⟩
 ·have H:=qH (qA (qT _ _ _ #[.int .i64 2,.slice none 0 0,.slice p2 n2 c2,.slice p3 n3 c3,.slice none 0 0,.int .i64 0,.slice none 0 0,.slice none 0 0,.int .i64 0,.int .i64 0] _ _ O.o) (qA (qS J.o (show w.heap.size<=w.heap.size+1 by omega) #[.int .i64 2,.slice none 0 0,.slice p2 n2 c2,.slice p3 n3 c3,.slice none 0 0,.int .i64 0,.slice none 0 0,.slice none 0 0,.int .i64 0,.int .i64 0]) (hg.kept (W':=w5.setRow (w.heap.size+1) #[.int .i64 2,.slice none 0 0,.slice p2 n2 c2,.slice p3 n3 c3,.slice none 0 0,.int .i64 0,.slice none 0 0,.slice none 0 0,.int .i64 0,.int .i64 0]) fun g cs t fz h h1 _=>by
   have n1:g≠w.heap.size+1:=fun e=>h1 (by rw [e] at h;have:=h.symm.trans O.o;simp at this;exact this.2.1)
   rw [setRow_other _ _ _ _ n1];exact h)))
  clear hg;rename_i hK;dsimp only;refine hK _ _ ?_
  go_wp2_with ((with_reducible refine sR_ rfl 82 _ _ rfl ((w.heap.size+1)) #[.int .i64 2,.slice none 0 0,.slice p2 n2 c2,.slice p3 n3 c3,.slice none 0 0,.int .i64 0,.slice none 0 0,.slice none 0 0,.int .i64 0,.int .i64 0] O.o 10 ?_))
  exact qR (v:=.tuple #[.agg #[.int .i64 2,.slice none 0 0,.slice p2 n2 c2,.slice p3 n3 c3,.slice none 0 0,.int .i64 0,.slice none 0 0,.slice none 0 0,.int .i64 0,.int .i64 0],.int .i64 0]) (rB_ rfl (w.heap.size+1) H.o.1 underlying82 10) rfl ⟨H.o.2.1,qan ⟨_,rfl,H.o.2.2⟩⟩
 ·have H:=qH (qA (qT _ _ _ #[.int .i64 0,.slice none 0 0,.slice none 0 0,.slice none 0 0,.slice none 0 0,.int .i64 0,.slice none 0 0,.slice none 0 0,.int .i64 0,.int .i64 0] _ _ O.o) (qA (qS J.o (show w.heap.size<=w.heap.size+1 by omega) #[.int .i64 0,.slice none 0 0,.slice none 0 0,.slice none 0 0,.slice none 0 0,.int .i64 0,.slice none 0 0,.slice none 0 0,.int .i64 0,.int .i64 0]) hf));clear hf;rename_i hK;dsimp only;refine hK _ _ ?_
  go_wp2_with ((with_reducible refine sR_ rfl 82 _ _ rfl ((w.heap.size+1)) #[.int .i64 0,.slice none 0 0,.slice none 0 0,.slice none 0 0,.slice none 0 0,.int .i64 0,.slice none 0 0,.slice none 0 0,.int .i64 0,.int .i64 0] O.o 10 ?_))
  exact qR (v:=.tuple #[.agg #[.int .i64 0,.slice none 0 0,.slice none 0 0,.slice none 0 0,.slice none 0 0,.int .i64 0,.slice none 0 0,.slice none 0 0,.int .i64 0,.int .i64 0],.int .i64 cc]) (rB_ rfl (w.heap.size+1) H.o.1 underlying82 10) rfl ⟨H.o.2.1,qag ⟨cc,rfl,H.o.2.2⟩⟩
open Go.Lib
theorem num_d2 {u:Nat} (F:10<=u) (H:u<100):num u=⟨#[UInt8.ofNat (48+u / 10),UInt8.ofNat (48+u % 10)]⟩:=by
 unfold num;rw [qca F,qb1 (by omega)];rfl
theorem qiV {u:Nat} (F:100<=u) (H:u<1000):num u=⟨#[UInt8.ofNat (48+u / 10 / 10),UInt8.ofNat (48+u / 10 % 10),UInt8.ofNat (48+u % 10)]⟩:=by
 unfold num;rw [qca (by omega),qca (by omega),qb1 (by omega)];rfl
theorem ft_of {q:Rat} (z d:Nat) (H:q.num=z) (F:q.den=d):ftxt q=(num z,num d):=by
 unfold ftxt;rw [H,F,qdb (by omega),qam]
theorem ft_14:ftxt (1 / 4)=(⟨#[49]⟩,⟨#[52]⟩):=qgj 1 4 (by decide +kernel) (by decide +kernel) (by decide) (by decide)
theorem ft_103:ftxt (10 / 3)=(⟨#[49,48]⟩,⟨#[51]⟩):=by rw [ft_of 10 3 (by decide +kernel) (by decide +kernel),num_d2 (by decide) (by decide),qev (by decide)];rfl
theorem ft_100:ftxt 100=(⟨#[49,48,48]⟩,⟨#[49]⟩):=by rw [ft_of 100 1 (by decide +kernel) (by decide +kernel),qiV (by decide) (by decide),qev (by decide)];rfl
theorem ft_140:ftxt 140=(⟨#[49,52,48]⟩,⟨#[49]⟩):=by rw [ft_of 140 1 (by decide +kernel) (by decide +kernel),qiV (by decide) (by decide),qev (by decide)];rfl
theorem ft_1009:ftxt (100 / 9)=(⟨#[49,48,48]⟩,⟨#[57]⟩):=by rw [ft_of 100 9 (by decide +kernel) (by decide +kernel),qiV (by decide) (by decide),qev (by decide)];rfl
theorem ft_4009:ftxt (400 / 9)=(⟨#[52,48,48]⟩,⟨#[57]⟩):=by rw [ft_of 400 9 (by decide +kernel) (by decide +kernel),qiV (by decide) (by decide),qev (by decide)];rfl
theorem qmo:ftxt (160 / 3)=(⟨#[49,54,48]⟩,⟨#[51]⟩):=by rw [ft_of 160 3 (by decide +kernel) (by decide +kernel),qiV (by decide) (by decide),qev (by decide)];rfl
theorem ft_m40:ftxt (-40)=(⟨#[45,52,48]⟩,⟨#[49]⟩):=by
 unfold ftxt;rw [show ((-40:Rat)).num = -40 by decide +kernel,show ((-40:Rat)).den=1 by decide +kernel,qeq (by decide),show ((-40:Int)).natAbs=40 from rfl,num_d2 (by decide) (by decide),qev (by decide)]
 rfl
theorem qfo (W:World) (F:List Int):NCells (W.alloc (.cells (F.map fun z=>Value.int .i64 z).toArray 3)) (some ⟨W.heap.size,0,none⟩) W.heap.size 0 F:=by
 have:=qfp (q:=F) (qM W (.cells (F.map fun z=>Value.int .i64 z).toArray 3) _ rfl) 0
 rwa [List.drop_zero] at this
theorem alloc_old (W:World) (o:Obj):Below W.heap.size W (W.alloc o):=qbU qB qN
theorem qjk (W:World) (kind:Int) (k:Nat) (dv:List Int) (n:Nat) (hn:dv.length=n) (F:qcA kind k) (O:1<=n) (V:n<=4) (U:¬(k=3/\n=4)) (Z:qcJ dv) (hT:HasT W) :
  Calls prog 25 #[.int .i64 kind,.slice (some ⟨W.heap.size,0,none⟩) n n] (W.alloc (.cells (dv.map fun z=>Value.int .i64 z).toArray 3)) fun e I=>∃(p:Option Addr) (g c:Nat),e=.returned (.tuple #[.slice p (many k n) c,.int .i64 0])/\FCells I p g 0 ((termL k dv).map ftxt)/\Below W.heap.size W I:=by
 subst hn;refine (qhJ kind W.heap.size 0 dv.length dv.length (some ⟨W.heap.size,0,none⟩) dv _ rfl (by omega) (qfo W dv) (hT.below (alloc_old _ _))).mono ?_;rintro e I ⟨hb,⟨v,rfl,_,_,_,k',H,_,p,g,c,rfl,Y⟩ | ⟨c,rfl,h⟩⟩
 ·obtain rfl:=F.uniq H;exact⟨p,g,c,rfl,Y,qdc hb⟩
 ·exfalso;rcases h with ⟨h,_⟩ | ⟨_,⟨h,_⟩ | ⟨_,h,J,_⟩⟩
  ·exact h ⟨⟨k,F⟩,O,V⟩
  ·exact h Z
  ·exact U ⟨F.uniq h▸rfl,J⟩
theorem qnR (W:World) (kind:Int) (dv:List Int) (n:Nat) (c:Int) (Z:dv.length=n) (aa:n<=1000) (Y:∀e,TmF kind dv e->e=c) (hg:¬∃k,qcA kind k/\1<=n/\n<=4/\qcJ dv/\¬(k=3/\n=4)) (hT:HasT W) :
  Calls prog 25 #[.int .i64 kind,.slice (some ⟨W.heap.size,0,none⟩) n n] (W.alloc (.cells (dv.map fun z=>Value.int .i64 z).toArray 3)) fun e H=>e=.returned (.tuple #[.slice none 0 0,.int .i64 c])/\Below W.heap.size W H:=by
 subst Z;refine (qhJ kind W.heap.size 0 dv.length dv.length (some ⟨W.heap.size,0,none⟩) dv _ rfl (by omega) (qfo W dv) (hT.below (alloc_old _ _))).mono ?_;rintro e H ⟨V,⟨v,rfl,I,O,U,k',F,J,_⟩ | ⟨c',rfl,h⟩⟩
 ·exact absurd ⟨k',F,I,O,U,J⟩ hg
 ·rw [Y _ h];exact⟨rfl,qdc V⟩
theorem qmj (W:World) (l:List Pt) (R b off c:Nat) (H:Option Addr) (kind:Int) (F:List Int) (n:Nat) (Y:F.length=n) (Z:n<=1000) (U:l.length=R) (V:R<=1000) (J:∀k,k<R->(l.getD k pt0).name.size<=1000/\(l.getD k pt0).dev.length<=1000) (O:PCells W H b off l) (hT:HasT W) :
  Calls prog 14 #[.slice H R c,.int .i64 kind,.slice (some ⟨W.heap.size,0,none⟩) n n] (W.alloc (.cells (F.map fun z=>Value.int .i64 z).toArray 3)) fun e w'=>FitAs (W.alloc (.cells (F.map fun z=>Value.int .i64 z).toArray 3)) l kind F e w' :=
 qjF R b off c W.heap.size 0 n n H (some ⟨W.heap.size,0,none⟩) l kind F _ U (by omega) (fun k I=>⟨by have:=(J k I).1;omega,by have:=(J k I).2;omega⟩) Y (by omega) (O.below (alloc_old _ _)) (qfo W F) (hT.below (alloc_old _ _))
theorem qdJ:∀k,k<3->(ramp.getD k pt0).name.size<=1000/\(ramp.getD k pt0).dev.length<=1000:=fun k F=>by
 rcases (show k=0\/k=1\/k=2 by omega) with rfl | rfl | rfl <;> exact⟨(by decide:1<=1000),(by decide:1<=1000)⟩
theorem MdAt.lit {W:World} {v:Value} {k n m:Nat} {x:Nat->Nat->Rat} (h:MdAt W v (mdq k n m x)):∃(a0 F a2:Option Addr) (H O c0 I U c1 J V c2:Nat),v=.agg #[.int .i64 (k:Int),.int .i64 (n:Int),.slice a0 m c0,.slice F m c1,.slice a2 m c2]/\FCells W a0 H O (told m (x 0))/\FCells W F I U (told m (x 1))/\FCells W a2 J V (told m (x 2)):=by
 obtain⟨a0,F,a2,H,O,c0,I,U,c1,J,V,c2,rfl,Y,Z,h2⟩:=h;refine⟨a0,F,a2,H,O,c0,I,U,c1,J,V,c2,?_,Y,Z,h2⟩
 show Value.agg #[.int .i64 (k:Int),.int .i64 (n:Int),.slice a0 (told m (x 0)).length c0,.slice F (told m (x 1)).length c1,.slice a2 (told m (x 2)).length c2]=_
 rw [qb0,qb0,qb0]
theorem MdAt.of {W:World} {k n m:Nat} {x:Nat->Nat->Rat} {a0 F a2:Option Addr} {H O c0 I U c1 J V c2:Nat} (Y:FCells W a0 H O (told m (x 0))) (Z:FCells W F I U (told m (x 1))) (h2:FCells W a2 J V (told m (x 2))):MdAt W (.agg #[.int .i64 (k:Int),.int .i64 (n:Int),.slice a0 m c0,.slice F m c1,.slice a2 m c2]) (mdq k n m x):=by
 refine⟨a0,F,a2,H,O,c0,I,U,c1,J,V,c2,?_,Y,Z,h2⟩
 show _=Value.agg #[.int .i64 (k:Int),.int .i64 (n:Int),.slice a0 (told m (x 0)).length c0,.slice F (told m (x 1)).length c1,.slice a2 (told m (x 2)).length c2]
 rw [qb0,qb0,qb0]
theorem qjM {k n m:Nat} {x:Nat->Nat->Rat} (H:m<=1000):∀q,q<3->((mdq k n m x).row q).length<=4611686018427387904:=fun q F=>by rw [qeo F,qb0];omega
theorem qht:∀c,c<3->elz (mdq 1 1 2 fitX1) c 0=[33333,500000,500000].getD c 0/\elz (mdq 1 1 2 fitX1) c 1=[1000000,0,0].getD c 0:=fun c F=>by
 unfold elz;rw [qeo F,qcU (by decide),qcU (by decide)];rcases (show c=0\/c=1\/c=2 by omega) with rfl | rfl | rfl <;> exact⟨by decide +kernel,by decide +kernel⟩
theorem ex_elok:ElOk (mdq 1 1 2 fitX1) 1:=fun c I k J=>by
 obtain⟨F,H⟩:=qht c I;rcases (show k=0\/k=1 by omega) with rfl | rfl
 ·rw [F];rcases (show c=0\/c=1\/c=2 by omega) with rfl | rfl | rfl <;> exact⟨by decide,by decide⟩
 ·rw [H];rcases (show c=0\/c=1\/c=2 by omega) with rfl | rfl | rfl <;> exact⟨by decide,by decide⟩
end Go.Proofs.YtplkdeknjghobaaGreatDoor
namespace Go.Proofs.YtplkdeknjghobaaGreatDoor
open Go.RowKit
def dr0:Dr:=⟨false,[],0,false,[],0⟩
def DrAt (W:World) (b off:Nat) (d:Dr):Prop :=
 ∃(F:Option Addr) (H J c1:Nat) (a2:Option Addr) (I O c2:Nat),(W.cell? ⟨b,off,none⟩=some (.bool d.n0)/\W.cell? ⟨b,off+1,none⟩=some (.slice F d.n1.length c1)/\W.cell? ⟨b,off+2,none⟩=some (.int .u16 d.n2)/\W.cell? ⟨b,off+3,none⟩=some (.bool d.d0)/\W.cell? ⟨b,off+4,none⟩=some (.slice a2 d.d1.length c2)/\W.cell? ⟨b,off+5,none⟩=some (.int .u16 d.d2)) /\
  KCells W .u16 F H J d.n1/\KCells W .u16 a2 I O d.d1
theorem DrAt.below {W W':World} {b off:Nat} {d:Dr} (h:DrAt W b off d) (F:Below W.heap.size W W'):DrAt W' b off d:=by
 obtain⟨a1,b1,o1,c1,a2,b2,o2,c2,⟨H,I,J,O,U,V⟩,k1,k2⟩:=h;have l:∀{p:Addr} {v:Value},W.cell? p=some v->W'.cell? p=some v:=fun {p v} h=>(F.cell (qac W _ h)).trans h
 exact⟨a1,b1,o1,c1,a2,b2,o2,c2,⟨l H,l I,l J,l O,l U,l V⟩,k1.below F,k2.below F⟩
structure DrCells (W:World) (ao:Option Addr) (b off:Nat) (L:List Dr):Prop where
 addr:0<L.length->ao=some ⟨b,off,none⟩
 cell:∀k,k<L.length->DrAt W b (off+k*6) (L.getD k dr0)
 ok:∀k,k<L.length->DrOk (L.getD k dr0)
theorem DrCells.below {W W':World} {F:Option Addr} {b off:Nat} {L:List Dr} (h:DrCells W F b off L) (H:Below W.heap.size W W'):DrCells W' F b off L:=⟨h.addr,fun k I=>(h.cell k I).below H,h.ok⟩
def MoAt (W:World) (v:Value) (H inn:Nat) (L:List Dr):Prop :=
 ∃(F:Option Addr) (b off c:Nat),v=.agg #[.int .u8 (H:Int),.int .u8 (inn:Int),.slice F L.length c]/\H<256/\inn<256/\L.length<=9223372036854775807/\DrCells W F b off L
def mok (F:Nat):Nat:=1+F % 3
def mon (F inn:Nat):Nat:=if mok F=3/\1+inn % 4=4 then 2 else 1+inn % 4
def mox (L:List Dr) (c j:Nat):Rat:=if L.length=0 then 1 else (L.getD ((9*c+j) % min L.length 30) dr0).q
theorem mok_le (F:Nat):1<=mok F/\mok F<=3:=by unfold mok;omega
theorem mon_le (F inn:Nat):1<=mon F inn/\mon F inn<=4:=by unfold mon;split <;> omega
theorem mox_rb (L:List Dr) (c j:Nat):Rb (mox L c j) 1000:=by
 unfold mox;split
 ·exact⟨by decide,by decide⟩
 ·exact Dr.rb _
theorem qmW (L:List Dr) (c j:Nat):Short (mox L c j):=qdk (mox_rb L c j) (by decide +kernel)
theorem qmP (k n:Nat) (F:n<=4):many k n<=16:=by
 unfold many;split
 ·omega
 ·split
  ·omega
  ·rcases (show n=0\/n=1\/n=2\/n=3\/n=4 by omega) with rfl | rfl | rfl | rfl | rfl <;> decide
def moM (F inn:Nat) (L:List Dr):Md:=mdq (mok F) (mon F inn) (many (mok F) (mon F inn)) (mox L)
structure MoSt (w1 W:World) (B k n M i j:Nat) (vs:Nat->Value) (L:List Dr):Prop where
 old:Below w1.heap.size w1 W
 row:W.heap[w1.heap.size]? = some (.cells #[.int .i64 (k:Int),.int .i64 (n:Int),vs 0,vs 1,vs 2] 38 (0,0))
 base:w1.heap.size<B/\B<=W.heap.size
 done:∀c,c<i->c<3->∃(a:Option Addr) (g cap:Nat),vs c=.slice a M cap/\FCells W a g 0 (told M (mox L c))/\g<B
 todo:∀c,i<c->c<3->vs c=.slice none 0 0
 own:i<3->Rws W B 44 2 (vs i) j (fflat (told j (mox L i)))
theorem MoSt.below {I W W':World} {B k n M i j:Nat} {H:Nat->Value} {L:List Dr} (h:MoSt I W B k n M i j H L) (F:Below W.heap.size W W'):MoSt I W' B k n M i j H L where
 old:=h.old.trans (F.mono h.old.size)
 row:=zkeep F _ _ h.row
 base:=⟨h.base.1,qaj h.base.2 F.size⟩
 done:=fun c Y U=>by
  obtain⟨a,g,cap,J,O,V⟩:=h.done c Y U;exact⟨a,g,cap,J,O.below F,V⟩
 todo:=h.todo
 own:=fun Z=>(h.own Z).below F
def OutSt (H W:World) (k n M i:Nat) (L:List Dr):Prop:=∃F,MoSt H W W.heap.size k n M i 0 F L
theorem qnk {F W:World} {k n M:Nat} {L:List Dr} (I:Below F.heap.size F W) (H:W.heap[F.heap.size]? = some (.cells #[.int .i64 (k:Int),.int .i64 (n:Int),.slice none 0 0,.slice none 0 0,.slice none 0 0] 38 (0,0))):OutSt F W k n M 0 L :=
 ⟨fun _=>.slice none 0 0,I,H,⟨(qG H).1,qae _⟩,fun c J=>absurd J (by omega),fun c _ _=>rfl,fun _=>Rws.nil _ _ _ _⟩
theorem MoSt.next {U W:World} {B k n M i:Nat} {O:Nat->Value} {L:List Dr} (h:MoSt U W B k n M i M O L) (hi:i<3) (Y:0<M):OutSt U W k n M (i+1) L:=by
 refine⟨O,h.old,h.row,⟨(qG h.row).1,qae _⟩,fun c Z I=>?_,fun c Z I=>h.todo c (by omega) I,fun J=>?_⟩
 ·rcases qaQ c i with hci | hci
  ·obtain⟨a,g,cap,H,F,V⟩:=h.done c hci I;exact⟨a,g,cap,H,F,qai V h.base.2⟩
  ·obtain rfl:c=i:=by omega
   obtain⟨ao,g,cap,H,F,_⟩:=qd7 (h.own hi) (qb0 _ _);refine⟨ao,g,cap,H,F,?_⟩;have:=(F.cell 0 (by rw [qb0];exact Y)).1;exact qac W _ this
 ·rw [h.todo (i+1) (by omega) J];exact Rws.nil _ _ _ _
theorem MoSt.cell {I W W':World} {B k n M i j:Nat} {H:Nat->Value} {L:List Dr} (h:MoSt I W B k n M i j H L) (O:i<3) (J:Below W.heap.size W W'):W'.cell? ⟨I.heap.size,2+i,none⟩=some (H i):=by
 have F:=zkeep J _ _ h.row;rcases (show i=0\/i=1\/i=2 by omega) with rfl | rfl | rfl
 ·exact qC _ _ 2 _ _ _ F
 ·exact qC _ _ 3 _ _ _ F
 ·exact qC _ _ 4 _ _ _ F
theorem MoSt.push {I W H:World} {B k n M i j:Nat} {V:Nat->Value} {L:List Dr} (h:MoSt I W B k n M i j V L) (hi:i<3) {Z:Value} (J:Rws H B 44 2 Z (j+1) (fflat (told (j+1) (mox L i)))) (hk:Z.ownBlock=(V i).ownBlock/\W.grownBy H (V i).ownBlock\/Z.ownBlock=some W.heap.size/\W.grownBy H none) :
  (H.cell? ⟨I.heap.size,2+i,none⟩=some (V i)/\H.frozen? ⟨I.heap.size,2+i,none⟩=false)/\MoSt I (H.setCell ⟨I.heap.size,2+i,none⟩ Z) B k n M i (j+1) (fun c=>if c=i then Z else V c) L:=by
 have aa:=(h.own hi).lt;have hB:Below B W H:=by
  rcases hk with ⟨_,hg⟩ | ⟨_,hg⟩
  ·exact⟨hg.os,hg.tape,hg.output,hg.size,fun q Y=>hg.block q (qai Y h.base.2) (fun e=>by have:=(aa q e.symm).1;omega)⟩
  ·exact⟨hg.os,hg.tape,hg.output,hg.size,fun q Y=>hg.block q (qai Y h.base.2) (fun e=>by cases e)⟩
 have F:=(hB.block _ h.base.1).trans h.row;have hc:H.cell? ⟨I.heap.size,2+i,none⟩=some (V i):=by
  rcases (show i=0\/i=1\/i=2 by omega) with rfl | rfl | rfl
  ·exact qC _ _ 2 _ _ _ F
  ·exact qC _ _ 3 _ _ _ F
  ·exact qC _ _ 4 _ _ _ F
 have ae:∃(ao:Option Addr) (m c:Nat),V i=.slice ao m c:=by obtain⟨ao,c,e⟩:=(h.own hi).shape;exact⟨ao,j,c,e⟩
 refine⟨⟨hc,qF _ _ _ _ _ F⟩,(h.old.trans (hB.mono (qar h.base.1))).setCell (p:=⟨I.heap.size,2+i,none⟩) qN _,?_,⟨h.base.1,by rw [qbt];exact qaj h.base.2 hB.size⟩,fun c U O=>?_,fun c U O=>?_,fun _=>?_⟩
 ·rw [heap_setCell_same _ _ _ _ _ _ F];rcases (show i=0\/i=1\/i=2 by omega) with rfl | rfl | rfl <;> rfl
 ·obtain⟨a,g,cap,e1,hF,hg⟩:=h.done c U O;refine⟨a,g,cap,by rw [if_neg (by omega)];exact e1,FCells.kept (W:=H) ⟨hF.addr,fun q Y=>⟨(hB.cell (p:=⟨g,0+q*2,none⟩) hg).trans (hF.cell q Y).1,(hB.cell (p:=⟨g,0+q*2+1,none⟩) hg).trans (hF.cell q Y).2⟩⟩ (fun p s hp=>?_),hg⟩
  by_cases e:p=⟨I.heap.size,2+i,none⟩
  ·subst e;rw [hc] at hp;obtain⟨_,_,_,e2⟩:=ae;rw [e2] at hp;cases hp
  ·exact (World.cell?_setCell_other _ _ _ _ (fun h=>e h.symm)).trans hp
 ·rw [if_neg (by omega)];exact h.todo c U O
 ·rw [if_pos rfl];exact J.kept (qbW H I.heap.size (2+i) Z) (.inr (J.ne_low h.base.1))
theorem OutSt.model {H W:World} {k n M:Nat} {L:List Dr} (h:OutSt H W k n M 3 L):∃(a0 F a2:Option Addr) (c0 c1 c2:Nat),W.heap[H.heap.size]? = some (.cells #[.int .i64 (k:Int),.int .i64 (n:Int),.slice a0 M c0,.slice F M c1,.slice a2 M c2] 38 (0,0))/\Below H.heap.size H W /\
  MdAt W (.agg #[.int .i64 (k:Int),.int .i64 (n:Int),.slice a0 M c0,.slice F M c1,.slice a2 M c2]) (mdq k n M (mox L)):=by
 obtain⟨J,h⟩:=h;obtain⟨a0,g0,c0,e0,f0,_⟩:=h.done 0 (by decide) (by decide);obtain⟨F,g1,c1,e1,f1,_⟩:=h.done 1 (by decide) (by decide);obtain⟨a2,g2,c2,e2,f2,_⟩:=h.done 2 (by decide) (by decide);have I:=h.row;rw [e0,e1,e2] at I;exact⟨a0,F,a2,c0,c1,c2,I,h.old,MdAt.of f0 f1 f2⟩
open Go.ChangeShapes Go.WideShapes Go.ChangeAt Go.Deep Go.Proofs.Tryz
section
variable {H:Type} {enc:TypeId×Value->H} {w:World} {sp:Nat->Bool} {held:Bool} {fuel:Nat} {v:Value} {x:DataW H×List MemPlace}
theorem qfE {a:Addr} {u:Value} (h:w.cell? (a.add 0)=some u):a=⟨a.block,a.off,none⟩:=by
 obtain⟨b,off,s⟩:=a;have:=World.cell?_spot h;have e:s=none:=by simpa [Addr.add] using this
 rw [e]
theorem qiX (h:DataW.trod enc prog w 0 sp held fuel 28 [v]=some x):∃(a:Option Addr) (b off c:Nat) (l:List Int),v=.slice a l.length c/\l.length<=maxLen/\KCells w .u16 a b off l/\∀k,0<=l.getD k 0/\l.getD k 0<65536:=by
 rcases open_slice1 underlying28 (by kernel_rfl) h with ⟨I,_⟩ | ⟨a,len,cap,m,n,V,D,Pl,I,_,hl,hm,U,_,hx⟩
 ·exact⟨none,0,0,0,[],by injection I,by decide,⟨fun h=>absurd h (by decide),fun k h=>absurd h (by simp)⟩,fun k=>by simp⟩
 ·have aa:len<=m:=by rw [U];split <;> omega
  have J:∀i,i<len->∃z:Int,V i=.int .u16 z/\0<=z/\z<65536:=fun i hi=>by
   obtain⟨z,e,_,hw⟩:=DataW.trod_int underlying109 (hx i (by omega)).2;have h2:0<=z/\z<=65535:=by simpa [Lit.wf,IntKind.min,IntKind.max,IntKind.signed,IntKind.bits] using hw
   exact⟨z,by injection e,h2.1,by omega⟩
  obtain⟨Y,Z⟩:=choose_lt J;have hg:∀k,k<len->((List.range len).map Y).getD k 0=Y k:=fun k H=>by
   rw [qaa,qay,qbb H];rfl
  have F:((List.range len).map Y).length=len:=by rw [qav,qbx]
  refine⟨some a,a.block,a.off,cap,(List.range len).map Y,by rw [F];injection I,by rw [F];omega,⟨fun O=>?_,fun k H=>?_⟩,fun k=>?_⟩
  ·rw [F] at O;exact congrArg some (qfE (hx 0 (by omega)).1)
  ·rw [F] at H;rw [hg k H];have O:=(hx k (by omega)).1;rw [qfE (a:=a) (hx 0 (by omega)).1,Addr.add_mid,(Z k H).1] at O;exact O
  ·rcases qaQ k len with H | H
   ·rw [hg k H];exact (Z k H).2
   ·rw [qaa,qaS (by rw [F];exact H)];exact⟨Int.le_refl _,by decide⟩
theorem c3Dr:Tryz.prog.cellsOf 126=3:=by kernel_rfl
theorem c6Dr:Tryz.prog.cellsOf 128=6:=by kernel_rfl
theorem c1B:Tryz.prog.cellsOf 4=1:=by kernel_rfl
theorem c1U:Tryz.prog.cellsOf 109=1:=by kernel_rfl
theorem c1S:Tryz.prog.cellsOf 28=1:=by kernel_rfl
theorem qiW {v0 I v2:Value} (h:DataW.trod enc prog w 0 sp held fuel 126 [v0,I,v2]=some x) :
  ∃(bl:Bool) (a:Option Addr) (b off c:Nat) (l:List Int) (z:Int),v0=.bool bl/\I=.slice a l.length c/\v2=.int .u16 z/\l.length<=maxLen/\KCells w .u16 a b off l/\∀k,0<=l.getD k 0/\l.getD k 0<65536:=by
 obtain⟨xs,n,_,_,_,H,F⟩:=DataW.trod_struct underlying126 h
 match xs,H with
 | [y0,y1,y2],_ =>
  have g0:=F 0 _ rfl;have g1:=F 1 _ rfl;have g2:=F 2 _ rfl;simp [c1B,c1U,c1S] at g0 g1 g2;obtain⟨bl,e0,_⟩:=DataW.trod_bool underlying4 g0;obtain⟨a,b,off,c,l,e1,O,J,U⟩:=qiX g1;obtain⟨z,e2,_,_⟩:=DataW.trod_int underlying109 g2;exact⟨bl,a,b,off,c,l,z,by injection e0,e1,by injection e2,O,J,U⟩
theorem open_dr {cs:List Value} (h:DataW.trod enc prog w 0 sp held fuel 128 cs=some x) {a:Addr} (hc:w.cells? 0 a 6=some cs) (Z:a.spot=none) :
  ∃d,DrAt w a.block a.off d/\DrOk d:=by
 obtain⟨_,H,F⟩:=World.cells?_some hc;obtain⟨xs,n,_,_,_,aa,hf⟩:=DataW.trod_struct underlying128 h
 match xs,aa,cs,H with
 | [y0,y1],_,[v0,v1,v2,v3,v4,v5],_ =>
  have g0:=hf 0 _ rfl;have g1:=hf 1 _ rfl;simp [c3Dr] at g0 g1;obtain⟨bl,a1,b1,o1,c1,l1,z1,rfl,rfl,rfl,O,I,V⟩:=qiW g0;obtain⟨bm,a2,b2,o2,c2,l2,z2,rfl,rfl,rfl,U,J,Y⟩:=qiW g1;obtain⟨ab,ao,asp⟩:=a;have Z:asp=none:=Z;subst Z;have e:∀k (u:Value),k<6->w.cell? ((⟨ab,ao,none⟩:Addr).add k)=some u->w.cell? ⟨ab,ao+k,none⟩=some u:=fun k u _ h=>by
   rw [<-Addr.add_mid];exact h
  refine⟨⟨bl,l1,z1,bm,l2,z2⟩,⟨a1,b1,o1,c1,a2,b2,o2,c2,⟨by have:=e 0 _ (by decide) (F 0 (by decide));simpa using this,by have:=e 1 _ (by decide) (F 1 (by decide));simpa using this,by have:=e 2 _ (by decide) (F 2 (by decide));simpa using this,
   by have:=e 3 _ (by decide) (F 3 (by decide));simpa using this,by have:=e 4 _ (by decide) (F 4 (by decide));simpa using this,by have:=e 5 _ (by decide) (F 5 (by decide));simpa using this⟩,I,J⟩,?_⟩
  unfold maxLen at O U;exact⟨by show l1.length<=_;omega,by show l2.length<=_;omega,V,Y⟩
theorem open_drs (h:DataW.trod enc prog w 0 sp held fuel 25 [v]=some x):∃(a:Option Addr) (b off c:Nat) (L:List Dr),v=.slice a L.length c/\L.length<=maxLen/\DrCells w a b off L:=by
 rcases open_slice underlying25 h with ⟨J,_⟩ | ⟨a,len,cap,m,n,D,Pl,J,_,hl,hm,aa,_,hx⟩
 ·exact⟨none,0,0,0,[],by injection J,by decide,⟨fun h=>absurd h (by decide),fun k h=>absurd h (by simp),fun k h=>absurd h (by simp)⟩⟩
 ·have af:len<=m:=by rw [aa];split <;> omega
  have Z:0<len->a=⟨a.block,a.off,none⟩:=fun h0=>by
   obtain⟨cs',O,_⟩:=hx 0 (by omega);rw [c6Dr] at O;obtain⟨_,ae,I⟩:=World.cells?_some O;have h3:=I 0 (by decide);rw [add_add] at h3;have h4:w.cell? (a.add 0)=cs'[0]?:=h3;rw [qad (by omega)] at h4;exact qfE h4
  have U:∀i,i<len->∃d,DrAt w a.block (a.off+i*6) d/\DrOk d:=fun i hi=>by
   obtain⟨cs',O,h2⟩:=hx i (by omega);rw [c6Dr] at O;have ha:=Z (by omega);have V:a.add (i*6)=⟨a.block,a.off+i*6,none⟩:=by rw [ha,Addr.add_mid]
   rw [V] at O;exact open_dr h2 O rfl
  have:Inhabited Dr:=⟨dr0⟩;obtain⟨Y,hY⟩:=choose_lt U;have hg:∀k,k<len->((List.range len).map Y).getD k dr0=Y k:=fun k H=>by
   rw [qaa,qay,qbb H];rfl
  have F:((List.range len).map Y).length=len:=by rw [qav,qbx]
  refine⟨some a,a.block,a.off,cap,(List.range len).map Y,by rw [F];injection J,by rw [F];omega,⟨fun h0=>?_,fun k H=>?_,fun k H=>?_⟩⟩
  ·rw [F] at h0;exact congrArg some (Z h0)
  ·rw [F] at H;rw [hg k H];exact (hY k H).1
  ·rw [F] at H;rw [hg k H];exact (hY k H).2
theorem qjS {r:DataW H×List MemPlace} (h:DataW.trod enc prog w 0 sp held fuel 5 [v]=some r):∃n:Nat,v=.int .u8 (n:Int)/\n<256:=by
 obtain⟨z,e,_,F⟩:=DataW.trod_int underlying5 h;have this:0<=z/\z<=255:=by simpa [Lit.wf,IntKind.min,IntKind.max,IntKind.signed,IntKind.bits] using F
 refine⟨z.toNat,?_,by omega⟩;rw [Int.toNat_of_nonneg this.1];injection e
theorem open_mo {r:Reach} {O:Nat} {d:DataW H} {p:List MemPlace} (hv:Value.okWide prog w r O 27 v) (h:DataW.Trod enc prog w 0 sp held 27 v d p) :
  ∃(J inn:Nat) (L:List Dr),MoAt w v J inn L:=by
 obtain⟨v0,v1,v2,y0,y1,y2,n,rfl,rfl,rfl,U,V,Y⟩:=Joins.open_agg3 underlying27 (by kernel_rfl) (by kernel_rfl) hv h;obtain⟨J,rfl,I⟩:=qjS U;obtain⟨inn,rfl,F⟩:=qjS V;obtain⟨a,b,off,c,L,rfl,Z,hC⟩:=open_drs Y;unfold maxLen at Z;exact⟨J,inn,L,a,b,off,c,rfl,I,F,by omega,hC⟩
end
end Go.Proofs.YtplkdeknjghobaaGreatDoor
namespace Go.Proofs.YtplkdeknjghobaaGreatDoor
open Go.RowKit
theorem fct_mono {n m:Nat} (h:n<=m):fct n<=fct m:=by
 induction h with
 | refl=>exact qae _
 | step _ ih =>
  refine qaj ih ?_
  show _<=(_+1)*fct _
  exact Nat.le_mul_of_pos_left _ (Nat.succ_pos _)
def fitS:Nat:=26214400
def fitB:Nat:=362387865600
def QB:Nat:=fct 10*fitB ^ 10
def PB:Nat:=fct 11*fitB ^ 11
theorem qeL {n m:Nat} (h:n<=m):fct n*fitB ^ n<=fct m*fitB ^ m:=Nat.mul_le_mul (fct_mono h) (qa4 (by decide) h)
def qef (l:List Pt):Prop:=l.length<=12/\∀i,i<l.length->∀j,∃m:Nat,m<=8/\(l.getD i pt0).dev.getD j 0=1250*m
def W9 (F:List Int) (n:Nat):Prop:=∀i,i<n->0<=F.getD i 0/\F.getD i 0<=9
theorem W9.cd {F:List Int} {n i:Nat} (h:W9 F n) (H:i<n):Cd (wq F i) 1 9:=by
 obtain⟨I,J⟩:=h i H;exact (Cd.int (F.getD i 0)).mono (by omega)
theorem PtsOk.lab_cd {l:List Pt} (h:PtsOk l) (c:Nat) {i:Nat} (I:i<l.length):Cd (labq l c i) 100 12800:=by
 have F:=(h.rows i I).1;have:=F.l0;have:=F.l1;have:=F.l2;have H:((l.getD i pt0).lab c).natAbs<=12800:=by unfold Pt.lab;(repeat' split) <;> omega
 exact (Cd.frac ((l.getD i pt0).lab c) 100).mono H
theorem PtsOk.term_cd {l:List Pt} (h:PtsOk l) (H:qef l) {k:Nat} (J:1<=k/\k<=3) (I:¬(k=3/\chans l=4)) {i:Nat} (F:i<l.length) (j:Nat):Cd (tqf l k i j) 512 512:=by
 have:=(h.rows i F).2;have:=h.n4;exact termQ_cd (E:=8) (by decide) (dq_cd8 (H.2 i F)) (by omega) j
def fitE (l:List Pt) (k:Nat) (F:List Int) (r c:Nat):Rat:=if c<many k (chans l) then nq l k F 0 r c else nq l k F (c-many k (chans l)) r (many k (chans l))
theorem qmi {l:List Pt} (h:PtsOk l) (I:qef l) {k:Nat} (V:1<=k/\k<=3) (O:¬(k=3/\chans l=4)) {J:List Int} (Z:W9 J l.length) {r c:Nat} (Y:r<many k (chans l)):Cd (fitE l k J r c) fitS fitB:=by
 unfold fitE;have H:=I.1
 by_cases U:c<many k (chans l)
 ·rw [if_pos U];unfold nq normR;have:=Cd.sum (n:=l.length) (f:=fun i=>wq J i*(gR (many k (chans l)) (tqf l k) (labq l 0) i r*gR (many k (chans l)) (tqf l k) (labq l 0) i c)) (D:=1*(512*512)) (N:=9*(512*512)) fun i F=>by
   unfold gR;rw [if_pos Y,if_pos U];exact (Z.cd F).mul ((h.term_cd I V O F r).mul (h.term_cd I V O F c) (by decide) (by decide)) (by decide) (by decide)
  have:=(this.up 100 (by omega) (by omega)).mono (M:=fitB) (by
   have:l.length*(9*(512*512))<=12*(9*(512*512)):=qaH _ H;unfold fitB;omega)
  exact this
 ·rw [if_neg U];unfold nq normR;have:=Cd.sum (n:=l.length) (f:=fun i=>wq J i*(gR (many k (chans l)) (tqf l k) (labq l (c-many k (chans l))) i r*gR (many k (chans l)) (tqf l k) (labq l (c-many k (chans l))) i (many k (chans l)))) (D:=1*(512*100)) (N:=9*(512*12800)) fun i F=>by
   unfold gR;rw [if_pos Y,if_neg (Nat.lt_irrefl _)];exact (Z.cd F).mul ((h.term_cd I V O F r).mul (h.lab_cd _ F) (by decide) (by decide)) (by decide) (by decide)
  have:=(this.up 512 (by omega) (by omega)).mono (M:=fitB) (by
   have:l.length*(9*(512*12800))<=12*(9*(512*12800)):=qaH _ H;unfold fitB;omega)
  exact this
theorem qm7 {l:List Pt} {k:Nat} {I:List Int} {c c' r j:Nat} (H:r<many k (chans l)) (F:j<many k (chans l)):nq l k I c r j=nq l k I c' r j:=by
 unfold nq normR;refine qbX fun i _=>?_
 unfold gR;rw [if_pos H,if_pos F,if_pos H,if_pos F]
theorem qmk {l:List Pt} (h:PtsOk l) (h8:qef l) {k:Nat} (hk:1<=k/\k<=3) (h3:¬(k=3/\chans l=4)) {J:List Int} (hw:W9 J l.length) {x:Nat->Nat->Rat} (hs:¬Sing (many k (chans l)) (nq l k J 0)) (hx:∀c,c<3->FitX l k J c (x c)) :
  ∃D:Nat,D≠0/\D<=QB/\∀c,c<3->∀i,i<many k (chans l)->Cd (x c i) D PB:=by
 obtain⟨n,I⟩:=qX (many k (chans l));have V:n<=10:=by rw [<-I];exact (qe7 (kind:=k) ⟨rfl,hk⟩ h.n1 h.n4 h3).2
 have hE:∀r c,∃a:Int,r<n->fitE l k J r c=(a:Rat) / (fitS:Rat)/\a.natAbs<=fitB:=fun r c=>by
  by_cases U:r<n
  ·obtain⟨a,e,ha⟩:=qmi h h8 hk h3 hw (c:=c) (by rw [I];exact U);exact⟨a,fun _=>⟨e,ha⟩⟩
  ·exact⟨0,fun h=>absurd h U⟩
 obtain⟨A,hA⟩:∃A:Nat->Nat->Int,∀r c,r<n->fitE l k J r c=(A r c:Rat) / (fitS:Rat)/\(A r c).natAbs<=fitB:=⟨fun r c=>(hE r c).choose,fun r c=>(hE r c).choose_spec⟩;have hS:(fitS:Rat)≠0:=qeG (by decide);have H:∀r c,r<n->castM A r c=(fitS:Rat)*fitE l k J r c:=fun r c U=>by
  rw [(hA r c U).1]
  show (A r c:Rat)=_
  generalize (fitS:Rat)=S at *
  grind
 have hl:∀r j,r<n->j<n->castM A r j=(fitS:Rat)*nq l k J 0 r j:=fun r j U O=>by
  rw [H r j U];unfold fitE;rw [I,if_pos O]
 have af:¬Sing n (castM A):=fun ag=>hs (by
  rw [I];obtain⟨y,hy,h0⟩:=ag;refine⟨y,hy,fun i F=>?_⟩;have:=h0 i F;rw [qbX fun j O=>show castM A i j*y j=(fitS:Rat)*(nq l k J 0 i j*y j) by rw [hl i j F O,Rat.mul_assoc],qcb] at this;rcases Rat.mul_eq_zero.1 this with e | e
  ·exact absurd e hS
  ·exact e)
 obtain⟨q,p,hq,aa,hp⟩:=qje (R:=n) (m:=3) (B:=fitB) (A:=A) (x:=x) (by decide) (fun i j F _=>(hA i j F).2) af fun c Z i F=>by
  have hx:=hx c Z i (by rw [I];exact F);rw [I] at hx;rw [qbX fun j O=>show castM A i j*x c j=(fitS:Rat)*(nq l k J c i j*x c j) by rw [hl i j F O,qm7 (c:=0) (c':=c) (by rw [I];exact F) (by rw [I];exact O),Rat.mul_assoc],qcb,hx]
  show (fitS:Rat)*nq l k J c i n=castM A i (n+c)
  rw [H i (n+c) F];unfold fitE;rw [I,if_neg (by omega),Nat.add_sub_cancel_left]
 refine⟨q.natAbs,by omega,qaj aa (qeL V),fun c Z i F=>?_⟩;rw [I] at F;obtain⟨e,Y⟩:=hp c Z i F;have Y:(p c i).natAbs<=PB:=qaj Y (qeL (by omega));have ae:(q:Rat)≠0:=fun e=>hq (by exact_mod_cast e)
 rcases Int.natAbs_eq q with hq2 | hq2
 ·refine⟨p c i,?_,Y⟩;rw [e];have:(q:Rat)=(q.natAbs:Rat):=by rw [<-Rat.intCast_natCast,<-hq2]
  rw [<-this]
 ·refine⟨-(p c i),?_,by rw [qbj];exact Y⟩;rw [e];have:(q:Rat) = -(q.natAbs:Rat):=by rw [<-Rat.intCast_natCast,<-Rat.intCast_neg,<-hq2]
  rw [Rat.intCast_neg];generalize (q.natAbs:Rat)=Q at *;rw [this];have:Q≠0:=fun e=>ae (by rw [this,e];rfl)
  grind
open Go.Proofs.Tryz
def patD (z:Int):Int:=((z.natAbs % 9*1250:Nat):Int)
def nmL:List ByteArray:=[⟨#[112,48]⟩,⟨#[112,49]⟩,⟨#[112,50]⟩,⟨#[112,51]⟩,⟨#[112,52]⟩,⟨#[112,53]⟩,⟨#[112,54]⟩,⟨#[112,55]⟩,⟨#[112,56]⟩,⟨#[112,57]⟩,⟨#[112,49,48]⟩,⟨#[112,49,49]⟩]
def nmD (i:Nat):ByteArray:=nmL.getD i ⟨#[112]⟩
theorem nm_eq (i:Nat) (F:i<12):⟨#[112]⟩++num i=nmD i:=by
 rcases (show i=0\/i=1\/i=2\/i=3\/i=4\/i=5\/i=6\/i=7\/i=8\/i=9\/i=10\/i=11 by omega) with rfl | rfl | rfl | rfl | rfl | rfl | rfl | rfl | rfl | rfl | rfl | rfl
 all_goals first
  | (unfold num;rw [qb1 (by decide)];rfl)
  | (unfold num;rw [qca (by decide),qb1 (by decide)];rfl)
theorem nm_name:∀i,i<12->qhp (nmD i):=fun i F=>by
 rcases (show i=0\/i=1\/i=2\/i=3\/i=4\/i=5\/i=6\/i=7\/i=8\/i=9\/i=10\/i=11 by omega) with rfl | rfl | rfl | rfl | rfl | rfl | rfl | rfl | rfl | rfl | rfl | rfl
 all_goals exact⟨by decide,by decide,by decide⟩
theorem nm_apart:∀i k,k<i->i<12->nmD k≠nmD i:=by
 have h:∀i,i<12->∀k,k<i->nmD k≠nmD i:=by decide
 exact fun i k H F=>h i F k H
def ptD (n i:Nat) (F:List Int):Pt:=⟨nmD i,(List.range n).map fun k=>patD (F.getD k 0),5000+(F.getD 4 0).tmod 5000,(F.getD 5 0).tmod 12700,(F.getD 6 0).tmod 12700⟩
def ptE (n:Nat):Pt:=⟨⟨#[112]⟩,List.replicate n 0,0,0,0⟩
def ptsD (n:Nat) (L:List (List Int)):List Pt:=if L.length=0 then [ptE n] else (List.range (min L.length 12)).map fun i=>ptD n i (L.getD i [])
theorem qnl (z:Int):0<=patD z/\patD z<=10000:=by unfold patD;omega
theorem qno {n i k:Nat} {F:List Int} (H:k<n):(ptD n i F).dev.getD k 0=patD (F.getD k 0):=by
 show ((List.range n).map _).getD k 0=_
 rw [qaa,qay,qbb H];rfl
theorem qet (n i:Nat) (F:List Int):(ptD n i F).dev.length=n:=by show ((List.range n).map _).length=n;simp
theorem ptD_ok {n i:Nat} {F:List Int} (I:1<=n) (J:n<=4) (O:i<12):PtOk (ptD n i F) where
 name:=nm_name i O
 n1:=by rw [qet];exact I
 n4:=by rw [qet];exact J
 vals:=fun k H=>by rw [qet] at H;rw [qno H];exact qnl _
 l0:=by
  have a:=Int.lt_tmod_of_pos (F.getD 4 0) (show (0:Int)<5000 by decide);have b:=Int.tmod_lt_of_pos (F.getD 4 0) (show (0:Int)<5000 by decide)
  show 0<=5000+(F.getD 4 0).tmod 5000/\5000+(F.getD 4 0).tmod 5000<=10000
  omega
 l1:=by
  have a:=Int.lt_tmod_of_pos (F.getD 5 0) (show (0:Int)<12700 by decide);have b:=Int.tmod_lt_of_pos (F.getD 5 0) (show (0:Int)<12700 by decide)
  show -12800<=(F.getD 5 0).tmod 12700/\(F.getD 5 0).tmod 12700<=12700
  omega
 l2:=by
  have a:=Int.lt_tmod_of_pos (F.getD 6 0) (show (0:Int)<12700 by decide);have b:=Int.tmod_lt_of_pos (F.getD 6 0) (show (0:Int)<12700 by decide)
  show -12800<=(F.getD 6 0).tmod 12700/\(F.getD 6 0).tmod 12700<=12700
  omega
theorem qnp (n k:Nat):(ptE n).dev.getD k 0=0:=by
 show (List.replicate n (0:Int)).getD k 0=0
 rw [qaa,qbc];split <;> rfl
theorem ptE_ok {n:Nat} (F:1<=n) (H:n<=4):PtOk (ptE n) where
 name:=show qhp ⟨#[112]⟩ from ⟨by decide,by decide,by decide⟩
 n1:=by show 1<=(List.replicate n (0:Int)).length;rw [qaO];exact F
 n4:=by show (List.replicate n (0:Int)).length<=4;rw [qaO];exact H
 vals:=fun k _=>by rw [qnp];exact⟨by decide,by decide⟩
 l0:=show (0:Int)<=0/\(0:Int)<=10000 from by decide
 l1:=show (-12800:Int)<=0/\(0:Int)<=12700 from by decide
 l2:=show (-12800:Int)<=0/\(0:Int)<=12700 from by decide
theorem qgp (n:Nat) (L:List (List Int)):1<=(ptsD n L).length/\(ptsD n L).length<=12:=by
 unfold ptsD;split
 ·exact⟨qae 1,show 1<=12 from by decide⟩
 ·rw [qav,qbx];omega
theorem qgV {n:Nat} {L:List (List Int)} {i:Nat} (F:i<(ptsD n L).length):(L.length=0/\i=0/\(ptsD n L).getD i pt0=ptE n)\/(L.length≠0/\i<12/\(ptsD n L).getD i pt0=ptD n i (L.getD i [])):=by
 unfold ptsD at F ⊢;split
 ·rename_i h;rw [if_pos h] at F;obtain rfl:i=0:=by have:i<1:=F;omega
  exact .inl ⟨h,rfl,rfl⟩
 ·rename_i h;rw [if_neg h,qav,qbx] at F;refine .inr ⟨h,by omega,?_⟩;rw [qaa,qay,qbb F];rfl
theorem qkD (n:Nat) (L:List (List Int)) {i:Nat} (F:i<(ptsD n L).length):((ptsD n L).getD i pt0).dev.length=n:=by
 rcases qgV F with ⟨_,_,e⟩ | ⟨_,_,e⟩
 ·rw [e];exact qaO
 ·rw [e];exact qet _ _ _
theorem qhG (n:Nat) (L:List (List Int)):chans (ptsD n L)=n:=qkD n L (qgp n L).1
theorem ptsD_ok {n:Nat} (L:List (List Int)) (H:1<=n) (I:n<=4):PtsOk (ptsD n L) where
 r1:=(qgp n L).1
 r2:=by have:=(qgp n L).2;omega
 rows:=fun k F=>⟨by
  rcases qgV F with ⟨_,_,e⟩ | ⟨_,h,e⟩
  ·rw [e];exact ptE_ok H I
  ·rw [e];exact ptD_ok H I h,by rw [qhG];exact qkD n L F⟩
 apart:=fun i k F J=>by
  rcases qgV J with ⟨_,h,_⟩ | ⟨O,h,e⟩
  ·omega
  ·rcases qgV (Nat.lt_trans F J) with ⟨H,_,_⟩ | ⟨_,_,e2⟩
   ·exact absurd H O
   ·rw [e,e2];exact nm_apart i k F h
theorem qi3 {n:Nat} (L:List (List Int)):qef (ptsD n L):=⟨(qgp n L).2,fun i F j=>by
 rcases qgV F with ⟨_,_,e⟩ | ⟨_,_,e⟩
 ·rw [e,qnp];exact⟨0,by decide,rfl⟩
 ·rw [e];rcases qaQ j n with hj | hj
  ·rw [qno hj];refine⟨((L.getD i []).getD j 0).natAbs % 9,by omega,?_⟩;unfold patD;omega
  ·refine⟨0,by decide,?_⟩;rw [qaa,qaS (by rw [qet];exact hj)];rfl⟩
theorem qfX {J:Array Oper} {rest:List Oper} {o:Oper} {a:Act} {w:World} {Q:Exit->Act->World->Prop} (U:o.guard=none) (s x:Operand)
  (Z:o.op=.call { callee:=.builtin .append,args:=#[s,x],argTypes:=#[32,32] }) {B:Nat} {v:Value} {l:List Int} {z:Int} (I:IOwn w B v l) (hB:B<=w.heap.size) (hs:a.eval s=v) {g:Nat} (hx:a.eval x=.slice (some ⟨g,0,none⟩) 1 1) (hg:g=w.heap.size) (hn:l.length<1000000)
  (h:∀F H,Hu (IOwn H B F (l++[z]))->Hu (F.ownBlock=v.ownBlock/\(w.alloc (.cells #[.int .i64 z] 3)).grownBy H v.ownBlock\/F.ownBlock=some (w.alloc (.cells #[.int .i64 z] 3)).heap.size/\(w.alloc (.cells #[.int .i64 z] 3)).grownBy H none)->wpList prog J Q rest (a.put o.dst F) H) :
  wpList prog J Q (o :: rest) a (w.alloc (.cells #[.int .i64 z] 3)):=by
 subst hg;have O:Below w.heap.size w (w.alloc (.cells #[.int .i64 z] 3)):=qbU qB qN;obtain⟨F,H,hr,V,Y⟩:=qkH o.type (I.below O) (by simp only [qab];omega) (qfp (q:=[z]) (qM w (.cells #[.int .i64 z] 3) _ rfl) 0) (c:=1) rfl (Nat.zero_lt_one) (by show l.length+1<=_;omega);exact qdL U s x _ Z hs hx hr (h F H (qH V) (qH Y))
