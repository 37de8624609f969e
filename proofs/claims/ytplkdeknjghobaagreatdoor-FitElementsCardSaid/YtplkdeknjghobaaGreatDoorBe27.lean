import Derived.Deep.SlicePairs
import Derived.Test.YtplkdeknjghobaaGreatDoorBe26
set_option maxRecDepth 100000
set_option maxHeartbeats 0
namespace Go.Proofs.YtplkdeknjghobaaGreatDoor
open Go.RowKit
def ElG (m:Md) (W:World) (v:Value):Prop:=∃n,MdOk m 1 n/\ElOk m n/\∃(B:Nat) (vr vo:Value),v=.agg #[.int .i64 2,.slice none 0 0,vr,vo,.slice none 0 0,.int .i64 0,.slice none 0 0,.slice none 0 0,.int .i64 0,.int .i64 0]/\ElTo W B m n 3 3 vr vo
def ElF (m:Md) (e:Int):Prop:=(¬qdC m/\e=320)\/(qdC m/\m.kind≠1/\e=5)\/(∃n,MdOk m 1 n/\¬ElOk m n/\e=6)
theorem qeJ {W:World} {eb:Nat} {vr vo:Value} (h:W.heap[eb]? = some (.cells #[.int .i64 2,.slice none 0 0,vr,vo,.slice none 0 0,.int .i64 0,.slice none 0 0,.slice none 0 0,.int .i64 0,.int .i64 0] 82 (0,0))):W.cell? ⟨eb,2,none⟩=some vr/\W.cell? ⟨eb,3,none⟩=some vo/\∀j,W.frozen? ⟨eb,j,none⟩=false :=
 ⟨qC _ _ 2 _ _ _ h,qC _ _ 3 _ _ _ h,fun _j=>qF _ _ _ _ _ h⟩
structure ElSt (w2:World) (W:World) (m:Md) (n i j:Nat) (vr vo:Value):Prop where
 old:Below w2.heap.size w2 W
 row:W.heap[w2.heap.size]? = some (.cells #[.int .i64 2,.slice none 0 0,vr,vo,.slice none 0 0,.int .i64 0,.slice none 0 0,.slice none 0 0,.int .i64 0,.int .i64 0] 82 (0,0))
 tos:ElTo W (w2.heap.size+1) m n i j vr vo
theorem ElSt.below {w2 W W':World} {m:Md} {n i j:Nat} {vr vo:Value} (h:ElSt w2 W m n i j vr vo) (hb:Below W.heap.size W W'):ElSt w2 W' m n i j vr vo :=
 ⟨h.old.trans (hb.mono h.old.size),zkeep hb _ _ h.row,h.tos.below hb⟩
instance stays_elst {w2:World} {m:Md} {n i j:Nat} {vr vo:Value}:Stays fun W=>ElSt w2 W m n i j vr vo:=⟨fun h hb=>h.below hb⟩
theorem qgr {W:World} {g:Nat} {q:List Int} {t:TypeId} (h:W.heap[g]? = some (.cells (q.map fun z=>Value.int .i64 z).toArray t (0,0))) (off:Nat):NCells W (some ⟨g,off,none⟩) g off (q.drop off) :=
 ⟨fun _=>rfl,fun k hk=>by
  rw [qaY] at hk;refine (qC _ _ _ _ _ _ h).trans ?_;rw [qat,qaM,qaa,List.getElem?_drop,qae (by omega)];rfl⟩
theorem qg6 {W:World} (g k:Nat) (v:Value):W.grownBy (W.setCell ⟨g,k,none⟩ v) (some g):=frac.qbX W g k v
theorem el1_any (m:Md) (mb:Nat) (a:Nat->Option Addr) (b' o d:Nat->Nat) (w:World) (hml:∀q,q<3->(m.row q).length<=4611686018427387904)
  (hmb:w.heap[mb]? = some (.cells #[.int .i64 m.kind,.int .i64 m.inn,.slice (a 0) (m.row 0).length (d 0),.slice (a 1) (m.row 1).length (d 1),.slice (a 2) (m.row 2).length (d 2)] 38 (0,0))) (hF:∀q,q<3->FCells w (a q) (b' q) (o q) (m.row q)) (hT:HasT w) (hE:HasE w) :
  Calls Tryz.prog 89 #[.pointer (some ⟨mb,0,none⟩)] w fun e w'=>Below w.heap.size w w' /\
   ((∃(p2:Option Addr) (n2 c2:Nat) (p3:Option Addr) (n3 c3:Nat),e=.returned (.agg #[.int .i64 2,.slice none 0 0,.slice p2 n2 c2,.slice p3 n3 c3,.slice none 0 0,.int .i64 0,.slice none 0 0,.slice none 0 0,.int .i64 0,.int .i64 0])/\ElG m w' (.agg #[.int .i64 2,.slice none 0 0,.slice p2 n2 c2,.slice p3 n3 c3,.slice none 0 0,.int .i64 0,.slice none 0 0,.slice none 0 0,.int .i64 0,.int .i64 0]))\/∃c,e=thrown c/\ElF m c):=by
 obtain⟨W1,hW1,N1⟩:=nw1 w #[.int .i64 0,.slice none 0 0,.slice none 0 0,.slice none 0 0,.slice none 0 0,.int .i64 0,.slice none 0 0,.slice none 0 0,.int .i64 0,.int .i64 0] 82;have hM:MdAt W1 (.agg #[.int .i64 m.kind,.int .i64 m.inn,.slice (a 0) (m.row 0).length (d 0),.slice (a 1) (m.row 1).length (d 1),.slice (a 2) (m.row 2).length (d 2)]) m :=
  ⟨_,_,_,_,_,_,_,_,_,_,_,_,rfl,(hF 0 (by decide)).below N1.out.1,(hF 1 (by decide)).below N1.out.1,(hF 2 (by decide)).below N1.out.1⟩
 have hCk:=qfS m _ W1 hM hml;obtain⟨kind,hkind⟩:∃z,m.kind=z:=⟨_,rfl⟩;obtain⟨inn,hinn⟩:∃z,m.inn=z:=⟨_,rfl⟩;obtain⟨L,hL⟩:∃L:Nat->Nat,∀q,(m.row q).length=L q:=⟨_,fun _=>rfl⟩;rw [hkind,hinn,hL,hL,hL] at hmb hCk;have HCk:=qH hCk;have K1:=N1.also (q:=fun W=>W.heap[mb]? = some (.cells #[.int .i64 kind,.int .i64 inn,.slice (a 0) (L 0) (d 0),.slice (a 1) (L 1) (d 1),.slice (a 2) (L 2) (d 2)] 38 (0,0))/\HasT W/\HasE W) ⟨zkeep N1.out.1 _ _ hmb,hT.below N1.out.1,hE.below N1.out.1⟩;have c0:=qC _ _ 0 _ _ _ K1.out.2.1;have c1:=qC _ _ 1 _ _ _ K1.out.2.1;have c2:=qC _ _ 2 _ _ _ K1.out.2.1;have c3:=qC _ _ 3 _ _ _ K1.out.2.1;have c4:=qC _ _ 4 _ _ _ K1.out.2.1;have HX:=qH (qA hkind (qA hinn (qA hL hF)));have hmf:=@hmf_ Tryz.prog;clear N1 hM hCk hmb hF hT hE hml hkind hinn hL;go_enter Tryz.func89,Tryz.ntmps89;go_upto_region 1 with fail;rw [<-hW1];clear hW1;go_wp2_with fail;refine HCk.out.mono ?_;rintro e w2 ⟨cc,rfl,hcc,hb2⟩;have K2:=K1.below hb2;clear hb2 K1 HCk c0 c1 c2 c3 c4;rcases hcc with ⟨rfl,hok⟩ | ⟨rfl,hno⟩
 case inr =>
  have HN:=qH hno;clear hno;go_wp2_with fail;refine (qcg 320 (by decide) _).mono ?_;rintro e w3 ⟨rfl,rfl⟩;unfold thrown;go_wp2_with fail;exact⟨rfl,K2.out.1.1,qah ⟨320,rfl,qan ⟨HN.out,rfl⟩⟩⟩
 have HSd:=qH hok;clear hok;go_wp2_with fail;refine (qep _).mono ?_;rintro e w3 ⟨rfl,hw⟩;subst hw;have c0:=qC _ _ 0 _ _ _ K2.out.2.1
 by_cases hk1:kind=1
 case neg =>
  have HK:=qH hk1;have hkb:(kind != 1)=true:=by rw [bne_iff_ne];exact hk1
  clear hk1;go_wp2_with fail;refine (qcg 5 (by decide) _).mono ?_;rintro e w3 ⟨rfl,rfl⟩;unfold thrown;go_wp2_with fail;exact⟨rfl,K2.out.1.1,qah ⟨5,rfl,qah (qan ⟨HSd.out,by rw [HX.out.1];exact HK.out,rfl⟩)⟩⟩
 obtain⟨n,hMd⟩:∃n,MdOk m 1 n:=by
  obtain⟨kk,n,h⟩:=HSd.out;have h1:=h.kind.1;have h2:=HX.out.1;obtain rfl:kk=1:=by omega
  exact⟨n,h⟩
 have hn1:=hMd.inn.2.1;have hn4:=hMd.inn.2.2;have HM:=qH hMd;have HLn:Hid (∀c,c<3->L c=n+1/\FAll (m.row c)):=qH fun c hc=>by
  obtain⟨h1,h2⟩:=hMd.rows c hc;rw [HX.out.2.2.1] at h1;exact⟨h1.trans (by unfold many;rw [if_pos rfl];omega),h2⟩
 clear hMd HSd;subst hk1;obtain⟨W5,hW5,N5⟩:=nw1 w2 #[.int .i64 2,.slice none 0 0,.slice none 0 0,.slice none 0 0,.slice none 0 0,.int .i64 0,.slice none 0 0,.slice none 0 0,.int .i64 0,.int .i64 0] 82;have K3:Kn (fun W=>(Below w.heap.size w W/\W.heap[w.heap.size]? = some (.cells #[.int .i64 0,.slice none 0 0,.slice none 0 0,.slice none 0 0,.slice none 0 0,.int .i64 0,.slice none 0 0,.slice none 0 0,.int .i64 0,.int .i64 0] 82 (0,0)))/\W.heap[mb]? = some (.cells #[.int .i64 1,.int .i64 inn,.slice (a 0) (n+1) (d 0),.slice (a 1) (n+1) (d 1),.slice (a 2) (n+1) (d 2)] 38 (0,0))/\HasT W/\HasE W) w2:=.of ⟨K2.out.1,by
  have h:=K2.out.2.1
  rwa [(HLn.out 0 (by decide)).1,(HLn.out 1 (by decide)).1,(HLn.out 2 (by decide)).1] at h,K2.out.2.2⟩
 have H0:Hid (ElSt w2 W5 m n 0 0 (.slice none 0 0) (.slice none 0 0)):=qH ⟨N5.out.1,N5.out.2,⟨⟨rfl,qan ⟨rfl,rfl⟩⟩,[],⟨rfl,qan ⟨rfl,rfl⟩⟩,fun c hc=>absurd hc (by omega)⟩⟩;have HLe:=qH (qA (HLn.out 0 (by decide)).1 (qA (HLn.out 1 (by decide)).1 (HLn.out 2 (by decide)).1));rw [HLe.out.1,HLe.out.2.1,HLe.out.2.2];clear K2 HLe;go_upto_region 5 with fail;rw [<-hW5];have hmr:=zkeep N5.out.1 _ _ K3.out.2.1;clear hW5 c0 N5;have c2:=qC _ _ 2 _ _ _ hmr;have c3:=qC _ _ 3 _ _ _ hmr;have c4:=qC _ _ 4 _ _ _ hmr;clear hmr;go_wp2_with fail;clear c2 c3 c4
 go_loopw [21] (fun x21 W=>∃j:Nat,x21=.int .i64 j/\j<=3/\Hid (∃vr vo,ElSt w2 W m n j j vr vo/\∀c,c<j->∀k,k<n+1->qgD (elz m c k))) (fun x21 _=>3-(intOf x21).toNat)
 case atStart=>exact⟨0,rfl,qam _,qH ⟨_,_,H0.out,fun c hc=>absurd hc (by omega)⟩⟩
 case round =>
  obtain⟨j,rfl,hj,hI⟩:=hrel;obtain⟨vr,vo,hS,hsm⟩:=hI.out
  by_cases hj3:j<3
  ·have hji:(j:Int)<3:=by omega
   have HS:=qH (qA hS hsm);clear hI hS hsm;obtain⟨aj,haj⟩:∃z,a j=z:=⟨_,rfl⟩;obtain⟨dj,hdj⟩:∃z,d j=z:=⟨_,rfl⟩;have hxj:∀W,(Instr.index 36 (.agg #[.slice (a 0) (n+1) (d 0),.slice (a 1) (n+1) (d 1),.slice (a 2) (n+1) (d 2)]) (.int .i64 (j:Int))).run Tryz.prog W=.ok (.slice aj (n+1) dj) W:=fun W=>by
    rw [<-haj,<-hdj];rcases (show j=0\/j=1\/j=2 by omega) with rfl | rfl | rfl <;> kernel_rfl
   have hFj:=(HX.out.2.2.2 j hj3).below (K3.out.1.1.trans (HS.out.1.old.mono K3.out.1.1.size));rw [haj] at hFj;have HFj:=qH hFj;clear hFj haj hdj;obtain⟨W6,hW6,N6⟩:=nw3 wr #[.slice aj (n+1) dj] 35 #[.int .i64 10000] 3 #[.int .i64 1] 3
   go_upto_if 26 with fail
   rw [<-hW6];clear hW6 hxj
   go_cut [7] (fun x7 W=>x7=.int .i64 (elM j)/\Kn (fun W=>Below wr.heap.size wr W/\W.heap[wr.heap.size]? = some (.cells #[.slice aj (n+1) dj] 35 (0,0))/\W.heap[wr.heap.size+1]? = some (.cells #[.int .i64 (elN j:Int)] 3 (0,0))/\W.heap[wr.heap.size+1+1]? = some (.cells #[.int .i64 (elD j:Int)] 3 (0,0))) W)
   case first =>
    by_cases hj0:(j:Int) > 0
    ·have c5:=qC _ _ 0 _ _ _ N6.out.2.2.1;have c6:=qC _ _ 0 _ _ _ N6.out.2.2.2;have f5:=qF _ _ 0 _ _ N6.out.2.2.1;have f6:=qF _ _ 0 _ _ N6.out.2.2.2;go_wp2;go_meet;have e1:elN j=15625:=by unfold elN;rw [if_neg (by omega)]
     have e2:elD j=4:=by unfold elD;rw [if_neg (by omega)]
     have e3:elM j=500000:=by unfold elM;rw [if_neg (by omega)]
     rw [e1,e2,e3];refine⟨rfl,.of ⟨(N6.out.1.setCell (p:=⟨wr.heap.size+1,0,none⟩) (qbR _) _).setCell (p:=⟨wr.heap.size+1+1,0,none⟩) (by show wr.heap.size<=wr.heap.size+1+1;omega) _,?_,?_,?_⟩⟩
     ·rw [qW _ _ _ _ (show wr.heap.size≠wr.heap.size+1+1 by omega),qW _ _ _ _ (show wr.heap.size≠wr.heap.size+1 by omega)];exact N6.out.2.1
     ·rw [qW _ _ _ _ (show wr.heap.size+1≠wr.heap.size+1+1 by omega)];exact qe9 N6.out.2.2.1 _
     ·exact qe9 ((qW _ _ _ _ (show wr.heap.size+1+1≠wr.heap.size+1 by omega)).trans N6.out.2.2.2) _
    ·obtain rfl:j=0:=by omega
     go_wp2;go_meet;exact⟨rfl,N6⟩
   case rest =>
    obtain⟨rfl,K6⟩:=hcut;have hM0:=(qjR j).1;have hM1:=(qjR j).2;obtain⟨M,hMj⟩:=qX (elM j);have hA:=(HLn.out j hj3).2;have hlj:(m.row j).length=n+1:=by rw [HX.out.2.2.1];exact (HLn.out j hj3).1
    have K7:=(K6.also (q:=fun W=>ElSt w2 W m n j j vr vo/\HasT W/\HasE W) ⟨HS.out.1.below K6.out.1,(K3.out.2.2.1.below HS.out.1.old).below K6.out.1,(K3.out.2.2.2.below HS.out.1.old).below K6.out.1⟩);have hg:GivesI 91 #[.pointer (some ⟨wr.heap.size,0,none⟩),.pointer (some ⟨wr.heap.size+1,0,none⟩),.pointer (some ⟨wr.heap.size+1+1,0,none⟩)] wc (n+1) (fun i z=>(-100000000000<=nearZ (lval (m.row j) i) (elN j)/\nearZ (lval (m.row j) i) (elN j)<=100000000000)/\z=nearT (lval (m.row j) i) (elN j) (elD j)) (fun i c=>¬(-100000000000<=nearZ (lval (m.row j) i) (elN j)/\nearZ (lval (m.row j) i) (elN j)<=100000000000)/\c=6):=by
     intro i hi W hb;refine (el11_any (elN j) (elD j) (elND j) i (n+1) wr.heap.size (wr.heap.size+1) (wr.heap.size+1+1) (b' j) (o j) dj aj (m.row j) W hlj (by omega) hi hA (zkeep hb _ _ K7.out.1.2.1) (zkeep hb _ _ K7.out.1.2.2.1) (zkeep hb _ _ K7.out.1.2.2.2) ((HFj.out.below K7.out.1.1).below hb) (K7.out.2.2.1.below hb) (K7.out.2.2.2.below hb)).mono ?_;rintro e w' ⟨h1,h2⟩;refine⟨h1,?_⟩;rcases h2 with ⟨h3,rfl⟩ | ⟨h3,rfl⟩
     ·exact qan ⟨_,rfl,h3,rfl⟩
     ·exact qah ⟨6,rfl,h3,rfl⟩
    have HG:=qH (qjj 91 #[.pointer (some ⟨wr.heap.size,0,none⟩),.pointer (some ⟨wr.heap.size+1,0,none⟩),.pointer (some ⟨wr.heap.size+1+1,0,none⟩)] (n+1) (by omega) _ _ wc (fun a W=>enters Tryz.func91 (by kernel_rfl) (by kernel_rfl) _ W) hg);have p5:=qC _ _ 0 _ _ _ K7.out.1.2.1;have HMj:=qH hMj;rw [hMj] at hM0 hM1 ⊢;clear hg hA hlj K6 N6 hMj;go_wp2_with fail;refine HG.out.mono ?_;rintro e w6 ⟨hb6,h⟩;rcases h with ⟨l,g,hl,hP,rfl,hV,hgs⟩ | ⟨i,cc,hi,rfl,h3,rfl⟩
    case inr =>
     have HB6:=qH (K3.out.1.1.trans ((K7.out.2.1.old.trans (hb6.mono K7.out.2.1.old.size)).mono K3.out.1.1.size));have HE:=qH (qA hi h3);clear hb6 hi h3 HG;unfold thrown;go_wp2_with fail;refine⟨rfl,HB6.out,qah ⟨6,rfl,qah (qah ⟨n,HM.out,fun h=>HE.out.2 ?_,rfl⟩)⟩⟩;have:=h j hj3 i HE.out.1;unfold elz at this;refine el_near (M:=if i=0 then elM j else 0) ?_ ?_ this
     ·split
      ·exact (qjR j).1
      ·exact Int.le_refl _
     ·split
      ·exact (qjR j).2
      ·decide
    obtain⟨z0,lt,rfl⟩:∃z0 lt,l=z0 :: lt:=by
     cases l with
     | nil=>simp at hl
     | cons z0 lt=>exact⟨z0,lt,rfl⟩
    have hz0:=(hP 0 (by omega));have hlt:lt.length=n:=by simpa using hl
    have hzb:=qfW (q:=lval (m.row j) 0) (n:=elN j) (d:=elD j) (B:=100000000000) (by rcases elND j with ⟨_,h⟩ | ⟨_,h⟩ <;> omega) hz0.1.1 hz0.1.2;have hze:z0=nearT (lval (m.row j) 0) (elN j) (elD j):=hz0.2;rw [<-hze] at hzb;have hz1:=hzb.1;have hz2:=hzb.2;have hrow:w6.heap[g]? = some (.cells (Value.int .i64 z0 :: lt.map fun z=>Value.int .i64 z).toArray 3 (0,0)):=by
     have h:=hV.1;rw [qaw,hl,qaI,List.replicate_zero,List.append_nil] at h;exact h
    have g0:w6.cell? ⟨g,0,none⟩=some (.int .i64 z0):=qC _ _ 0 _ _ _ hrow;have gf:=qF _ _ 0 _ _ hrow;obtain⟨W7,hW7⟩:=qY (w6.setCell ⟨g,0,none⟩ (.int .i64 (z0+M)));obtain⟨q,hq⟩:=qY ((z0+M) :: lt);have hql:q.length=n+1:=by rw [hq];simpa using hlt
    have hqz:∀k,k<n+1->q.getD k 0=elz m j k:=fun k hk=>by
     rw [hq];cases k with
     | zero =>
      show z0+M=_
      unfold elz;rw [if_pos rfl,<-HMj.out,hze]
     | succ k =>
      show lt.getD k 0=_
      unfold elz;rw [if_neg (by omega),Int.add_zero];exact (hP (k+1) hk).2
    have K8:=K7.below hb6;have hrow7:W7.heap[g]? = some (.cells (q.map fun z=>Value.int .i64 z).toArray 3 (0,0)):=by
     rw [hW7,heap_setCell_same _ g 0 _ _ _ hrow,hq,qaC,qbn];rfl
    have hgB:wr.heap.size<=g:=qaj K7.out.1.1.size hgs;have hS6:=K8.out.2.1;have hlw:=HS.out.1.old.size;have heb:g≠w2.heap.size:=by
     have:=(qG HS.out.1.row).1;omega
    have hg1:w2.heap.size+1<=g:=by
     have:=(qG HS.out.1.row).1;omega
    have hgr:w6.grownBy W7 (some g):=hW7▸qg6 g 0 _;have hS7:ElSt w2 W7 m n j j vr vo:=by
     refine⟨hS6.old.trans ⟨hgr.os,hgr.tape,hgr.output,hgr.size,fun k hk=>hgr.block k (qag hk hS6.old.size) (fun e=>by have:=qai e;omega)⟩,(hgr.block _ (qG hS6.row).1 (fun e=>heb (qai e).symm)).trans hS6.row,?_⟩;have:ElTo wr (w2.heap.size+1) m n j j vr vo:=HS.out.1.tos;have hbw:Below wr.heap.size wr W7:=(K8.out.1.1).trans ⟨hgr.os,hgr.tape,hgr.output,hgr.size,fun k hk=>hgr.block k (qag hk K8.out.1.1.size) (fun e=>by have:=qai e;omega)⟩;exact this.below hbw
    have hgl:∀{B:Nat} {e:TypeId} {s i:Nat} {x:Value} {xs:List Value},wr.ownsRow B e s x i xs->x.ownBlock≠some g:=fun {B e s i x xs} hx e1=>by
     have:=(hx.lt g e1).2;omega
    have hvo:vo.ownBlock≠some g:=hgl HS.out.1.tos.1;have hvr:vr.ownBlock≠some g:=by obtain⟨vs,h1,_⟩:=HS.out.1.tos.2;exact hgl h1
    have HQ:=qH (qA hql (qA hqz (qA hrow7 (qA hS7 (qA hg1 (qA hgB hrow7))))));have hT7:True:=trivial;clear hb6 hP hV hgs hl hz0 hzb hze hrow hql hqz hrow7 K8 hS6 hlw heb hg1 hgr hS7 hgl hlt HG hq;go_upto_region 13 with fail;rw [<-hW7];clear hW7 g0 gf hz1 hz2 hM0 hM1;have HSm:=qH HS.out.2;clear HS K7 HFj p5;obtain⟨sz,hsz⟩:=qY wr.heap.size;have HW:=qH (qA HQ.out.2.2.2.2.1 (qA hvo hvr));have HL:=qH (qA HQ.out.1 (qA HQ.out.2.1 (qA HQ.out.2.2.1 HQ.out.2.2.2.1)));clear HQ hvo hvr;go_upto_region 14 with fail;rw [<-hsz];clear hsz
    go_loopw [39] (fun x39 W=>∃k:Nat,x39=.int .i64 k/\k<=n+1/\Hid (∀i,i<k->qgD (elz m j i))/\Hid (W=W7)) (fun x39 _=>n+1-(intOf x39).toNat)
    case atStart=>exact⟨0,rfl,qam _,qH fun i hi=>absurd hi (by omega),qH rfl⟩
    case round =>
     obtain⟨k,rfl,hk,hsk,hWe⟩:=hrel;have hWe:=hWe.out;subst hWe
     by_cases hkn:k<n+1
     ·have hki:(k:Int)<(n:Int)+1:=by omega
      have hck:wr.cell? ⟨g,k,none⟩=some (.int .i64 (elz m j k)):=by
       refine (qC _ _ _ _ _ _ HL.out.2.2.1).trans ?_;have h1:=HL.out.2.1 k hkn;rw [qaa,qae (by rw [HL.out.1];exact hkn)] at h1;rw [qat,qaM,qae (by rw [HL.out.1];exact hkn)];exact congrArg (fun z=>some (Value.int .i64 z)) h1
      obtain⟨z,hz⟩:=qX (elz m j k);rw [hz] at hck;have HZ:=qH hz;clear hz
      by_cases h1:z < -1000000000
      ·go_wp2_with fail;refine (qcg 6 (by decide) _).mono ?_;rintro e w3 ⟨rfl,rfl⟩;unfold thrown;go_wp2_with fail;refine⟨rfl,K3.out.1.1.trans (HL.out.2.2.2.old.mono K3.out.1.1.size),qah ⟨6,rfl,qah (qah ⟨n,HM.out,fun h=>?_,rfl⟩)⟩⟩;have:=(h j hj3 k hkn).1;have:=HZ.out;omega
      by_cases h2:z > 1000000000
      ·go_wp2_with fail;refine (qcg 6 (by decide) _).mono ?_;rintro e w3 ⟨rfl,rfl⟩;unfold thrown;go_wp2_with fail;refine⟨rfl,K3.out.1.1.trans (HL.out.2.2.2.old.mono K3.out.1.1.size),qah ⟨6,rfl,qah (qah ⟨n,HM.out,fun h=>?_,rfl⟩)⟩⟩;have:=(h j hj3 k hkn).2;have:=HZ.out;omega
      have hsz9:qgD (elz m j k):=by rw [HZ.out];exact⟨by omega,by omega⟩
      have HS9:=qH hsz9;clear hsz9;go_wp2;go_roundw
      case rel =>
       refine⟨k+1,by go_num,hkn,qH fun i hi=>?_,by first | trivial | exact qH rfl⟩;rcases qaT i k with h | h
       ·exact hsk.out i h
       ·obtain rfl:i=k:=by omega
        exact HS9.out
      case measure=>simp [intOf];omega
     ·have hki:¬(k:Int)<(n:Int)+1:=by omega
      obtain rfl:k=n+1:=by omega
      go_upto_region 19 with fail;obtain⟨z0',hz0'⟩:∃z,elz m j 0=z:=⟨_,rfl⟩;have hc0:wr.cell? ⟨g,0,none⟩=some (.int .i64 z0'):=by
       refine (qC _ _ _ _ _ _ HL.out.2.2.1).trans ?_;have h1:=HL.out.2.1 0 (by omega);rw [qaa,qae (by rw [HL.out.1];omega),hz0'] at h1;rw [qat,qaM,qae (by rw [HL.out.1];omega)];exact congrArg (fun z=>some (Value.int .i64 z)) h1
      refine wp_region_held_drew (S:=fun _=>True) (by kernel_rfl) trivial (fun hS0=>?_);refine hT 0 (h:=hT 2 (h:=?_));refine hT 3 (h:=?_);refine gr [(1,52),(4,55),(5,56)] [(5,[4])] [0,2,3] [1,4,5] [] 6 9 (fl2 [(1,fun z _=>z=vo),(4,fun z _=>z=.int .i64 z0'),(5,fun z W=>∃g5:Nat,W.heap[g5]? = some (.cells #[.int .i64 z0'] 3 (0,0))/\z=.slice (some ⟨g5,0,none⟩) 1 1)]) _ 3
       (hS:=fun _ _=>trivial) (hstep:=⟨⟨_,rfl,fun v w3 hb hF K hK=>?_⟩,⟨_,rfl,fun v w3 hb hF K hK=>?_⟩,⟨_,rfl,fun v w3 hb hF K hK=>?_⟩,trivial⟩) (hend:=fun v w3 hb hF _ fu=>?_)
      ·have h0:=(qeJ (HL.out.2.2.2.below (qb1 hb)).row).2.1;exact gV hK rfl
      ·have h0:=((qb1 hb).cell (qac wr _ hc0)).trans hc0;exact gV hK rfl
      ·have e4:v 4=_:=hF.1;rw [e4] at hK ⊢;exact gW hK (h:=⟨⟨w3.heap.size,qM _ _ _ rfl,rfl⟩,qbS qB qN⟩)
      have e1:v 1=_:=hF 1 (by decide) (by decide);obtain⟨g5,hg5,e5⟩:∃g:Nat,_:=hF 5 (by decide) (by decide);have hSt3:=HL.out.2.2.2.below (qb1 hb);have hg3:=zkeep (qb1 hb) _ _ HL.out.2.2.1;have hB3:w2.heap.size+1<=w3.heap.size:=(qG hSt3.row).1;obtain⟨v',w4,hr,hI4,hk4⟩:=run_ints 32 (c:=1) (m:=1) (l2:=[z0']) hSt3.tos.1 hB3 (qgr (q:=[z0']) hg5 0) rfl (by decide) (by rw [qdZ];simp;omega);rw [<-hz0',<-qkq] at hI4;obtain⟨a5,c5,rfl⟩:=qeB hI4;rw [qdZ] at hr hI4 hk4;rw [e1,e5];refine hE 6 (he:=by exact qf5 rfl rfl rfl rfl hr) (h:=⟨trivial,hN (h:=?_)⟩);have hlo:∀k,vo.ownBlock=some k->w2.heap.size+1<=k:=fun k hk=>(hSt3.tos.1.lt k hk).1
      have hold4:Below w2.heap.size w2 w4:=qfv hSt3.old (fun k hk=>by have:=hlo k hk;omega) (by omega) hk4;obtain⟨hrow4,hne4⟩:=qcU hSt3.row (fun e=>by have:=hlo _ e;omega) hk4;have hR4:=hSt3.tos.2.off hSt3.tos.1 hk4;have hg4:=(qcU hg3 HW.out.2.1 hk4).1;have b1:=(qeJ hrow4).2.1;have f1:=(qeJ hrow4).2.2 3;refine hT 7 (hS:=trivial) (h:=?_);refine hSg 8 (h:=⟨trivial,?_⟩);obtain⟨W8,hW8⟩:=qY (w4.setCell ⟨w2.heap.size,3,none⟩ (.slice a5 (j+1) c5));have hgr8:w4.grownBy W8 (some w2.heap.size):=hW8▸qg6 _ _ _;have H8:Kn (fun W=>ElSt w2 W m n (j+1) j vr (.slice a5 (j+1) c5)/\W.heap[g]? = some (.cells (q.map fun z=>Value.int .i64 z).toArray 3 (0,0))) W8:=.of
       ⟨⟨hW8▸hold4.setCell (p:=⟨w2.heap.size,3,none⟩) qN _,hW8▸heap_setCell_same _ _ 3 _ _ _ hrow4,ElTo.apart ⟨hI4,hR4⟩ hgr8 (qan (Nat.lt_succ_self _))⟩,
        (hgr8.block _ (qG hg4).1 (fun e=>by have:=HW.out.1;have:=qai e;omega)).trans hg4⟩
      have hvr8:=HW.out.2.2;rw [<-hW8];refine wpAnyH_done (by kernel_rfl) ?_ _;clear hW8 hgr8 b1 f1 hg4 hR4 hne4 hrow4 hold4 hlo hI4 hk4 hr hB3 hg3 hSt3 e5 hg5 e1 hF hb hc0 hS0;go_upto_region 20 with fail;refine wp_region_held_drew (S:=fun _=>True) (by kernel_rfl) trivial (fun hS0=>?_);refine hT 0 (h:=hT 3 (h:=?_));refine hT 4 (v:=.slice (some ⟨g,1,none⟩) n n) (hy:=by (intro w hSw;go_simp;rw [if_pos (by omega),if_neg (by omega)])) (h:=?_);have hw8:w2.heap.size+1<=W8.heap.size:=(qG H8.out.1.row).1;have hqd:q.drop 1=elRow m n j:=by
       refine List.ext_getElem (by rw [qaY,HL.out.1,qdI];omega) fun k h1 h2=>?_
       have h2':k<n:=by rwa [qdI] at h2
       have h3:=HL.out.2.1 (k+1) (by omega);rw [qaa,qae (by rw [HL.out.1];omega)] at h3;rw [List.getElem_drop,qjS h2];have e:q[1+k]'(by rw [HL.out.1];omega)=q[k+1]'(by rw [HL.out.1];omega):=by congr 1;omega
       rw [e];exact h3
      have HQd:=qH hqd;clear hqd;refine gr [(1,60),(2,61),(5,64),(6,65)] [(5,[2]),(6,[5])] [0,3,4] [1,2,5,6] [] 7 10 (fl2 [(1,fun z _=>z=vr),(2,fun z W=>∃g5:Nat,(W.heap[g5]? = some (.cells #[] 3 (0,0))/\W8.heap.size<=g5)/\z=.slice (some ⟨g5,0,none⟩) 0 0),
        (5,fun z W=>IOwn W (w2.heap.size+1) z (elRow m n j)/\qjJ n W8.heap.size z),(6,fun z W=>∃g6:Nat,∃u:Value,(W.heap[g6]? = some (.cells #[u] 32 (0,0))/\IOwn W (w2.heap.size+1) u (elRow m n j))/\qjJ n W8.heap.size u/\z=.slice (some ⟨g6,0,none⟩) 1 1)]) _ 3
       (hS:=fun _ _=>trivial) (hstep:=⟨⟨_,rfl,fun v w3 hb hF K hK=>?_⟩,⟨_,rfl,fun v w3 hb hF K hK=>?_⟩,⟨_,rfl,fun v w3 hb hF K hK=>?_⟩,⟨_,rfl,fun v w3 hb hF K hK=>?_⟩,trivial⟩) (hend:=fun v w3 hb hF _ fu=>?_)
      ·have h0:=(qeJ (H8.out.1.below (qb1 hb)).row).1;exact gV hK rfl
      ·exact gW hK (h:=⟨⟨w3.heap.size,⟨qM _ _ _ rfl,(qb1 hb).size⟩,rfl⟩,qbS qB qN⟩)
      ·obtain⟨g5,⟨hg5,hgs5⟩,e2⟩:∃g:Nat,_:=hF.1;have hb3:=qb1 hb;obtain⟨vi,w4,hr4,hI4,hk4,hk5⟩:=qiV 32 (B:=w2.heap.size+1) (c:=n) (m:=n) (l2:=q.drop 1) hg5 (qaj hw8 hb3.size) (qgr (zkeep hb3 _ _ H8.out.2) 1) (by rw [qaY,HL.out.1];omega) (by omega) (by omega);rw [HQd.out] at hI4;have hb34:Below w3.heap.size w3 w4:=qeK hk5;have hsh:qjJ n W8.heap.size vi:=by
        refine⟨by obtain⟨ai,ci,e⟩:=qeB hI4;rw [qdI] at e;exact⟨ai,ci,e⟩,?_⟩;exact⟨_,hk4,hb3.size⟩
       rw [e2] at hK ⊢;exact gW hK (he:=qf5 rfl rfl rfl rfl hr4) (hE:=fun h=>absurd h (by decide)) (h:=⟨⟨hI4,hsh⟩,hb34⟩)
      ·obtain⟨hI4,⟨ai,ci,e5⟩,hsh⟩:=hF.1;rw [e5] at hK hI4 hsh ⊢;have hsh:qjJ n W8.heap.size (.slice ai n ci):=⟨⟨ai,ci,rfl⟩,hsh⟩;exact gW hK (h:=⟨⟨w3.heap.size,_,⟨qM _ _ _ rfl,hI4.below (qbS qB qN)⟩,hsh,rfl⟩,qbS qB qN⟩)
      have e1:v 1=_:=hF 1 (by decide) (by decide);obtain⟨g6,vi,⟨hg6,hI4⟩,⟨⟨ai,ci,hve⟩,ki,hki1,hki2⟩,e6⟩:∃g:Nat,_:=hF 6 (by decide) (by decide);have hb3:=qb1 hb;have hio:vi.ownBlock≠(Value.slice a5 (j+1) c5).ownBlock:=fun e=>by
       rw [hki1] at e;have:=(H8.out.1.tos.1.lt ki e.symm).2;omega
      have hS5:=H8.out.1.below hb3;have hw25:w2.heap.size+1<=w3.heap.size:=qaj hw8 hb3.size;have hvs:=(Classical.choose_spec hS5.tos.2).1;obtain⟨v7,w7,hr7,hown7,hk7⟩:=run_irow 77 (c:=1) hvs hw25 hg6 (by rw [hve];rfl) (by omega);have hrows:=ElTo.row hS5.tos (by omega) hI4 hio hown7 hk7;have hlr:∀k,vr.ownBlock=some k->w2.heap.size+1<=k:=fun k hk=>(hvs.lt k hk).1
      have hold7:Below w2.heap.size w2 w7:=qfv hS5.old (fun k hk=>by have:=hlr k hk;omega) (by omega) hk7;obtain⟨hrow7,_⟩:=qcU hS5.row (fun e=>by have:=hlr _ e;omega) hk7;obtain⟨a7,c7,rfl⟩:=qeB hown7;rw [e1,e6];refine hE 7 (he:=by exact qf5 rfl rfl rfl rfl hr7) (h:=⟨trivial,hN (h:=?_)⟩);have b1:=(qeJ hrow7).1;have f1:=(qeJ hrow7).2.2 2;refine hT 8 (hS:=trivial) (h:=?_);refine hSg 9 (h:=⟨trivial,?_⟩);obtain⟨W9,hW9⟩:=qY (w7.setCell ⟨w2.heap.size,2,none⟩ (.slice a7 (j+1) c7));have hgr9:w7.grownBy W9 (some w2.heap.size):=hW9▸qg6 _ _ _;have H9:Hid (ElSt w2 W9 m n (j+1) (j+1) (.slice a7 (j+1) c7) (.slice a5 (j+1) c5)):=qH
       ⟨hW9▸hold7.setCell (p:=⟨w2.heap.size,2,none⟩) qN _,hW9▸heap_setCell_same _ _ 2 _ _ _ hrow7,ElTo.apart hrows hgr9 (qan (Nat.lt_succ_self _))⟩
      rw [<-hW9];refine wpAnyH_done (by kernel_rfl) ?_ _;clear hW9 hgr9 b1 f1 hrow7 hold7 hlr hrows hk7 hown7 hr7 hvs hw25 hS5 hio hI4 hki1 hki2 hve hg6 e6 hw8 hb3 e1 hF hb hS0 hki;go_wp2;go_roundw
      case rel =>
       refine⟨j+1,by go_num,hj3,qH ⟨_,_,H9.out,fun c hc k hk=>?_⟩⟩;rcases qaT c j with h | h
       ·exact HSm.out c h k hk
       ·obtain rfl:c=j:=by omega
        exact hsk.out k hk
      case measure=>simp [intOf];omega
  ·obtain rfl:j=3:=by omega
   obtain⟨ao,co,rfl⟩:=qeB hS.tos.1;obtain⟨ar,cr,rfl⟩:=qeB (Classical.choose_spec hS.tos.2).1;rw [qdZ] at hS;have y0:=qC _ _ 0 _ _ _ hS.row;have y1:=qC _ _ 1 _ _ _ hS.row;have y2:=qC _ _ 2 _ _ _ hS.row;have y3:=qC _ _ 3 _ _ _ hS.row;have y4:=qC _ _ 4 _ _ _ hS.row;have y5:=qC _ _ 5 _ _ _ hS.row;have y6:=qC _ _ 6 _ _ _ hS.row;have y7:=qC _ _ 7 _ _ _ hS.row;have y8:=qC _ _ 8 _ _ _ hS.row;have y9:=qC _ _ 9 _ _ _ hS.row;have K9:=K3.below hS.old;have Hr:=qH K9.out.1.2;have HS:=qH (qA hS hsm);have hws:w.heap.size<w2.heap.size:=(qG K3.out.1.2).1;have HE:=qH (qA (qT _ _ _ #[.int .i64 2,.slice none 0 0,.slice ar 3 cr,.slice ao 3 co,.slice none 0 0,.int .i64 0,.slice none 0 0,.slice none 0 0,.int .i64 0,.int .i64 0] _ _ Hr.out) (qA (qS K9.out.1.1 (qad w.heap.size) #[.int .i64 2,.slice none 0 0,.slice ar 3 cr,.slice ao 3 co,.slice none 0 0,.int .i64 0,.slice none 0 0,.slice none 0 0,.int .i64 0,.int .i64 0]) (ElTo.apart hS.tos (qb5 _ _ #[.int .i64 2,.slice none 0 0,.slice ar 3 cr,.slice ao 3 co,.slice none 0 0,.int .i64 0,.slice none 0 0,.slice none 0 0,.int .i64 0,.int .i64 0]) (qan (show w.heap.size<w2.heap.size+1 by omega)))));clear hI hS hsm K9 hws
   go_wp2_with ((with_reducible refine sR_ rfl 82 _ _ rfl (w.heap.size) #[.int .i64 2,.slice none 0 0,.slice ar 3 cr,.slice ao 3 co,.slice none 0 0,.int .i64 0,.slice none 0 0,.slice none 0 0,.int .i64 0,.int .i64 0] Hr.out 10 ?_))
   refine qR (v:=.agg #[.int .i64 2,.slice none 0 0,.slice ar 3 cr,.slice ao 3 co,.slice none 0 0,.int .i64 0,.slice none 0 0,.slice none 0 0,.int .i64 0,.int .i64 0]) (rA_ rfl (w.heap.size) HE.out.1 Tryz.underlying82 10) rfl ⟨HE.out.2.1,qan ⟨_,_,_,_,_,_,rfl,n,HM.out,fun c hc k hk=>HS.out.2 c hc k hk,_,_,_,rfl,HE.out.2.2⟩⟩
theorem qgX {W W':World} {B:Nat} {e:TypeId} {s n:Nat} {x:Value} {xs:List Value} (hx:W.ownsRow B e s x n xs) (h1:e≠82) (h2:e≠39)
  (hk:∀(g:Nat) (cs:Array Value) (t:TypeId) (fz:Nat×Nat),W.heap[g]? = some (.cells cs t fz)->t≠82->t≠39->W'.heap[g]? = some (.cells cs t fz)):W'.ownsRow B e s x n xs:=by
 refine⟨hx.1,?_⟩;rcases hx.2 with h | ⟨g,cap,cur,rfl,h3,h4,h5⟩
 ·exact qan h
 ·exact qah ⟨g,cap,cur,rfl,h3,hk _ _ _ _ h4 h1 h2,h5⟩
theorem ElG.kept {m:Md} {W W':World} {v:Value} (hk:∀(g:Nat) (cs:Array Value) (t:TypeId) (fz:Nat×Nat),W.heap[g]? = some (.cells cs t fz)->t≠82->t≠39->W'.heap[g]? = some (.cells cs t fz)) (h:ElG m W v):ElG m W' v:=by
 obtain⟨n,h1,h2,B,vr,vo,h3,h4,vs,h5,h6⟩:=h;exact⟨n,h1,h2,B,vr,vo,h3,qgX h4 (by decide) (by decide) hk,vs,qgX h5 (by decide) (by decide) hk,fun c hc=>⟨qgX (h6 c hc).1 (by decide) (by decide) hk,(h6 c hc).2⟩⟩
def ElAs (w:World) (m:Md) (e:Ending) (w':World):Prop :=
 Below w.heap.size w w'/\((∃v,e=.returned (.tuple #[v,.int .i64 0])/\ElG m w' v)\/∃c,e=.returned (.tuple #[.agg #[.int .i64 0,.slice none 0 0,.slice none 0 0,.slice none 0 0,.slice none 0 0,.int .i64 0,.slice none 0 0,.slice none 0 0,.int .i64 0,.int .i64 0],.int .i64 c])/\ElF m c)
theorem qgH (m:Md) (v:Value) (w:World) (hM:MdAt w v m) (hml:∀q,q<3->(m.row q).length<=4611686018427387904) (hT:HasT w) (hE:HasE w) :
  Calls Tryz.prog 28 #[v] w fun e w'=>ElAs w m e w':=by
 obtain⟨a,b',o,d,rfl,hF⟩:=hM.parts;obtain⟨W3,hW3,K3⟩:=nw2 w #[.int .i64 m.kind,.int .i64 m.inn,.slice (a 0) (m.row 0).length (d 0),.slice (a 1) (m.row 1).length (d 1),.slice (a 2) (m.row 2).length (d 2)] 38 #[.int .i64 0,.slice none 0 0,.slice none 0 0,.slice none 0 0,.slice none 0 0,.int .i64 0,.slice none 0 0,.slice none 0 0,.int .i64 0,.int .i64 0] 82;have hmf:=@hmf_ Tryz.prog;have HG:=qH (qih 89 #[.pointer (some ⟨w.heap.size,0,none⟩)] (ElG m) (ElF m) W3 (fun W=>enters Tryz.func89 (by kernel_rfl) (by kernel_rfl) _ W)
  (fun W W' v hk h=>h.kept hk)
  (fun w1 hb=>el1_any m w.heap.size a b' o d w1 hml (zkeep hb _ _ K3.out.2.1) (fun q hq=>(hF q hq).below (K3.out.1.trans (hb.mono K3.out.1.size))) (hT.below (K3.out.1.trans (hb.mono K3.out.1.size))) (hE.below (K3.out.1.trans (hb.mono K3.out.1.size)))))
 have HB:=qH (qA K3.out.1 K3.out.2.2);clear hM hml hT hE hF K3;go_enter Tryz.func28,Tryz.ntmps28;go_upto_region 1 with fail;rw [<-hW3];clear hW3;go_wp2_with fail;refine HG.out.mono ?_;rintro e w5 ⟨hb5,h⟩;have HB5:=qH (HB.out.1.trans (hb5.mono HB.out.1.size));have Hr:=qH (zkeep hb5 _ _ HB.out.2);clear hb5 HG;rcases h with ⟨p2,n2,c2,p3,n3,c3,rfl,hg⟩ | ⟨cc,rfl,hf⟩
 ·have HE:=qH (qA (qT _ _ _ #[.int .i64 2,.slice none 0 0,.slice p2 n2 c2,.slice p3 n3 c3,.slice none 0 0,.int .i64 0,.slice none 0 0,.slice none 0 0,.int .i64 0,.int .i64 0] _ _ Hr.out) (qA (qS HB5.out (show w.heap.size<=w.heap.size+1 by omega) #[.int .i64 2,.slice none 0 0,.slice p2 n2 c2,.slice p3 n3 c3,.slice none 0 0,.int .i64 0,.slice none 0 0,.slice none 0 0,.int .i64 0,.int .i64 0]) (hg.kept (W':=w5.setRow (w.heap.size+1) #[.int .i64 2,.slice none 0 0,.slice p2 n2 c2,.slice p3 n3 c3,.slice none 0 0,.int .i64 0,.slice none 0 0,.slice none 0 0,.int .i64 0,.int .i64 0]) fun g cs t fz h h1 _=>by
   have n1:g≠w.heap.size+1:=fun e=>h1 (by rw [e] at h;have:=h.symm.trans Hr.out;simp at this;exact this.2.1)
   rw [setRow_other _ _ _ _ n1];exact h)))
  clear hg;rename_i hK;dsimp only;refine hK _ _ ?_
  go_wp2_with ((with_reducible refine sR_ rfl 82 _ _ rfl ((w.heap.size+1)) #[.int .i64 2,.slice none 0 0,.slice p2 n2 c2,.slice p3 n3 c3,.slice none 0 0,.int .i64 0,.slice none 0 0,.slice none 0 0,.int .i64 0,.int .i64 0] Hr.out 10 ?_))
  exact qR (v:=.tuple #[.agg #[.int .i64 2,.slice none 0 0,.slice p2 n2 c2,.slice p3 n3 c3,.slice none 0 0,.int .i64 0,.slice none 0 0,.slice none 0 0,.int .i64 0,.int .i64 0],.int .i64 0]) (rB_ rfl (w.heap.size+1) HE.out.1 Tryz.underlying82 10) rfl ⟨HE.out.2.1,qan ⟨_,rfl,HE.out.2.2⟩⟩
 ·have HE:=qH (qA (qT _ _ _ #[.int .i64 0,.slice none 0 0,.slice none 0 0,.slice none 0 0,.slice none 0 0,.int .i64 0,.slice none 0 0,.slice none 0 0,.int .i64 0,.int .i64 0] _ _ Hr.out) (qA (qS HB5.out (show w.heap.size<=w.heap.size+1 by omega) #[.int .i64 0,.slice none 0 0,.slice none 0 0,.slice none 0 0,.slice none 0 0,.int .i64 0,.slice none 0 0,.slice none 0 0,.int .i64 0,.int .i64 0]) hf));clear hf;rename_i hK;dsimp only;refine hK _ _ ?_
  go_wp2_with ((with_reducible refine sR_ rfl 82 _ _ rfl ((w.heap.size+1)) #[.int .i64 0,.slice none 0 0,.slice none 0 0,.slice none 0 0,.slice none 0 0,.int .i64 0,.slice none 0 0,.slice none 0 0,.int .i64 0,.int .i64 0] Hr.out 10 ?_))
  exact qR (v:=.tuple #[.agg #[.int .i64 0,.slice none 0 0,.slice none 0 0,.slice none 0 0,.slice none 0 0,.int .i64 0,.slice none 0 0,.slice none 0 0,.int .i64 0,.int .i64 0],.int .i64 cc]) (rB_ rfl (w.heap.size+1) HE.out.1 Tryz.underlying82 10) rfl ⟨HE.out.2.1,qah ⟨cc,rfl,HE.out.2.2⟩⟩
open Go.Lib
theorem num_d2 {u:Nat} (h1:10<=u) (h2:u<100):num u=⟨#[UInt8.ofNat (48+u / 10),UInt8.ofNat (48+u % 10)]⟩:=by
 unfold num;rw [qcf h1,qbZ (by omega)];rfl
theorem qiI {u:Nat} (h1:100<=u) (h2:u<1000):num u=⟨#[UInt8.ofNat (48+u / 10 / 10),UInt8.ofNat (48+u / 10 % 10),UInt8.ofNat (48+u % 10)]⟩:=by
 unfold num;rw [qcf (by omega),qcf (by omega),qbZ (by omega)];rfl
theorem ft_of {q:Rat} (z d:Nat) (hz:q.num=z) (hd:q.den=d):ftxt q=(num z,num d):=by
 unfold ftxt;rw [hz,hd,frac.qdE (by omega),qal]
theorem ft_14:ftxt (1 / 4)=(⟨#[49]⟩,⟨#[52]⟩):=qgq 1 4 (by decide +kernel) (by decide +kernel) (by decide) (by decide)
theorem ft_103:ftxt (10 / 3)=(⟨#[49,48]⟩,⟨#[51]⟩):=by rw [ft_of 10 3 (by decide +kernel) (by decide +kernel),num_d2 (by decide) (by decide),qer (by decide)];rfl
theorem ft_100:ftxt 100=(⟨#[49,48,48]⟩,⟨#[49]⟩):=by rw [ft_of 100 1 (by decide +kernel) (by decide +kernel),qiI (by decide) (by decide),qer (by decide)];rfl
theorem ft_140:ftxt 140=(⟨#[49,52,48]⟩,⟨#[49]⟩):=by rw [ft_of 140 1 (by decide +kernel) (by decide +kernel),qiI (by decide) (by decide),qer (by decide)];rfl
theorem ft_1009:ftxt (100 / 9)=(⟨#[49,48,48]⟩,⟨#[57]⟩):=by rw [ft_of 100 9 (by decide +kernel) (by decide +kernel),qiI (by decide) (by decide),qer (by decide)];rfl
theorem ft_4009:ftxt (400 / 9)=(⟨#[52,48,48]⟩,⟨#[57]⟩):=by rw [ft_of 400 9 (by decide +kernel) (by decide +kernel),qiI (by decide) (by decide),qer (by decide)];rfl
theorem qlR:ftxt (160 / 3)=(⟨#[49,54,48]⟩,⟨#[51]⟩):=by rw [ft_of 160 3 (by decide +kernel) (by decide +kernel),qiI (by decide) (by decide),qer (by decide)];rfl
theorem ft_m40:ftxt (-40)=(⟨#[45,52,48]⟩,⟨#[49]⟩):=by
 unfold ftxt;rw [show ((-40:Rat)).num = -40 by decide +kernel,show ((-40:Rat)).den=1 by decide +kernel,frac.qeV (by decide),show ((-40:Int)).natAbs=40 from rfl,num_d2 (by decide) (by decide),qer (by decide)]
 rfl
theorem qfl (W:World) (ws:List Int):NCells (W.alloc (.cells (ws.map fun z=>Value.int .i64 z).toArray 3)) (some ⟨W.heap.size,0,none⟩) W.heap.size 0 ws:=by
 have:=qgr (q:=ws) (qM W (.cells (ws.map fun z=>Value.int .i64 z).toArray 3) _ rfl) 0
 rwa [List.drop_zero] at this
theorem alloc_old (W:World) (o:Obj):Below W.heap.size W (W.alloc o):=qbS qB qN
theorem qi3 (W:World) (kind:Int) (k:Nat) (dv:List Int) (n:Nat) (hn:dv.length=n) (hk:qcC kind k) (h1:1<=n) (h4:n<=4) (h3:¬(k=3/\n=4)) (hV:qcO dv) (hT:HasT W) :
  Calls Tryz.prog 25 #[.int .i64 kind,.slice (some ⟨W.heap.size,0,none⟩) n n] (W.alloc (.cells (dv.map fun z=>Value.int .i64 z).toArray 3)) fun e w'=>∃(p:Option Addr) (g c:Nat),e=.returned (.tuple #[.slice p (many k n) c,.int .i64 0])/\FCells w' p g 0 ((termL k dv).map ftxt)/\Below W.heap.size W w':=by
 subst hn;refine (qhG kind W.heap.size 0 dv.length dv.length (some ⟨W.heap.size,0,none⟩) dv _ rfl (by omega) (qfl W dv) (hT.below (alloc_old _ _))).mono ?_;rintro e w' ⟨hb,⟨v,rfl,_,_,_,k',hk',_,p,g,c,rfl,hF⟩ | ⟨c,rfl,h⟩⟩
 ·obtain rfl:=hk.uniq hk';exact⟨p,g,c,rfl,hF,qdf hb⟩
 ·exfalso;rcases h with ⟨h,_⟩ | ⟨_,⟨h,_⟩ | ⟨_,h,h',_⟩⟩
  ·exact h ⟨⟨k,hk⟩,h1,h4⟩
  ·exact h hV
  ·exact h3 ⟨hk.uniq h▸rfl,h'⟩
theorem qm8 (W:World) (kind:Int) (dv:List Int) (n:Nat) (c:Int) (hn:dv.length=n) (hn2:n<=1000) (hf:∀e,TmF kind dv e->e=c) (hg:¬∃k,qcC kind k/\1<=n/\n<=4/\qcO dv/\¬(k=3/\n=4)) (hT:HasT W) :
  Calls Tryz.prog 25 #[.int .i64 kind,.slice (some ⟨W.heap.size,0,none⟩) n n] (W.alloc (.cells (dv.map fun z=>Value.int .i64 z).toArray 3)) fun e w'=>e=.returned (.tuple #[.slice none 0 0,.int .i64 c])/\Below W.heap.size W w':=by
 subst hn;refine (qhG kind W.heap.size 0 dv.length dv.length (some ⟨W.heap.size,0,none⟩) dv _ rfl (by omega) (qfl W dv) (hT.below (alloc_old _ _))).mono ?_;rintro e w' ⟨hb,⟨v,rfl,h1,h4,hV,k',hk',h3,_⟩ | ⟨c',rfl,h⟩⟩
 ·exact absurd ⟨k',hk',h1,h4,hV,h3⟩ hg
 ·rw [hf _ h];exact⟨rfl,qdf hb⟩
theorem qlN (W:World) (l:List Pt) (R b off c:Nat) (ao:Option Addr) (kind:Int) (ws:List Int) (n:Nat) (hn:ws.length=n) (hn2:n<=1000) (hR:l.length=R) (hR2:R<=1000) (hs:∀k,k<R->(l.getD k pt0).name.size<=1000/\(l.getD k pt0).dev.length<=1000) (hP:PCells W ao b off l) (hT:HasT W) :
  Calls Tryz.prog 14 #[.slice ao R c,.int .i64 kind,.slice (some ⟨W.heap.size,0,none⟩) n n] (W.alloc (.cells (ws.map fun z=>Value.int .i64 z).toArray 3)) fun e w'=>FitAs (W.alloc (.cells (ws.map fun z=>Value.int .i64 z).toArray 3)) l kind ws e w' :=
 qlM R b off c W.heap.size 0 n n ao (some ⟨W.heap.size,0,none⟩) l kind ws _ hR (by omega) (fun k hk=>⟨by have:=(hs k hk).1;omega,by have:=(hs k hk).2;omega⟩) hn (by omega) (hP.below (alloc_old _ _)) (qfl W ws) (hT.below (alloc_old _ _))
theorem qdF:∀k,k<3->(ramp.getD k pt0).name.size<=1000/\(ramp.getD k pt0).dev.length<=1000:=fun k hk=>by
 rcases (show k=0\/k=1\/k=2 by omega) with rfl | rfl | rfl <;> exact⟨(by decide:1<=1000),(by decide:1<=1000)⟩
theorem MdAt.lit {W:World} {v:Value} {k n m:Nat} {x:Nat->Nat->Rat} (h:MdAt W v (mdq k n m x)):∃(a0 a1 a2:Option Addr) (b0 o0 c0 b1 o1 c1 b2 o2 c2:Nat),v=.agg #[.int .i64 (k:Int),.int .i64 (n:Int),.slice a0 m c0,.slice a1 m c1,.slice a2 m c2]/\FCells W a0 b0 o0 (told m (x 0))/\FCells W a1 b1 o1 (told m (x 1))/\FCells W a2 b2 o2 (told m (x 2)):=by
 obtain⟨a0,a1,a2,b0,o0,c0,b1,o1,c1,b2,o2,c2,rfl,h0,h1,h2⟩:=h;refine⟨a0,a1,a2,b0,o0,c0,b1,o1,c1,b2,o2,c2,?_,h0,h1,h2⟩
 show Value.agg #[.int .i64 (k:Int),.int .i64 (n:Int),.slice a0 (told m (x 0)).length c0,.slice a1 (told m (x 1)).length c1,.slice a2 (told m (x 2)).length c2]=_
 rw [qbW,qbW,qbW]
theorem MdAt.of {W:World} {k n m:Nat} {x:Nat->Nat->Rat} {a0 a1 a2:Option Addr} {b0 o0 c0 b1 o1 c1 b2 o2 c2:Nat} (h0:FCells W a0 b0 o0 (told m (x 0))) (h1:FCells W a1 b1 o1 (told m (x 1))) (h2:FCells W a2 b2 o2 (told m (x 2))):MdAt W (.agg #[.int .i64 (k:Int),.int .i64 (n:Int),.slice a0 m c0,.slice a1 m c1,.slice a2 m c2]) (mdq k n m x):=by
 refine⟨a0,a1,a2,b0,o0,c0,b1,o1,c1,b2,o2,c2,?_,h0,h1,h2⟩
 show _=Value.agg #[.int .i64 (k:Int),.int .i64 (n:Int),.slice a0 (told m (x 0)).length c0,.slice a1 (told m (x 1)).length c1,.slice a2 (told m (x 2)).length c2]
 rw [qbW,qbW,qbW]
theorem qjq {k n m:Nat} {x:Nat->Nat->Rat} (hm:m<=1000):∀q,q<3->((mdq k n m x).row q).length<=4611686018427387904:=fun q hq=>by rw [qfT hq,qbW];omega
theorem qhq:∀c,c<3->elz (mdq 1 1 2 fitX1) c 0=[33333,500000,500000].getD c 0/\elz (mdq 1 1 2 fitX1) c 1=[1000000,0,0].getD c 0:=fun c hc=>by
 unfold elz;rw [qfT hc,qcW (by decide),qcW (by decide)];rcases (show c=0\/c=1\/c=2 by omega) with rfl | rfl | rfl <;> exact⟨by decide +kernel,by decide +kernel⟩
theorem ex_elok:ElOk (mdq 1 1 2 fitX1) 1:=fun c hc k hk=>by
 obtain⟨h0,h1⟩:=qhq c hc;rcases (show k=0\/k=1 by omega) with rfl | rfl
 ·rw [h0];rcases (show c=0\/c=1\/c=2 by omega) with rfl | rfl | rfl <;> exact⟨by decide,by decide⟩
 ·rw [h1];rcases (show c=0\/c=1\/c=2 by omega) with rfl | rfl | rfl <;> exact⟨by decide,by decide⟩
end Go.Proofs.YtplkdeknjghobaaGreatDoor
namespace Go.Proofs.YtplkdeknjghobaaGreatDoor
open Go.RowKit
def dr0:Dr:=⟨false,[],0,false,[],0⟩
def DrAt (W:World) (b off:Nat) (d:Dr):Prop :=
 ∃(a1:Option Addr) (b1 o1 c1:Nat) (a2:Option Addr) (b2 o2 c2:Nat),(W.cell? ⟨b,off,none⟩=some (.bool d.n0)/\W.cell? ⟨b,off+1,none⟩=some (.slice a1 d.n1.length c1)/\W.cell? ⟨b,off+2,none⟩=some (.int .u16 d.n2)/\W.cell? ⟨b,off+3,none⟩=some (.bool d.d0)/\W.cell? ⟨b,off+4,none⟩=some (.slice a2 d.d1.length c2)/\W.cell? ⟨b,off+5,none⟩=some (.int .u16 d.d2)) /\
  KCells W .u16 a1 b1 o1 d.n1/\KCells W .u16 a2 b2 o2 d.d1
theorem DrAt.below {W W':World} {b off:Nat} {d:Dr} (h:DrAt W b off d) (hb:Below W.heap.size W W'):DrAt W' b off d:=by
 obtain⟨a1,b1,o1,c1,a2,b2,o2,c2,⟨h0,h1,h2,h3,h4,h5⟩,k1,k2⟩:=h;have l:∀{p:Addr} {v:Value},W.cell? p=some v->W'.cell? p=some v:=fun {p v} h=>(hb.cell (qac W _ h)).trans h
 exact⟨a1,b1,o1,c1,a2,b2,o2,c2,⟨l h0,l h1,l h2,l h3,l h4,l h5⟩,k1.below hb,k2.below hb⟩
structure DrCells (W:World) (ao:Option Addr) (b off:Nat) (L:List Dr):Prop where
 addr:0<L.length->ao=some ⟨b,off,none⟩
 cell:∀k,k<L.length->DrAt W b (off+k*6) (L.getD k dr0)
 ok:∀k,k<L.length->DrOk (L.getD k dr0)
theorem DrCells.below {W W':World} {ao:Option Addr} {b off:Nat} {L:List Dr} (h:DrCells W ao b off L) (hb:Below W.heap.size W W'):DrCells W' ao b off L:=⟨h.addr,fun k hk=>(h.cell k hk).below hb,h.ok⟩
def MoAt (W:World) (v:Value) (kd inn:Nat) (L:List Dr):Prop :=
 ∃(ao:Option Addr) (b off c:Nat),v=.agg #[.int .u8 (kd:Int),.int .u8 (inn:Int),.slice ao L.length c]/\kd<256/\inn<256/\L.length<=9223372036854775807/\DrCells W ao b off L
def mok (kd:Nat):Nat:=1+kd % 3
def mon (kd inn:Nat):Nat:=if mok kd=3/\1+inn % 4=4 then 2 else 1+inn % 4
def mox (L:List Dr) (c j:Nat):Rat:=if L.length=0 then 1 else (L.getD ((9*c+j) % min L.length 30) dr0).q
theorem mok_le (kd:Nat):1<=mok kd/\mok kd<=3:=by unfold mok;omega
theorem qml (kd inn:Nat):1<=mon kd inn/\mon kd inn<=4:=by unfold mon;split <;> omega
theorem mon_both (kd inn:Nat):¬(mok kd=3/\mon kd inn=4):=by
 unfold mon;split
 ·omega
 ·rename_i h;exact h
theorem mox_rb (L:List Dr) (c j:Nat):Rb (mox L c j) 1000:=by
 unfold mox;split
 ·exact⟨by decide,by decide⟩
 ·exact Dr.rb _
theorem qmm (L:List Dr) (c j:Nat):Short (mox L c j):=qdd (mox_rb L c j) (by decide +kernel)
theorem many_16 (k n:Nat) (hn:n<=4):many k n<=16:=by
 unfold many;split
 ·omega
 ·split
  ·omega
  ·rcases (show n=0\/n=1\/n=2\/n=3\/n=4 by omega) with rfl | rfl | rfl | rfl | rfl <;> decide
def moM (kd inn:Nat) (L:List Dr):Md:=mdq (mok kd) (mon kd inn) (many (mok kd) (mon kd inn)) (mox L)
theorem moM_ok (kd inn:Nat) (L:List Dr):MdOk (moM kd inn L) (mok kd) (mon kd inn) :=
 mdq_ok (mok_le kd) (qml kd inn).1 (qml kd inn).2 (mon_both kd inn) fun c _ j _=>qmm L c j
structure MoSt (w1 W:World) (B k n M i j:Nat) (vs:Nat->Value) (L:List Dr):Prop where
 old:Below w1.heap.size w1 W
 row:W.heap[w1.heap.size]? = some (.cells #[.int .i64 (k:Int),.int .i64 (n:Int),vs 0,vs 1,vs 2] 38 (0,0))
 base:w1.heap.size<B/\B<=W.heap.size
 done:∀c,c<i->c<3->∃(a:Option Addr) (g cap:Nat),vs c=.slice a M cap/\FCells W a g 0 (told M (mox L c))/\g<B
 todo:∀c,i<c->c<3->vs c=.slice none 0 0
 own:i<3->Rws W B 44 2 (vs i) j (fflat (told j (mox L i)))
theorem MoSt.below {w1 W W':World} {B k n M i j:Nat} {vs:Nat->Value} {L:List Dr} (h:MoSt w1 W B k n M i j vs L) (hb:Below W.heap.size W W'):MoSt w1 W' B k n M i j vs L where
 old:=h.old.trans (hb.mono h.old.size)
 row:=zkeep hb _ _ h.row
 base:=⟨h.base.1,qaj h.base.2 hb.size⟩
 done:=fun c hc h3=>by
  obtain⟨a,g,cap,h1,h2,h4⟩:=h.done c hc h3;exact⟨a,g,cap,h1,h2.below hb,h4⟩
 todo:=h.todo
 own:=fun hi=>(h.own hi).below hb
def OutSt (w1 W:World) (k n M i:Nat) (L:List Dr):Prop:=∃vs,MoSt w1 W W.heap.size k n M i 0 vs L
theorem qmH {w1 W:World} {k n M:Nat} {L:List Dr} (hb:Below w1.heap.size w1 W) (hr:W.heap[w1.heap.size]? = some (.cells #[.int .i64 (k:Int),.int .i64 (n:Int),.slice none 0 0,.slice none 0 0,.slice none 0 0] 38 (0,0))):OutSt w1 W k n M 0 L :=
 ⟨fun _=>.slice none 0 0,hb,hr,⟨(qG hr).1,qad _⟩,fun c hc=>absurd hc (by omega),fun c _ _=>rfl,fun _=>Rws.nil _ _ _ _⟩
theorem MoSt.next {w1 W:World} {B k n M i:Nat} {vs:Nat->Value} {L:List Dr} (h:MoSt w1 W B k n M i M vs L) (hi:i<3) (hM:0<M):OutSt w1 W k n M (i+1) L:=by
 refine⟨vs,h.old,h.row,⟨(qG h.row).1,qad _⟩,fun c hc h3=>?_,fun c hc h3=>h.todo c (by omega) h3,fun hi2=>?_⟩
 ·rcases qaT c i with hci | hci
  ·obtain⟨a,g,cap,h1,h2,h4⟩:=h.done c hci h3;exact⟨a,g,cap,h1,h2,qag h4 h.base.2⟩
  ·obtain rfl:c=i:=by omega
   obtain⟨ao,g,cap,h1,h2,_⟩:=qd2 (h.own hi) (qbW _ _);refine⟨ao,g,cap,h1,h2,?_⟩;have:=(h2.cell 0 (by rw [qbW];exact hM)).1;exact qac W _ this
 ·rw [h.todo (i+1) (by omega) hi2];exact Rws.nil _ _ _ _
theorem MoSt.cell {w1 W W':World} {B k n M i j:Nat} {vs:Nat->Value} {L:List Dr} (h:MoSt w1 W B k n M i j vs L) (hi:i<3) (hb:Below W.heap.size W W'):W'.cell? ⟨w1.heap.size,2+i,none⟩=some (vs i):=by
 have hrow:=zkeep hb _ _ h.row;rcases (show i=0\/i=1\/i=2 by omega) with rfl | rfl | rfl
 ·exact qC _ _ 2 _ _ _ hrow
 ·exact qC _ _ 3 _ _ _ hrow
 ·exact qC _ _ 4 _ _ _ hrow
theorem MoSt.push {w1 W w4:World} {B k n M i j:Nat} {vs:Nat->Value} {L:List Dr} (h:MoSt w1 W B k n M i j vs L) (hi:i<3) {v':Value} (hown:Rws w4 B 44 2 v' (j+1) (fflat (told (j+1) (mox L i)))) (hk:v'.ownBlock=(vs i).ownBlock/\W.grownBy w4 (vs i).ownBlock\/v'.ownBlock=some W.heap.size/\W.grownBy w4 none) :
  (w4.cell? ⟨w1.heap.size,2+i,none⟩=some (vs i)/\w4.frozen? ⟨w1.heap.size,2+i,none⟩=false)/\MoSt w1 (w4.setCell ⟨w1.heap.size,2+i,none⟩ v') B k n M i (j+1) (fun c=>if c=i then v' else vs c) L:=by
 have hlt:=(h.own hi).lt;have hB:Below B W w4:=by
  rcases hk with ⟨_,hg⟩ | ⟨_,hg⟩
  ·exact⟨hg.os,hg.tape,hg.output,hg.size,fun q hq=>hg.block q (qag hq h.base.2) (fun e=>by have:=(hlt q e.symm).1;omega)⟩
  ·exact⟨hg.os,hg.tape,hg.output,hg.size,fun q hq=>hg.block q (qag hq h.base.2) (fun e=>by cases e)⟩
 have hrow:=(hB.block _ h.base.1).trans h.row;have hc:w4.cell? ⟨w1.heap.size,2+i,none⟩=some (vs i):=by
  rcases (show i=0\/i=1\/i=2 by omega) with rfl | rfl | rfl
  ·exact qC _ _ 2 _ _ _ hrow
  ·exact qC _ _ 3 _ _ _ hrow
  ·exact qC _ _ 4 _ _ _ hrow
 have hsl:∃(ao:Option Addr) (m c:Nat),vs i=.slice ao m c:=by obtain⟨ao,c,e⟩:=(h.own hi).shape;exact⟨ao,j,c,e⟩
 refine⟨⟨hc,qF _ _ _ _ _ hrow⟩,(h.old.trans (hB.mono (qao h.base.1))).setCell (p:=⟨w1.heap.size,2+i,none⟩) qN _,?_,⟨h.base.1,by rw [qby];exact qaj h.base.2 hB.size⟩,fun c hci hc3=>?_,fun c hci hc3=>?_,fun _=>?_⟩
 ·rw [heap_setCell_same _ _ _ _ _ _ hrow];rcases (show i=0\/i=1\/i=2 by omega) with rfl | rfl | rfl <;> rfl
 ·obtain⟨a,g,cap,e1,hF,hg⟩:=h.done c hci hc3;refine⟨a,g,cap,by rw [if_neg (by omega)];exact e1,FCells.kept (W:=w4) ⟨hF.addr,fun q hq=>⟨(hB.cell (p:=⟨g,0+q*2,none⟩) hg).trans (hF.cell q hq).1,(hB.cell (p:=⟨g,0+q*2+1,none⟩) hg).trans (hF.cell q hq).2⟩⟩ (fun p s hp=>?_),hg⟩
  by_cases e:p=⟨w1.heap.size,2+i,none⟩
  ·subst e;rw [hc] at hp;obtain⟨_,_,_,e2⟩:=hsl;rw [e2] at hp;cases hp
  ·exact (World.cell?_setCell_other _ _ _ _ (fun h=>e h.symm)).trans hp
 ·rw [if_neg (by omega)];exact h.todo c hci hc3
 ·rw [if_pos rfl];exact hown.kept (frac.qbX w4 w1.heap.size (2+i) v') (.inr (hown.ne_low h.base.1))
theorem OutSt.model {w1 W:World} {k n M:Nat} {L:List Dr} (h:OutSt w1 W k n M 3 L):∃(a0 a1 a2:Option Addr) (c0 c1 c2:Nat),W.heap[w1.heap.size]? = some (.cells #[.int .i64 (k:Int),.int .i64 (n:Int),.slice a0 M c0,.slice a1 M c1,.slice a2 M c2] 38 (0,0))/\Below w1.heap.size w1 W /\
  MdAt W (.agg #[.int .i64 (k:Int),.int .i64 (n:Int),.slice a0 M c0,.slice a1 M c1,.slice a2 M c2]) (mdq k n M (mox L)):=by
 obtain⟨vs,h⟩:=h;obtain⟨a0,g0,c0,e0,f0,_⟩:=h.done 0 (by decide) (by decide);obtain⟨a1,g1,c1,e1,f1,_⟩:=h.done 1 (by decide) (by decide);obtain⟨a2,g2,c2,e2,f2,_⟩:=h.done 2 (by decide) (by decide);have hr:=h.row;rw [e0,e1,e2] at hr;exact⟨a0,a1,a2,c0,c1,c2,hr,h.old,MdAt.of f0 f1 f2⟩
open Go.ChangeShapes Go.WideShapes Go.ChangeAt Go.Deep
section
variable {H:Type} {enc:TypeId×Value->H} {w:World} {sp:Nat->Bool} {held:Bool} {fuel:Nat} {v:Value} {x:DataW H×List MemPlace}
theorem qha {a:Addr} {u:Value} (h:w.cell? (a.add 0)=some u):a=⟨a.block,a.off,none⟩:=by
 obtain⟨b,off,s⟩:=a;have:=World.cell?_spot h;have e:s=none:=by simpa [Addr.add] using this
 rw [e]
theorem qmE (h:DataW.trod enc Tryz.prog w 0 sp held fuel 28 [v]=some x):∃(a:Option Addr) (b off c:Nat) (l:List Int),v=.slice a l.length c/\l.length<=maxLen/\KCells w .u16 a b off l/\∀k,0<=l.getD k 0/\l.getD k 0<65536:=by
 rcases open_slice1 Tryz.underlying28 (by kernel_rfl) h with ⟨hcs,_⟩ | ⟨a,len,cap,m,n,V,D,Pl,hcs,_,hl,hm,hmm,_,hx⟩
 ·exact⟨none,0,0,0,[],by injection hcs,by decide,⟨fun h=>absurd h (by decide),fun k h=>absurd h (by simp)⟩,fun k=>by simp⟩
 ·have hlm:len<=m:=by rw [hmm];split <;> omega
  have each:∀i,i<len->∃z:Int,V i=.int .u16 z/\0<=z/\z<65536:=fun i hi=>by
   obtain⟨z,e,_,hw⟩:=DataW.trod_int Tryz.underlying109 (hx i (by omega)).2;have h2:0<=z/\z<=65535:=by simpa [Lit.wf,IntKind.min,IntKind.max,IntKind.signed,IntKind.bits] using hw
   exact⟨z,by injection e,h2.1,by omega⟩
  obtain⟨Y,hY⟩:=choose_lt each;have hg:∀k,k<len->((List.range len).map Y).getD k 0=Y k:=fun k hk=>by
   rw [qaa,qaM,List.getElem?_range hk];rfl
  have hln:((List.range len).map Y).length=len:=by rw [qaw,List.length_range]
  refine⟨some a,a.block,a.off,cap,(List.range len).map Y,by rw [hln];injection hcs,by rw [hln];omega,⟨fun h0=>?_,fun k hk=>?_⟩,fun k=>?_⟩
  ·rw [hln] at h0;exact congrArg some (qha (hx 0 (by omega)).1)
  ·rw [hln] at hk;rw [hg k hk];have h0:=(hx k (by omega)).1;rw [qha (a:=a) (hx 0 (by omega)).1,Addr.add_mid,(hY k hk).1] at h0;exact h0
  ·rcases qaT k len with hk | hk
   ·rw [hg k hk];exact (hY k hk).2
   ·rw [qaa,qba (by rw [hln];exact hk)];exact⟨Int.le_refl _,by decide⟩
theorem c3Dr:Tryz.prog.cellsOf 126=3:=by kernel_rfl
theorem c6Dr:Tryz.prog.cellsOf 128=6:=by kernel_rfl
theorem c1B:Tryz.prog.cellsOf 4=1:=by kernel_rfl
theorem c1U:Tryz.prog.cellsOf 109=1:=by kernel_rfl
theorem c1S:Tryz.prog.cellsOf 28=1:=by kernel_rfl
theorem qiJ {v0 v1 v2:Value} (h:DataW.trod enc Tryz.prog w 0 sp held fuel 126 [v0,v1,v2]=some x) :
  ∃(bl:Bool) (a:Option Addr) (b off c:Nat) (l:List Int) (z:Int),v0=.bool bl/\v1=.slice a l.length c/\v2=.int .u16 z/\l.length<=maxLen/\KCells w .u16 a b off l/\∀k,0<=l.getD k 0/\l.getD k 0<65536:=by
 obtain⟨xs,n,_,_,_,hxl,hf⟩:=DataW.trod_struct Tryz.underlying126 h
 match xs,hxl with
 | [y0,y1,y2],_ =>
  have g0:=hf 0 _ rfl;have g1:=hf 1 _ rfl;have g2:=hf 2 _ rfl;simp [c1B,c1U,c1S] at g0 g1 g2;obtain⟨bl,e0,_⟩:=DataW.trod_bool Tryz.underlying4 g0;obtain⟨a,b,off,c,l,e1,hl,hK,hr⟩:=qmE g1;obtain⟨z,e2,_,_⟩:=DataW.trod_int Tryz.underlying109 g2;exact⟨bl,a,b,off,c,l,z,by injection e0,e1,by injection e2,hl,hK,hr⟩
theorem open_dr {cs:List Value} (h:DataW.trod enc Tryz.prog w 0 sp held fuel 128 cs=some x) {a:Addr} (hc:w.cells? 0 a 6=some cs) (hs:a.spot=none) :
  ∃d,DrAt w a.block a.off d/\DrOk d:=by
 obtain⟨_,hlen,hcell⟩:=World.cells?_some hc;obtain⟨xs,n,_,_,_,hxl,hf⟩:=DataW.trod_struct Tryz.underlying128 h
 match xs,hxl,cs,hlen with
 | [y0,y1],_,[v0,v1,v2,v3,v4,v5],_ =>
  have g0:=hf 0 _ rfl;have g1:=hf 1 _ rfl;simp [c3Dr] at g0 g1;obtain⟨bl,a1,b1,o1,c1,l1,z1,rfl,rfl,rfl,hl1,hK1,hr1⟩:=qiJ g0;obtain⟨bm,a2,b2,o2,c2,l2,z2,rfl,rfl,rfl,hl2,hK2,hr2⟩:=qiJ g1;obtain⟨ab,ao,asp⟩:=a;have hs:asp=none:=hs;subst hs;have e:∀k (u:Value),k<6->w.cell? ((⟨ab,ao,none⟩:Addr).add k)=some u->w.cell? ⟨ab,ao+k,none⟩=some u:=fun k u _ h=>by
   rw [<-Addr.add_mid];exact h
  refine⟨⟨bl,l1,z1,bm,l2,z2⟩,⟨a1,b1,o1,c1,a2,b2,o2,c2,⟨by have:=e 0 _ (by decide) (hcell 0 (by decide));simpa using this,by have:=e 1 _ (by decide) (hcell 1 (by decide));simpa using this,by have:=e 2 _ (by decide) (hcell 2 (by decide));simpa using this,
   by have:=e 3 _ (by decide) (hcell 3 (by decide));simpa using this,by have:=e 4 _ (by decide) (hcell 4 (by decide));simpa using this,by have:=e 5 _ (by decide) (hcell 5 (by decide));simpa using this⟩,hK1,hK2⟩,?_⟩
  unfold maxLen at hl1 hl2;exact⟨by show l1.length<=_;omega,by show l2.length<=_;omega,hr1,hr2⟩
theorem open_drs (h:DataW.trod enc Tryz.prog w 0 sp held fuel 25 [v]=some x):∃(a:Option Addr) (b off c:Nat) (L:List Dr),v=.slice a L.length c/\L.length<=maxLen/\DrCells w a b off L:=by
 rcases open_slice Tryz.underlying25 h with ⟨hcs,_⟩ | ⟨a,len,cap,m,n,D,Pl,hcs,_,hl,hm,hmm,_,hx⟩
 ·exact⟨none,0,0,0,[],by injection hcs,by decide,⟨fun h=>absurd h (by decide),fun k h=>absurd h (by simp),fun k h=>absurd h (by simp)⟩⟩
 ·have hlm:len<=m:=by rw [hmm];split <;> omega
  have hsp:0<len->a=⟨a.block,a.off,none⟩:=fun h0=>by
   obtain⟨cs',h1,_⟩:=hx 0 (by omega);rw [c6Dr] at h1;obtain⟨_,hlen,hcell⟩:=World.cells?_some h1;have h3:=hcell 0 (by decide);rw [add_add] at h3;have h4:w.cell? (a.add 0)=cs'[0]?:=h3;rw [qae (by omega)] at h4;exact qha h4
  have each:∀i,i<len->∃d,DrAt w a.block (a.off+i*6) d/\DrOk d:=fun i hi=>by
   obtain⟨cs',h1,h2⟩:=hx i (by omega);rw [c6Dr] at h1;have ha:=hsp (by omega);have hadd:a.add (i*6)=⟨a.block,a.off+i*6,none⟩:=by rw [ha,Addr.add_mid]
   rw [hadd] at h1;exact open_dr h2 h1 rfl
  have:Inhabited Dr:=⟨dr0⟩;obtain⟨Y,hY⟩:=choose_lt each;have hg:∀k,k<len->((List.range len).map Y).getD k dr0=Y k:=fun k hk=>by
   rw [qaa,qaM,List.getElem?_range hk];rfl
  have hln:((List.range len).map Y).length=len:=by rw [qaw,List.length_range]
  refine⟨some a,a.block,a.off,cap,(List.range len).map Y,by rw [hln];injection hcs,by rw [hln];omega,⟨fun h0=>?_,fun k hk=>?_,fun k hk=>?_⟩⟩
  ·rw [hln] at h0;exact congrArg some (hsp h0)
  ·rw [hln] at hk;rw [hg k hk];exact (hY k hk).1
  ·rw [hln] at hk;rw [hg k hk];exact (hY k hk).2
theorem qmF {r:DataW H×List MemPlace} (h:DataW.trod enc Tryz.prog w 0 sp held fuel 5 [v]=some r):∃n:Nat,v=.int .u8 (n:Int)/\n<256:=by
 obtain⟨z,e,_,hw⟩:=DataW.trod_int Tryz.underlying5 h;have this:0<=z/\z<=255:=by simpa [Lit.wf,IntKind.min,IntKind.max,IntKind.signed,IntKind.bits] using hw
 refine⟨z.toNat,?_,by omega⟩;rw [Int.toNat_of_nonneg this.1];injection e
theorem open_mo {r:Reach} {b0:Nat} {d:DataW H} {p:List MemPlace} (hv:Value.okWide Tryz.prog w r b0 27 v) (h:DataW.Trod enc Tryz.prog w 0 sp held 27 v d p) :
  ∃(kd inn:Nat) (L:List Dr),MoAt w v kd inn L:=by
 obtain⟨v0,v1,v2,y0,y1,y2,n,rfl,rfl,rfl,h0,h1,h2⟩:=Joins.open_agg3 Tryz.underlying27 (by kernel_rfl) (by kernel_rfl) hv h;obtain⟨kd,rfl,hkd⟩:=qmF h0;obtain⟨inn,rfl,hin⟩:=qmF h1;obtain⟨a,b,off,c,L,rfl,hl,hC⟩:=open_drs h2;unfold maxLen at hl;exact⟨kd,inn,L,a,b,off,c,rfl,hkd,hin,by omega,hC⟩
end
end Go.Proofs.YtplkdeknjghobaaGreatDoor
namespace Go.Proofs.YtplkdeknjghobaaGreatDoor
open Go.RowKit
theorem RFit.neg {q:Rat} {K:Nat} (h:RFit q K):RFit (-q) K:=⟨by show Fit (-q.num).natAbs K;rw [qa9];exact h.1,h.2⟩
theorem qju (q:Rat) (v:Value) (w:World) (hv:RatV w v q) :
  Calls Tryz.prog 158 #[v] w fun e w'=>∃r,e=.returned r/\Below w.heap.size w w'/\RatV w' r (-q):=by
 obtain⟨vm,vo,rfl,hm,ho⟩:=hv;obtain⟨am,bm,om,cm,nm,M,rfl,hM⟩:=id hm;obtain⟨ao,bo,oo,co,no,O,rfl,hO⟩:=id ho;obtain⟨bb,hbb⟩:∃b,decide (q.num<0)=b:=⟨_,rfl⟩;have hint:IntAt w (.agg #[.slice am nm cm,.bool bb]) q.num:=⟨_,by rw [hbb],hm⟩;rw [hbb];obtain⟨W2,hW2,K2⟩:=nw2 w #[.slice am nm cm,.bool bb,.slice ao no co] 138 #[.slice none 0 0,.bool false,.slice none 0 0] 138;have HS:=qH (frac.qdA q.num _ W2.drew ((hint.below K2.out.1).below qB.drew));have HX:=qH (ho.below K2.out.1);have hl0:w.heap.size<w.heap.size+1:=by omega
 have q0:=rowG (g0:=w.heap.size+1) K2.out.2.1 0;have q1:=rowG (g0:=w.heap.size+1) K2.out.2.1 1;have q2:=rowG (g0:=w.heap.size+1) K2.out.2.1 2;clear hm ho hM hO hbb hint;go_enter Tryz.func158,Tryz.ntmps158;go_upto_region 1 with fail;rw [<-hW2];clear hW2;refine wp_region_held_drew (S:=fun W=>W2.grownBy W (some (w.heap.size+1))) (by kernel_rfl) (keepB qB.drew) (fun hS0=>?_);refine hT 0 (h:=hT 1 (h:=hT 3 (h:=hT 4 (h:=?_))));refine hC 2 HS.out (h:=?_);rintro e w3 ⟨x,rfl,hb,hx⟩;have HB:=qH (qb1 hb);have hS1:W2.grownBy w3 (some (w.heap.size+1)):=keepB HB.out;have K3:=K2.below HB.out;obtain⟨a9,n9,c9,b9,rfl⟩:=frac.qbT hx;have HI:=qH hx;clear hb hx;refine⟨_,rfl,hS1,hN (h:=?_)⟩;refine hT 5 (h:=?_);have HE:=qH (qA (qT _ _ _ #[.slice a9 n9 c9,.bool b9,.slice ao no co] _ _ K3.out.2.2) (qS K3.out.1 (show w.heap.size<=w.heap.size+1 by omega) #[.slice a9 n9 c9,.bool b9,.slice ao no co]));refine hSt 6 3 K3.out.2.2 (h:=⟨qbU hS1 (qb5 _ _ _),?_⟩);go_wp2_with fail;refine qR (v:=.agg #[.slice a9 n9 c9,.bool b9,.slice ao no co]) (rA_ rfl ((w.heap.size+1)) HE.out.1 Tryz.underlying138 3) rfl ⟨_,rfl,HE.out.2,?_⟩;have hR:RatV w3 (.agg #[.slice a9 n9 c9,.bool b9,.slice ao no co]) (-q):=by
  obtain⟨m9,e9,h9⟩:=HI.out;have e1:Value.slice a9 n9 c9=m9/\b9=decide (-q.num<0):=by
   simp only [qaJ,qaL,qaH,qbm] at e9;exact⟨e9.1,e9.2.1⟩
  refine⟨.slice a9 n9 c9,.slice ao no co,?_,?_,?_⟩
  ·rw [e1.2];rfl
  ·rw [e1.1];exact h9
  ·exact HX.out.below HB.out
 obtain⟨m,o,h1,h2,h3⟩:=hR;exact⟨m,o,h1,qce h2 (qb5 _ _ _) K3.out.2.2 qdy,qce h3 (qb5 _ _ _) K3.out.2.2 qdy⟩
theorem rsub_any (p q:Rat) (K:Nat) (hK:K<=34359738368) (v u:Value) (w:World) (hv:RatV w v p) (hu:RatV w u q) (hp:RFit p K) (hq:RFit q K) :
  Calls Tryz.prog 93 #[v,u] w fun e w'=>∃r,e=.returned r/\Below w.heap.size w w'/\RatV w' r (p-q):=by
 obtain⟨a1,n1,c1,b1,d1,e1,f1,rfl⟩:=qcq hv;obtain⟨a2,n2,c2,b2,d2,e2,f2,rfl⟩:=qcq hu;obtain⟨W3,hW3,K3⟩:=nw3 w #[.slice a1 n1 c1,.bool b1,.slice d1 e1 f1] 138 #[.slice a2 n2 c2,.bool b2,.slice d2 e2 f2] 138 #[.slice none 0 0,.bool false,.slice none 0 0] 138;have HS:=qH (qju q _ W3.drew ((hu.below K3.out.1).below qB.drew));have HX:=qH (qA (hv.below K3.out.1) (qA hp (qA hq.neg hK)));have hl0:w.heap.size<w.heap.size+1+1:=by omega
 have hl1:w.heap.size+1<w.heap.size+1+1:=by omega
 have q0:=rowG (g0:=w.heap.size+1+1) K3.out.2.1 0;have q1:=rowG (g0:=w.heap.size+1+1) K3.out.2.1 1;have q2:=rowG (g0:=w.heap.size+1+1) K3.out.2.1 2;have r0:=rowG (g0:=w.heap.size+1+1) K3.out.2.2.1 0;have r1:=rowG (g0:=w.heap.size+1+1) K3.out.2.2.1 1;have r2:=rowG (g0:=w.heap.size+1+1) K3.out.2.2.1 2;clear hv hu hp hq hK;go_enter Tryz.func93,Tryz.ntmps93;go_upto_region 1 with fail;rw [<-hW3];clear hW3;refine wp_region_held_drew (S:=fun W=>W3.grownBy W (some (w.heap.size+1+1))) (by kernel_rfl) (keepB qB.drew) (fun hS0=>?_);refine hT 0 (h:=hT 1 (h:=?_));refine hC 2 HS.out (h:=?_);rintro e w4 ⟨x,rfl,hb,hx⟩;have HB:=qH (qb1 hb);have hS1:W3.grownBy w4 (some (w.heap.size+1+1)):=keepB HB.out;have K4:=K3.below HB.out;obtain⟨a9,n9,c9,b9,d9,e9,f9,rfl⟩:=qcq hx;refine⟨_,rfl,hS1,hN (h:=?_)⟩;refine hC 3 (qh3 p (-q) K HX.out.2.2.2 _ _ w4 (HX.out.1.below HB.out) hx HX.out.2.1 HX.out.2.2.1) (h:=?_);rintro e w5 ⟨x,rfl,hb5,hx5⟩;have hS2:=qcd hS1 hb5;have K5:=K4.below hb5;obtain⟨a8,n8,c8,b8,d8,e8,f8,rfl⟩:=qcq hx5;refine⟨_,rfl,hS2,hN (h:=?_)⟩;have HE:=qH (qA (qT _ _ _ #[.slice a8 n8 c8,.bool b8,.slice d8 e8 f8] _ _ K5.out.2.2.2) (qA (qS K5.out.1 (show w.heap.size<=w.heap.size+1+1 by omega) #[.slice a8 n8 c8,.bool b8,.slice d8 e8 f8]) hx5));refine hSt 4 3 K5.out.2.2.2 (h:=⟨qbU hS2 (qb5 _ _ _),?_⟩);clear hb hx hb5 hx5 hS2 hS1;go_wp2_with fail;refine qR (v:=.agg #[.slice a8 n8 c8,.bool b8,.slice d8 e8 f8]) (rA_ rfl ((w.heap.size+1+1)) HE.out.1 Tryz.underlying138 3) rfl ⟨_,rfl,HE.out.2.1,?_⟩;rw [Rat.sub_eq_add_neg];exact qdG HE.out.2.2 K5.out.2.2.2
theorem RFit.sub {p q:Rat} {K:Nat} (hp:RFit p K) (hq:RFit q K):RFit (p-q) (K+K+1):=by
 rw [Rat.sub_eq_add_neg];exact hp.add hq.neg
theorem qky (n d m c:ByteArray) (w:World) :
  Calls Tryz.prog 85 #[.agg #[.string n,.string d],.agg #[.string m,.string c],.func (.func 93) #[] #[]] w fun e w'=>qhI w (· - ·) n.data.toList d.data.toList m.data.toList c.data.toList e w':=by
 obtain⟨W1,hW1⟩:=qY (((w.alloc (.cells #[.string n,.string d] 44)).alloc (.cells #[.string m,.string c] 44)).alloc (.cells #[.slice none 0 0,.bool false,.slice none 0 0] 138));have hb1:Below w.heap.size w W1:=hW1▸qbS (qbS (qbS qB qN) qN) qN;have hr0:W1.heap[w.heap.size]? = some (.cells #[.string n,.string d] 44 (0,0)):=by rw [hW1,qL _ _ _ (by simp only [qab];omega),qL _ _ _ (by simp only [qab];omega)];exact qM _ _ _ rfl
 have hr1:W1.heap[w.heap.size+1]? = some (.cells #[.string m,.string c] 44 (0,0)):=by rw [hW1,qL _ _ _ (by simp only [qab];omega)];exact qM _ _ _ (by simp)
 have hr2:W1.heap[w.heap.size+1+1]? = some (.cells #[.slice none 0 0,.bool false,.slice none 0 0] 138 (0,0)):=by rw [hW1];exact qM _ _ _ (by simp)
 have HR:=qH (qA hb1 (qA hr0 (qA hr1 hr2)));clear hb1 hr0 hr1 hr2;go_enter Tryz.func85,Tryz.ntmps85;go_wp2_with fail;rw [<-hW1];clear hW1;refine (qc7 n d W1).mono ?_;rintro e w1 ⟨v1,ok1,rfl,hok1,hb1⟩;obtain⟨a0,n0,c0,b0,d0,e0,f0,rfl⟩:=qcP hok1;have HO1:=qH hok1;have k1:=qC w1 _ 0 _ _ _ ((hb1.block _ (qG HR.out.2.2.1).1).trans HR.out.2.2.1);have k2:=qC w1 _ 1 _ _ _ ((hb1.block _ (qG HR.out.2.2.1).1).trans HR.out.2.2.1);have q1:w.heap.size+1<w1.heap.size:=qag (qG HR.out.2.2.1).1 hb1.size;have HB1:=qH hb1;clear hb1 hok1;go_wp2_with fail;obtain⟨V1,hV1⟩:=qY (w1.alloc (.cells #[.slice a0 n0 c0,.bool b0,.slice d0 e0 f0] 138));rw [<-hV1];have hv1:V1.heap[w1.heap.size]? = some (.cells #[.slice a0 n0 c0,.bool b0,.slice d0 e0 f0] 138 (0,0)):=by rw [hV1];exact qM _ _ _ rfl
 have hbv1:Below w1.heap.size w1 V1:=hV1▸qbS qB qN;clear hV1 k1 k2;refine (qc7 m c V1).mono ?_;rintro e w2 ⟨v2,ok2,rfl,hok2,hb2⟩;obtain⟨a1,n1,c1,b1,d1,e1,f1,rfl⟩:=qcP hok2;have HO2:=qH hok2;have hr8:=(hb2.block _ (qG hv1).1).trans hv1;have hb12:Below w1.heap.size w1 w2:=hbv1.trans (hb2.mono hbv1.size);have HB2:=qH hb12;have hbw:Below w.heap.size w w2:=HR.out.1.trans ((HB1.out.trans (hb12.mono HB1.out.size)).mono HR.out.1.size);obtain⟨V2,hV2⟩:=qY (w2.alloc (.cells #[.slice a1 n1 c1,.bool b1,.slice d1 e1 f1] 138));have hbv2:Below w2.heap.size w2 V2:=hV2▸qbS qB qN;have r8:=(hbv2.block _ (qG hr8).1).trans hr8;have r9:V2.heap[w2.heap.size]? = some (.cells #[.slice a1 n1 c1,.bool b1,.slice d1 e1 f1] 138 (0,0)):=by rw [hV2];exact qM _ _ _ rfl
 have HV2:=qH (qA r8 (qA r9 (qA (hbw.trans (hbv2.mono hbw.size)) hbv2)));have x0:=qC w2 _ 0 _ _ _ hr8;have x1:=qC w2 _ 1 _ _ _ hr8;have x2:=qC w2 _ 2 _ _ _ hr8;have lt8:=(qG hr8).1;have HVe:=qH hV2;clear hv1 hbv1 hb2 hok2 hr8 hb12 hbw hbv2 r8 r9 hV2;have HO:=qH (fun (h1:FOk n.data.toList d.data.toList) (h2:FOk m.data.toList c.data.toList) (hv:RatV V2 (.agg #[.slice a0 n0 c0,.bool b0,.slice d0 e0 f0]) (fval n.data.toList d.data.toList)) (hu:RatV V2 (.agg #[.slice a1 n1 c1,.bool b1,.slice d1 e1 f1]) (fval m.data.toList c.data.toList))=>rsub_any _ _ 67 (by decide) _ _ V2 hv hu h1.fit h2.fit);have HRZ:Hid (V2.heap[w.heap.size+1+1]? = some (.cells #[.slice none 0 0,.bool false,.slice none 0 0] 138 (0,0))):=qH (by
  have h1:=(HB1.out.block _ (qG HR.out.2.2.2).1).trans HR.out.2.2.2;have h2:=(HB2.out.block _ (qG h1).1).trans h1;exact (HV2.out.2.2.2.block _ (qG h2).1).trans h2)
 rcases HO1.out with ⟨rfl,hf1,hv1⟩ | ⟨rfl,hf1,_⟩
 ·rcases HO2.out with ⟨rfl,hf2,hv2⟩ | ⟨rfl,hf2,_⟩
  ·have hc:=HO.out hf1 hf2 ((hf1.at hv1).below (HB2.out.trans (HV2.out.2.2.2.mono HB2.out.size))) ((hf2.at hv2).below HV2.out.2.2.2);have HC:=qH (qA hc (qA hf1 hf2));clear hf1 hf2 hv1 hv2 hc;go_wp2_with fail;rw [<-HVe.out];refine HC.out.1.mono ?_;rintro e w9 ⟨v9,rfl,hb9,hv9⟩;obtain⟨a7,n7,c7,b7,d7,e7,f7,rfl⟩:=qcq hv9;have hr9:=(hb9.block _ (qG HRZ.out).1).trans HRZ.out;have H9:=qH (qA hr9 (qA (HV2.out.2.2.1.trans (hb9.mono HV2.out.2.2.1.size)) (qdG (cs':=#[.slice a7 n7 c7,.bool b7,.slice d7 e7 f7]) hv9 hr9)));clear hb9 hv9 hr9
   go_wp2_with (with_reducible refine sR_ rfl 138 _ _ rfl (w.heap.size+1+1) #[.slice a7 n7 c7,.bool b7,.slice d7 e7 f7] H9.out.1 3 ?_)
   exact qR (v:=.tuple #[.agg #[.slice a7 n7 c7,.bool b7,.slice d7 e7 f7],.int .i64 0]) (rB_ rfl (w.heap.size+1+1) (qT _ _ _ _ _ _ H9.out.1) Tryz.underlying138 3) rfl ⟨⟨_,_,rfl,qan ⟨HC.out.2,rfl,H9.out.2.2⟩⟩,qS H9.out.2.1 (by omega) _⟩
  ·have HN:=qH (show ¬(FOk n.data.toList d.data.toList/\FOk m.data.toList c.data.toList) from fun h=>hf2 h.2);clear hf1 hf2 hv1;have hrz:((w2.alloc (.cells #[.slice a1 n1 c1,.bool b1,.slice d1 e1 f1] 138)).alloc (.cells #[.slice none 0 0,.bool false,.slice none 0 0] 138)).heap[w.heap.size+1+1]? = some (.cells #[.slice none 0 0,.bool false,.slice none 0 0] 138 (0,0)):=by
    rw [<-HVe.out];exact (qL _ _ _ (qG HRZ.out).1).trans HRZ.out
   have HRZ2:=qH hrz;have HBZ:=qH (show Below w.heap.size w ((w2.alloc (.cells #[.slice a1 n1 c1,.bool b1,.slice d1 e1 f1] 138)).alloc (.cells #[.slice none 0 0,.bool false,.slice none 0 0] 138)) from HVe.out▸(HV2.out.2.2.1.alloc HV2.out.2.2.1.size _));clear hrz
   go_wp2_with (with_reducible refine sR_ rfl 138 _ _ rfl (w.heap.size+1+1) #[.slice none 0 0,.bool false,.slice none 0 0] HRZ2.out 3 ?_)
   exact qR (v:=.tuple #[.agg #[.slice none 0 0,.bool false,.slice none 0 0],.int .i64 20]) (rB_ rfl (w.heap.size+1+1) (qT _ _ _ _ _ _ HRZ2.out) Tryz.underlying138 3) rfl ⟨⟨_,_,rfl,qah ⟨HN.out,rfl,rfl⟩⟩,qS HBZ.out (by omega) _⟩
 ·have HN:=qH (show ¬(FOk n.data.toList d.data.toList/\FOk m.data.toList c.data.toList) from fun h=>hf1 h.1);clear hf1;have hrz:((w2.alloc (.cells #[.slice a1 n1 c1,.bool b1,.slice d1 e1 f1] 138)).alloc (.cells #[.slice none 0 0,.bool false,.slice none 0 0] 138)).heap[w.heap.size+1+1]? = some (.cells #[.slice none 0 0,.bool false,.slice none 0 0] 138 (0,0)):=by
   rw [<-HVe.out];exact (qL _ _ _ (qG HRZ.out).1).trans HRZ.out
  have HRZ2:=qH hrz;have HBZ:=qH (show Below w.heap.size w ((w2.alloc (.cells #[.slice a1 n1 c1,.bool b1,.slice d1 e1 f1] 138)).alloc (.cells #[.slice none 0 0,.bool false,.slice none 0 0] 138)) from HVe.out▸(HV2.out.2.2.1.alloc HV2.out.2.2.1.size _));clear hrz
  go_wp2_with (with_reducible refine sR_ rfl 138 _ _ rfl (w.heap.size+1+1) #[.slice none 0 0,.bool false,.slice none 0 0] HRZ2.out 3 ?_)
  exact qR (v:=.tuple #[.agg #[.slice none 0 0,.bool false,.slice none 0 0],.int .i64 20]) (rB_ rfl (w.heap.size+1+1) (qT _ _ _ _ _ _ HRZ2.out) Tryz.underlying138 3) rfl ⟨⟨_,_,rfl,qah ⟨HN.out,rfl,rfl⟩⟩,qS HBZ.out (by omega) _⟩
theorem fsub_any (n d m c:ByteArray) (w:World) (hT:HasT w) :
  Calls Tryz.prog 29 #[.agg #[.string n,.string d],.agg #[.string m,.string c]] w fun e w'=>FDoes w (· - ·) n.data.toList d.data.toList m.data.toList c.data.toList e w':=by
 have HT:=qH hT;have HA:=qH (fun W=>qky n d m c W);obtain⟨W1,hW1⟩:=qY (((w.alloc (.cells #[.string n,.string d] 44)).alloc (.cells #[.string m,.string c] 44)).alloc (.cells #[.string ⟨#[]⟩,.string ⟨#[]⟩] 44));have hb1:Below w.heap.size w W1:=hW1▸qbS (qbS (qbS qB qN) qN) qN;have hr1:W1.heap[w.heap.size+1+1]? = some (.cells #[.string ⟨#[]⟩,.string ⟨#[]⟩] 44 (0,0)):=by rw [hW1];exact qM _ _ _ (by simp)
 have HR:=qH (qA hb1 hr1);clear hb1 hr1 hT;go_enter Tryz.func29,Tryz.ntmps29;go_wp2_with fail;rw [<-hW1];clear hW1;refine (HA.out W1).mono ?_;rintro e w2 ⟨⟨v,er,rfl,h⟩,hb⟩;have H2:=qH (qA ((hb.block _ (qG HR.out.2).1).trans HR.out.2) (HR.out.1.trans (hb.mono HR.out.1.size)));clear hb;rcases h with ⟨hf,rfl,hv⟩ | ⟨hf,rfl,rfl⟩
 ·have hres:=qfQ _ (67+67+1) (by decide) (by decide) v w2 hv (hf.1.fit.sub hf.2.fit) (HT.out.below H2.out.2);have HF:=qH hf;have HRS:=qH hres;obtain⟨a7,n7,c7,b7,d7,e7,f7,rfl⟩:=qcq hv;clear hf hres hv;go_wp2_with fail;refine HRS.out.mono ?_;rintro e w3 ⟨h,hb⟩;have H3:=qH (qA ((hb.block _ (qG H2.out.1).1).trans H2.out.1) (H2.out.2.trans (hb.mono H2.out.2.size)));clear hb;rcases h with ⟨hs,rfl⟩ | ⟨hs,rfl⟩
  ·unfold fstr;have HS:=qH hs;obtain⟨q,hq⟩:=qX (((· - ·):Rat->Rat->Rat) (fval n.data.toList d.data.toList) (fval m.data.toList c.data.toList));obtain⟨T1,hT1⟩:∃T,frac.wtxt (((· - ·):Rat->Rat->Rat) (fval n.data.toList d.data.toList) (fval m.data.toList c.data.toList)).num=T:=⟨_,rfl⟩;obtain⟨T2,hT2⟩:∃T,num (((· - ·):Rat->Rat->Rat) (fval n.data.toList d.data.toList) (fval m.data.toList c.data.toList)).den=T:=⟨_,rfl⟩;rw [hT1,hT2];have HTT:=qH (qA hT1 hT2);clear hT1 hT2 hs hq
   go_wp2_with (with_reducible refine sR_ rfl 44 _ _ rfl (w.heap.size+1+1) #[.string T1,.string T2] H3.out.1 2 ?_)
   refine qR (v:=.tuple #[.agg #[.string T1,.string T2],.int .i64 0]) (rB_ rfl (w.heap.size+1+1) (qT _ _ _ _ _ _ H3.out.1) Tryz.underlying44 2) rfl ⟨qan ⟨HF.out,qan ⟨HS.out,?_⟩⟩,qS H3.out.2 (by omega) _⟩;unfold fstr;rw [HTT.out.1,HTT.out.2]
  ·have HS:=qH hs;clear hs
   go_wp2_with (with_reducible refine sR_ rfl 44 _ _ rfl (w.heap.size+1+1) #[.string ⟨#[]⟩,.string ⟨#[]⟩] H3.out.1 2 ?_)
   exact qR (v:=.tuple #[.agg #[.string ⟨#[]⟩,.string ⟨#[]⟩],.int .i64 6]) (rB_ rfl (w.heap.size+1+1) (qT _ _ _ _ _ _ H3.out.1) Tryz.underlying44 2) rfl ⟨qan ⟨HF.out,qah ⟨HS.out,rfl⟩⟩,qS H3.out.2 (by omega) _⟩
 ·have HF:=qH hf;have HRS:=qH (fun W=>qe6 none 0 0 false none 0 0 W);clear hf;go_wp2_with fail;refine (HRS.out _).mono ?_;rintro e w3 ⟨rfl,hb⟩;have H3:=qH (qA ((hb.block _ (qG H2.out.1).1).trans H2.out.1) (H2.out.2.trans (hb.mono H2.out.2.size)));clear hb
  go_wp2_with (with_reducible refine sR_ rfl 44 _ _ rfl (w.heap.size+1+1) #[.string ⟨#[]⟩,.string ⟨#[]⟩] H3.out.1 2 ?_)
  exact qR (v:=.tuple #[.agg #[.string ⟨#[]⟩,.string ⟨#[]⟩],.int .i64 20]) (rB_ rfl (w.heap.size+1+1) (qT _ _ _ _ _ _ H3.out.1) Tryz.underlying44 2) rfl ⟨qah ⟨HF.out,rfl⟩,qS H3.out.2 (by omega) _⟩
theorem subq {p q:Rat} (sp:Short p) (sq:Short q) (sz:Short (p-q)) (w:World) (hT:HasT w) :
  Calls Tryz.prog 29 #[.agg #[.string (ftxt p).1,.string (ftxt p).2],.agg #[.string (ftxt q).1,.string (ftxt q).2]] w fun e w'=>e=.returned (.tuple #[.agg #[.string (ftxt (p-q)).1,.string (ftxt (p-q)).2],.int .i64 0])/\Below w.heap.size w w':=by
 refine (fsub_any _ _ _ _ w hT).mono ?_;rintro e w' ⟨⟨_,h⟩ | ⟨h,_⟩,hb⟩
 ·rw [qcD,qcD] at h;rcases h with ⟨_,h⟩ | ⟨h,_⟩
  ·exact⟨h,hb⟩
  ·exact absurd sz h
 ·exact absurd ⟨qcZ sp,qcZ sq⟩ h
def absR (q:Rat):Rat:=if q.num<0 then -q else q
theorem absq {q:Rat} (sq:Short q) (w:World) (hT:HasT w) :
  Calls Tryz.prog 30 #[.agg #[.string (ftxt q).1,.string (ftxt q).2]] w fun e w'=>e=.returned (.tuple #[.agg #[.string (ftxt (absR q)).1,.string (ftxt (absR q)).2],.int .i64 0])/\Below w.heap.size w w':=by
 have hnum:(absR q).num=(q.num.natAbs:Int):=by
  unfold absR;split
  ·show -q.num=_;omega
  ·omega
 have hden:(absR q).den=q.den:=by unfold absR;split <;> rfl
 have hsh:Short (absR q):=by
  unfold Short at sq ⊢;rw [hnum,hden,qal];exact sq
 obtain⟨q1,q2,hq⟩:=qb6 q;obtain⟨r1,r2,hr⟩:=qb6 (absR q);have Rq:=fun W=>readq sq W
 rw [hq] at Rq;have HR:=qH Rq;obtain⟨W2,hW2,K2⟩:=nw2 w #[.string q1,.string q2] 44 #[.string ⟨#[]⟩,.string ⟨#[]⟩] 44;have HZ:=qH (qA hsh (qA hr (qA hnum (qA hden (hT.below K2.out.1)))));rw [hq,hr];clear Rq sq hsh hnum hden hq hr hT;have c0:=qC _ _ 0 _ _ _ K2.out.2.1;have c1:=qC _ _ 1 _ _ _ K2.out.2.1;go_enter Tryz.func30,Tryz.ntmps30;go_upto_region 1 with fail;rw [<-hW2];clear hW2;go_wp2_with fail;refine (HR.out W2).mono ?_;rintro e w3 ⟨a,n,c,b,d,m,f,rfl,hv,hf,hb⟩;have K3:=K2.below hb;have HV:=qH (qA hv (qA hf hb));clear hv hf hb c0 c1;obtain⟨W4,hW4,N4⟩:=nw1 w3 #[.slice a n c,.bool b,.slice d m f] 138;go_upto_region 4 with fail;rw [<-hW4];clear hW4;have K4:=K3.below N4.out.1;have hlw:w.heap.size+1<w3.heap.size:=(qG K3.out.2.2).1;have q0:=rowG (g0:=w.heap.size+1) N4.out.2 0;have q1':=rowG (g0:=w.heap.size+1) N4.out.2 1;have q2':=rowG (g0:=w.heap.size+1) N4.out.2 2;have hm4:MagAt W4 (.slice a n c) q.num.natAbs:=by
  obtain⟨m',o',e',h1,h2⟩:=HV.out.1;simp only [qaJ,qaL,qaH] at e';rw [e'.1];exact h1.below N4.out.1
 have ho4:MagAt W4 (.slice d m f) q.den:=by
  obtain⟨m',o',e',h1,h2⟩:=HV.out.1;simp only [qaJ,qaL,qaH] at e';rw [e'.2.2.1];exact h2.below N4.out.1
 refine wp_region_held_drew (S:=fun W=>W4.grownBy W (some (w.heap.size+1))) (by kernel_rfl) (keepB qB.drew) (fun hS0=>?_);refine hT 0 (h:=hT 1 (h:=hT 2 (h:=hT 4 (h:=hT 5 (h:=?_)))));refine hC 3 (frac.qb3 q.num.natAbs false _ _ (hm4.below qB.drew)) (h:=?_);rintro e w5 ⟨u,rfl,hb5,hu⟩;have hS5:W4.grownBy w5 (some (w.heap.size+1)):=qgO hb5;have K5:=K4.below (qb1 hb5);have hu2:IntAt w5 u (absR q).num:=by rw [HZ.out.2.2.1];simpa using hu
 obtain⟨au,nu,cu,bu,rfl⟩:=frac.qbT hu2;refine⟨_,rfl,hS5,hN (h:=?_)⟩;refine hT 6 (h:=?_);have hv5:RatV w5 (.agg #[.slice au nu cu,.bool bu,.slice d m f]) (absR q):=by
  obtain⟨m9,e9,h9⟩:=hu2;have e1:Value.slice au nu cu=m9/\bu=decide ((absR q).num<0):=by
   simp only [qaJ,qaL,qaH,qbm] at e9;exact⟨e9.1,e9.2.1⟩
  refine⟨.slice au nu cu,.slice d m f,?_,?_,?_⟩
  ·rw [e1.2]
  ·rw [e1.1];exact h9
  ·rw [HZ.out.2.2.2.1];exact ho4.below (qb1 hb5)
 have hfit:RFit (absR q) 67:=⟨by rw [HZ.out.2.2.1,qal];exact HV.out.2.1.1,by rw [HZ.out.2.2.2.1];exact HV.out.2.1.2⟩;refine hC 7 (qeb (absR q) 67 (by decide) (by decide) _ w5 hv5 hfit (HZ.out.2.2.2.2.below ((HV.out.2.2.trans (N4.out.1.mono HV.out.2.2.size)).trans ((qb1 hb5).mono (HV.out.2.2.trans (N4.out.1.mono HV.out.2.2.size)).size)))) (h:=?_);rintro e w6 ⟨h,hb6⟩;rcases h with ⟨_,rfl⟩ | ⟨h,_⟩
 case inr=>exact absurd HZ.out.1 h
 have hS6:=qcd hS5 hb6;have K6:=K5.below hb6;rw [qdT,HZ.out.2.1];refine⟨_,rfl,hS6,hN (h:=?_)⟩;refine hT 8 (h:=hT 9 (h:=?_));refine hSn 10 2 K6.out.2.2 (h:=⟨qbU hS6 (qb5 _ _ _),?_⟩);have hS7:=qbU hS6 (qb5 w6 (w.heap.size+1) #[.string r1,.string r2]);refine hT 11 (h:=?_);refine wpAnyH_done (by kernel_rfl) ?_ _;have HE:=qH (qA (qS K6.out.1 (show w.heap.size<=w.heap.size+1 by omega) #[.string r1,.string r2]) K6.out.2.2);clear K6 K5 K4 K3 hS7 hS6 hS5 hb6 hb5 hu hu2 hv5 hfit hm4 ho4;go_wp2_with fail;exact qR (v:=.tuple #[.agg #[.string r1,.string r2],.int .i64 0]) (rB_ rfl (w.heap.size+1) (qT _ _ _ _ _ _ HE.out.2) Tryz.underlying44 2) rfl ⟨rfl,HE.out.1⟩
