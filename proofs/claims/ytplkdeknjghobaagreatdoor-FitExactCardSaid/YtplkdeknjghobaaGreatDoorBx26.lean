import Derived.Test.YtplkdeknjghobaaGreatDoorBx25
set_option maxRecDepth 100000
set_option maxHeartbeats 0
namespace Go.Proofs.YtplkdeknjghobaaGreatDoor
open Go.RowKit Go.Proofs.Tryz
theorem rof_any (i:Nat) (I:i<12) (w:World):Calls prog 122 #[.int .i64 (i:Int)] w fun e Z=>e=.returned (.string (num i))/\Below w.heap.size w Z:=by
 have V:=qH (integerS i I w);have Y:=qH fun v W G=>outS i I v W G
 clear I;go_enter func122,ntmps122;go_wp2_with fail;refine V.o.mono ?_;rintro e w2 ⟨v,rfl,G,O⟩;have U:=qH (Y.o v w2 G);have J:=qH O;clear O G;go_wp2_with fail;refine U.o.mono ?_;rintro e w3 ⟨rfl,F⟩;have H:=qH (J.o.trans (F.mono J.o.size));clear F;go_wp2;go_ret;exact⟨rfl,H.o⟩
structure PRws (W:World) (ao:Option Addr) (b off:Nat) (L:List (List Int)):Prop where
 addr:0<L.length->ao=some ⟨b,off,none⟩
 cell:∀k,k<L.length->∀j,j<7->W.cell? ⟨b,off+k*7+j,none⟩=some (.int .i16 ((L.getD k []).getD j 0))
 rng:∀k j,-32768<=(L.getD k []).getD j 0/\(L.getD k []).getD j 0<=32767
theorem PRws.below {W W':World} {F:Option Addr} {b off:Nat} {L:List (List Int)} (h:PRws W F b off L) (I:Below W.heap.size W W'):PRws W' F b off L :=
 ⟨h.addr,fun k H j G=>(I.cell (qac W _ (h.cell k H j G))).trans (h.cell k H j G),h.rng⟩
instance stays_prws {F:Option Addr} {b off:Nat} {L:List (List Int)}:Stays fun W=>PRws W F b off L:=⟨fun h G=>h.below G⟩
def devD (k:Nat) (F:List Int):List Int:=(List.range k).map fun j=>patD (F.getD j 0)
theorem qf5 (k:Nat) (F:List Int):(devD k F).length=k:=by unfold devD;simp
theorem qlH (k:Nat) (F:List Int):devD (k+1) F=devD k F++[patD (F.getD k 0)]:=by unfold devD;rw [List.range_succ,qaZ];rfl
theorem qdD {W:World} {B m:Nat} {v:Value} {l:List Int} (h:IOwn W B v l) (G:l.length=m):∃(F:Option Addr) (cap:Nat),v=.slice F m cap:=by subst G;exact qdN h
structure PoSt (w3 W:World) (g8 B:Nat) (nm:ByteArray) (Z:Array Value) (zs:List Int) (k:Nat) (v:Value):Prop where
 old:Below w3.heap.size w3 W
 row:W.heap[w3.heap.size]? = some (.cells #[.string nm,v,.int .i64 0,.int .i64 0,.int .i64 0] 55 (0,0))
 zr:W.heap[g8]? = some (.cells Z 201 (0,0))
 base:w3.heap.size<g8/\g8<B/\B<=W.heap.size
 own:IOwn W B v (devD k zs)
theorem PoSt.push {H W J G:World} {U B:Nat} {nm:ByteArray} {Z:Array Value} {zs:List Int} {k:Nat} {v I:Value} (h:PoSt H W U B nm Z zs k v) (hb:Below W.heap.size W J) (ho:IOwn G B I (devD (k+1) zs))
  (hk:I.ownBlock=v.ownBlock/\J.grownBy G v.ownBlock\/I.ownBlock=some J.heap.size/\J.grownBy G none) :
  (G.cell? ⟨H.heap.size,1,none⟩=some v/\G.frozen? ⟨H.heap.size,1,none⟩=false)/\PoSt H (G.setCell ⟨H.heap.size,1,none⟩ I) U B nm Z zs (k+1) I:=by
 have Y:=h.own.lt;have V:Below B J G:=by
  have hs:=hb.size;have ae:=h.base.2.2;rcases hk with ⟨_,hg⟩ | ⟨_,hg⟩
  ·exact⟨hg.os,hg.tape,hg.output,hg.size,fun q hq=>hg.block q (by omega) (fun e=>by have:=(Y q e.symm).1;omega)⟩
  ·exact⟨hg.os,hg.tape,hg.output,hg.size,fun q hq=>hg.block q (by omega) (fun e=>by cases e)⟩
 have O:Below B W G:=(hb.mono h.base.2.2).trans V;have F:=(O.block _ (Nat.lt_trans h.base.1 h.base.2.1)).trans h.row;have aa:=(O.block _ h.base.2.1).trans h.zr;refine⟨⟨qC _ _ 1 _ _ _ F,qF _ _ _ _ _ F⟩,(h.old.trans (O.mono (by have:=h.base.1;have:=h.base.2.1;omega))).setCell (p:=⟨H.heap.size,1,none⟩) qN _,heap_setCell_same _ _ 1 _ _ _ F,?_,⟨h.base.1,h.base.2.1,by rw [qbu];exact qaj h.base.2.2 O.size⟩,?_⟩
 ·rw [qW _ _ _ _ (show U≠H.heap.size by have:=h.base.1;omega)];exact aa
 ·exact World.ownsRow.kept ho (qbT G H.heap.size 1 I) (by
   cases e:I.ownBlock with
   | none=>exact .inl rfl
   | some q=>exact .inr (fun e2=>by have:=(ho.lt q e).1;have:=qah e2;have:=h.base;omega))
def PtV (W:World) (u:Value) (p:Pt):Prop:=∃(B:Nat) (F:Option Addr) (G:Nat),u=.agg #[.string p.name,.slice F p.dev.length G,.int .i64 p.l0,.int .i64 p.l1,.int .i64 p.l2]/\IOwn W B (.slice F p.dev.length G) p.dev
theorem one_any (ch:Nat) (L:List (List Int)) (ao:Option Addr) (b off c i n:Nat) (w:World) (hi:i<L.length) (U:i<12) (h1:1<=n) (h4:n<=4) (hl:L.length<=9223372036854775807) (hP:PRws w ao b off L) :
  Calls prog 49 #[.agg #[.int .u8 (ch:Int),.slice ao L.length c],.int .i64 (i:Int),.int .i64 (n:Int)] w fun e w'=>∃u,e=.returned u/\PtV w' u (ptD n i (L.getD i []))/\Below w.heap.size w w':=by
 obtain⟨W2,aJ,N2⟩:=nw2 w #[.int .u8 (ch:Int),.slice ao L.length c] 24 #[.string ⟨#[]⟩,.slice none 0 0,.int .i64 0,.int .i64 0,.int .i64 0] 55;have K2:=N2.also (q:=fun W=>PRws W ao b off L) (hP.below N2.o.1);obtain rfl:=hP.addr (by omega);have hr:=fun j=>hP.rng i j
 obtain⟨zs,aI⟩:=qX (L.getD i []);rw [aI] at hr ⊢;have bf:=qH aI;clear hP N2 aI;go_enter func49,ntmps49;go_upto_region 1 with fail;rw [<-aJ];clear aJ;go_wp2_with fail;refine (rof_any i U W2).mono ?_;rintro e F ⟨rfl,hb⟩;have K3:=K2.below hb;clear hb K2;obtain⟨W4,ah,N4⟩:=nw1 F #[.string (nmD i),.slice none 0 0,.int .i64 0,.int .i64 0,.int .i64 0] 55;have au:=nm_eq i U;obtain⟨nm,V⟩:∃x,nmD i=x:=⟨_,rfl⟩;rw [V] at au ah N4;have bA:=qmF i U;have af:∀W,(Op.stringOp .add ⟨#[112]⟩ (num i)).run prog W=.ok (.string nm) W:=fun W=>by
  rw [<-au];exact run_string_add_sum W _ _ (by have:(⟨#[112]⟩:ByteArray).size=1:=rfl;omega)
 obtain⟨ni,aN⟩:∃x,num i=x:=⟨_,rfl⟩;rw [aN] at af ⊢;clear bA au aN;go_upto_region 2 with fail;rw [<-ah];clear af;have bg:=qH V;clear ah V;have K4:=K3.below N4.o.1;have c1:=qC _ _ 1 _ _ _ K4.o.1.2.1;have z0:W4.cell? ⟨b,off+i*7,none⟩=_:=K4.o.2.cell i hi 0 (by decide);have z1:=K4.o.2.cell i hi 1 (by decide);have z2:=K4.o.2.cell i hi 2 (by decide);have z3:=K4.o.2.cell i hi 3 (by decide);have z4:=K4.o.2.cell i hi 4 (by decide);have z5:=K4.o.2.cell i hi 5 (by decide);have z6:=K4.o.2.cell i hi 6 (by decide);rw [bf.o] at z0 z1 z2 z3 z4 z5 z6;obtain⟨y0,aA⟩:∃y,zs.getD 0 0=y:=⟨_,rfl⟩;obtain⟨y1,aB⟩:∃y,zs.getD 1 0=y:=⟨_,rfl⟩;obtain⟨y2,aC⟩:∃y,zs.getD 2 0=y:=⟨_,rfl⟩;obtain⟨y3,aD⟩:∃y,zs.getD 3 0=y:=⟨_,rfl⟩;obtain⟨y4,aF⟩:∃y,zs.getD 4 0=y:=⟨_,rfl⟩;obtain⟨I,aG⟩:∃y,zs.getD 5 0=y:=⟨_,rfl⟩;obtain⟨y6,aH⟩:∃y,zs.getD 6 0=y:=⟨_,rfl⟩;rw [aA] at z0;rw [aB] at z1;rw [aC] at z2;rw [aD] at z3;rw [aF] at z4;rw [aG] at z5;rw [aH] at z6;have Z:=qH (qA (qA aA (qA aB (qA aC aD))) (qA aF (qA aG aH)));have HR:=qH hr;have bn:(i:Int)<(L.length:Int):=by omega
 clear aA aB aC aD aF aG aH hr;obtain⟨W5,aK,N5⟩:=nw1 W4 #[.int .i16 y0,.int .i16 y1,.int .i16 y2,.int .i16 y3,.int .i16 y4,.int .i16 I,.int .i16 y6] 201;have aR:F.heap.size<W4.heap.size:=(qG N4.o.2).1;have aS:W4.heap.size<W5.heap.size:=(qG N5.o.2).1;have H0:Hu (PoSt F W5 W4.heap.size W5.heap.size nm #[.int .i16 y0,.int .i16 y1,.int .i16 y2,.int .i16 y3,.int .i16 y4,.int .i16 I,.int .i16 y6] zs 0 (.slice none 0 0)):=qH
  ⟨N4.o.1.trans (N5.o.1.mono N4.o.1.size),zkeep N5.o.1 _ _ N4.o.2,N5.o.2,⟨aR,aS,qae _⟩,⟨rfl,.inl ⟨rfl,rfl⟩⟩⟩
 go_upto_region 3 with fail;rw [<-aK];obtain⟨B,hB⟩:=qX W5.heap.size;obtain⟨g8,ak⟩:=qX W4.heap.size;rw [hB,ak] at H0;rw [ak];clear aK hB ak aR aS N4 N5 K4 c1 z0 z1 z2 z3 z4 z5 z6 bn;go_wp2_with fail
 go_loopw [9] (fun x9 W=>∃k:Nat,x9=.int .i64 (k:Int)/\k<=n/\Hu (∃v,PoSt F W g8 B nm #[.int .i16 y0,.int .i16 y1,.int .i16 y2,.int .i16 y3,.int .i16 y4,.int .i16 I,.int .i16 y6] zs k v)) (fun x9 _=>n-(intOf x9).toNat)
 case atStart=>exact⟨0,rfl,qam _,qH ⟨_,H0.o⟩⟩
 case round =>
  obtain⟨k,rfl,hk,hS⟩:=hrel;obtain⟨v,hm⟩:=hS.o;have G:=qH hm;clear hS
  by_cases bv:k<n
  ·have bu:(k:Int)<(n:Int):=by omega
   obtain⟨z,hz⟩:=qX (zs.getD k 0);have bD:wr.cell? ⟨g8,k,none⟩=some (.int .i16 z):=by
    rcases (show k=0\/k=1\/k=2\/k=3 by omega) with rfl | rfl | rfl | rfl
    ·rw [<-hz,Z.o.1.1];exact qC _ _ 0 _ _ _ hm.zr
    ·rw [<-hz,Z.o.1.2.1];exact qC _ _ 1 _ _ _ hm.zr
    ·rw [<-hz,Z.o.1.2.2.1];exact qC _ _ 2 _ _ _ hm.zr
    ·rw [<-hz,Z.o.1.2.2.2];exact qC _ _ 3 _ _ _ hm.zr
   have aW:=HR.o k;rw [hz] at aW;have HZ:=qH hz;have bE:(k:Int)<7:=by omega
   clear hz hm
   go_upto_if 30 with fail
   go_cut [10] (fun x10 W=>x10=.int .i64 (z.natAbs:Int)/\Hu (W=wr))
   case first =>
    by_cases bG:z<0
    ·go_wp2;go_meet;exact⟨congrArg (Value.int .i64) (by omega),qH rfl⟩
    ·go_wp2;go_meet;exact⟨congrArg (Value.int .i64) (by omega),qH rfl⟩
   case rest =>
    obtain⟨rfl,ai⟩:=hcut;have ai:=ai.o.symm;subst ai;obtain⟨p,hp⟩:=qX (patD z);have aP:(z.natAbs:Int) % 9*1250=p:=by
     rw [<-hp];unfold patD;omega
    have bB:=qmM z;rw [hp] at bB;have aY:=qH (qA hp aP);obtain⟨x,hx⟩:=qX z.natAbs;rw [hx] at aP ⊢;have bF:x<=32768:=by omega
    have c1:=qC _ _ 1 _ _ _ G.o.row;obtain⟨va,vc,az⟩:=qdD G.o.own (qf5 _ _);subst az;have aX:=qH G.o.own;have bi:=G.o.base.2.2;have bz:(devD k zs).length<1000000:=by rw [qf5];omega
    clear hp hx bD aW
    go_wp2_with (first | (at_builtin;refine qfL rfl _ _ rfl aX.o bi rfl rfl rfl bz ?_;intro v' w' aO bq;(have ae:=G.o.push (qbS qB qN) (by rw [qlH,HZ.o,aY.o.1];exact aO.o) bq.o);obtain⟨bH,bI,aT⟩:=qdD (m:=k+1) aO.o (by rw [qaf,qf5];rfl);subst aT;have b1:=ae.1.1;have f1:=ae.1.2;have aZ:=qH ae.2;clear ae) | fail)
    go_roundw
    case rel=>exact⟨k+1,by go_num,bv,qH ⟨_,aZ.o⟩⟩
    case measure=>simp [intOf];omega
  ·obtain rfl:k=n:=by omega
   have bu:¬(k:Int)<(k:Int):=by omega
   obtain⟨va,vc,az⟩:=qdD hm.own (qf5 _ _);subst az;clear hm;have b4:=HR.o 4;rw [Z.o.2.1] at b4;have l4:=Int.lt_tmod_of_pos y4 (show (0:Int)<5000 by decide);have m4:=Int.tmod_lt_of_pos y4 (show (0:Int)<5000 by decide);have q4:=qC _ _ 4 _ _ _ G.o.zr;have p2:=qC _ _ 2 _ _ _ G.o.row;have r2:=qF _ _ 2 _ _ G.o.row;obtain⟨Wa,J⟩:=qY (wr.setCell ⟨F.heap.size,2,none⟩ (.int .i64 (5000+y4.tmod 5000)));go_upto_region 11 with fail;rw [<-J];have ax:=heap_setCell_same _ F.heap.size 2 _ _ (.int .i64 (5000+y4.tmod 5000)) G.o.row;rw [<-J] at ax;have aU:Wa.heap[g8]? = _:=J▸(qW wr ⟨F.heap.size,2,none⟩ _ _ (show g8≠F.heap.size by have:=G.o.base.1;omega)).trans G.o.zr;have aL:wr.grownBy Wa (some F.heap.size):=J▸qbT wr F.heap.size 2 _;have HA:=qH (qA ax (qA aU aL));clear ax aU aL J q4 p2 r2 l4 m4 b4;have b5:=HR.o 5;rw [Z.o.2.2.1] at b5;have l5:=Int.lt_tmod_of_pos I (show (0:Int)<12700 by decide);have m5:=Int.tmod_lt_of_pos I (show (0:Int)<12700 by decide);have q5:=qC _ _ 5 _ _ _ HA.o.2.1;have p3:=qC _ _ 3 _ _ _ HA.o.1;have r3:=qF _ _ 3 _ _ HA.o.1;obtain⟨Wb,O⟩:=qY (Wa.setCell ⟨F.heap.size,3,none⟩ (.int .i64 (I.tmod 12700)));go_upto_region 12 with fail;rw [<-O];have ay:=heap_setCell_same _ F.heap.size 3 _ _ (.int .i64 (I.tmod 12700)) HA.o.1;rw [<-O] at ay;have aV:Wb.heap[g8]? = _:=O▸(qW Wa ⟨F.heap.size,3,none⟩ _ _ (show g8≠F.heap.size by have:=G.o.base.1;omega)).trans HA.o.2.1;have aM:wr.grownBy Wb (some F.heap.size):=qbX HA.o.2.2 (O▸qbT Wa F.heap.size 3 _);have HB:=qH (qA ay (qA aV aM));clear ay aV aM O q5 p3 r3 l5 m5 b5;have b6:=HR.o 6;rw [Z.o.2.2.2] at b6;have l6:=Int.lt_tmod_of_pos y6 (show (0:Int)<12700 by decide);have m6:=Int.tmod_lt_of_pos y6 (show (0:Int)<12700 by decide);have q6:=qC _ _ 6 _ _ _ HB.o.2.1;have p4:=qC _ _ 4 _ _ _ HB.o.1;have r4:=qF _ _ 4 _ _ HB.o.1;obtain⟨Wc,aa⟩:=qY (Wb.setCell ⟨F.heap.size,4,none⟩ (.int .i64 (y6.tmod 12700)));go_upto_region 13 with fail;rw [<-aa];have Y:=heap_setCell_same _ F.heap.size 4 _ _ (.int .i64 (y6.tmod 12700)) HB.o.1;rw [<-aa] at Y;have Y:Wc.heap[F.heap.size]? = some (.cells #[.string nm,.slice va k vc,.int .i64 (5000+y4.tmod 5000),.int .i64 (I.tmod 12700),.int .i64 (y6.tmod 12700)] 55 (0,0)):=Y;have H:wr.grownBy Wc (some F.heap.size):=qbX HB.o.2.2 (aa▸qbT Wb F.heap.size 4 _);clear aa q6 p4 r4 l6 m6 b6;have bC:w.heap.size+1<F.heap.size:=(qG K3.o.1.2.2).1;have aj:Below F.heap.size F Wc:=G.o.old.trans ⟨H.os,H.tape,H.output,H.size,fun q hq=>H.block q (qai hq G.o.old.size) (fun e=>by have:=qah e;omega)⟩;have aQ:=zkeep aj _ _ K3.o.1.2.2;have ag:IOwn Wc B (.slice va k vc) (devD k zs):=World.ownsRow.kept G.o.own H (.inr (fun e=>by have:=(G.o.own.lt _ e).1;have:=G.o.base;omega));have HE:=qH (qA Y (qA aQ (qA ag (K3.o.1.1.trans (aj.mono K3.o.1.1.size)))));clear Y H bC aj aQ ag
   go_wp2_with (first | (with_reducible refine lW_ rfl 55 _ rfl (F.heap.size) #[.string nm,.slice va k vc,.int .i64 (5000+y4.tmod 5000),.int .i64 (I.tmod 12700),.int .i64 (y6.tmod 12700)] HE.o.1 underlying55 5 ?_) | (with_reducible refine sR_ rfl 55 _ _ rfl (w.heap.size+1) #[.string nm,.slice va k vc,.int .i64 (5000+y4.tmod 5000),.int .i64 (I.tmod 12700),.int .i64 (y6.tmod 12700)] HE.o.2.1 5 ?_))
   refine qR (v:=.agg #[.string nm,.slice va k vc,.int .i64 (5000+y4.tmod 5000),.int .i64 (I.tmod 12700),.int .i64 (y6.tmod 12700)]) (rA_ rfl (w.heap.size+1) (qT _ _ _ _ _ _ HE.o.2.1) underlying55 5) rfl ?_;refine⟨_,rfl,?_,qS HE.o.2.2.2 (qbP _) _⟩;have av:IOwn (Wc.setRow (w.heap.size+1) #[.string nm,.slice va k vc,.int .i64 (5000+y4.tmod 5000),.int .i64 (I.tmod 12700),.int .i64 (y6.tmod 12700)]) B (.slice va k vc) (devD k zs) :=
    World.ownsRow.kept HE.o.2.2.1 (qci _ _ _) (.inr (fun e=>by
     have h1:=(HE.o.2.2.1.lt _ e).1;have h2:w.heap.size+1<F.heap.size:=(qG K3.o.1.2.2).1;have:=G.o.base;omega))
   have e1:(ptD k i zs).dev.length=k:=qen _ _ _;refine⟨B,va,vc,?_,by rw [e1];exact av⟩;rw [e1]
   show _=Value.agg #[.string (nmD i),_,.int .i64 (5000+(zs.getD 4 0).tmod 5000),.int .i64 ((zs.getD 5 0).tmod 12700),.int .i64 ((zs.getD 6 0).tmod 12700)]
   rw [bg.o,Z.o.2.1,Z.o.2.2.1,Z.o.2.2.2]
theorem infoPt:(Tryz.prog.info? 55).map (fun i=>(i.zero,i.size,i.bytes))=some (some (.agg #[.string ⟨#[]⟩,.slice none 0 0,.int .i64 0,.int .i64 0,.int .i64 0]),5,64):=by kernel_rfl
theorem qi8 {w:World} {B:Nat} {v:Value} {n:Nat} {V:List Value} {u0 u1 u2 u3 u4:Value} {g c:Nat} {t:TypeId} (Y:TypeId) (G:w.ownsRow B 55 5 v n V) (Z:B<=w.heap.size) (hg:w.heap[g]? = some (.cells #[u0,u1,u2,u3,u4] t (0,0))) (hu:∀u∈[u0,u1,u2,u3,u4],u.oneCell'=true) (hn:n<1000000) :
  ∃H I,(Builtin.append_ #[30,30] Y #[v,.slice (some ⟨g,0,none⟩) 1 c]).run prog w=.ok H I/\I.ownsRow B 55 5 H (n+1) (V++[u0,u1,u2,u3,u4])/\(H.ownBlock=v.ownBlock/\w.grownBy I v.ownBlock\/H.ownBlock=some w.heap.size/\w.grownBy I none):=by
 obtain⟨i0,hi,J,O,U⟩:=info_parts infoPt;exact qdO (P:=prog) w B 30 Y 55 i0 _ 5 64 underlying30 hi J O U rfl (by decide) v n V G ⟨g,0,none⟩ 1 c [u0,u1,u2,u3,u4] rfl (fun j x F=>by
   rw [Addr.add_mid]
   match j,F with
   | 0,F=>exact (qC _ _ _ _ _ _ hg).trans F
   | 1,F=>exact (qC _ _ _ _ _ _ hg).trans F
   | 2,F=>exact (qC _ _ _ _ _ _ hg).trans F
   | 3,F=>exact (qC _ _ _ _ _ _ hg).trans F
   | 4,F=>exact (qC _ _ _ _ _ _ hg).trans F
   | j+5,F=>cases F) hu (by decide) (by unfold maxLen;omega) (by omega) Z
def PaAt (W:World) (F:List Value) (j:Nat) (p:Pt):Prop:=∃(B:Nat) (G:Option Addr) (H:Nat),(F[j*5]? = some (.string p.name)/\F[j*5+1]? = some (.slice G p.dev.length H)/\F[j*5+2]? = some (.int .i64 p.l0)/\F[j*5+3]? = some (.int .i64 p.l1)/\F[j*5+4]? = some (.int .i64 p.l2))/\IOwn W B (.slice G p.dev.length H) p.dev
def PaOwn (W:World) (B:Nat) (v:Value) (l:List Pt):Prop:=∃F,W.ownsRow B 55 5 v l.length F/\∀j,j<l.length->PaAt W F j (l.getD j pt0)
theorem PaOwn.below {W W':World} {B:Nat} {v:Value} {l:List Pt} (h:PaOwn W B v l) (F:Below W.heap.size W W'):PaOwn W' B v l:=by
 obtain⟨U,G,H⟩:=h;refine⟨U,own_below G F,fun j O=>?_⟩;obtain⟨B',da,dc,I,J⟩:=H j O;exact⟨B',da,dc,I,J.below F⟩
theorem PaOwn.nil (W:World) (B:Nat):PaOwn W B (.slice none 0 0) []:=⟨[],⟨rfl,.inl ⟨rfl,rfl⟩⟩,fun j F=>absurd F (by simp)⟩
theorem PaOwn.shape {W:World} {B m:Nat} {v:Value} {l:List Pt} (h:PaOwn W B v l) (H:l.length=m):∃(F:Option Addr) (cap:Nat),v=.slice F m cap:=by
 obtain⟨I,G,_⟩:=h;subst H;exact qdN G
theorem PaOwn.cells {W:World} {B:Nat} {v:Value} {l:List Pt} (h:PaOwn W B v l) (Y:0<l.length) (J:∀j,j<l.length->0<(l.getD j pt0).dev.length):∃g c,v=.slice (some ⟨g,0,none⟩) l.length c/\PCells W (some ⟨g,0,none⟩) g 0 l:=by
 obtain⟨V,G,I⟩:=h;have F:=G;rcases G.2 with ⟨_,h⟩ | ⟨g,cap,cur,rfl,_,_,_⟩
 ·omega
 ·refine⟨g,cap,rfl,fun _=>rfl,fun k H=>?_⟩;obtain⟨B',da,dc,⟨e0,e1,e2,e3,e4⟩,U⟩:=I k H;obtain⟨ga,ca,e,hN⟩:=IOwn.cells U (J k H);have c:∀j u,V[j]? = some u->W.cell? ⟨g,0+j,none⟩=some u:=fun j u O=>by
   have:=F.cells (g:=g) rfl j u O
   rwa [Addr.add_mid] at this
  exact⟨c _ _ e0,⟨_,ga,0,ca,by rw [<-e];exact c _ _ e1,hN⟩,c _ _ e2,c _ _ e3,c _ _ e4⟩
theorem PaOwn.push {W F J:World} {B:Nat} {v I:Value} {l:List Pt} {p:Pt} {O:Option Addr} {U Bd:Nat} (h:PaOwn W B v l) (hb:Below W.heap.size W F) (hp:IOwn F Bd (.slice O p.dev.length U) p.dev)
  (ho:∀G,F.ownsRow B 55 5 v l.length G->J.ownsRow B 55 5 I (l.length+1) (G++[.string p.name,.slice O p.dev.length U,.int .i64 p.l0,.int .i64 p.l1,.int .i64 p.l2])) (hk:I.ownBlock=v.ownBlock/\F.grownBy J v.ownBlock\/I.ownBlock=some F.heap.size/\F.grownBy J none):PaOwn J B I (l++[p]):=by
 obtain⟨G,H,h2⟩:=h.below hb;refine⟨_,by rw [qaf];exact ho G H,fun j Z=>?_⟩;have V:G.length=l.length*5:=H.1;rcases qaM j l.length with hjl | hjl
 ·obtain⟨B',d',c',⟨e0,e1,e2,e3,e4⟩,Y⟩:=h2 j hjl;have e:(l++[p]).getD j pt0=l.getD j pt0:=by rw [qaa,qar hjl,<-qaa]
  rw [e];refine⟨B',d',c',⟨?_,?_,?_,?_,?_⟩,(qem Y (own_ne Y H (by decide)) hk).1⟩
  ·rw [qar (by omega)];exact e0
  ·rw [qar (by omega)];exact e1
  ·rw [qar (by omega)];exact e2
  ·rw [qar (by omega)];exact e3
  ·rw [qar (by omega)];exact e4
 ·obtain rfl:j=l.length:=by rw [qaf] at Z;have:j<l.length+1:=Z;omega
  have e:(l++[p]).getD l.length pt0=p:=by rw [qaa,qao qN,qaJ];rfl
  rw [e];refine⟨Bd,O,U,⟨?_,?_,?_,?_,?_⟩,(qem hp (own_ne hp H (by decide)) hk).1⟩
  all_goals
   rw [qao (by omega)];simp only [V,qaJ,Nat.add_sub_cancel_left]
   rfl
def ptsK (n k:Nat) (L:List (List Int)):List Pt:=(List.range k).map fun i=>ptD n i (L.getD i [])
theorem qh4 (n k:Nat) (L:List (List Int)):(ptsK n k L).length=k:=by unfold ptsK;simp
theorem qmR (n k:Nat) (L:List (List Int)):ptsK n (k+1) L=ptsK n k L++[ptD n k (L.getD k [])]:=by unfold ptsK;rw [List.range_succ,qaZ];rfl
theorem qji {Z:Array Oper} {rest:List Oper} {o:Oper} {a:Act} {w:World} {Q:Exit->Act->World->Prop} (aa:o.guard=none) (s x:Operand)
  (ho:o.op=.call { callee:=.builtin .append,args:=#[s,x],argTypes:=#[30,30] }) {B:Nat} {v:Value} {l:List Pt} {p:Pt} {F:Option Addr} {G Bd:Nat} (I:PaOwn w B v l) (hp:IOwn w Bd (.slice F p.dev.length G) p.dev) (hB:B<=w.heap.size) (hs:a.eval s=v) {g:Nat} (hx:a.eval x=.slice (some ⟨g,0,none⟩) 1 1) (hg:g=w.heap.size) (hn:l.length<1000000)
  {Y:ByteArray} {k:Nat} {z0 z1 z2:Int} (e0:Y=p.name) (e1:k=p.dev.length) (e2:z0=p.l0) (e3:z1=p.l1) (e4:z2=p.l2)
  (h:∀O U,Hu (PaOwn U B O (l++[p]))->Hu (O.ownBlock=v.ownBlock/\(w.alloc (.cells #[.string Y,.slice F k G,.int .i64 z0,.int .i64 z1,.int .i64 z2] 55)).grownBy U v.ownBlock\/O.ownBlock=some (w.alloc (.cells #[.string Y,.slice F k G,.int .i64 z0,.int .i64 z1,.int .i64 z2] 55)).heap.size/\(w.alloc (.cells #[.string Y,.slice F k G,.int .i64 z0,.int .i64 z1,.int .i64 z2] 55)).grownBy U none)->wpList prog Z Q rest (a.put o.dst O) U) :
  wpList prog Z Q (o :: rest) a (w.alloc (.cells #[.string Y,.slice F k G,.int .i64 z0,.int .i64 z1,.int .i64 z2] 55)):=by
 subst hg e0 e1 e2 e3 e4;have J:Below w.heap.size w (w.alloc (.cells #[.string p.name,.slice F p.dev.length G,.int .i64 p.l0,.int .i64 p.l1,.int .i64 p.l2] 55)):=qbS qB qN;obtain⟨ah,af,_⟩:=I.below J;have hg:=qM w (.cells #[.string p.name,.slice F p.dev.length G,.int .i64 p.l0,.int .i64 p.l1,.int .i64 p.l2] 55) _ rfl;have H:∀u∈[Value.string p.name,.slice F p.dev.length G,.int .i64 p.l0,.int .i64 p.l1,.int .i64 p.l2],u.oneCell'=true:=fun u hu=>by
  simp only [qaN,List.not_mem_nil,or_false] at hu;rcases hu with rfl | rfl | rfl | rfl | rfl <;> rfl
 have V:B<=(w.alloc (.cells #[.string p.name,.slice F p.dev.length G,.int .i64 p.l0,.int .i64 p.l1,.int .i64 p.l2] 55)).heap.size:=by simp only [qab];omega
 obtain⟨O,U,hr,h1,h2⟩:=qi8 o.type af V hg H hn (c:=1);refine qdn aa s x _ ho hs hx hr (h O U (qH (PaOwn.push I J (hp.below J) (fun vs ag=>?_) h2)) (qH h2));obtain⟨v2,w2,ae,h3,_⟩:=qi8 o.type ag V hg H hn (c:=1);rw [ae] at hr;cases hr;exact h3
theorem make_is (n:Nat) (J:n<=1000) (w:World):(Instr.makeSlice 32 (.int .i64 (n:Int)) (.int .i64 (n:Int))).run prog w=.ok (.slice (some ⟨w.heap.size,0,none⟩) n n) (w.alloc (.cells (madeCells #[.int .i64 0] n) 3)):=by
 obtain⟨i,I,F,G,H⟩:=info_parts ql9;have h:=run_make (P:=prog) w 32 3 i _ underlying32 I F .i64 .i64 (n:Int) (n:Int) (by omega) (Int.le_refl _) (by rw [H];omega) (by omega);rw [G,Int.toNat_natCast,qbD] at h;exact h
theorem qnz {W:World} {g B n:Nat} (hg:W.heap[g]? = some (.cells (madeCells #[.int .i64 0] n) 3 (0,0))) (F:B<=g) (H:n<=1000):IOwn W B (.slice (some ⟨g,0,none⟩) n n) (List.replicate n 0):=by
 have e:(madeCells #[.int .i64 0] n).toList=(List.replicate n 0).map fun z=>Value.int .i64 z:=by
  rw [List.map_replicate,<-toList_madeCells_one]
 have G:(List.replicate n (0:Int)).length=n:=qa8;unfold IOwn;rw [G];refine⟨by simp,.inr ⟨g,n,_,rfl,F,hg,qae _,by unfold maxLen;omega,by rw [<-Array.length_toList,e];simp,?_⟩⟩;rw [e,qbD];exact qak (by simp)
theorem qjN (O:Nat) (L:List (List Int)) (ao:Option Addr) (b off c:Nat) (w:World) (hl:L.length<=9223372036854775807) (hP:PRws w ao b off L) :
  Calls prog 12 #[.agg #[.int .u8 (O:Int),.slice ao L.length c]] w fun e w'=>∃u,e=.returned u/\(∃B,w.heap.size<=B/\PaOwn w' B u (ptsD (1+O % 4) L))/\Below w.heap.size w w':=by
 obtain⟨G,av,N1⟩:=nw1 w #[.int .u8 (O:Int),.slice ao L.length c] 24;have Y:=N1.also (q:=fun W=>PRws W ao b off L) (hP.below N1.o.1);have k0:=qC _ _ 0 _ _ _ N1.o.2;have az:(O:Int) % 4=((O % 4:Nat):Int):=by omega
 obtain⟨x,hx⟩:=qX (O % 4);have aN:x<4:=by omega
 rw [hx];rw [hx] at az;have HL:=qH hl;clear N1 hP hx hl;go_enter func12,ntmps12;go_upto_region 1 with fail;rw [<-av];clear av;go_wp2_with fail;clear k0 az;obtain⟨n,hn⟩:=qX (1+x);have aA:(1:Int)+(x:Int)=(n:Int):=by omega
 rw [aA];have V:=qH (qA hn (show 1<=n/\n<=4 by omega));have H0:Hu (PaOwn G G.heap.size (.slice none 0 0) (ptsK n 0 L)):=qH (PaOwn.nil _ _);clear aA hn aN
 go_loopw [4,5] (fun x4 x5 W=>∃i:Nat,x5=.int .i64 (i:Int)/\i<=12/\i<=L.length/\Hu (PaOwn W G.heap.size x4 (ptsK n i L))/\Hu (Below G.heap.size G W)) (fun _ x5 _=>12-(intOf x5).toNat)
 case atStart=>exact⟨0,rfl,qam _,qam _,H0,qH qB⟩
 case round =>
  obtain⟨i,rfl,aO,aQ,J,hB⟩:=hrel;have Z:=Y.below hB.o;have I:=hB;obtain⟨va,vc,aM⟩:=J.o.shape (qh4 n i L);subst aM;have c1:=qC _ _ 1 _ _ _ Z.o.1.2;clear hB
  by_cases F:i<L.length/\i<12
  ·obtain⟨ai,ax⟩:=F;have ah:(i:Int)<(L.length:Int):=by omega
   have aP:(i:Int)<12:=by omega
   have HP:=qH (one_any O L ao b off c i n wr ai ax V.o.2.1 V.o.2.2 HL.o Z.o.2)
   go_wp2_with ((with_reducible refine lW_ rfl 24 _ rfl (w.heap.size) #[.int .u8 (O:Int),.slice ao L.length c] Z.o.1.2 underlying24 2 ?_))
   refine HP.o.mono ?_;rintro e w3 ⟨u,rfl,⟨Bd,da,dc,rfl,ag⟩,af⟩;rw [qen] at ag ⊢;have HD:=qH ag;have aI:=qH (J.o.below af);have ak:=qH (I.o.trans (af.mono I.o.size));have aJ:G.heap.size<=w3.heap.size:=ak.o.size;have aF:∀q,(Value.slice va i vc).ownBlock=some q->G.heap.size<=q:=fun q hq=>by obtain⟨vs,h1,_⟩:=J.o;exact (h1.lt q hq).1
   have HQ:=qH aF;have aL:(ptsK n i L).length<1000000:=by rw [qh4];omega
   obtain⟨nm,l0,l1,l2,e0,e1,e2,e3⟩:∃nm l0 l1 l2,(ptD n i (L.getD i [])).name=nm/\(ptD n i (L.getD i [])).l0=l0/\(ptD n i (L.getD i [])).l1=l1/\(ptD n i (L.getD i [])).l2=l2:=⟨_,_,_,_,rfl,rfl,rfl,rfl⟩;rw [e0,e1,e2,e3];have HE:=qH (qA e0 (qA e1 (qA e2 e3)));clear ag af e0 e1 e2 e3 HP c1 Z J I aF
   go_wp2_with (first | (at_builtin;refine qji rfl _ _ rfl (p:=ptD n i (L.getD i [])) (Bd:=Bd) aI.o (by rw [qen];exact HD.o) aJ rfl rfl rfl aL HE.o.1.symm (qen _ _ _).symm HE.o.2.1.symm HE.o.2.2.1.symm HE.o.2.2.2.symm ?_;intro v' w' aB ay;obtain⟨aT,aU,aD⟩:=(Hu.o aB).shape (m:=i+1) (by rw [qaf,qh4];rfl);subst aD;have aH:Hu (Below G.heap.size G w'):=qH (qdB (B:=G.heap.size) (qbS ak.o qN) HQ.o (by simp only [qab];omega) ay.o);clear ay) | fail)
   go_roundw
   case rel=>exact⟨i+1,by go_num,by omega,ai,by rw [qmR];exact aB,aH⟩
   case measure=>simp [intOf];omega
  ·by_cases au:L.length=0
   ·obtain rfl:i=0:=by omega
    have ah:¬(0:Int)<(L.length:Int):=by omega
    have e:ptsD n L=[ptE n]:=by unfold ptsD;rw [if_pos au]
    have aS:=fun W=>make_is n (by have:=V.o.2;omega) W
    obtain⟨W7,aa,N7⟩:=nw1 wr (madeCells #[.int .i64 0] n) 3;obtain⟨W8,ae,N8⟩:=nw1 W7 #[.string ⟨#[112]⟩,.slice (some ⟨wr.heap.size,0,none⟩) n n,.int .i64 0,.int .i64 0,.int .i64 0] 55;have aG:=zkeep N8.o.1 _ _ N7.o.2;have ho:=qnz aG (B:=wr.heap.size) qN (by have:=V.o.2;omega);have aC:W7.heap.size=wr.heap.size+1:=by rw [aa];simp
    have aj:PaOwn W8 G.heap.size (.slice (some ⟨W7.heap.size,0,none⟩) 1 1) (ptsD n L):=by
     rw [e];refine⟨[.string ⟨#[112]⟩,.slice (some ⟨wr.heap.size,0,none⟩) n n,.int .i64 0,.int .i64 0,.int .i64 0],⟨rfl,.inr ⟨W7.heap.size,1,_,rfl,qaj I.o.size N7.o.1.size,N8.o.2,qae _,by decide,rfl,rfl⟩⟩,fun j hj=>?_⟩;obtain rfl:j=0:=by have:j<1:=hj;omega
     have hl:(ptE n).dev.length=n:=qa8;exact⟨wr.heap.size,some ⟨wr.heap.size,0,none⟩,n,⟨rfl,by show _=some (Value.slice _ (ptE n).dev.length n);rw [hl];rfl,rfl,rfl,rfl⟩,by show IOwn W8 _ (.slice _ (ptE n).dev.length n) (ptE n).dev;rw [hl];exact ho⟩
    rw [aC] at aj;have U:=qH (qA aj (Y.o.1.1.trans ((I.o.trans ((N7.o.1.trans (N8.o.1.mono N7.o.1.size)).mono I.o.size)).mono Y.o.1.1.size)));have HW:=qH (show w.heap.size<=G.heap.size from Y.o.1.1.size);rw [aa] at ae;clear N7 N8 aG ho aC aj e Z J I F aa;go_wp2_with fail;rw [<-ae];clear ae;go_ret;exact⟨_,rfl,⟨G.heap.size,HW.o,by rw [V.o.1];exact U.o.1⟩,U.o.2⟩
   ·have H:i=min L.length 12:=by omega
    have e:ptsK n i L=ptsD n L:=by unfold ptsD ptsK;rw [if_neg au,H]
    have aK:¬(i:Int)=0:=by omega
    have aR:((i:Int) == 0)=false:=by rw [beq_eq_false_iff_ne];exact aK
    rw [e] at J;have U:=qH (qA J.o (Y.o.1.1.trans (I.o.mono Y.o.1.1.size)));have HW:=qH (show w.heap.size<=G.heap.size from Y.o.1.1.size)
    by_cases ai:i<L.length
    ·have ah:(i:Int)<(L.length:Int):=by omega
     have ax:¬(i:Int)<12:=by omega
     clear e H Z J I F;go_wp2;go_ret;exact⟨_,rfl,⟨G.heap.size,HW.o,by rw [V.o.1];exact U.o.1⟩,U.o.2⟩
    ·have ah:¬(i:Int)<(L.length:Int):=by omega
     clear e H Z J I F;go_wp2;go_ret;exact⟨_,rfl,⟨G.heap.size,HW.o,by rw [V.o.1];exact U.o.1⟩,U.o.2⟩
def wtz (G:List Int) (i:Nat):Int:=if G.length=0 then 1 else G.getD (i % G.length) 0
def wts (G:List Int) (m:Nat):List Int:=(List.range m).map (wtz G)
theorem qe6 (G:List Int) (m:Nat):(wts G m).length=m:=by unfold wts;simp
theorem wts_at {G:List Int} {m i:Nat} (F:i<m):(wts G m).getD i 0=wtz G i:=by
 unfold wts;rw [qaa,qau,qbf F];rfl
theorem wts_succ (G:List Int) (m:Nat):wts G (m+1)=wts G m++[wtz G m]:=by unfold wts;rw [List.range_succ,qaZ];rfl
theorem qjV (pa ga:Option Addr) (m pc gb go gc:Nat) (G:List Int) (w:World) (hm:m<=1000) (hl:G.length<=9223372036854775807) (hG:KCells w .u16 ga gb go G) (aa:∀k,0<=G.getD k 0/\G.getD k 0<65536) :
  Calls prog 13 #[.slice pa m pc,.slice ga G.length gc,.int .i8 0] w fun e w'=>∃u,e=.returned u/\IOwn w' w.heap.size u (wts G m)/\Below w.heap.size w w':=by
 have H0:=qH (qA hG (qA hl aa));have HO:Hu (IOwn w w.heap.size (.slice none 0 0) (wts G 0)):=qH ⟨rfl,.inl ⟨rfl,rfl⟩⟩;have aj:max ((m:Int)+0) 0=(m:Int):=by omega
 clear hG hl aa;go_enter func13,ntmps13;go_wp2_with fail;clear aj
 go_loopw [7,17] (fun x7 x17 W=>∃i:Nat,x17=.int .i64 (i:Int)/\i<=m/\Hu (IOwn W w.heap.size x7 (wts G i))/\Hu (Below w.heap.size w W)) (fun _ x17 _=>m-(intOf x17).toNat)
 case atStart=>exact⟨0,rfl,qam _,HO,qH qB⟩
 case round =>
  obtain⟨i,rfl,hi,hO,hB⟩:=hrel;obtain⟨va,vc,ak⟩:=qdD hO.o (qe6 G i);subst ak
  by_cases ah:i<m
  ·have ag:(i:Int)<(m:Int):=by omega
   go_upto_if 22 with fail
   go_cut [9] (fun x9 W=>x9=.int .i64 (wtz G i)/\Hu (W=wr))
   case first =>
    by_cases F:G.length=0
    ·have e:wtz G i=1:=by unfold wtz;rw [if_pos F]
     have hg:¬(G.length:Int) > 0:=by omega
     clear F;go_wp2;go_meet;exact⟨congrArg (Value.int .i64) e.symm,qH rfl⟩
    ·have hg:(G.length:Int) > 0:=by omega
     have e:wtz G i=G.getD (i % G.length) 0:=by unfold wtz;rw [if_neg F]
     have hq:=qbA i (show G.length > 0 by omega);have O:(i:Int) % (G.length:Int)=((i % G.length:Nat):Int):=by rw [Int.natCast_emod]
     have U:(i:Int).tmod (G.length:Int)=((i % G.length:Nat):Int):=by rw [Int.tmod_eq_emod_of_nonneg (by omega)];exact O
     obtain⟨q,Y⟩:=qX (i % G.length);rw [Y] at e hq O U;have hc:=(H0.o.1.below hB.o).cell q hq;have hr:=H0.o.2.2 q;obtain rfl:=H0.o.1.addr (by omega);obtain⟨z,I⟩:=qX (G.getD q 0);rw [I] at e hc hr;have ax:(q:Int)<(G.length:Int):=by omega
     have av:=H0.o.2.1;clear Y I;go_wp2;go_meet;exact⟨congrArg (Value.int .i64) e.symm,qH rfl⟩
   case rest =>
    obtain⟨rfl,H⟩:=hcut;have H:=H.o.symm;subst H;obtain⟨z,I⟩:=qX (wtz G i);have HZ:=qH I;rw [I];have af:=hB.o.size;have ai:(wts G i).length<1000000:=by rw [qe6];omega
    have au:Hu (∀q,(Value.slice va i vc).ownBlock=some q->w.heap.size<=q):=qH fun q hq=>(hO.o.lt q hq).1
    clear I
    go_wp2_with (first | (at_builtin;refine qfL rfl _ _ rfl hO.o af rfl rfl rfl ai ?_;intro v' w' V J;obtain⟨ay,az,Z⟩:=qdD (m:=i+1) (Hu.o V) (by rw [qaf,qe6];rfl);subst Z;have ae:Hu (Below w.heap.size w w'):=qH (qdB (B:=w.heap.size) (qbS hB.o qN) au.o (by simp only [qab];omega) J.o);clear J) | fail)
    go_roundw
    case rel=>exact⟨i+1,by go_num,ah,by rw [wts_succ,HZ.o];exact V,ae⟩
    case measure=>simp [intOf];omega
  ·obtain rfl:i=m:=by omega
   have ag:¬(i:Int)<(i:Int):=by omega
   go_wp2;go_ret;exact⟨_,rfl,hO.o,hB.o⟩
theorem addq {p q:Rat} (H:Short p) (sq:Short q) (I:Short (p+q)) (w:World) (hT:HasT w) :
  Calls prog 27 #[.agg #[.string (ftxt p).1,.string (ftxt p).2],.agg #[.string (ftxt q).1,.string (ftxt q).2]] w fun e F=>e=.returned (.tuple #[.agg #[.string (ftxt (p+q)).1,.string (ftxt (p+q)).2],.int .i64 0])/\Below w.heap.size w F:=by
 refine (fadd_any _ _ _ _ w hT).mono ?_;rintro e F ⟨⟨_,h⟩ | ⟨h,_⟩,G⟩
 ·rw [qcV,qcV] at h;rcases h with ⟨_,h⟩ | ⟨h,_⟩
  ·exact⟨h,G⟩
  ·exact absurd I h
 ·exact absurd ⟨qdz H,qdz sq⟩ h
def eOne (z:Int):Rat:=(z:Rat) / ((1:Int):Rat)
theorem eOne_cd (z:Int):Cd (eOne z) 1 z.natAbs:=⟨z,rfl,qae _⟩
end Go.Proofs.YtplkdeknjghobaaGreatDoor
namespace Go.Proofs.YtplkdeknjghobaaGreatDoor
open Go.RowKit
def rr (l:List Pt) (k:Nat) (x:Nat->Nat->Rat) (c i:Nat):Rat:=sumQ (many k (chans l)) (fun j=>tqf l k i j*x c j)-labq l c i
theorem resq_eq {l:List Pt} {k i c:Nat} {x:Nat->Nat->Rat} (h:PtsOk l) (G:i<l.length) (F:c<3):resq (mdq k (chans l) (many k (chans l)) x) (l.getD i pt0) k c=rr l k x c i:=by
 unfold resq rr;rw [(h.rows i G).2,qez F];have e:(sumQ (many k (chans l)) fun j=>termQ k (l.getD i pt0).dev j*lval (told (many k (chans l)) (x c)) j)=sumQ (many k (chans l)) fun j=>tqf l k i j*x c j:=qbV fun j H=>by rw [qcG H];rfl
 rw [e];unfold labq;rw [Rat.intCast_neg,show ((100:Int):Rat)=100 from rfl];generalize (sumQ (many k (chans l)) fun j=>tqf l k i j*x c j)=S;generalize (((l.getD i pt0).lab c:Int):Rat)=z
 grind
theorem qkU {l:List Pt} (h:PtsOk l) (h8:qd9 l) {k:Nat} (hk:1<=k/\k<=3) (V:¬(k=3/\chans l=4)) {I:List Int} (hw:W9 I l.length) {c:Nat} (hc:c<3) {x:Nat->Rat} (hs:¬Sing (many k (chans l)) (nq l k I 0)) (hx:FitX l k I c x):qbY (many k (chans l)) x:=by
 obtain⟨n,H⟩:=qX (many k (chans l));have U:n<=10:=by rw [<-H];exact (qgx (kind:=k) ⟨rfl,hk⟩ h.n1 h.n4 V).2
 have hE:∀r j,∃a:Int,r<n->fitE l k I r (if j<n then j else n+c)=(a:Rat) / (fitS:Rat)/\a.natAbs<=fitB:=fun r j=>by
  by_cases O:r<n
  ·obtain⟨a,e,ha⟩:=fitE_cd h h8 hk V hw (c:=if j<n then j else n+c) (by rw [H];exact O);exact⟨a,fun _=>⟨e,ha⟩⟩
  ·exact⟨0,fun h=>absurd h O⟩
 obtain⟨A,hA⟩:∃A:Nat->Nat->Int,∀r j,r<n->fitE l k I r (if j<n then j else n+c)=(A r j:Rat) / (fitS:Rat)/\(A r j).natAbs<=fitB:=⟨fun r j=>(hE r j).choose,fun r j=>(hE r j).choose_spec⟩;have hS:(fitS:Rat)≠0:=qeC (by decide);have G:∀r j,r<n->castM A r j=(fitS:Rat)*fitE l k I r (if j<n then j else n+c):=fun r j O=>by
  rw [(hA r j O).1]
  show (A r j:Rat)=_
  generalize (fitS:Rat)=S at *
  grind
 have hl:∀r j,r<n->j<n->castM A r j=(fitS:Rat)*nq l k I 0 r j:=fun r j O J=>by
  rw [G r j O,if_pos J];unfold fitE;rw [H,if_pos J]
 have Z:¬Sing n (castM A):=fun aa=>hs (by
  rw [H];obtain⟨y,hy,h0⟩:=aa;refine⟨y,hy,fun i F=>?_⟩;have:=h0 i F;rw [qbV fun j J=>show castM A i j*y j=(fitS:Rat)*(nq l k I 0 i j*y j) by rw [hl i j F J,Rat.mul_assoc],qck] at this;rcases Rat.mul_eq_zero.1 this with e | e
  ·exact absurd e hS
  ·exact e)
 obtain⟨q,p,hq,Y,hp⟩:=qm4 (R:=n) (m:=1) (B:=fitB) (A:=A) (x:=fun _=>x) (by decide) (fun i j F _=>(hA i j F).2) Z fun c' ae i F=>by
  obtain rfl:c'=0:=by omega
  have hx:=hx i (by rw [H];exact F);rw [H] at hx;rw [qbV fun j J=>show castM A i j*x j=(fitS:Rat)*(nq l k I c i j*x j) by rw [hl i j F J,nq_same (c:=0) (c':=c) (by rw [H];exact F) (by rw [H];exact J),Rat.mul_assoc],qck,hx]
  show (fitS:Rat)*nq l k I c i n=castM A i (n+0)
  rw [G i (n+0) F,if_neg (by omega)];unfold fitE;rw [H,if_neg (by omega),Nat.add_sub_cancel_left]
 intro i F;rw [H] at F;obtain⟨e,hb⟩:=hp 0 (by decide) i F;have hb:(p 0 i).natAbs<=PB:=qaj hb (qhi (by omega));have af:q.natAbs<=QB:=qaj Y (qhi U);exact qdf (N:=PB+QB) (qfY hq (by omega) (by omega) e) (by have V:PB+QB<10 ^ 600:=(by decide +kernel);exact V)
open Go.Proofs.Tryz
structure OwK (w0 W:World):Prop where
 kb:Below w0.heap.size w0 W
 kt:HasT W
 ke:HasE W
theorem OwK.below {G W W':World} (h:OwK G W) (F:Below W.heap.size W W'):OwK G W':=⟨h.kb.trans (F.mono h.kb.size),h.kt.below F,h.ke.below F⟩
theorem qnt (w0:World) (hT:HasT w0) (hE:HasE w0):Calls prog 11 #[] w0 fun e w'=>e=.returned (.bool true)/\Below w0.heap.size w0 w':=by
 have J:OwK w0 w0:=⟨Below.refl _ _,hT,hE⟩;clear hT hE;go_enter func11,ntmps11;go_wp2_with fail;refine (qiI _ [⟨#[49]⟩,⟨#[49,47,50]⟩,⟨#[49]⟩,⟨#[49,47,50]⟩] 4 rfl).mono ?_;rintro e w1 ⟨bH,rfl,hi,F⟩;have I1:=qH hi;replace J:=J.below F;clear F hi;go_wp2_with fail;refine (ex_tm1 _ J.kt).mono ?_;rintro e w2 ⟨bU,bS,bK,rfl,hf,F⟩;have F1:=qH hf;replace J:=J.below F;replace I1:=qH (I1.o.below F);clear F hf;go_wp2_with fail;refine (qfE (L:=[⟨#[49]⟩,⟨#[49,47,50]⟩,⟨#[49]⟩,⟨#[49,47,50]⟩]) (l:=[(1:Rat),1 / 2,1,1 / 2]) I1.o rfl rfl (by decide) (by simp only [qbw,qbL,ft_1,ft_12];decide +kernel) (by decide) F1.o).mono ?_;rintro e H ⟨rfl,F⟩;replace J:=J.below F;replace I1:=qH (I1.o.below F);replace F1:=qH (F1.o.below F);clear F I1 F1;go_wp2_with fail;refine (qiI _ [⟨#[49]⟩,⟨#[49,47,50]⟩,⟨#[49,47,52]⟩] 3 rfl).mono ?_;rintro e w4 ⟨bI,rfl,hi,F⟩;have I2:=qH hi;replace J:=J.below F;clear F hi;go_wp2_with fail;refine (ex_tm2 _ J.kt).mono ?_;rintro e w5 ⟨bV,bT,bL,rfl,hf,F⟩;have F2:=qH hf;replace J:=J.below F;replace I2:=qH (I2.o.below F);clear F hf;go_wp2_with fail;refine (qfE (L:=[⟨#[49]⟩,⟨#[49,47,50]⟩,⟨#[49,47,52]⟩]) (l:=[(1:Rat),1 / 2,1 / 4]) I2.o rfl rfl (by decide) (by simp only [qbw,qbL,ft_1,ft_12,ft_14];decide +kernel) (by decide) F2.o).mono ?_;rintro e w6 ⟨rfl,F⟩;replace J:=J.below F;replace I2:=qH (I2.o.below F);replace F2:=qH (F2.o.below F);clear F I2 F2;go_wp2_with fail;refine (none_any 2 _).mono ?_;rintro e w7 ⟨bJ,rfl,F,hi⟩;have I3:=qH hi;replace J:=J.below F;clear F hi;go_wp2_with fail;refine (ex_tm3 _ J.kt).mono ?_;rintro e w8 ⟨rfl,F⟩;replace J:=J.below F;replace I3:=qH (zkeep F _ _ I3.o);clear F;go_wp2_with fail;refine (qmy 2 _ _ I3.o).mono ?_;rintro e w9 ⟨rfl,hw⟩;subst hw;clear I3;go_wp2_with fail;refine (qgc _).mono ?_;rintro e cB ⟨gP,rfl,hp,F⟩;have P1:=qH hp;replace J:=J.below F;clear F hp;go_wp2_with fail;refine (ex_f1 _ gP 3 P1.o J.kt).mono ?_;rintro e bu ⟨v1,rfl,hm,F⟩;have M1:=qH hm;replace J:=J.below F;replace P1:=qH (P1.o.below F);clear F hm P1;obtain⟨a0,a1,a2,b0,o0,c0,b1,o1,c1,b2,o2,c2,rfl,aI,aJ,aK⟩:=M1.o.lit;clear aI aJ aK;obtain⟨Vm,aS,Nm⟩:=nw1 bu #[.int .i64 1,.int .i64 1,.slice a0 2 c0,.slice a1 2 c1,.slice a2 2 c2] 38;go_upto_region 3 with fail;rw [<-aS];have F:=Nm.o.1;have O:=qH Nm.o.2;clear aS Nm;replace J:=J.below F;replace M1:=qH (M1.o.below F);clear F;go_wp2_with fail;refine (qgc _).mono ?_;rintro e cK ⟨bi,rfl,hp,F⟩;have P2:=qH hp;replace J:=J.below F;replace M1:=qH (M1.o.below F);replace O:=qH (zkeep F _ _ O.o);clear F hp;go_wp2_with fail;refine (ex_f2 _ bi 3 P2.o J.kt).mono ?_;rintro e bv ⟨v2,rfl,hm,F⟩;have M2:=qH hm;replace J:=J.below F;replace M1:=qH (M1.o.below F);replace O:=qH (zkeep F _ _ O.o);replace P2:=qH (P2.o.below F);clear F hm P2;obtain⟨d0,d1,d2,e0,f0,k0,e1,f1,k1,e2,f2,k2,rfl,aI,aJ,aK⟩:=M2.o.lit;clear aI aJ aK;obtain⟨Vs,aT,Ns⟩:=nw1 bv #[.int .i64 2,.int .i64 1,.slice d0 3 k0,.slice d1 3 k1,.slice d2 3 k2] 38;go_upto_region 4 with fail;rw [<-aT];have F:=Ns.o.1;have Rs:=qH Ns.o.2;clear aT Ns;replace J:=J.below F;replace M1:=qH (M1.o.below F);replace O:=qH (zkeep F _ _ O.o);replace M2:=qH (M2.o.below F);clear F;obtain⟨cO,cZ,df,dh,dz,dn,di,dA,dw,dm,dB,dx,aY,X0,X1,_⟩:=M1.o.lit;simp only [qaV,qa3,qaU,qbE,and_true,true_and] at aY;obtain⟨⟨rfl,rfl⟩,⟨rfl,rfl⟩,rfl,rfl⟩:=aY;obtain⟨dC,dD,dE,dF,dL,dI,dG,dM,dJ,dH,dN,dK,aZ,Y0,_,_⟩:=M2.o.lit;simp only [qaV,qa3,qaU,qbE,and_true,true_and] at aZ;obtain⟨⟨rfl,rfl⟩,⟨rfl,rfl⟩,rfl,rfl⟩:=aZ;rw [show told 2 (fitX1 0)=told 2 (fv [10 / 3,100]) from rfl] at X0;rw [show told 2 (fitX1 1)=told 2 (fv [0,0]) from rfl] at X1;rw [show told 3 (fitX2 0)=told 3 (fv [0,140,-40]) from rfl] at Y0;have au:=qH (qA X0 (qA X1 Y0));have bf:=qH (Below.refl Vs.heap.size Vs);have lm:=(qG O.o).1;have ls:=(qG Rs.o).1;have m2:=rowC (B:=Vs.heap.size) O.o 2;have m3:=rowC (B:=Vs.heap.size) O.o 3;have s2:=rowC (B:=Vs.heap.size) Rs.o 2;clear X0 X1 Y0;refine wp_region_held_drew (S:=fun W=>Below Vs.heap.size Vs W) (by kernel_rfl) qB.drew (fun hS0=>?_);refine hT 0 (h:=hT 1 (h:=hT 2 (h:=hT 3 (h:=hT 4 (h:=hT 5 (h:=?_))))));have ah:Below Vs.heap.size Vs Vs.drew:=qB.drew;refine hT 6 (hS:=ah) (h:=hT 7 (hS:=ah) (h:=hT 8 (hS:=ah) (h:=?_)));refine hE 9 (h:=⟨qbS ah qN,hN (h:=?_)⟩);refine hC 10 (q_lit _ [⟨#[49,48,47,51]⟩,⟨#[49,48,48]⟩] [(10 / 3:Rat),100] 2 rfl rfl (by decide) (by simp only [qbw,qbL,ft_100,ft_103];decide +kernel) (by decide)) (h:=?_);rintro e u0 ⟨bW,bZ,bq,rfl,aV,ay⟩;have ai:Below Vs.heap.size Vs u0:=ah.trans (ay.mono ah.size);refine⟨_,rfl,ai,hN (h:=?_)⟩;refine hC 11 (qfw _ _ _ 2 c0 _ _ _ _ 2 bq _ u0 (qbW _ _) (by decide) (au.o.1.below ai) (qbW _ _) (by decide) aV) (h:=?_);rintro e t0 ⟨ok0,rfl,aF,aB⟩;obtain rfl:ok0=true:=aF.2 rfl;have ae:Below Vs.heap.size Vs t0:=ai.trans (aB.mono ai.size);refine⟨_,rfl,ae,hN (h:=?_)⟩;clear aV ay aF aB ai;refine hT 12 (hS:=ae) (h:=hT 13 (hS:=ae) (h:=hT 14 (hS:=ae) (h:=hT 15 (hS:=ae) (h:=hT 16 (hS:=ae) (h:=?_)))));refine hE 17 (h:=⟨qbS ae qN,hN (h:=?_)⟩);refine hC 18 (q_lit _ [⟨#[48]⟩,⟨#[48]⟩] [(0:Rat),0] 2 rfl rfl (by decide) (by simp only [qbw,qbL,ft_0];decide +kernel) (by decide)) (h:=?_);rintro e u1 ⟨bX,cu,qc1,rfl,aW,az⟩;have aj:Below Vs.heap.size Vs u1:=ae.trans (az.mono ae.size);refine⟨_,rfl,aj,hN (h:=?_)⟩;refine hC 19 (qfw _ _ _ 2 c1 _ _ _ _ 2 qc1 _ u1 (qbW _ _) (by decide) (au.o.2.1.below aj) (qbW _ _) (by decide) aW) (h:=?_);rintro e t1 ⟨ok1,rfl,aG,aC⟩;obtain rfl:ok1=true:=aG.2 rfl;have V:Below Vs.heap.size Vs t1:=aj.trans (aC.mono aj.size);refine⟨_,rfl,V,hN (h:=?_)⟩;clear aW az aG aC aj;refine hT 20 (hS:=V) (h:=hT 21 (hS:=V) (h:=hT 22 (hS:=V) (h:=hT 23 (hS:=V) (h:=hT 24 (hS:=V) (h:=hT 25 (hS:=V) (h:=hT 26 (hS:=V) (h:=hT 27 (hS:=V) (h:=hT 28 (hS:=V) (h:=?_)))))))));refine hE 29 (h:=⟨qbS V qN,hN (h:=?_)⟩);refine hC 30 (q_lit _ [⟨#[48]⟩,⟨#[49,52,48]⟩,⟨#[45,52,48]⟩] [(0:Rat),140,-40] 3 rfl rfl (by decide) (by simp only [qbw,qbL,ft_0,ft_140,ft_m40];decide +kernel) (by decide)) (h:=?_);rintro e u2 ⟨bY,cz,qc2,rfl,aX,aA⟩;have ak:Below Vs.heap.size Vs u2:=V.trans (aA.mono V.size);refine⟨_,rfl,ak,hN (h:=?_)⟩;refine hC 31 (qfw _ _ _ 3 k0 _ _ _ _ 3 qc2 _ u2 (qbW _ _) (by decide) (au.o.2.2.below ak) (qbW _ _) (by decide) aX) (h:=?_);rintro e t2 ⟨bn,rfl,aH,aD⟩;obtain rfl:bn=true:=aH.2 rfl;have ag:Below Vs.heap.size Vs t2:=ak.trans (aD.mono ak.size);refine⟨_,rfl,ag,hN (h:=?_)⟩;clear aX aA aH aD ak;refine hT 32 (hS:=ag) (h:=hT 33 (hS:=ag) (h:=?_));refine gr [(34,80),(35,81),(36,82),(37,83),(38,84),(39,85),(40,86)] [(37,[35,36]),(38,[37]),(39,[37]),(40,[34,38,39])] [0,1,2,3,4,5,6,7,8,9,10,11,12,13,14,15,16,17,18,19,20,21,22,23,24,25,26,27,28,29,30,31,32,33] [34,35,36,37,38,39,40] [] 41 43 (fl2 [(34,fun z W=>∃b:Nat,z=.func (.func 121) #[] #[.pointer (some ⟨b,0,none⟩)]/\W.heap[b]? = some (.cells #[.int .i64 7] 39 (0,0))),(35,fun z W=>∃g:Nat,z=.slice (some ⟨g,0,none⟩) 3 3/\PCells W (some ⟨g,0,none⟩) g 0 ramp),(36,fun z W=>∃g:Nat,z=.slice (some ⟨g,0,none⟩) 3 3/\W.heap[g]? = some (.cells #[.int .i64 1,.int .i64 1,.int .i64 0] 3 (0,0))),(37,fun z _=>z=.tuple #[mdv0,.int .i64 7]),(38,fun z _=>z=mdv0),(39,fun z _=>z=.int .i64 7),(40,fun z _=>z=.bool true)]) _ 2
  (hS:=fun w' h=>ag.trans (h.mono ag.size)) (hstep:=⟨⟨_,rfl,fun v H F G K I=>?_⟩,⟨_,rfl,fun v H F G K I=>?_⟩,⟨_,rfl,fun v H F G K I=>?_⟩,⟨_,rfl,fun v H F G K I=>?_⟩,⟨_,rfl,fun v H F G K I=>?_⟩,⟨_,rfl,fun v H F G K I=>?_⟩,⟨_,rfl,fun v H F G K I=>?_⟩,trivial⟩) (hend:=fun v H F G _ fu=>?_)
 ·exact gC I (qlQ 7 H) (h:=fun e w4 ⟨b,e1,h1,h2⟩=>⟨_,e1,⟨b,rfl,h2⟩,h1⟩)
 ·exact gC I (qgc H) (h:=fun e w4 ⟨g,e1,h1,h2⟩=>⟨_,e1,⟨g,rfl,h1⟩,h2⟩)
 ·exact gW I (h:=⟨⟨H.heap.size,rfl,qM _ _ _ rfl⟩,qbS qB qN⟩)
 ·obtain⟨g5,e35,Y⟩:∃g:Nat,_:=G.1;obtain⟨g6,e36,h6⟩:∃g:Nat,_:=G.2.1;exact gC I (ex_f3 H g5 g6 3 Y h6 ((J.kt.below ag).below F)) (h:=fun e w4 ⟨e1,h1⟩=>⟨_,e1,rfl,h1⟩)
 ·have bg:v 37=_:=G.1;exact gV I rfl
 ·have bg:v 37=_:=G.1;exact gV I rfl
 ·obtain⟨b4,e34,h4⟩:∃b:Nat,_:=G.1;have bQ:v 38=_:=G.2.1;have bR:v 39=_:=G.2.2.1;exact gC I (qkP 7 b4 H h4) (h:=fun e w4 ⟨e1,h1⟩=>⟨_,e1,rfl,h1⟩)
 have aP:v 40=_:=G 40 (by decide) (by decide);have ax:Below Vs.heap.size Vs H:=ag.trans (F.mono ag.size);rw [aP];clear aP G F;refine hT 41 (hS:=ax) (h:=hT 42 (hS:=ax) (h:=?_));refine wpAnyH_done (by kernel_rfl) ?_ _;have F:=ax;clear au bf lm ls m2 m3 s2 hS0 ah ae V ag ax M2 Rs;replace J:=J.below F;replace M1:=qH (M1.o.below F);replace O:=qH (zkeep F _ _ O.o);clear F;have y0:=qC _ _ 0 _ _ _ O.o;have y1:=qC _ _ 1 _ _ _ O.o;have y2:=qC _ _ 2 _ _ _ O.o;have y3:=qC _ _ 3 _ _ _ O.o;have y4:=qC _ _ 4 _ _ _ O.o;go_wp2_with fail;refine (ex_a1 _ _ M1.o J.kt).mono ?_;rintro e bz ⟨rfl,F⟩;replace J:=J.below F;replace M1:=qH (M1.o.below F);replace O:=qH (zkeep F _ _ O.o);clear F y0 y1 y2 y3 y4;obtain⟨Va,aQ,Na⟩:=nw1 bz #[.string ⟨#[49,54,48]⟩,.string ⟨#[51]⟩,.string ⟨#[48]⟩,.string ⟨#[49]⟩,.string ⟨#[48]⟩,.string ⟨#[49]⟩] 65;go_upto_region 6 with fail;rw [<-aQ];have F:=Na.o.1;have Ra:=qH Na.o.2;clear aQ Na;replace J:=J.below F;replace M1:=qH (M1.o.below F);replace O:=qH (zkeep F _ _ O.o);clear F;have y0:=qC _ _ 0 _ _ _ O.o;have y1:=qC _ _ 1 _ _ _ O.o;have y2:=qC _ _ 2 _ _ _ O.o;have y3:=qC _ _ 3 _ _ _ O.o;have y4:=qC _ _ 4 _ _ _ O.o;go_wp2_with fail;refine (ex_e1 _ _ M1.o J.kt J.ke).mono ?_;rintro e bA ⟨gr,cr,g0,aL,g1,aM,go,co,rfl,aU,F⟩;have EL:=qH aU;replace J:=J.below F;replace M1:=qH (M1.o.below F);replace O:=qH (zkeep F _ _ O.o);replace Ra:=qH (zkeep F _ _ Ra.o);clear F aU y0 y1 y2 y3 y4;obtain⟨U,aR,Ne⟩:=nw1 bA #[.int .i64 2,.slice none 0 0,.slice (some ⟨gr,0,none⟩) 3 cr,.slice (some ⟨go,0,none⟩) 3 co,.slice none 0 0,.int .i64 0,.slice none 0 0,.slice none 0 0,.int .i64 0,.int .i64 0] 82;go_upto_region 7 with fail;rw [<-aR];have F:=Ne.o.1;have Re:=qH Ne.o.2;clear aR Ne;replace J:=J.below F;replace M1:=qH (M1.o.below F);replace O:=qH (zkeep F _ _ O.o);replace Ra:=qH (zkeep F _ _ Ra.o);replace EL:=qH (qA ((F.cell (qac _ _ EL.o.1)).trans EL.o.1) (qA ((F.cell (qac _ _ EL.o.2.1)).trans EL.o.2.1) (qA (EL.o.2.2.1.below F) (qA (EL.o.2.2.2.1.below F) (EL.o.2.2.2.2.below F)))));clear F;simp only [List.append_eq,List.cons_append,qbh];have la:=(qG Ra.o).1;have lm:=(qG O.o).1;have le:=(qG Re.o).1;have bB:=rowC (B:=U.heap.size) Ra.o 0;have bC:=rowC (B:=U.heap.size) Ra.o 1;have bD:=rowC (B:=U.heap.size) Ra.o 2;have bE:=rowC (B:=U.heap.size) Ra.o 3;have bF:=rowC (B:=U.heap.size) Ra.o 4;have bG:=rowC (B:=U.heap.size) Ra.o 5;have y0:=rowC (B:=U.heap.size) O.o 0;have y1:=rowC (B:=U.heap.size) O.o 1;have y2:=rowC (B:=U.heap.size) O.o 2;have y3:=rowC (B:=U.heap.size) O.o 3;have y4:=rowC (B:=U.heap.size) O.o 4;have x0:=rowC (B:=U.heap.size) Re.o 0;have x2:=rowC (B:=U.heap.size) Re.o 2;have x3:=rowC (B:=U.heap.size) Re.o 3;have r0:∀W,Below U.heap.size U W->W.cell? ⟨gr,0,none⟩=some (.slice (some ⟨g0,0,none⟩) 1 aL):=fun W h=>(h.cell (qac U _ EL.o.1)).trans EL.o.1
 have r1:∀W,Below U.heap.size U W->W.cell? ⟨gr,1,none⟩=some (.slice (some ⟨g1,0,none⟩) 1 aM):=fun W h=>(h.cell (qac U _ EL.o.2.1)).trans EL.o.2.1
 refine wp_region_held_drew (S:=fun W=>Below U.heap.size U W) (by kernel_rfl) qB.drew (fun hS0=>?_);refine hT 0 (h:=hT 1 (h:=hT 2 (h:=?_)));refine Go.Proofs.YtplkdeknjghobaaGreatDoor.gr [(3,102),(4,103),(5,104),(6,105),(7,106),(8,107),(9,108),(10,109),(11,110),(12,111),(13,112),(14,113),(15,114),(16,115)] [(4,[3]),(5,[4]),(6,[5]),(8,[7]),(9,[8]),(10,[9]),(12,[11]),(13,[12]),(14,[13]),(15,[6,10,14]),(16,[15])] [0,1,2] [3,4,5,6,7,8,9,10,11,12,13,14,15,16] [] 17 70 (fl2 [(3,SC ⟨#[49,54,48,47,51]⟩),(4,QC ⟨#[49,54,48]⟩ ⟨#[51]⟩),(5,PC ⟨#[49,54,48]⟩ ⟨#[51]⟩),(6,fun z _=>z=.agg #[.string ⟨#[49,54,48]⟩,.string ⟨#[51]⟩]),(7,SC ⟨#[48]⟩),(8,QC ⟨#[48]⟩ ⟨#[49]⟩),(9,PC ⟨#[48]⟩ ⟨#[49]⟩),(10,fun z _=>z=.agg #[.string ⟨#[48]⟩,.string ⟨#[49]⟩]),(11,SC ⟨#[48]⟩),(12,QC ⟨#[48]⟩ ⟨#[49]⟩),(13,PC ⟨#[48]⟩ ⟨#[49]⟩),(14,fun z _=>z=.agg #[.string ⟨#[48]⟩,.string ⟨#[49]⟩]),(15,fun z _=>z=.agg #[.string ⟨#[49,54,48]⟩,.string ⟨#[51]⟩,.string ⟨#[48]⟩,.string ⟨#[49]⟩,.string ⟨#[48]⟩,.string ⟨#[49]⟩]),(16,fun z _=>z=.bool true)]) _ 53
  (hS:=fun w' h=>qb2 h) (hstep:=⟨⟨_,rfl,fun v H F G K I=>?_⟩,⟨_,rfl,fun v H F G K I=>?_⟩,⟨_,rfl,fun v H F G K I=>?_⟩,⟨_,rfl,fun v H F G K I=>?_⟩,⟨_,rfl,fun v H F G K I=>?_⟩,⟨_,rfl,fun v H F G K I=>?_⟩,⟨_,rfl,fun v H F G K I=>?_⟩,⟨_,rfl,fun v H F G K I=>?_⟩,⟨_,rfl,fun v H F G K I=>?_⟩,⟨_,rfl,fun v H F G K I=>?_⟩,⟨_,rfl,fun v H F G K I=>?_⟩,⟨_,rfl,fun v H F G K I=>?_⟩,⟨_,rfl,fun v H F G K I=>?_⟩,⟨_,rfl,fun v H F G K I=>?_⟩,trivial⟩) (hend:=fun v H F G _ fu=>?_)
 ·exact gW I (h:=⟨⟨H.heap.size,rfl,qM _ _ _ rfl⟩,qbS qB qN⟩)
 ·obtain⟨g5,eg,Y⟩:SC ⟨#[49,54,48,47,51]⟩ _ H:=G.1;exact gC I (q1_at H g5 ⟨#[49,54,48,47,51]⟩ _ _ (160 / 3:Rat) Y (by rw [ql0];decide +kernel) ql0 (by decide)) (h:=fun e w4 ⟨g,c,e1,h1,h2⟩=>⟨_,e1,⟨g,c,rfl,h1⟩,h2⟩)
 ·obtain⟨g5,c5,eg,Y⟩:QC ⟨#[49,54,48]⟩ ⟨#[51]⟩ _ H:=G.1;exact gV I ⟨g5,rfl,Y⟩
 ·obtain⟨g5,eg,Y,h6⟩:PC ⟨#[49,54,48]⟩ ⟨#[51]⟩ _ H:=G.1;exact gV I rfl
 ·exact gW I (h:=⟨⟨H.heap.size,rfl,qM _ _ _ rfl⟩,qbS qB qN⟩)
 ·obtain⟨g5,eg,Y⟩:SC ⟨#[48]⟩ _ H:=G.1;exact gC I (q1_at H g5 ⟨#[48]⟩ _ _ (0:Rat) Y (by rw [ft_0];decide +kernel) ft_0 (by decide)) (h:=fun e w4 ⟨g,c,e1,h1,h2⟩=>⟨_,e1,⟨g,c,rfl,h1⟩,h2⟩)
 ·obtain⟨g5,c5,eg,Y⟩:QC ⟨#[48]⟩ ⟨#[49]⟩ _ H:=G.1;exact gV I ⟨g5,rfl,Y⟩
 ·obtain⟨g5,eg,Y,h6⟩:PC ⟨#[48]⟩ ⟨#[49]⟩ _ H:=G.1;exact gV I rfl
 ·exact gW I (h:=⟨⟨H.heap.size,rfl,qM _ _ _ rfl⟩,qbS qB qN⟩)
 ·obtain⟨g5,eg,Y⟩:SC ⟨#[48]⟩ _ H:=G.1;exact gC I (q1_at H g5 ⟨#[48]⟩ _ _ (0:Rat) Y (by rw [ft_0];decide +kernel) ft_0 (by decide)) (h:=fun e w4 ⟨g,c,e1,h1,h2⟩=>⟨_,e1,⟨g,c,rfl,h1⟩,h2⟩)
 ·obtain⟨g5,c5,eg,Y⟩:QC ⟨#[48]⟩ ⟨#[49]⟩ _ H:=G.1;exact gV I ⟨g5,rfl,Y⟩
 ·obtain⟨g5,eg,Y,h6⟩:PC ⟨#[48]⟩ ⟨#[49]⟩ _ H:=G.1;exact gV I rfl
 ·have e6:v 6=_:=G.1;have bM:v 10=_:=G.2.1;have bN:v 14=_:=G.2.2.1;exact gV I rfl
 ·have bO:v 15=_:=G.1;exact gV I (he:=by go_simp;rw [eq_3f];rfl) rfl
 have aN:v 16=_:=G 16 (by decide) (by decide);rw [aN];have hA:Below U.heap.size U H:=qb2 F;clear aN G F;refine hT 17 (hS:=hA) (h:=hT 18 (hS:=hA) (h:=hT 19 (hS:=hA) (h:=hT 20 (hS:=hA) (h:=hT 21 (hS:=hA) (h:=hT 22 (hS:=hA) (h:=hT 25 (hS:=hA) (h:=?_)))))));refine Go.Proofs.YtplkdeknjghobaaGreatDoor.gr [(23,122),(24,123),(26,125),(27,126),(28,127),(29,128),(30,129)] [(24,[23]),(27,[26]),(28,[27]),(29,[27]),(30,[24,28,29])] [0,1,2,3,4,5,6,7,8,9,10,11,12,13,14,15,16,17,18,19,20,21,22,25] [23,24,26,27,28,29,30] [] 31 70 (fl2 [(23,fun z W=>∃g:Nat,z=.slice (some ⟨g,0,none⟩) 3 3/\SCells W g 0 [⟨#[49,48,48,47,57]⟩,⟨#[52,48,48,47,57]⟩,⟨#[49,48,48,47,57]⟩]),(24,fun z W=>∃b:Nat,z=.func (.func 120) #[] #[.pointer (some ⟨b,0,none⟩)]/\IsAt W b [⟨#[49,48,48,47,57]⟩,⟨#[52,48,48,47,57]⟩,⟨#[49,48,48,47,57]⟩]),(26,fun z W=>∃g:Nat,z=.slice (some ⟨g,0,none⟩) 3 3/\PCells W (some ⟨g,0,none⟩) g 0 ramp),(27,fun z W=>∃g:Nat,z=.tuple #[.slice (some ⟨g,0,none⟩) 3 3,.int .i64 0]/\FCells W (some ⟨g,0,none⟩) g 0 (told 3 (fv [(100 / 9:Rat),400 / 9,100 / 9]))),(28,fun z W=>∃g:Nat,z=.slice (some ⟨g,0,none⟩) 3 3/\FCells W (some ⟨g,0,none⟩) g 0 (told 3 (fv [(100 / 9:Rat),400 / 9,100 / 9]))),(29,fun z _=>z=.int .i64 0),(30,fun z _=>z=.bool true)]) _ 39
  (hS:=fun w' h=>hA.trans (h.mono hA.size)) (hstep:=⟨⟨_,rfl,fun v H F G K I=>?_⟩,⟨_,rfl,fun v H F G K I=>?_⟩,⟨_,rfl,fun v H F G K I=>?_⟩,⟨_,rfl,fun v H F G K I=>?_⟩,⟨_,rfl,fun v H F G K I=>?_⟩,⟨_,rfl,fun v H F G K I=>?_⟩,⟨_,rfl,fun v H F G K I=>?_⟩,trivial⟩) (hend:=fun v w4 F G _ fu=>?_)
 ·exact gW I (h:=⟨⟨H.heap.size,rfl,SCells.row (L:=[⟨#[49,48,48,47,57]⟩,⟨#[52,48,48,47,57]⟩,⟨#[49,48,48,47,57]⟩]) (qM _ _ _ rfl)⟩,qbS qB qN⟩)
 ·obtain⟨g5,eg,Y⟩:∃g:Nat,_:=G.1;exact gC I (qiH g5 [⟨#[49,48,48,47,57]⟩,⟨#[52,48,48,47,57]⟩,⟨#[49,48,48,47,57]⟩] H Y) (h:=fun e w4 ⟨b,e1,h1,h2⟩=>⟨_,e1,⟨b,rfl,h2⟩,h1⟩)
 ·exact gC I (qgc H) (h:=fun e w4 ⟨g,e1,h1,h2⟩=>⟨_,e1,⟨g,rfl,h1⟩,h2⟩)
 ·obtain⟨g5,eg,Y⟩:∃g:Nat,_:=G.1;exact gC I (ex_s1 H _ g5 3 ((M1.o.below hA).below F) Y ((J.kt.below hA).below F)) (h:=fun e w4 ⟨g,e1,h1,h2⟩=>⟨_,e1,⟨g,rfl,h1⟩,h2⟩)
 ·obtain⟨g5,eg,Y⟩:∃g:Nat,_:=G.1;exact gV I ⟨g5,rfl,Y⟩
 ·obtain⟨g5,eg,Y⟩:∃g:Nat,_:=G.1;exact gV I rfl
 ·obtain⟨b5,eb,Y⟩:∃b:Nat,_:=G.1;obtain⟨g6,eg,h6⟩:∃g:Nat,_:=G.2.1;have bP:v 29=_:=G.2.2.1;exact gC I (qfE (L:=[⟨#[49,48,48,47,57]⟩,⟨#[52,48,48,47,57]⟩,⟨#[49,48,48,47,57]⟩]) (l:=[(100 / 9:Rat),400 / 9,100 / 9]) (c:=3) Y rfl rfl (by decide) (by simp only [qbw,qbL,ft_1009,ft_4009];decide +kernel) (by decide) h6) (h:=fun e w4 ⟨e1,h1⟩=>⟨_,e1,rfl,h1⟩)
 have aO:v 30=_:=G 30 (by decide) (by decide);rw [aO];have Z:Below U.heap.size U w4:=hA.trans (F.mono hA.size);clear aO G F;refine hT 31 (hS:=Z) (h:=hT 32 (hS:=Z) (h:=hT 33 (hS:=Z) (h:=hT 34 (hS:=Z) (h:=hT 35 (hS:=Z) (h:=hT 36 (hS:=Z) (h:=hT 37 (hS:=Z) (h:=hT 38 (hS:=Z) (h:=hT 39 (hS:=Z) (h:=hT 40 (hS:=Z) (h:=hT 41 (hS:=Z) (h:=hT 42 (hS:=Z) (h:=hT 43 (hS:=Z) (h:=hT 44 (hS:=Z) (h:=hT 45 (hS:=Z) (h:=hT 46 (hS:=Z) (h:=hT 47 (hS:=Z) (h:=hT 48 (hS:=Z) (h:=hT 49 (hS:=Z) (h:=hT 50 (hS:=Z) (h:=hT 51 (hS:=Z) (h:=?_)))))))))))))))))))));refine hE 52 (h:=⟨qbS Z qN,hN (h:=?_)⟩);refine hC 53 (qlN _ g0 0 aL [1000000] 1 rfl (by decide) (EL.o.2.2.1.below Z)) (h:=?_);rintro e w5 ⟨rfl,F⟩;have aa:Below U.heap.size U w5:=Z.trans (F.mono Z.size);clear F;refine⟨_,rfl,aa,hN (h:=?_)⟩;refine hT 54 (hS:=aa) (h:=hT 55 (hS:=aa) (h:=hT 56 (hS:=aa) (h:=hT 57 (hS:=aa) (h:=hT 58 (hS:=aa) (h:=hT 59 (hS:=aa) (h:=?_))))));refine hE 60 (h:=⟨qbS aa qN,hN (h:=?_)⟩);refine hC 61 (qlN _ g1 0 aM [0] 1 rfl (by decide) (EL.o.2.2.2.1.below aa)) (h:=?_);rintro e w6 ⟨rfl,F⟩;have af:Below U.heap.size U w6:=aa.trans (F.mono aa.size);clear F;refine⟨_,rfl,af,hN (h:=?_)⟩;refine hT 62 (hS:=af) (h:=hT 63 (hS:=af) (h:=hT 64 (hS:=af) (h:=hT 65 (hS:=af) (h:=?_))));refine hE 66 (h:=⟨qbS af qN,hN (h:=?_)⟩);refine hC 67 (qlN _ go 0 co [33333,500000,500000] 3 rfl (by decide) (EL.o.2.2.2.2.below af)) (h:=?_);rintro e w7 ⟨rfl,F⟩;have av:Below U.heap.size U w7:=af.trans (F.mono af.size);clear F;refine⟨_,rfl,av,hN (h:=?_)⟩;refine hT 68 (hS:=av) (h:=hT 69 (hS:=av) (h:=?_));refine wpAnyH_done (by kernel_rfl) ?_ _;have KE:=qH (J.kb.trans (av.mono J.kb.size));go_wp2;go_ret;exact⟨rfl,KE.o⟩
end Go.Proofs.YtplkdeknjghobaaGreatDoor
namespace Go.Proofs.YtplkdeknjghobaaGreatDoor
open Go.RowKit
def PdAt (W:World) (v:Value) (G:Nat) (L:List (List Int)):Prop:=∃(F:Option Addr) (b off c:Nat),v=.agg #[.int .u8 (G:Int),.slice F L.length c]/\G<256/\L.length<=9223372036854775807/\PRws W F b off L
theorem kindN {k:Nat} (h:1<=k/\k<=3):qcu (k:Int) k:=⟨rfl,h.1,h.2⟩
theorem qgM {l:List Pt} (h:PtsOk l) {m:Nat} (I:l.length=m):∀q,q<m->(l.getD q pt0).name.size<=4611686018427387904/\(l.getD q pt0).dev.length<=4611686018427387904:=fun q J=>by
 have F:=(h.rows q (by omega)).1;have G:=F.name.2.1;have H:=F.n4;exact⟨by omega,by omega⟩
structure SuSt (wc W:World) (gs:Nat) (q:Rat):Prop where
 old:Below gs wc W
 row:∃s1 s2,ftxt q=(s1,s2)/\W.heap[gs]? = some (.cells #[.string s1,.string s2] 44 (0,0))
 lt:gs<W.heap.size
open Go.ChangeShapes Go.WideShapes Go.ChangeAt Go.Deep Go.Proofs.Tryz
theorem wf_u8 {z:Int} (h:(Lit.int .u8 z).wf=true):∃n:Nat,z=(n:Int)/\n<256:=by
 have F:0<=z/\z<=255:=by simpa [Lit.wf,IntKind.min,IntKind.max,IntKind.signed,IntKind.bits] using h
 exact⟨z.toNat,by omega,by omega⟩
section
variable {H:Type} {enc:TypeId×Value->H} {w:World} {sp:Nat->Bool} {held:Bool} {fuel:Nat} {v:Value} {x:DataW H×List MemPlace}
theorem c7A:Tryz.prog.cellsOf 201=7:=by kernel_rfl
theorem c1I:Tryz.prog.cellsOf 200=1:=by kernel_rfl
theorem qmK {cs:List Value} (h:DataW.trod enc prog w 0 sp held fuel 201 cs=some x) {a:Addr} (hc:w.cells? 0 a 7=some cs) (I:a.spot=none) :
  ∃J:List Int,(∀j,j<7->w.cell? ⟨a.block,a.off+j,none⟩=some (.int .i16 (J.getD j 0)))/\∀j,-32768<=J.getD j 0/\J.getD j 0<=32767:=by
 obtain⟨_,aa,G⟩:=World.cells?_some hc;obtain⟨xs,n,_,_,_,ae,hf⟩:=DataW.trod_array underlying201 h;obtain⟨ab,ao,asp⟩:=a;have I:asp=none:=I;subst I;have H:∀i,i<7->∃z:Int,w.cell? ⟨ab,ao+i,none⟩=some (.int .i16 z)/\-32768<=z/\z<=32767:=fun i Z=>by
  have O:=hf i Z;rw [c1I,qbD,qbq (by omega),qad (show i<xs.length by omega)] at O;obtain⟨z,e1,_,hw⟩:=DataW.trod_int underlying200 O;have e2:cs[i]'(by omega)=Value.int .i16 z:=(List.cons.inj (show [cs[i]'(by omega)]=[Value.int .i16 z] from e1)).1;have U:=G i Z;rw [Addr.add_mid,qad (by omega),e2] at U;have h2:-32768<=z/\z<=32767:=by simpa [Lit.wf,IntKind.min,IntKind.max,IntKind.signed,IntKind.bits] using hw
  exact⟨z,U,h2⟩
 obtain⟨Y,V⟩:=choose_lt H;have hg:∀j,j<7->((List.range 7).map Y).getD j 0=Y j:=fun j F=>by
  rw [qaa,qau,qbf F];rfl
 refine⟨(List.range 7).map Y,fun j F=>by rw [hg j F];exact (V j F).1,fun j=>?_⟩;rcases qaM j 7 with F | F
 ·rw [hg j F];exact (V j F).2
 ·rw [qaa,qaA (by simpa using F)];exact⟨by decide,by decide⟩
theorem qlc (h:DataW.trod enc prog w 0 sp held fuel 22 [v]=some x):∃(a:Option Addr) (b off c:Nat) (L:List (List Int)),v=.slice a L.length c/\L.length<=maxLen/\PRws w a b off L:=by
 rcases open_slice underlying22 h with ⟨I,_⟩ | ⟨a,len,cap,m,n,D,Pl,I,_,hl,hm,aa,_,hx⟩
 ·exact⟨none,0,0,0,[],by injection I,by decide,⟨fun h=>absurd h (by decide),fun k h=>absurd h (by simp),fun k j=>by simp⟩⟩
 ·have af:len<=m:=by rw [aa];split <;> omega
  have V:0<len->a=⟨a.block,a.off,none⟩:=fun Z=>by
   obtain⟨cs',J,_⟩:=hx 0 (by omega);rw [c7A] at J;obtain⟨_,ae,H⟩:=World.cells?_some J;have h3:=H 0 (by decide);rw [add_add] at h3;have h4:w.cell? (a.add 0)=cs'[0]?:=h3;rw [qad (by omega)] at h4;exact qm7 h4
  have O:∀i,i<len->∃zs:List Int,(∀j,j<7->w.cell? ⟨a.block,a.off+i*7+j,none⟩=some (.int .i16 (zs.getD j 0)))/\∀j,-32768<=zs.getD j 0/\zs.getD j 0<=32767:=fun i hi=>by
   obtain⟨cs',J,h2⟩:=hx i (by omega);rw [c7A] at J;have ha:=V (by omega);have U:a.add (i*7)=⟨a.block,a.off+i*7,none⟩:=by rw [ha,Addr.add_mid]
   rw [U] at J;exact qmK h2 J rfl
  obtain⟨Y,hY⟩:=choose_lt O;have hg:∀k,k<len->((List.range len).map Y).getD k []=Y k:=fun k G=>by
   rw [qaa,qau,qbf G];rfl
  have F:((List.range len).map Y).length=len:=by rw [qat,qbI]
  refine⟨some a,a.block,a.off,cap,(List.range len).map Y,by rw [F];injection I,by rw [F];omega,⟨fun Z=>?_,fun k G=>?_,fun k j=>?_⟩⟩
  ·rw [F] at Z;exact congrArg some (V Z)
  ·rw [F] at G;rw [hg k G];exact (hY k G).1
  ·rcases qaM k len with G | G
   ·rw [hg k G];exact (hY k G).2 j
   ·have e:((List.range len).map Y).getD k []=[]:=by rw [qaa,qaA (by rw [F];exact G)];rfl
    rw [e];simp
theorem open_pd {r:Reach} {I:Nat} {d:DataW H} {p:List MemPlace} (V:Value.okWide prog w r I 24 v) (h:DataW.Trod enc prog w 0 sp held 24 v d p) :
  ∃(F:Nat) (L:List (List Int)),PdAt w v F L:=by
 obtain⟨v0,Y,y0,y1,n,rfl,rfl,rfl,J,O⟩:=Joins.open_agg2 underlying24 (by kernel_rfl) (by kernel_rfl) V h;obtain⟨F,rfl,G⟩:=open_u8 J;obtain⟨a,b,off,c,L,rfl,U,hC⟩:=qlc O;unfold maxLen at U;exact⟨F,L,a,b,off,c,rfl,G,by omega,hC⟩
end
end Go.Proofs.YtplkdeknjghobaaGreatDoor
namespace Go.Proofs.YtplkdeknjghobaaGreatDoor
theorem norm_in {R n:Nat} {f:Nat->Nat->Rat} {b w:Nat->Rat} {r c:Nat} (G:r<n) (F:c<n):normR R n f b w r c=sumQ R fun i=>w i*(f i r*f i c) :=
 qbV fun i _=>by unfold gR;rw [if_pos G,if_pos F]
theorem norm_out {R n:Nat} {f:Nat->Nat->Rat} {b w:Nat->Rat} {r:Nat} (F:r<n):normR R n f b w r n=sumQ R fun i=>w i*(f i r*b i) :=
 qbV fun i _=>by unfold gR;rw [if_pos F,if_neg (qbz n)]
theorem qiw {R n:Nat} {f:Nat->Nat->Rat} {b w z:Nat->Rat} (J:∀i,i<R->resR n f b z i=0):qcD n (normR R n f b w) (fun r=>normR R n f b w r n) z:=by
 intro r F
 show _=normR R n f b w r n
 rw [norm_out F];have G:sumQ n (fun c=>normR R n f b w r c*z c)=sumQ n fun c=>sumQ R fun i=>z c*(w i*(f i r*f i c)):=qbV fun c H=>by
  rw [qck,norm_in F H];grind
 rw [G,qd7];refine qbV fun i I=>?_
 have h:=J i I;unfold resR at h;have e:sumQ n (fun c=>z c*(w i*(f i r*f i c)))=(w i*f i r)*sumQ n fun c=>f i c*z c:=by
  rw [<-qck];exact qbV fun c _=>by grind
 rw [e,show sumQ n (fun c=>f i c*z c)=b i by grind];grind
theorem qjz {R n:Nat} {f:Nat->Nat->Rat} {b w x z:Nat->Rat} (F:¬Sing n (normR R n f b w)) (hx:qcD n (normR R n f b w) (fun r=>normR R n f b w r n) x) (G:∀i,i<R->resR n f b z i=0):∀j,j<n->x j=z j :=
 hx.uniq F (qiw G)
open Go.RowKit
theorem qlV {l:List Pt} {k c:Nat} {F:List Int} {x z:Nat->Rat} (H:¬Sing (many k (chans l)) (nq l k F 0)) (hx:FitX l k F c x) (I:∀i,i<l.length->sumQ (many k (chans l)) (fun j=>tqf l k i j*z j)=labq l c i):∀j,j<many k (chans l)->x j=z j:=by
 refine qjz (fun h=>H (qgH h)) hx fun i G=>?_
 unfold resR;rw [I i G];grind
theorem rr_exact {l:List Pt} {k c i:Nat} {G:List Int} {x:Nat->Nat->Rat} {z:Nat->Rat} (J:¬Sing (many k (chans l)) (nq l k G 0)) (hx:FitX l k G c (x c)) (F:∀i,i<l.length->sumQ (many k (chans l)) (fun j=>tqf l k i j*z j)=labq l c i) (H:i<l.length):rr l k x c i=0:=by
 unfold rr;rw [qbV fun j I=>by rw [qlV J hx F j I],F i H];grind
theorem term12 {k:Nat} (G:k=1\/k=2) (d:List Int) {j:Nat} (F:j<d.length):termQ k d (j+1)=dq d j:=by
 unfold termQ termL;rcases G with rfl | rfl
 ·rw [if_pos rfl,List.getD_cons_succ,qaa,qau,qbf F];rfl
 ·rw [if_neg (by decide),if_pos rfl,List.cons_append,List.getD_cons_succ,qaa,qar (by rw [qat,qbI];exact F),qau,qbf F];rfl
theorem qhD {n m:Nat} {f:Nat->Rat} (H:n<=m) (h:∀j,n<=j->j<m->f j=0):sumQ m f=sumQ n f:=by
 induction m with
 | zero=>have e:n=0:=(by omega);subst e;rfl
 | succ m ih =>
  by_cases e:n=m+1
  ·rw [e]
  ·rw [show sumQ (m+1) f=sumQ m f+f m from rfl,ih (by omega) fun j F G=>h j F (by omega),h m (by omega) (by omega)];grind
theorem qjc:∀(n:Nat) (f:Nat->Rat),sumQ (n+1) f=f 0+sumQ n fun j=>f (j+1)
 | 0,f=>by show (0:Rat)+f 0=f 0+0;grind
 | n+1,f=>by
  rw [show sumQ (n+1+1) f=sumQ (n+1) f+f (n+1) from rfl,qjc n f]
  show _=f 0+(sumQ n (fun j=>f (j+1))+f (n+1))
  grind
def labS (c:Nat->Int) (d:List Int):Nat->Int
 | 0=>0
 | k+1=>labS c d k+(c k*d.getD k 0).tdiv 1250
def labE (c:Nat->Int) (p:Pt):Pt:=⟨p.name,p.dev,5000+labS c p.dev p.dev.length,8*c 4,0⟩
theorem qhQ {c:Nat->Int} {d:List Int} {k m:Nat} (h:d.getD k 0=1250*m):(c k*d.getD k 0).tdiv 1250=c k*m:=by
 rw [h,show c k*(1250*(m:Int))=c k*m*1250 by rw [qbs,qbc (m:Int)]];exact Int.mul_tdiv_cancel _ (by decide)
theorem qki {c:Nat->Int} {d:List Int} (h:∀j,∃m:Nat,m<=8/\d.getD j 0=1250*m):∀k,((labS c d k:Int):Rat) / 100=sumQ k fun j=>dq d j*((c j:Rat)*8 / 100)
 | 0=>by show ((0:Int):Rat) / 100=0;grind
 | k+1=>by
  obtain⟨m,_,F⟩:=h k
  show ((labS c d k+(c k*d.getD k 0).tdiv 1250:Int):Rat) / 100=sumQ k _+dq d k*((c k:Rat)*8 / 100)
  rw [qhQ F,<-qki h k];unfold dq;rw [F,Rat.intCast_add,Rat.intCast_mul,Rat.intCast_mul];generalize ((labS c d k:Int):Rat)=x;generalize ((c k:Int):Rat)=y;generalize (((m:Int)):Rat)=z;rw [show ((1250:Int):Rat)=1250 from rfl]
  grind
theorem qjE {c:Nat->Int} {d:List Int} (G:∀j,-128<=c j/\c j<=127) (h:∀j,∃m:Nat,m<=8/\d.getD j 0=1250*m):∀k,(labS c d k).natAbs<=1024*k
 | 0=>qae _
 | k+1=>by
  obtain⟨m,F,H⟩:=h k;have ih:=qjE G h k
  show (labS c d k+(c k*d.getD k 0).tdiv 1250).natAbs<=_
  rw [qhQ H];have I:(c k*(m:Int)).natAbs<=128*8:=by
   rw [qaD,qan];exact Nat.mul_le_mul (by have:=G k;omega) F
  omega
def zE (c:Nat->Int) (n F j:Nat):Rat:=if F=0 then (if j=0 then 50 else if j<=n then (c (j-1):Rat)*8 / 100 else 0) else if F=1 then (if j=0 then ((8*c 4:Int):Rat) / 100 else 0) else 0
theorem zE_fits {c:Nat->Int} {p:Pt} {k n F:Nat} (H:k=1\/k=2) (U:p.dev.length=n) (h:∀j,∃m:Nat,m<=8/\p.dev.getD j 0=1250*m) (O:F<3) :
  sumQ (many k n) (fun j=>termQ k (labE c p).dev j*zE c n F j)=(((labE c p).lab F:Int):Rat) / 100:=by
 have J:n+1<=many k n:=by unfold many;rcases H with rfl | rfl <;> simp <;> omega
 have G:termQ k p.dev 0=1:=qhE (by omega);rw [show (labE c p).dev=p.dev from rfl];rcases (show F=0\/F=1\/F=2 by omega) with rfl | rfl | rfl
 ·rw [qhD J fun j I _=>by unfold zE;rw [if_pos rfl,if_neg (by omega),if_neg (by omega)];grind,qjc,qbV fun j V=>show termQ k p.dev (j+1)*zE c n 0 (j+1)=dq p.dev j*((c j:Rat)*8 / 100) by
   rw [term12 H _ (by omega)];unfold zE;rw [if_pos rfl,if_neg (by omega),if_pos (by omega)];rfl,<-qki h n,G]
  show 1*zE c n 0 0+_=((5000+labS c p.dev p.dev.length:Int):Rat) / 100
  unfold zE;rw [if_pos rfl,if_pos rfl,U,Rat.intCast_add,show ((5000:Int):Rat)=5000 from rfl];generalize ((labS c p.dev n:Int):Rat)=x
  grind
 ·rw [qhD (show 1<=many k n by omega) fun j I _=>by unfold zE;rw [if_neg (by decide),if_pos rfl,if_neg (by omega)];grind]
  show 0+termQ k p.dev 0*zE c n 1 0=((8*c 4:Int):Rat) / 100
  rw [G];unfold zE;rw [if_neg (by decide),if_pos rfl,if_pos rfl]
  grind
 ·rw [qcI _ _ fun j _=>by unfold zE;rw [if_neg (by decide),if_neg (by decide)];grind]
  show (0:Rat)=((0:Int):Rat) / 100
  grind
def labsE (c:Nat->Int) (l:List Pt):List Pt:=l.map (labE c)
theorem qcN (c:Nat->Int) (l:List Pt):(labsE c l).length=l.length:=by unfold labsE;simp
theorem qeK {c:Nat->Int} {l:List Pt} {i:Nat} (F:i<l.length):(labsE c l).getD i pt0=labE c (l.getD i pt0):=by
 unfold labsE;rw [qaa,qau,qad F,qaa,qad F];rfl
theorem qe0 {c:Nat->Int} {l:List Pt} (h:0<l.length):chans (labsE c l)=chans l:=by
 unfold chans;rw [qeK h];rfl
theorem qhR {c:Nat->Int} {l:List Pt} (h:qd9 l):qd9 (labsE c l):=⟨by rw [qcN];exact h.1,fun i F j=>by
 rw [qcN] at F;rw [qeK F];exact h.2 i F j⟩
theorem qkj {c:Nat->Int} {l:List Pt} (I:∀j,-128<=c j/\c j<=127) (h:PtsOk l) (J:qd9 l):PtsOk (labsE c l) where
 r1:=by rw [qcN];exact h.r1
 r2:=by rw [qcN];exact h.r2
 rows:=fun k F=>by
  rw [qcN] at F;rw [qeK F,qe0 h.r1];obtain⟨G,O⟩:=h.rows k F;have Y:=qjE I (J.2 k F) (l.getD k pt0).dev.length;have U:=G.n4;have V:=I 4;exact⟨⟨G.name,G.n1,G.n4,G.vals,by show 0<=5000+labS c _ _/\5000+labS c _ _<=10000;omega,by show -12800<=8*c 4/\8*c 4<=12700;omega,by show (-12800:Int)<=0/\(0:Int)<=12700;decide⟩,O⟩
 apart:=fun i k F H=>by
  rw [qcN] at H;rw [qeK H,qeK (Nat.lt_trans F H)];exact h.apart i k F H
theorem qk2 {c:Nat->Int} {l:List Pt} {k n F:Nat} (J:k=1\/k=2) (h:PtsOk l) (I:qd9 l) (O:chans l=n) (G:F<3) {i:Nat} (H:i<l.length):sumQ (many k n) (fun j=>tqf (labsE c l) k i j*zE c n F j)=labq (labsE c l) F i:=by
 unfold tqf labq;rw [qeK H];exact zE_fits J ((h.rows i H).2.trans O) (I.2 i H) G
theorem sqq_rr {l:List Pt} {k i:Nat} {X:Nat->Nat->Rat}:sqq (mdq k (chans l) (many k (chans l)) X) l k i=sumQ 3 fun c=>rr l k X c i*rr l k X c i:=by
 unfold sqq msR;refine qbV fun c F=>?_
 have e:resR (many k (chans l)) (fun q=>lval ((mdq k (chans l) (many k (chans l)) X).row q)) (fun q=>labq l q i) (tqf l k i) c=rr l k X c i:=by
  unfold resR rr;rw [qbV fun j G=>show lval ((mdq k (chans l) (many k (chans l)) X).row c) j*tqf l k i j=tqf l k i j*X c j by rw [qez F,qcG G];exact Rat.mul_comm _ _]
 rw [e];grind
theorem sqq_zero {l:List Pt} {k i:Nat} {X:Nat->Nat->Rat} (h:∀c,c<3->rr l k X c i=0):sqq (mdq k (chans l) (many k (chans l)) X) l k i=0:=by
 rw [sqq_rr];exact qcI _ _ fun c F=>by rw [h c F];grind
def Pt.put (p:Pt) (q:Nat) (z:Int):Pt:=⟨p.name,p.dev,if q=2 then z else p.l0,if q=3 then z else p.l1,if q=4 then z else p.l2⟩
theorem qdZ (l:List Pt) (i j:Nat) (p:Pt) (F:i<l.length):(l.set i p).getD j pt0=if i=j then p else l.getD j pt0:=by
 rw [qaa,List.getElem?_set,qaa]
 by_cases e:i=j
 ·subst e;rw [if_pos rfl,if_pos F,if_pos rfl];rfl
 ·rw [if_neg e,if_neg e]
theorem PaOwn.setL {W:World} {B:Nat} {J:Option Addr} {n c:Nat} {l:List Pt} (h:PaOwn W B (.slice J n c) l) {i:Nat} (hi:i<l.length) {q:Nat} (hq:q=2\/q=3\/q=4) (z:Int) :
  ∃g,J=some ⟨g,0,none⟩/\B<=g/\((W.cell? ⟨g,i*5+q,none⟩).isSome=true/\W.frozen? ⟨g,i*5+q,none⟩=false)/\PaOwn (W.setCell ⟨g,i*5+q,none⟩ (.int .i64 z)) B (.slice J n c) (l.set i ((l.getD i pt0).put q z)):=by
 obtain⟨vs,F,Y⟩:=h;rcases F.2 with ⟨_,V⟩ | ⟨g,cap,cur,e,hB,hg,hn,hm,Z,aa⟩
 ·omega
 ·injection e with e1 O U;subst e1 U;have H:=F.1;have I:∃v,W.cell? ⟨g,i*5+q,none⟩=some v:=by
   obtain⟨v,hv⟩:∃v,vs[i*5+q]? = some v:=⟨_,qad (by omega)⟩;have I:=World.ownsRow.cells (g:=g) F rfl (i*5+q) v hv;rw [Addr.add_mid,qaH] at I;exact⟨v,I⟩
  obtain⟨v,hv⟩:=I;refine⟨g,rfl,hB,⟨by rw [hv];rfl,qF _ _ _ _ _ hg⟩,vs.set (i*5+q) (.int .i64 z),⟨by rw [qaC,qaC];exact H,.inr ⟨g,c,_,by rw [qaC,O],hB,heap_setCell_same _ g (i*5+q) _ _ (.int .i64 z) hg,by rw [qaC];exact hn,hm,by rw [Array.size_setIfInBounds];exact Z,?_⟩⟩,fun j hj=>?_⟩
  ·rw [qaC,Array.toList_setIfInBounds,List.take_set,aa]
  ·rw [qaC] at hj;obtain⟨Bd,da,dc,⟨V,h1,h2,h3,h4⟩,ho⟩:=Y j hj;have hk:IOwn (W.setCell ⟨g,i*5+q,none⟩ (.int .i64 z)) Bd (.slice da (l.getD j pt0).dev.length dc) (l.getD j pt0).dev:=by
    refine World.ownsRow.kept ho (qbT W g (i*5+q) _) ?_;rcases ho.2 with ⟨e,_⟩ | ⟨g',cap',cur',e,_,G,_⟩
    ·rw [e];exact .inl rfl
    ·rw [e];refine .inr fun O=>?_
     have U:g'=g:=qah O;rw [U,hg] at G;cases G
   rw [qdZ l i j _ hi]
   by_cases e:i=j
   ·subst e;rw [if_pos rfl];refine⟨Bd,da,dc,⟨?_,?_,?_,?_,?_⟩,hk⟩
    ·rw [qbx (by omega)];exact V
    ·rw [qbx (by omega)];exact h1
    ·show _=some (Value.int .i64 (if q=2 then z else (l.getD i pt0).l0))
     by_cases e:q=2
     ·subst e;rw [if_pos rfl,List.getElem?_set_self (by omega)]
     ·rw [if_neg e,qbx (by omega)];exact h2
    ·show _=some (Value.int .i64 (if q=3 then z else (l.getD i pt0).l1))
     by_cases e:q=3
     ·subst e;rw [if_pos rfl,List.getElem?_set_self (by omega)]
     ·rw [if_neg e,qbx (by omega)];exact h3
    ·show _=some (Value.int .i64 (if q=4 then z else (l.getD i pt0).l2))
     by_cases e:q=4
     ·subst e;rw [if_pos rfl,List.getElem?_set_self (by omega)]
     ·rw [if_neg e,qbx (by omega)];exact h4
   ·rw [if_neg e];refine⟨Bd,da,dc,⟨?_,?_,?_,?_,?_⟩,hk⟩
    all_goals rw [qbx (by omega)]
    ·exact V
    ·exact h1
    ·exact h2
    ·exact h3
    ·exact h4
