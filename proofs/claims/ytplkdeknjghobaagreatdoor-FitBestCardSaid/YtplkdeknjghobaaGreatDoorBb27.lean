import Derived.Test.YtplkdeknjghobaaGreatDoorBb26
set_option maxRecDepth 100000
set_option maxHeartbeats 0
namespace Go.Proofs.YtplkdeknjghobaaGreatDoor
open Go.RowKit Go.Lib Go.Proofs.Tryz
theorem qjj {k:Nat} {dv:List Int} {l:List Rat} {n:Nat} (h:termL k dv=l) (F:l.length=n):(termL k dv).map ftxt=told n (fv l):=by
 rw [h,<-F,qnU]
theorem vals_two {y z:Int} (h:0<=y/\y<=10000) (H:0<=z/\z<=10000):qcJ [y,z]:=fun k F=>by
 have F:k<2:=F;rcases (show k=0\/k=1 by omega) with rfl | rfl
 ·exact h
 ·exact H
theorem ex_tm1 (W:World) (hT:HasT W):Calls prog 25 #[.int .i64 3,.slice (some ⟨W.heap.size,0,none⟩) 2 2] (W.alloc (.cells #[.int .i64 5000,.int .i64 10000] 3)) fun e F=>∃(p:Option Addr) (g c:Nat),e=.returned (.tuple #[.slice p 4 c,.int .i64 0])/\FCells F p g 0 (told 4 (fv [1,1 / 2,1,1 / 2]))/\Below W.heap.size W F:=by
 refine (qjk W 3 3 [5000,10000] 2 rfl kind3 (by decide) (by decide) (by decide) (vals_two (by decide) (by decide)) hT).mono ?_;rintro e F ⟨p,g,c,rfl,H,I⟩;rw [qjj (l:=[1,1 / 2,1,1 / 2]) (n:=4) (by decide +kernel) rfl] at H;exact⟨p,g,c,rfl,H,I⟩
theorem ex_tm2 (W:World) (hT:HasT W):Calls prog 25 #[.int .i64 2,.slice (some ⟨W.heap.size,0,none⟩) 1 1] (W.alloc (.cells #[.int .i64 5000] 3)) fun e F=>∃(p:Option Addr) (g c:Nat),e=.returned (.tuple #[.slice p 3 c,.int .i64 0])/\FCells F p g 0 (told 3 (fv [1,1 / 2,1 / 4]))/\Below W.heap.size W F:=by
 refine (qjk W 2 2 [5000] 1 rfl kind2 (by decide) (by decide) (by decide) (qfJ (by decide)) hT).mono ?_;rintro e F ⟨p,g,c,rfl,H,I⟩;rw [qjj (l:=[1,1 / 2,1 / 4]) (n:=3) (by decide +kernel) rfl] at H;exact⟨p,g,c,rfl,H,I⟩
theorem ex_tm3 (W:World) (hT:HasT W):Calls prog 25 #[.int .i64 4,.slice (some ⟨W.heap.size,0,none⟩) 1 1] (W.alloc (.cells #[.int .i64 0] 3)) fun e H=>e=.returned (.tuple #[.slice none 0 0,.int .i64 2])/\Below W.heap.size W H:=by
 have F:¬∃k,qcA 4 k:=fun⟨k,h⟩=>by have:=h.1;have:=h.2;omega
 refine qnR W 4 [0] 1 2 rfl (by decide) (fun e h=>?_) (fun⟨k,h,_⟩=>F ⟨k,h⟩) hT;rcases h with ⟨_,h⟩ | ⟨⟨h,_⟩,_⟩
 ·exact h
 ·exact absurd h F
theorem ex_f1 (W:World) (g c:Nat) (I:PCells W (some ⟨g,0,none⟩) g 0 ramp) (hT:HasT W):Calls prog 14 #[.slice (some ⟨g,0,none⟩) 3 c,.int .i64 1,.slice (some ⟨W.heap.size,0,none⟩) 3 3] (W.alloc (.cells #[.int .i64 1,.int .i64 1,.int .i64 1] 3)) fun e F=>∃v,e=.returned (.tuple #[v,.int .i64 0])/\MdAt F v (mdq 1 1 2 fitX1)/\Below W.heap.size W F:=by
 refine (qmj W ramp 3 g 0 c _ 1 [1,1,1] 3 rfl (by decide) rfl (by decide) qdJ I hT).mono ?_;intro e F h;obtain⟨J,v,he,H⟩:=ex_fit1 h;exact⟨v,he,H,qdc J⟩
theorem ex_f2 (W:World) (g c:Nat) (I:PCells W (some ⟨g,0,none⟩) g 0 ramp) (hT:HasT W):Calls prog 14 #[.slice (some ⟨g,0,none⟩) 3 c,.int .i64 2,.slice (some ⟨W.heap.size,0,none⟩) 3 3] (W.alloc (.cells #[.int .i64 1,.int .i64 1,.int .i64 1] 3)) fun e F=>∃v,e=.returned (.tuple #[v,.int .i64 0])/\MdAt F v (mdq 2 1 3 fitX2)/\Below W.heap.size W F:=by
 refine (qmj W ramp 3 g 0 c _ 2 [1,1,1] 3 rfl (by decide) rfl (by decide) qdJ I hT).mono ?_;intro e F h;obtain⟨J,v,he,H⟩:=ex_fit2 h;exact⟨v,he,H,qdc J⟩
theorem ex_f3 (w:World) (g g2 c:Nat) (I:PCells w (some ⟨g,0,none⟩) g 0 ramp) (hN:w.heap[g2]? = some (.cells #[.int .i64 1,.int .i64 1,.int .i64 0] 3 (0,0))) (hT:HasT w):Calls prog 14 #[.slice (some ⟨g,0,none⟩) 3 c,.int .i64 2,.slice (some ⟨g2,0,none⟩) 3 3] w fun e H=>e=.returned (.tuple #[mdv0,.int .i64 7])/\Below w.heap.size w H:=by
 have hN:=qfp (q:=[1,1,0]) hN 0;refine (qjF 3 g 0 c g2 0 3 3 (some ⟨g,0,none⟩) (some ⟨g2,0,none⟩) ramp 2 [1,1,0] w rfl (by decide) (fun k F=>⟨by have:=(qdJ k F).1;omega,by have:=(qdJ k F).2;omega⟩) rfl (by decide) I hN hT).mono ?_;intro e H h;obtain⟨J,he⟩:=ex_fit3 h;exact⟨he,J⟩
theorem ex_a1 (W:World) (v:Value) (H:MdAt W v (mdq 1 1 2 fitX1)) (hT:HasT W):Calls prog 22 #[v,.slice (some ⟨W.heap.size,0,none⟩) 1 1] (W.alloc (.cells #[.int .i64 5000] 3)) fun e F=>e=.returned (.tuple #[.agg #[.string ⟨#[49,54,48]⟩,.string ⟨#[51]⟩,.string ⟨#[48]⟩,.string ⟨#[49]⟩,.string ⟨#[48]⟩,.string ⟨#[49]⟩],.int .i64 0])/\Below W.heap.size W F:=by
 refine (qlQ (mdq 1 1 2 fitX1) v 1 W.heap.size 0 1 (some ⟨W.heap.size,0,none⟩) [5000] _ (H.below (alloc_old _ _)) rfl (by decide) (qjM (by decide)) (qfo W [5000]) (hT.below (alloc_old _ _))).mono ?_;intro e F h;obtain⟨I,he⟩:=ex_apply h;exact⟨he,qdc I⟩
theorem ex_s1 (w:World) (v:Value) (g c:Nat) (J:MdAt w v (mdq 1 1 2 fitX1)) (O:PCells w (some ⟨g,0,none⟩) g 0 ramp) (hT:HasT w):Calls prog 33 #[v,.slice (some ⟨g,0,none⟩) 3 c] w fun e F=>∃g,e=.returned (.tuple #[.slice (some ⟨g,0,none⟩) 3 3,.int .i64 0])/\FCells F (some ⟨g,0,none⟩) g 0 (told 3 (fv [100 / 9,400 / 9,100 / 9]))/\Below w.heap.size w F:=by
 refine (qg7 (mdq 1 1 2 fitX1) v 3 g 0 c (some ⟨g,0,none⟩) ramp w J rfl (by decide) (fun k H=>⟨by have:=(qdJ k H).1;omega,by have:=(qdJ k H).2;omega⟩) (qjM (by decide)) O hT).mono ?_;intro e F h;obtain⟨U,g,he,I⟩:=qkY h;exact⟨g,he,I,U⟩
theorem IOwn.cells {W:World} {B:Nat} {v:Value} {l:List Int} (h:IOwn W B v l) (I:0<l.length):∃g c,v=.slice (some ⟨g,0,none⟩) l.length c/\NCells W (some ⟨g,0,none⟩) g 0 l:=by
 have F:=h;rcases h.2 with ⟨_,h⟩ | ⟨g,cap,cur,rfl,_,_,_⟩
 ·omega
 ·refine⟨g,cap,rfl,fun _=>rfl,fun k H=>?_⟩;have:=World.ownsRow.cells F (g:=g) rfl k (.int .i64 (l.getD k 0)) (by rw [qay,qaa,qad H];rfl)
  rwa [Addr.add_mid] at this
theorem qly {W:World} {B j:Nat} {v:Value} {e:TypeId} {H:List Value} (h:W.ownsRow B e 1 v j H) (I:0<j):∃g c,v=.slice (some ⟨g,0,none⟩) j c/\∀k,k<j->W.cell? ⟨g,k,none⟩=some (H.getD k undef):=by
 have F:=h;rcases h.2 with ⟨_,h⟩ | ⟨g,cap,cur,rfl,_,_,_⟩
 ·omega
 ·refine⟨g,cap,rfl,fun k J=>?_⟩;have O:=h.1;have:=F.cells (g:=g) rfl k (H.getD k undef) (by rw [qaa,qad (by omega)];rfl)
  rwa [Addr.add_mid,qaM] at this
theorem eq_ints (I O c J U d:Nat) (F H:List Int) (n m:Nat) (w:World) (hn:F.length=n) (hm:H.length=m) (ae:n<=1000000) (aa:m<=1000000) (Y:NCells w (some ⟨I,O,none⟩) I O F) (Z:NCells w (some ⟨J,U,none⟩) J U H) :
  Calls prog 43 #[.slice (some ⟨I,O,none⟩) n c,.slice (some ⟨J,U,none⟩) m d] w fun e V=>e=.returned (.bool (F == H))/\Below w.heap.size w V:=by
 subst hn hm;refine (Tryz.slices_Equal_int I O F.length c J U H.length d F H w qN qN (by omega) (by omega) Y.cell Z.cell).mono ?_;rintro e V ⟨rfl,q,rfl⟩;rw [qbh,qbh];exact⟨rfl,below_drewN qB q⟩
theorem ql8 (W:World) (H I c:Nat) (F:List Int) (n:Nat) (J:F.length=n) (Y:n<=1000) (U:NCells W (some ⟨H,I,none⟩) H I F) :
  Calls prog 43 #[.slice (some ⟨H,I,none⟩) n c,.slice (some ⟨W.heap.size,0,none⟩) n n] (W.alloc (.cells (F.map fun z=>Value.int .i64 z).toArray 3)) fun e O=>e=.returned (.bool true)/\Below W.heap.size W O:=by
 refine (eq_ints H I c W.heap.size 0 n F F n n _ J J (by omega) (by omega) (U.below (alloc_old _ _)) (qfo W F)).mono ?_;rintro e O ⟨rfl,V⟩;exact⟨by simp,qdc V⟩
instance stays_sc2 {g off:Nat} {L:List ByteArray}:Stays fun W=>SCells W g off L:=⟨fun h F=>h.below F⟩
instance stays_isat {b:Nat} {L:List ByteArray}:Stays fun W=>IsAt W b L:=⟨fun h F=>h.below F⟩
def SC (s:ByteArray) (z:Value) (W:World):Prop:=∃g:Nat,z=.slice (some ⟨g,0,none⟩) 1 1/\W.heap[g]? = some (.cells #[.string s] 9 (0,0))
def QC (x1 x2:ByteArray) (z:Value) (W:World):Prop:=∃g c:Nat,z=.slice (some ⟨g,0,none⟩) 1 c/\(W.cell? ⟨g,0,none⟩=some (.string x1)/\W.cell? ⟨g,1,none⟩=some (.string x2))
def PC (x1 x2:ByteArray) (z:Value) (W:World):Prop:=∃g:Nat,z=.pointer (some ⟨g,0,none⟩)/\(W.cell? ⟨g,0,none⟩=some (.string x1)/\W.cell? ⟨g,1,none⟩=some (.string x2))
instance stays_sc {s:ByteArray} {z:Value}:Stays (SC s z):=⟨fun⟨g,F,H⟩ hb=>⟨g,F,zkeep hb _ _ H⟩⟩
instance stays_qc {x1 x2:ByteArray} {z:Value}:Stays (QC x1 x2 z):=⟨fun {W _} ⟨g,c,I,F,H⟩ hb=>⟨g,c,I,(hb.cell (qac W _ F)).trans F,(hb.cell (qac W _ H)).trans H⟩⟩
instance stays_pcx {x1 x2:ByteArray} {z:Value}:Stays (PC x1 x2 z):=⟨fun {W _} ⟨g,I,F,H⟩ hb=>⟨g,I,(hb.cell (qac W _ F)).trans F,(hb.cell (qac W _ H)).trans H⟩⟩
theorem q1_at (w:World) (g:Nat) (s x1 x2:ByteArray) (r:Rat) (hg:w.heap[g]? = some (.cells #[.string s] 9 (0,0))) (h:qf s=ftxt r) (hx:ftxt r=(x1,x2)) (Y:s.size<=65536) :
  Calls prog 24 #[.slice (some ⟨g,0,none⟩) 1 1] w fun e F=>∃g c,e=.returned (.slice (some ⟨g,0,none⟩) 1 c)/\(F.cell? ⟨g,0,none⟩=some (.string x1)/\F.cell? ⟨g,1,none⟩=some (.string x2))/\Below w.heap.size w F:=by
 refine (q_at 1 (L:=[s]) (l:=[r]) (SCells.row (L:=[s]) hg) rfl rfl (by decide) (by rw [qbv,qbQ,qbv,qbQ,h]) (fun t V=>by rw [qap.1 V];exact Y)).mono ?_;rintro e F ⟨ao,g,c,rfl,J,U⟩;have O:=J.addr (by rw [qb0];decide);subst O;obtain⟨H,I⟩:=J.cell 0 (by rw [qb0];decide);rw [qdr (by decide),show fv [r] 0=r from rfl,hx] at H I;exact⟨g,c,rfl,⟨H,I⟩,U⟩
theorem ex_e1 (w:World) (v:Value) (hM:MdAt w v (mdq 1 1 2 fitX1)) (hT:HasT w) (hE:HasE w):Calls prog 28 #[v] w fun e F=>∃(gr O g0 c0 g1 c1 go J:Nat),
  e=.returned (.tuple #[.agg #[.int .i64 2,.slice none 0 0,.slice (some ⟨gr,0,none⟩) 3 O,.slice (some ⟨go,0,none⟩) 3 J,.slice none 0 0,.int .i64 0,.slice none 0 0,.slice none 0 0,.int .i64 0,.int .i64 0],.int .i64 0]) /\
  (F.cell? ⟨gr,0,none⟩=some (.slice (some ⟨g0,0,none⟩) 1 c0)/\F.cell? ⟨gr,1,none⟩=some (.slice (some ⟨g1,0,none⟩) 1 c1)/\NCells F (some ⟨g0,0,none⟩) g0 0 [1000000]/\NCells F (some ⟨g1,0,none⟩) g1 0 [0]/\NCells F (some ⟨go,0,none⟩) go 0 [33333,500000,500000])/\Below w.heap.size w F:=by
 refine (qjC (mdq 1 1 2 fitX1) v w hM (qjM (by decide)) hT hE).mono ?_;rintro e F ⟨hb,⟨v,rfl,n,U,_,B,vr,vo,rfl,ho,vs,hr,hv⟩ | ⟨c,rfl,h⟩⟩
 ·obtain rfl:=(qiJ.uniq U).2;have e0:elOff (mdq 1 1 2 fitX1) 3=[33333,500000,500000]:=by
   show [elz _ 0 0,elz _ 1 0,elz _ 2 0]=_
   rw [(qht 0 (by decide)).1,(qht 1 (by decide)).1,(qht 2 (by decide)).1];rfl
  have e1:elRow (mdq 1 1 2 fitX1) 1 0=[1000000]:=by
   show [elz _ 0 1]=_
   rw [(qht 0 (by decide)).2];rfl
  have e2:elRow (mdq 1 1 2 fitX1) 1 1=[0]:=by
   show [elz _ 1 1]=_
   rw [(qht 1 (by decide)).2];rfl
  rw [e0] at ho;have h0:=(hv 0 (by decide)).1;have H:=(hv 1 (by decide)).1;rw [e1] at h0;rw [e2] at H;obtain⟨go,J,rfl,Z⟩:=IOwn.cells ho (by decide);obtain⟨gr,O,rfl,I⟩:=qly hr (by decide);obtain⟨g0,c0,aa,V⟩:=IOwn.cells h0 (by decide);obtain⟨g1,c1,ae,Y⟩:=IOwn.cells H (by decide);have r0:=I 0 (by decide);have r1:=I 1 (by decide);rw [aa] at r0;rw [ae] at r1;exact⟨gr,O,g0,c0,g1,c1,go,J,rfl,⟨r0,r1,V,Y,Z⟩,hb⟩
 ·exfalso;rcases h with ⟨h,_⟩ | ⟨_,h,_⟩ | ⟨n,U,h2,_⟩
  ·exact h ⟨_,_,qiJ⟩
  ·exact h rfl
  ·obtain rfl:=(qiJ.uniq U).2;exact h2 ex_elok
theorem eq_3f (w:World):(Op.equalIn 10000 65 (.agg #[.string ⟨#[49,54,48]⟩,.string ⟨#[51]⟩,.string ⟨#[48]⟩,.string ⟨#[49]⟩,.string ⟨#[48]⟩,.string ⟨#[49]⟩]) (.agg #[.string ⟨#[49,54,48]⟩,.string ⟨#[51]⟩,.string ⟨#[48]⟩,.string ⟨#[49]⟩,.string ⟨#[48]⟩,.string ⟨#[49]⟩])).run prog w=.ok true w:=by kernel_rfl
theorem conv4s (F H I J:UInt8) (n0 n1 n2 O:Int) (U:n0=(F.toNat:Nat)) (V:n1=(H.toNat:Nat)) (Y:n2=(I.toNat:Nat)) (Z:O=(J.toNat:Nat)) (W:World) :
  (convert 302 9 (.slice (some ⟨W.heap.size,0,none⟩) 4 4)).run prog (W.alloc (.cells #[.int .u8 n0,.int .u8 n1,.int .u8 n2,.int .u8 O] 5))=.ok (.string ⟨#[F,H,I,J]⟩) (W.alloc (.cells #[.int .u8 n0,.int .u8 n1,.int .u8 n2,.int .u8 O] 5)):=by
 subst U V Y Z;refine run_convert_bytes_back (P:=prog) _ 302 9 5 ⟨W.heap.size,0,none⟩ 4 [F,H,I,J] underlying302 underlying5 underlying9 ?_;intro j hj;have hg:=heap_alloc_new W (.cells #[.int .u8 (F.toNat:Nat),.int .u8 (H.toNat:Nat),.int .u8 (I.toNat:Nat),.int .u8 (J.toNat:Nat)] 5)
 match j,hj with
 | 0,_=>exact qC _ _ 0 _ _ _ hg
 | 1,_=>exact qC _ _ 1 _ _ _ hg
 | 2,_=>exact qC _ _ 2 _ _ _ hg
 | 3,_=>exact qC _ _ 3 _ _ _ hg
def g4 (i:Nat):ByteArray:=⟨#[48,48,UInt8.ofNat (48+i / 10),UInt8.ofNat (48+i % 10)]⟩
theorem qnf {n:Nat} (h:n<12):(UInt8.ofNat (48+n)).toNat=48+n:=by
 rcases (show n=0\/n=1\/n=2\/n=3\/n=4\/n=5\/n=6\/n=7\/n=8\/n=9\/n=10\/n=11 by omega) with rfl | rfl | rfl | rfl | rfl | rfl | rfl | rfl | rfl | rfl | rfl | rfl <;> rfl
theorem fourS (i:Nat) (O:i<12) (w:World):Calls prog 274 #[.int .i64 (i:Int)] w fun e J=>e=.returned (.string (g4 i))/\Below w.heap.size w J:=by
 obtain⟨b,H⟩:=qX (i / 10);obtain⟨c,I⟩:=qX (i % 10);have F:=conv4s 48 48 (UInt8.ofNat (48+b)) (UInt8.ofNat (48+c)) 48 48 (48+(b:Int)) (48+(c:Int)) rfl rfl (by rw [qnf (by omega)];omega) (by rw [qnf (by omega)];omega);have hg:g4 i=⟨#[48,48,UInt8.ofNat (48+b),UInt8.ofNat (48+c)]⟩:=by unfold g4;rw [H,I]
 rw [<-hg] at F;have Y:(i:Int) / 1000=0:=by omega
 have t2:(i:Int) / 100=0:=by omega
 have t4:(i:Int) / 10=b:=by omega
 have t5:(b:Int) % 10=b:=by omega
 have Z:(i:Int) % 10=c:=by omega
 have U:b<2:=by omega
 have V:c<10:=by omega
 clear H I hg;generalize g4 i=G at *;go_enter func274,ntmps274;go_wp2;go_ret;exact⟨rfl,qbU qB qN⟩
def PlS (W:World) (v:Value) (i:Nat):Prop:=∃(F:Option Addr) (n c:Nat),v=.agg #[.bool false,.slice F n c]/\((i=0/\n=0)\/(i≠0/\n=1/\∃g,F=some ⟨g,0,none⟩/\W.cell? ⟨g,0,none⟩=some (.int .i64 (i:Int))))
theorem cutS0 (w:World):Calls prog 271 #[.slice none 0 0] w fun e F=>e=.returned (.slice none 0 0)/\F=w:=by
 go_enter func271,ntmps271;go_wp2_with fail
 go_loopw [3] (fun x3 W=>x3=.int .i64 0/\W=w) (fun _ _=>0)
 case atStart=>exact⟨rfl,rfl⟩
 case round =>
  obtain⟨rfl,rfl⟩:=hrel;go_wp2;go_ret;exact⟨rfl,rfl⟩
theorem cutS1 (g c:Nat) (z:Int) (O:z≠0) (Y:1<=c) (J:c<=9223372036854775807) (w:World) (H:w.cell? ⟨g,0,none⟩=some (.int .i64 z)):Calls prog 271 #[.slice (some ⟨g,0,none⟩) 1 c] w fun e V=>e=.returned (.slice (some ⟨g,0,none⟩) 1 c)/\V=w:=by
 have U:(z == 0)=false:=by rw [beq_eq_false_iff_ne];exact O
 have I:=qH H;clear H;go_enter func271,ntmps271;go_wp2_with fail
 go_loopw [3] (fun x3 W=>x3=.int .i64 1/\Hu (W=w)) (fun _ _=>0)
 case atStart=>exact⟨rfl,qH rfl⟩
 case round =>
  obtain⟨rfl,F⟩:=hrel;have F:=F.o.symm;subst F;have H:=I.o;go_wp2;go_ret;exact⟨rfl,rfl⟩
theorem madeS (F:Option Addr) (n c:Nat) (w:World) (_hn:n<=1) (O:∀W,Below w.heap.size w W->Calls prog 271 #[.slice F n c] W fun e J=>e=.returned (.slice F n c)/\J=W) :
  Calls prog 241 #[.bool false,.slice F n c] w fun e J=>e=.returned (.agg #[.bool false,.slice F n c])/\Below w.heap.size w J:=by
 obtain⟨V,H,I⟩:=nw1 w #[.bool false,.slice none 0 0] 180;have U:=qH (O V I.o.1);clear O;go_enter func241,ntmps241;go_upto_region 1 with fail;rw [<-H];clear H;go_wp2_with fail;refine U.o.mono ?_;rintro e Z ⟨rfl,Y⟩;subst Y
 go_wp2_with ((with_reducible refine sR_ rfl 180 _ _ rfl (w.heap.size) #[.bool false,.slice F n c] I.o.2 2 ?_))
 exact qR (v:=.agg #[.bool false,.slice F n c]) (rA_ rfl (w.heap.size) (qT _ _ _ _ _ _ I.o.2) underlying180 2) rfl ⟨rfl,qS I.o.1 qN _⟩
theorem integerS (i:Nat) (hi:i<12) (w:World):Calls prog 189 #[.int .i64 (i:Int)] w fun e w'=>∃v,e=.returned v/\PlS w' v i/\Below w.heap.size w w':=by
 obtain⟨F,aa,K1⟩:=nw1 w #[.bool false,.slice none 0 0] 180;have h0:¬(i:Int)<0:=by omega
 go_enter func189,ntmps189;go_upto_region 1 with fail;rw [<-aa];clear aa;go_wp2_with fail
 go_loopw [0,3] (fun x0 x3 W=>(x0=.int .i64 (i:Int)/\x3=.slice none 0 0/\Hu (W=F))\/(i≠0/\x0=.int .i64 0/\Hu (IOwn W F.heap.size x3 [(i:Int)]/\Below F.heap.size F W))) (fun x0 _ _=>(RowKit.intOf x0).toNat)
 case atStart=>exact .inl ⟨rfl,rfl,qH rfl⟩
 case round =>
  rcases hrel with ⟨rfl,rfl,O⟩ | ⟨ah,rfl,hI⟩
  ·have O:=O.o.symm;subst O
   by_cases hz:i=0
   ·have HC:=qH (madeS none 0 0 F (by decide) (fun W _=>cutS0 W));subst hz;go_wp2_with fail;refine HC.o.mono ?_;rintro e w2 ⟨rfl,H⟩;have K2:=K1.below H;clear H
    go_wp2_with ((with_reducible refine sR_ rfl 180 _ _ rfl (w.heap.size) #[.bool false,.slice none 0 0] K2.o.2 2 ?_))
    exact qR (v:=.agg #[.bool false,.slice none 0 0]) (rA_ rfl (w.heap.size) (qT _ _ _ _ _ _ K2.o.2) underlying180 2) rfl ⟨_,rfl,⟨none,0,0,rfl,.inl ⟨rfl,rfl⟩⟩,qS K2.o.1 qN _⟩
   ·have hne:((i:Int) != 0)=true:=by rw [bne_iff_ne];omega
    have m1:(i:Int) % 10000=i:=by omega
    have m2:(i:Int) / 10000=0:=by omega
    have ai:IOwn F F.heap.size (.slice none 0 0) []:=⟨rfl,.inl ⟨rfl,rfl⟩⟩;have HN:=qH hz;clear hz
    go_wp2_with (first | (at_builtin;refine qfX rfl _ _ rfl ai qN rfl rfl rfl (by decide) ?_;intro v' w' aj ae;have af:Hu (Below F.heap.size F w'):=qH (qdZ (B:=F.heap.size) (qbU qB qN) (fun q hq=>by cases hq) (by simp only [qab];omega) ae.o);clear ae) | fail)
    go_roundw
    case rel=>exact .inr ⟨HN.o,rfl,qH ⟨aj.o,af.o⟩⟩
    case measure=>have:=HN.o;simp [RowKit.intOf];omega
  ·obtain⟨g,c,e,hN⟩:=IOwn.cells hI.o.1 Nat.zero_lt_one;have V:1<=c/\c<=9223372036854775807:=by
    rcases hI.o.1.2 with ⟨e2,h⟩ | ⟨g',cap,cur,e2,_,_,h1,h2,_⟩
    ·cases h
    ·rw [e] at e2;injection e2 with _ _ e3;subst e3;unfold maxLen at h2;exact⟨h1,by omega⟩
   have I:wr.cell? ⟨g,0,none⟩=some (.int .i64 (i:Int)):=hN.cell 0 Nat.zero_lt_one;have K2:=K1.below hI.o.2;have Y:=(qac wr _ I:g<_);have ag:w.heap.size<g\/w.heap.size=g\/g<w.heap.size:=by omega
   have HC:=qH (madeS (some ⟨g,0,none⟩) 1 c wr (by decide) (fun W H=>cutS1 g c i (by omega) V.1 V.2 W ((H.cell (p:=⟨g,0,none⟩) Y).trans I)));have HH:=qH (qA I (qA Y hI.o.1));rw [show [(i:Int)].length=1 from rfl] at e;subst e;clear hI hN V I Y ag;go_wp2_with fail;refine HC.o.mono ?_;rintro e w2 ⟨rfl,H⟩;have K3:=K2.below H;have Z:=HH.o.2.2.below H;have U:=(H.cell (p:=⟨g,0,none⟩) HH.o.2.1).trans HH.o.1;have J:g≠w.heap.size:=fun e=>by
    subst e;have:=qC _ _ 0 _ _ _ K3.o.2;rw [U] at this;cases this
   have HE:=qH (qA U J);clear H Z U J K2
   go_wp2_with ((with_reducible refine sR_ rfl 180 _ _ rfl (w.heap.size) #[.bool false,.slice (some ⟨g,0,none⟩) 1 c] K3.o.2 2 ?_))
   exact qR (v:=.agg #[.bool false,.slice (some ⟨g,0,none⟩) 1 c]) (rA_ rfl (w.heap.size) (qT _ _ _ _ _ _ K3.o.2) underlying180 2) rfl ⟨_,rfl,⟨some ⟨g,0,none⟩,1,c,rfl,.inr ⟨ah,rfl,g,rfl,(World.cell?_of_block (setRow_other _ _ _ _ HE.o.2)).trans HE.o.1⟩⟩,qS K3.o.1 qN _⟩
def z4 (i:Nat):Nat:=if i<10 then 3 else 2
theorem qm1 {a:ByteArray} (h:a.size≠0):a.toList.isEmpty=false:=by
 rw [ByteArray.toList_eq];cases e:a.data.toList with
 | nil=>exact absurd (show a.size=0 by show a.data.size=0;rw [<-qbm,e];rfl) h
 | cons x l=>rfl
theorem ext4 (i:Nat) (H:i<12) (F:i≠0):(g4 i).extract (z4 i) (g4 i).size=num i:=by
 unfold num;rcases (show i=1\/i=2\/i=3\/i=4\/i=5\/i=6\/i=7\/i=8\/i=9\/i=10\/i=11 by omega) with rfl | rfl | rfl | rfl | rfl | rfl | rfl | rfl | rfl | rfl | rfl <;> first | (rw [qb1 (by decide)];rfl) | (rw [qca (by decide),qb1 (by decide)];rfl)
theorem textS (i:Nat) (hi:i<12) (v:Value) (w:World) (hv:PlS w v i):Calls prog 251 #[v] w fun e w'=>e=.returned (.string (num i))/\Below w.heap.size w w':=by
 obtain⟨ao,n,c,rfl,h⟩:=hv;obtain⟨O,H,J⟩:=nw1 w #[.bool false,.slice ao n c] 180;rcases h with ⟨rfl,rfl⟩ | ⟨aa,rfl,g,rfl,Z⟩
 ·have c0:=qC _ _ 0 _ _ _ J.o.2;have c1:=qC _ _ 1 _ _ _ J.o.2;go_enter func251,ntmps251;go_upto_region 1 with fail;rw [<-H];clear H;go_wp2_with fail
  go_loopw [3,4] (fun x3 x4 W=>x3=.string ⟨#[]⟩/\x4=.int .i64 (-1)/\Hu (W=O)) (fun _ _ _=>0)
  case atStart=>exact⟨rfl,rfl,qH rfl⟩
  case round =>
   obtain⟨rfl,rfl,F⟩:=hrel;have F:=F.o.symm;subst F;go_wp2_with fail
   go_loopw [5] (fun x5 W=>x5=.int .i64 0/\Hu (W=O)) (fun _ _=>0)
   case atStart=>exact⟨rfl,qH rfl⟩
   case round =>
    obtain⟨rfl,F⟩:=hrel;have F:=F.o.symm;subst F;go_wp2;go_ret;exact⟨by unfold num;rw [qb1 (by decide)];rfl,J.o.1⟩
 ·have HF:=qH fun W=>fourS i hi W
  have V:=(J.o.1.cell (qac w _ Z)).trans Z;have c0:=qC _ _ 0 _ _ _ J.o.2;have c1:=qC _ _ 1 _ _ _ J.o.2;have I:=qH (qA V (qA c0 c1));clear Z V c0 c1;go_enter func251,ntmps251;go_upto_region 1 with fail;rw [<-H];clear H;have c1:=I.o.2.2;go_wp2_with fail;clear c1
  go_loopw [3,4] (fun x3 x4 W=>(x3=.string ⟨#[]⟩/\x4=.int .i64 0\/x3=.string (g4 i)/\x4=.int .i64 (-1))/\Hu (Below O.heap.size O W)) (fun _ x4 _=>(RowKit.intOf x4+1).toNat)
  case atStart=>exact⟨.inl ⟨rfl,rfl⟩,qH qB⟩
  case round =>
   obtain⟨hx,U⟩:=hrel;have c1:=(U.o.cell (qac O _ I.o.2.2)).trans I.o.2.2;have cv:=(U.o.cell (qac O _ I.o.1)).trans I.o.1;have c0:=(U.o.cell (qac O _ I.o.2.1)).trans I.o.2.1;rcases hx with ⟨rfl,rfl⟩ | ⟨rfl,rfl⟩
   ·have af:∀W,(Op.stringOp .add ⟨#[]⟩ (g4 i)).run prog W=.ok (.string (g4 i)) W:=fun W=>by
     have h:=run_string_add_sum (P:=prog) W ⟨#[]⟩ (g4 i) (by have h1:(⟨#[]⟩:ByteArray).size=0:=rfl;have h2:(g4 i).size=4:=rfl;omega);have e:(⟨#[]⟩:ByteArray)++g4 i=g4 i:=by rcases (show i=1\/i=2\/i=3\/i=4\/i=5\/i=6\/i=7\/i=8\/i=9\/i=10\/i=11 by omega) with rfl | rfl | rfl | rfl | rfl | rfl | rfl | rfl | rfl | rfl | rfl <;> rfl
     rwa [e] at h
    go_wp2_with fail;refine (HF.o _).mono ?_;rintro e w2 ⟨rfl,hb⟩;have HB:=qH (U.o.trans (hb.mono U.o.size));clear hb c1 cv c0;go_wp2;go_roundw
    case rel=>exact⟨.inr ⟨rfl,rfl⟩,HB⟩
    case measure=>simp [RowKit.intOf]
   ·go_wp2_with fail;have HK:=qH (J.o.1.trans (U.o.mono J.o.1.size));clear c1 cv;have K0:=qH c0;clear c0 U HF I
    go_loopw [5] (fun x5 W=>∃k:Nat,x5=.int .i64 (k:Int)/\k<=z4 i/\Hu (W=wr)) (fun x5 _=>4-(RowKit.intOf x5).toNat)
    case atStart=>exact⟨0,rfl,qal _,qH rfl⟩
    case round =>
     obtain⟨k,rfl,Y,F⟩:=hrel;have F:=F.o.symm;subst F;have c0:_=some (Value.bool false):=K0.o;clear K0;have ae:k<=3:=by unfold z4 at Y;split at Y <;> omega
     rcases (show i=1\/i=2\/i=3\/i=4\/i=5\/i=6\/i=7\/i=8\/i=9\/i=10\/i=11 by omega) with rfl | rfl | rfl | rfl | rfl | rfl | rfl | rfl | rfl | rfl | rfl
     all_goals rcases (show k=0\/k=1\/k=2\/k=3 by omega) with rfl | rfl | rfl | rfl
     all_goals try exact absurd Y (by decide)
     all_goals clear Y ae
     all_goals go_wp2_with fail
     all_goals first
      | exact⟨⟨1,rfl,by decide,qH trivial⟩,by decide⟩
      | exact⟨⟨2,rfl,by decide,qH trivial⟩,by decide⟩
      | exact⟨⟨3,rfl,by decide,qH trivial⟩,by decide⟩
      | skip
     all_goals go_ret
     all_goals first | exact⟨congrArg (fun s=>Ending.returned (Value.string s)) (ext4 _ hi aa),HK.o⟩ | exact absurd ‹((g4 _).extract _ _).toList.isEmpty=true› (by rw [qm1 (by decide)];decide)
theorem qnd (i:Nat) (F:i<12):(num i).size<=4:=by
 rcases (show i=0\/i=1\/i=2\/i=3\/i=4\/i=5\/i=6\/i=7\/i=8\/i=9\/i=10\/i=11 by omega) with rfl | rfl | rfl | rfl | rfl | rfl | rfl | rfl | rfl | rfl | rfl | rfl <;> (unfold num;first | (rw [qb1 (by decide)];decide) | (rw [qca (by decide),qb1 (by decide)];decide))
theorem outS (i:Nat) (Z:i<12) (v:Value) (w:World) (hv:PlS w v i):Calls prog 194 #[v] w fun e w'=>e=.returned (.tuple #[.string (num i),.int .i64 0])/\Below w.heap.size w w':=by
 obtain⟨ao,n,c,rfl,h⟩:=hv;obtain⟨U,F,I⟩:=nw1 w #[.bool false,.slice ao n c] 180;have H:PlS U (.agg #[.bool false,.slice ao n c]) i:=⟨ao,n,c,rfl,h.imp id fun⟨a,b,g,e,Y⟩=>⟨a,b,g,e,(I.o.1.cell (qac w _ Y)).trans Y⟩⟩;have HT:=qH (textS i Z _ U H);have J:=qnd i Z;have aa:¬(((num i).size:Nat):Int) > 600:=by omega
 clear H h J;generalize num i=S at *;go_enter func194,ntmps194;go_upto_region 1 with fail;rw [<-F];clear F
 go_wp2_with ((with_reducible refine lW_ rfl 180 _ rfl (w.heap.size) #[.bool false,.slice ao n c] I.o.2 underlying180 2 ?_))
 refine HT.o.mono ?_;rintro e w2 ⟨rfl,V⟩;have O:=I.below V;have c0:=qC _ _ 0 _ _ _ O.o.2;clear V I;go_wp2_with fail
 go_ret2
 exact⟨rfl,O.o.1⟩
end Go.Proofs.YtplkdeknjghobaaGreatDoor
namespace Go.Proofs.YtplkdeknjghobaaGreatDoor
open Go.RowKit Go.Proofs.Tryz
theorem rof_any (i:Nat) (J:i<12) (w:World):Calls prog 122 #[.int .i64 (i:Int)] w fun e w'=>e=.returned (.string (num i))/\Below w.heap.size w w':=by
 have Y:=qH (integerS i J w);have Z:=qH fun v W H=>outS i J v W H
 clear J;go_enter func122,ntmps122;go_wp2_with fail;refine Y.o.mono ?_;rintro e w2 ⟨v,rfl,H,U⟩;have V:=qH (Z.o v w2 H);have O:=qH U;clear U H;go_wp2_with fail;refine V.o.mono ?_;rintro e w3 ⟨rfl,F⟩;have I:=qH (O.o.trans (F.mono O.o.size));clear F;go_wp2;go_ret;exact⟨rfl,I.o⟩
structure PRws (W:World) (ao:Option Addr) (b off:Nat) (L:List (List Int)):Prop where
 addr:0<L.length->ao=some ⟨b,off,none⟩
 cell:∀k,k<L.length->∀j,j<7->W.cell? ⟨b,off+k*7+j,none⟩=some (.int .i16 ((L.getD k []).getD j 0))
 rng:∀k j,-32768<=(L.getD k []).getD j 0/\(L.getD k []).getD j 0<=32767
theorem PRws.below {W W':World} {F:Option Addr} {b off:Nat} {L:List (List Int)} (h:PRws W F b off L) (J:Below W.heap.size W W'):PRws W' F b off L :=
 ⟨h.addr,fun k I j H=>(J.cell (qac W _ (h.cell k I j H))).trans (h.cell k I j H),h.rng⟩
instance stays_prws {F:Option Addr} {b off:Nat} {L:List (List Int)}:Stays fun W=>PRws W F b off L:=⟨fun h H=>h.below H⟩
def devD (k:Nat) (F:List Int):List Int:=(List.range k).map fun j=>patD (F.getD j 0)
theorem qgh (k:Nat) (F:List Int):(devD k F).length=k:=by unfold devD;simp
theorem ql2 (k:Nat) (F:List Int):devD (k+1) F=devD k F++[patD (F.getD k 0)]:=by unfold devD;rw [List.range_succ,qa3];rfl
theorem qdI {W:World} {B m:Nat} {v:Value} {l:List Int} (h:IOwn W B v l) (H:l.length=m):∃(F:Option Addr) (cap:Nat),v=.slice F m cap:=by subst H;exact qdU h
structure PoSt (w3 W:World) (g8 B:Nat) (nm:ByteArray) (Z:Array Value) (zs:List Int) (k:Nat) (v:Value):Prop where
 old:Below w3.heap.size w3 W
 row:W.heap[w3.heap.size]? = some (.cells #[.string nm,v,.int .i64 0,.int .i64 0,.int .i64 0] 55 (0,0))
 zr:W.heap[g8]? = some (.cells Z 201 (0,0))
 base:w3.heap.size<g8/\g8<B/\B<=W.heap.size
 own:IOwn W B v (devD k zs)
theorem PoSt.push {I W O H:World} {V B:Nat} {nm:ByteArray} {Z:Array Value} {zs:List Int} {k:Nat} {v J:Value} (h:PoSt I W V B nm Z zs k v) (hb:Below W.heap.size W O) (ho:IOwn H B J (devD (k+1) zs))
  (hk:J.ownBlock=v.ownBlock/\O.grownBy H v.ownBlock\/J.ownBlock=some O.heap.size/\O.grownBy H none) :
  (H.cell? ⟨I.heap.size,1,none⟩=some v/\H.frozen? ⟨I.heap.size,1,none⟩=false)/\PoSt I (H.setCell ⟨I.heap.size,1,none⟩ J) V B nm Z zs (k+1) J:=by
 have aa:=h.own.lt;have Y:Below B O H:=by
  have hs:=hb.size;have af:=h.base.2.2;rcases hk with ⟨_,hg⟩ | ⟨_,hg⟩
  ·exact⟨hg.os,hg.tape,hg.output,hg.size,fun q hq=>hg.block q (by omega) (fun e=>by have:=(aa q e.symm).1;omega)⟩
  ·exact⟨hg.os,hg.tape,hg.output,hg.size,fun q hq=>hg.block q (by omega) (fun e=>by cases e)⟩
 have U:Below B W H:=(hb.mono h.base.2.2).trans Y;have F:=(U.block _ (Nat.lt_trans h.base.1 h.base.2.1)).trans h.row;have ae:=(U.block _ h.base.2.1).trans h.zr;refine⟨⟨qC _ _ 1 _ _ _ F,qF _ _ _ _ _ F⟩,(h.old.trans (U.mono (by have:=h.base.1;have:=h.base.2.1;omega))).setCell (p:=⟨I.heap.size,1,none⟩) qN _,heap_setCell_same _ _ 1 _ _ _ F,?_,⟨h.base.1,h.base.2.1,by rw [qbt];exact qaj h.base.2.2 U.size⟩,?_⟩
 ·rw [qW _ _ _ _ (show V≠I.heap.size by have:=h.base.1;omega)];exact ae
 ·exact World.ownsRow.kept ho (qbW H I.heap.size 1 J) (by
   cases e:J.ownBlock with
   | none=>exact .inl rfl
   | some q=>exact .inr (fun e2=>by have:=(ho.lt q e).1;have:=qah e2;have:=h.base;omega))
def PtV (W:World) (u:Value) (p:Pt):Prop:=∃(B:Nat) (F:Option Addr) (H:Nat),u=.agg #[.string p.name,.slice F p.dev.length H,.int .i64 p.l0,.int .i64 p.l1,.int .i64 p.l2]/\IOwn W B (.slice F p.dev.length H) p.dev
theorem one_any (ch:Nat) (L:List (List Int)) (ao:Option Addr) (b off c i n:Nat) (w:World) (hi:i<L.length) (V:i<12) (h1:1<=n) (h4:n<=4) (hl:L.length<=9223372036854775807) (hP:PRws w ao b off L) :
  Calls prog 49 #[.agg #[.int .u8 (ch:Int),.slice ao L.length c],.int .i64 (i:Int),.int .i64 (n:Int)] w fun e w'=>∃u,e=.returned u/\PtV w' u (ptD n i (L.getD i []))/\Below w.heap.size w w':=by
 obtain⟨W2,aJ,N2⟩:=nw2 w #[.int .u8 (ch:Int),.slice ao L.length c] 24 #[.string ⟨#[]⟩,.slice none 0 0,.int .i64 0,.int .i64 0,.int .i64 0] 55;have K2:=N2.also (q:=fun W=>PRws W ao b off L) (hP.below N2.o.1);obtain rfl:=hP.addr (by omega);have hr:=fun j=>hP.rng i j
 obtain⟨zs,aI⟩:=qX (L.getD i []);rw [aI] at hr ⊢;have bf:=qH aI;clear hP N2 aI;go_enter func49,ntmps49;go_upto_region 1 with fail;rw [<-aJ];clear aJ;go_wp2_with fail;refine (rof_any i V W2).mono ?_;rintro e F ⟨rfl,hb⟩;have K3:=K2.below hb;clear hb K2;obtain⟨W4,ah,N4⟩:=nw1 F #[.string (nmD i),.slice none 0 0,.int .i64 0,.int .i64 0,.int .i64 0] 55;have au:=nm_eq i V;obtain⟨nm,Y⟩:∃x,nmD i=x:=⟨_,rfl⟩;rw [Y] at au ah N4;have bA:=qnd i V;have af:∀W,(Op.stringOp .add ⟨#[112]⟩ (num i)).run prog W=.ok (.string nm) W:=fun W=>by
  rw [<-au];exact run_string_add_sum W _ _ (by have:(⟨#[112]⟩:ByteArray).size=1:=rfl;omega)
 obtain⟨ni,aN⟩:∃x,num i=x:=⟨_,rfl⟩;rw [aN] at af ⊢;clear bA au aN;go_upto_region 2 with fail;rw [<-ah];clear af;have bg:=qH Y;clear ah Y;have K4:=K3.below N4.o.1;have c1:=qC _ _ 1 _ _ _ K4.o.1.2.1;have z0:W4.cell? ⟨b,off+i*7,none⟩=_:=K4.o.2.cell i hi 0 (by decide);have z1:=K4.o.2.cell i hi 1 (by decide);have z2:=K4.o.2.cell i hi 2 (by decide);have z3:=K4.o.2.cell i hi 3 (by decide);have z4:=K4.o.2.cell i hi 4 (by decide);have z5:=K4.o.2.cell i hi 5 (by decide);have z6:=K4.o.2.cell i hi 6 (by decide);rw [bf.o] at z0 z1 z2 z3 z4 z5 z6;obtain⟨y0,aA⟩:∃y,zs.getD 0 0=y:=⟨_,rfl⟩;obtain⟨y1,aB⟩:∃y,zs.getD 1 0=y:=⟨_,rfl⟩;obtain⟨y2,aC⟩:∃y,zs.getD 2 0=y:=⟨_,rfl⟩;obtain⟨y3,aD⟩:∃y,zs.getD 3 0=y:=⟨_,rfl⟩;obtain⟨y4,aF⟩:∃y,zs.getD 4 0=y:=⟨_,rfl⟩;obtain⟨J,aG⟩:∃y,zs.getD 5 0=y:=⟨_,rfl⟩;obtain⟨y6,aH⟩:∃y,zs.getD 6 0=y:=⟨_,rfl⟩;rw [aA] at z0;rw [aB] at z1;rw [aC] at z2;rw [aD] at z3;rw [aF] at z4;rw [aG] at z5;rw [aH] at z6;have HY:=qH (qA (qA aA (qA aB (qA aC aD))) (qA aF (qA aG aH)));have HR:=qH hr;have bn:(i:Int)<(L.length:Int):=by omega
 clear aA aB aC aD aF aG aH hr;obtain⟨W5,aK,N5⟩:=nw1 W4 #[.int .i16 y0,.int .i16 y1,.int .i16 y2,.int .i16 y3,.int .i16 y4,.int .i16 J,.int .i16 y6] 201;have aR:F.heap.size<W4.heap.size:=(qG N4.o.2).1;have aS:W4.heap.size<W5.heap.size:=(qG N5.o.2).1;have H0:Hu (PoSt F W5 W4.heap.size W5.heap.size nm #[.int .i16 y0,.int .i16 y1,.int .i16 y2,.int .i16 y3,.int .i16 y4,.int .i16 J,.int .i16 y6] zs 0 (.slice none 0 0)):=qH
  ⟨N4.o.1.trans (N5.o.1.mono N4.o.1.size),zkeep N5.o.1 _ _ N4.o.2,N5.o.2,⟨aR,aS,qae _⟩,⟨rfl,.inl ⟨rfl,rfl⟩⟩⟩
 go_upto_region 3 with fail;rw [<-aK];obtain⟨B,hB⟩:=qX W5.heap.size;obtain⟨g8,ak⟩:=qX W4.heap.size;rw [hB,ak] at H0;rw [ak];clear aK hB ak aR aS N4 N5 K4 c1 z0 z1 z2 z3 z4 z5 z6 bn;go_wp2_with fail
 go_loopw [9] (fun x9 W=>∃k:Nat,x9=.int .i64 (k:Int)/\k<=n/\Hu (∃v,PoSt F W g8 B nm #[.int .i16 y0,.int .i16 y1,.int .i16 y2,.int .i16 y3,.int .i16 y4,.int .i16 J,.int .i16 y6] zs k v)) (fun x9 _=>n-(intOf x9).toNat)
 case atStart=>exact⟨0,rfl,qal _,qH ⟨_,H0.o⟩⟩
 case round =>
  obtain⟨k,rfl,hk,hS⟩:=hrel;obtain⟨v,hm⟩:=hS.o;have H:=qH hm;clear hS
  by_cases bv:k<n
  ·have bu:(k:Int)<(n:Int):=by omega
   obtain⟨z,hz⟩:=qX (zs.getD k 0);have bD:wr.cell? ⟨g8,k,none⟩=some (.int .i16 z):=by
    rcases (show k=0\/k=1\/k=2\/k=3 by omega) with rfl | rfl | rfl | rfl
    ·rw [<-hz,HY.o.1.1];exact qC _ _ 0 _ _ _ hm.zr
    ·rw [<-hz,HY.o.1.2.1];exact qC _ _ 1 _ _ _ hm.zr
    ·rw [<-hz,HY.o.1.2.2.1];exact qC _ _ 2 _ _ _ hm.zr
    ·rw [<-hz,HY.o.1.2.2.2];exact qC _ _ 3 _ _ _ hm.zr
   have aW:=HR.o k;rw [hz] at aW;have HZ:=qH hz;have bE:(k:Int)<7:=by omega
   clear hz hm
   go_upto_if 30 with fail
   go_cut [10] (fun x10 W=>x10=.int .i64 (z.natAbs:Int)/\Hu (W=wr))
   case first =>
    by_cases bG:z<0
    ·go_wp2;go_meet;exact⟨congrArg (Value.int .i64) (by omega),qH rfl⟩
    ·go_wp2;go_meet;exact⟨congrArg (Value.int .i64) (by omega),qH rfl⟩
   case rest =>
    obtain⟨rfl,ai⟩:=hcut;have ai:=ai.o.symm;subst ai;obtain⟨p,hp⟩:=qX (patD z);have aP:(z.natAbs:Int) % 9*1250=p:=by
     rw [<-hp];unfold patD;omega
    have bB:=qnl z;rw [hp] at bB;have aY:=qH (qA hp aP);obtain⟨x,hx⟩:=qX z.natAbs;rw [hx] at aP ⊢;have bF:x<=32768:=by omega
    have c1:=qC _ _ 1 _ _ _ H.o.row;obtain⟨va,vc,az⟩:=qdI H.o.own (qgh _ _);subst az;have aX:=qH H.o.own;have bi:=H.o.base.2.2;have bz:(devD k zs).length<1000000:=by rw [qgh];omega
    clear hp hx bD aW
    go_wp2_with (first | (at_builtin;refine qfX rfl _ _ rfl aX.o bi rfl rfl rfl bz ?_;intro v' w' aO bq;(have ae:=H.o.push (qbU qB qN) (by rw [ql2,HZ.o,aY.o.1];exact aO.o) bq.o);obtain⟨bH,bI,aT⟩:=qdI (m:=k+1) aO.o (by rw [qaf,qgh];rfl);subst aT;have b1:=ae.1.1;have f1:=ae.1.2;have aZ:=qH ae.2;clear ae) | fail)
    go_roundw
    case rel=>exact⟨k+1,by go_num,bv,qH ⟨_,aZ.o⟩⟩
    case measure=>simp [intOf];omega
  ·obtain rfl:k=n:=by omega
   have bu:¬(k:Int)<(k:Int):=by omega
   obtain⟨va,vc,az⟩:=qdI hm.own (qgh _ _);subst az;clear hm;have b4:=HR.o 4;rw [HY.o.2.1] at b4;have l4:=Int.lt_tmod_of_pos y4 (show (0:Int)<5000 by decide);have m4:=Int.tmod_lt_of_pos y4 (show (0:Int)<5000 by decide);have q4:=qC _ _ 4 _ _ _ H.o.zr;have p2:=qC _ _ 2 _ _ _ H.o.row;have r2:=qF _ _ 2 _ _ H.o.row;obtain⟨Wa,O⟩:=qY (wr.setCell ⟨F.heap.size,2,none⟩ (.int .i64 (5000+y4.tmod 5000)));go_upto_region 11 with fail;rw [<-O];have ax:=heap_setCell_same _ F.heap.size 2 _ _ (.int .i64 (5000+y4.tmod 5000)) H.o.row;rw [<-O] at ax;have aU:Wa.heap[g8]? = _:=O▸(qW wr ⟨F.heap.size,2,none⟩ _ _ (show g8≠F.heap.size by have:=H.o.base.1;omega)).trans H.o.zr;have aL:wr.grownBy Wa (some F.heap.size):=O▸qbW wr F.heap.size 2 _;have HA:=qH (qA ax (qA aU aL));clear ax aU aL O q4 p2 r2 l4 m4 b4;have b5:=HR.o 5;rw [HY.o.2.2.1] at b5;have l5:=Int.lt_tmod_of_pos J (show (0:Int)<12700 by decide);have m5:=Int.tmod_lt_of_pos J (show (0:Int)<12700 by decide);have q5:=qC _ _ 5 _ _ _ HA.o.2.1;have p3:=qC _ _ 3 _ _ _ HA.o.1;have r3:=qF _ _ 3 _ _ HA.o.1;obtain⟨Wb,U⟩:=qY (Wa.setCell ⟨F.heap.size,3,none⟩ (.int .i64 (J.tmod 12700)));go_upto_region 12 with fail;rw [<-U];have ay:=heap_setCell_same _ F.heap.size 3 _ _ (.int .i64 (J.tmod 12700)) HA.o.1;rw [<-U] at ay;have aV:Wb.heap[g8]? = _:=U▸(qW Wa ⟨F.heap.size,3,none⟩ _ _ (show g8≠F.heap.size by have:=H.o.base.1;omega)).trans HA.o.2.1;have aM:wr.grownBy Wb (some F.heap.size):=qbZ HA.o.2.2 (U▸qbW Wa F.heap.size 3 _);have HB:=qH (qA ay (qA aV aM));clear ay aV aM U q5 p3 r3 l5 m5 b5;have b6:=HR.o 6;rw [HY.o.2.2.2] at b6;have l6:=Int.lt_tmod_of_pos y6 (show (0:Int)<12700 by decide);have m6:=Int.tmod_lt_of_pos y6 (show (0:Int)<12700 by decide);have q6:=qC _ _ 6 _ _ _ HB.o.2.1;have p4:=qC _ _ 4 _ _ _ HB.o.1;have r4:=qF _ _ 4 _ _ HB.o.1;obtain⟨Wc,aa⟩:=qY (Wb.setCell ⟨F.heap.size,4,none⟩ (.int .i64 (y6.tmod 12700)));go_upto_region 13 with fail;rw [<-aa];have Z:=heap_setCell_same _ F.heap.size 4 _ _ (.int .i64 (y6.tmod 12700)) HB.o.1;rw [<-aa] at Z;have Z:Wc.heap[F.heap.size]? = some (.cells #[.string nm,.slice va k vc,.int .i64 (5000+y4.tmod 5000),.int .i64 (J.tmod 12700),.int .i64 (y6.tmod 12700)] 55 (0,0)):=Z;have I:wr.grownBy Wc (some F.heap.size):=qbZ HB.o.2.2 (aa▸qbW Wb F.heap.size 4 _);clear aa q6 p4 r4 l6 m6 b6;have bC:w.heap.size+1<F.heap.size:=(qG K3.o.1.2.2).1;have aj:Below F.heap.size F Wc:=H.o.old.trans ⟨I.os,I.tape,I.output,I.size,fun q hq=>I.block q (qai hq H.o.old.size) (fun e=>by have:=qah e;omega)⟩;have aQ:=zkeep aj _ _ K3.o.1.2.2;have ag:IOwn Wc B (.slice va k vc) (devD k zs):=World.ownsRow.kept H.o.own I (.inr (fun e=>by have:=(H.o.own.lt _ e).1;have:=H.o.base;omega));have HE:=qH (qA Z (qA aQ (qA ag (K3.o.1.1.trans (aj.mono K3.o.1.1.size)))));clear Z I bC aj aQ ag
   go_wp2_with (first | (with_reducible refine lW_ rfl 55 _ rfl (F.heap.size) #[.string nm,.slice va k vc,.int .i64 (5000+y4.tmod 5000),.int .i64 (J.tmod 12700),.int .i64 (y6.tmod 12700)] HE.o.1 underlying55 5 ?_) | (with_reducible refine sR_ rfl 55 _ _ rfl (w.heap.size+1) #[.string nm,.slice va k vc,.int .i64 (5000+y4.tmod 5000),.int .i64 (J.tmod 12700),.int .i64 (y6.tmod 12700)] HE.o.2.1 5 ?_))
   refine qR (v:=.agg #[.string nm,.slice va k vc,.int .i64 (5000+y4.tmod 5000),.int .i64 (J.tmod 12700),.int .i64 (y6.tmod 12700)]) (rA_ rfl (w.heap.size+1) (qT _ _ _ _ _ _ HE.o.2.1) underlying55 5) rfl ?_;refine⟨_,rfl,?_,qS HE.o.2.2.2 (qbB _) _⟩;have av:IOwn (Wc.setRow (w.heap.size+1) #[.string nm,.slice va k vc,.int .i64 (5000+y4.tmod 5000),.int .i64 (J.tmod 12700),.int .i64 (y6.tmod 12700)]) B (.slice va k vc) (devD k zs) :=
    World.ownsRow.kept HE.o.2.2.1 (qci _ _ _) (.inr (fun e=>by
     have h1:=(HE.o.2.2.1.lt _ e).1;have h2:w.heap.size+1<F.heap.size:=(qG K3.o.1.2.2).1;have:=H.o.base;omega))
   have e1:(ptD k i zs).dev.length=k:=qet _ _ _;refine⟨B,va,vc,?_,by rw [e1];exact av⟩;rw [e1]
   show _=Value.agg #[.string (nmD i),_,.int .i64 (5000+(zs.getD 4 0).tmod 5000),.int .i64 ((zs.getD 5 0).tmod 12700),.int .i64 ((zs.getD 6 0).tmod 12700)]
   rw [bg.o,HY.o.2.1,HY.o.2.2.1,HY.o.2.2.2]
theorem infoPt:(Tryz.prog.info? 55).map (fun i=>(i.zero,i.size,i.bytes))=some (some (.agg #[.string ⟨#[]⟩,.slice none 0 0,.int .i64 0,.int .i64 0,.int .i64 0]),5,64):=by kernel_rfl
theorem qjb {w:World} {B:Nat} {v:Value} {n:Nat} {Y:List Value} {u0 u1 u2 u3 u4:Value} {g c:Nat} {t:TypeId} (Z:TypeId) (H:w.ownsRow B 55 5 v n Y) (hB:B<=w.heap.size) (hg:w.heap[g]? = some (.cells #[u0,u1,u2,u3,u4] t (0,0))) (hu:∀u∈[u0,u1,u2,u3,u4],u.oneCell'=true) (hn:n<1000000) :
  ∃I J,(Builtin.append_ #[30,30] Z #[v,.slice (some ⟨g,0,none⟩) 1 c]).run prog w=.ok I J/\J.ownsRow B 55 5 I (n+1) (Y++[u0,u1,u2,u3,u4])/\(I.ownBlock=v.ownBlock/\w.grownBy J v.ownBlock\/I.ownBlock=some w.heap.size/\w.grownBy J none):=by
 obtain⟨i0,hi,O,U,V⟩:=info_parts infoPt;exact qdW (P:=prog) w B 30 Z 55 i0 _ 5 64 underlying30 hi O U V rfl (by decide) v n Y H ⟨g,0,none⟩ 1 c [u0,u1,u2,u3,u4] rfl (fun j x F=>by
   rw [Addr.add_mid]
   match j,F with
   | 0,F=>exact (qC _ _ _ _ _ _ hg).trans F
   | 1,F=>exact (qC _ _ _ _ _ _ hg).trans F
   | 2,F=>exact (qC _ _ _ _ _ _ hg).trans F
   | 3,F=>exact (qC _ _ _ _ _ _ hg).trans F
   | 4,F=>exact (qC _ _ _ _ _ _ hg).trans F
   | j+5,F=>cases F) hu (by decide) (by unfold maxLen;omega) (by omega) hB
def PaAt (W:World) (F:List Value) (j:Nat) (p:Pt):Prop:=∃(B:Nat) (H:Option Addr) (I:Nat),(F[j*5]? = some (.string p.name)/\F[j*5+1]? = some (.slice H p.dev.length I)/\F[j*5+2]? = some (.int .i64 p.l0)/\F[j*5+3]? = some (.int .i64 p.l1)/\F[j*5+4]? = some (.int .i64 p.l2))/\IOwn W B (.slice H p.dev.length I) p.dev
def PaOwn (W:World) (B:Nat) (v:Value) (l:List Pt):Prop:=∃F,W.ownsRow B 55 5 v l.length F/\∀j,j<l.length->PaAt W F j (l.getD j pt0)
theorem PaOwn.below {W W':World} {B:Nat} {v:Value} {l:List Pt} (h:PaOwn W B v l) (F:Below W.heap.size W W'):PaOwn W' B v l:=by
 obtain⟨V,H,I⟩:=h;refine⟨V,own_below H F,fun j U=>?_⟩;obtain⟨B',da,dc,J,O⟩:=I j U;exact⟨B',da,dc,J,O.below F⟩
theorem PaOwn.nil (W:World) (B:Nat):PaOwn W B (.slice none 0 0) []:=⟨[],⟨rfl,.inl ⟨rfl,rfl⟩⟩,fun j F=>absurd F (by simp)⟩
theorem PaOwn.shape {W:World} {B m:Nat} {v:Value} {l:List Pt} (h:PaOwn W B v l) (I:l.length=m):∃(F:Option Addr) (cap:Nat),v=.slice F m cap:=by
 obtain⟨J,H,_⟩:=h;subst I;exact qdU H
theorem PaOwn.cells {W:World} {B:Nat} {v:Value} {l:List Pt} (h:PaOwn W B v l) (Z:0<l.length) (O:∀j,j<l.length->0<(l.getD j pt0).dev.length):∃g c,v=.slice (some ⟨g,0,none⟩) l.length c/\PCells W (some ⟨g,0,none⟩) g 0 l:=by
 obtain⟨Y,H,J⟩:=h;have F:=H;rcases H.2 with ⟨_,h⟩ | ⟨g,cap,cur,rfl,_,_,_⟩
 ·omega
 ·refine⟨g,cap,rfl,fun _=>rfl,fun k I=>?_⟩;obtain⟨B',da,dc,⟨e0,e1,e2,e3,e4⟩,V⟩:=J k I;obtain⟨ga,ca,e,hN⟩:=IOwn.cells V (O k I);have c:∀j u,Y[j]? = some u->W.cell? ⟨g,0+j,none⟩=some u:=fun j u U=>by
   have:=F.cells (g:=g) rfl j u U
   rwa [Addr.add_mid] at this
  exact⟨c _ _ e0,⟨_,ga,0,ca,by rw [<-e];exact c _ _ e1,hN⟩,c _ _ e2,c _ _ e3,c _ _ e4⟩
theorem PaOwn.push {W F O:World} {B:Nat} {v J:Value} {l:List Pt} {p:Pt} {U:Option Addr} {V Bd:Nat} (h:PaOwn W B v l) (hb:Below W.heap.size W F) (hp:IOwn F Bd (.slice U p.dev.length V) p.dev)
  (ho:∀H,F.ownsRow B 55 5 v l.length H->O.ownsRow B 55 5 J (l.length+1) (H++[.string p.name,.slice U p.dev.length V,.int .i64 p.l0,.int .i64 p.l1,.int .i64 p.l2])) (hk:J.ownBlock=v.ownBlock/\F.grownBy O v.ownBlock\/J.ownBlock=some F.heap.size/\F.grownBy O none):PaOwn O B J (l++[p]):=by
 obtain⟨H,I,h2⟩:=h.below hb;refine⟨_,by rw [qaf];exact ho H I,fun j hj=>?_⟩;have Y:H.length=l.length*5:=I.1;rcases qaQ j l.length with hjl | hjl
 ·obtain⟨B',d',c',⟨e0,e1,e2,e3,e4⟩,Z⟩:=h2 j hjl;have e:(l++[p]).getD j pt0=l.getD j pt0:=by rw [qaa,qas hjl,<-qaa]
  rw [e];refine⟨B',d',c',⟨?_,?_,?_,?_,?_⟩,(qes Z (own_ne Z I (by decide)) hk).1⟩
  ·rw [qas (by omega)];exact e0
  ·rw [qas (by omega)];exact e1
  ·rw [qas (by omega)];exact e2
  ·rw [qas (by omega)];exact e3
  ·rw [qas (by omega)];exact e4
 ·obtain rfl:j=l.length:=by rw [qaf] at hj;have:j<l.length+1:=hj;omega
  have e:(l++[p]).getD l.length pt0=p:=by rw [qaa,qaq qN,qaG];rfl
  rw [e];refine⟨Bd,U,V,⟨?_,?_,?_,?_,?_⟩,(qes hp (own_ne hp I (by decide)) hk).1⟩
  all_goals
   rw [qaq (by omega)];simp only [Y,qaG,Nat.add_sub_cancel_left]
   rfl
def ptsK (n k:Nat) (L:List (List Int)):List Pt:=(List.range k).map fun i=>ptD n i (L.getD i [])
theorem qh7 (n k:Nat) (L:List (List Int)):(ptsK n k L).length=k:=by unfold ptsK;simp
theorem qnq (n k:Nat) (L:List (List Int)):ptsK n (k+1) L=ptsK n k L++[ptD n k (L.getD k [])]:=by unfold ptsK;rw [List.range_succ,qa3];rfl
theorem qjm {Z:Array Oper} {rest:List Oper} {o:Oper} {a:Act} {w:World} {Q:Exit->Act->World->Prop} (aa:o.guard=none) (s x:Operand)
  (ho:o.op=.call { callee:=.builtin .append,args:=#[s,x],argTypes:=#[30,30] }) {B:Nat} {v:Value} {l:List Pt} {p:Pt} {F:Option Addr} {H Bd:Nat} (J:PaOwn w B v l) (hp:IOwn w Bd (.slice F p.dev.length H) p.dev) (hB:B<=w.heap.size) (hs:a.eval s=v) {g:Nat} (hx:a.eval x=.slice (some ⟨g,0,none⟩) 1 1) (hg:g=w.heap.size) (hn:l.length<1000000)
  {n0:ByteArray} {k:Nat} {z0 z1 z2:Int} (e0:n0=p.name) (e1:k=p.dev.length) (e2:z0=p.l0) (e3:z1=p.l1) (e4:z2=p.l2)
  (h:∀U V,Hu (PaOwn V B U (l++[p]))->Hu (U.ownBlock=v.ownBlock/\(w.alloc (.cells #[.string n0,.slice F k H,.int .i64 z0,.int .i64 z1,.int .i64 z2] 55)).grownBy V v.ownBlock\/U.ownBlock=some (w.alloc (.cells #[.string n0,.slice F k H,.int .i64 z0,.int .i64 z1,.int .i64 z2] 55)).heap.size/\(w.alloc (.cells #[.string n0,.slice F k H,.int .i64 z0,.int .i64 z1,.int .i64 z2] 55)).grownBy V none)->wpList prog Z Q rest (a.put o.dst U) V) :
  wpList prog Z Q (o :: rest) a (w.alloc (.cells #[.string n0,.slice F k H,.int .i64 z0,.int .i64 z1,.int .i64 z2] 55)):=by
 subst hg e0 e1 e2 e3 e4;have O:Below w.heap.size w (w.alloc (.cells #[.string p.name,.slice F p.dev.length H,.int .i64 p.l0,.int .i64 p.l1,.int .i64 p.l2] 55)):=qbU qB qN;obtain⟨ah,af,_⟩:=J.below O;have hg:=qM w (.cells #[.string p.name,.slice F p.dev.length H,.int .i64 p.l0,.int .i64 p.l1,.int .i64 p.l2] 55) _ rfl;have I:∀u∈[Value.string p.name,.slice F p.dev.length H,.int .i64 p.l0,.int .i64 p.l1,.int .i64 p.l2],u.oneCell'=true:=fun u hu=>by
  simp only [qaJ,List.not_mem_nil,or_false] at hu;rcases hu with rfl | rfl | rfl | rfl | rfl <;> rfl
 have Y:B<=(w.alloc (.cells #[.string p.name,.slice F p.dev.length H,.int .i64 p.l0,.int .i64 p.l1,.int .i64 p.l2] 55)).heap.size:=by simp only [qab];omega
 obtain⟨U,V,hr,h1,h2⟩:=qjb o.type af Y hg I hn (c:=1);refine qdL aa s x _ ho hs hx hr (h U V (qH (PaOwn.push J O (hp.below O) (fun vs ag=>?_) h2)) (qH h2));obtain⟨v2,w2,ae,h3,_⟩:=qjb o.type ag Y hg I hn (c:=1);rw [ae] at hr;cases hr;exact h3
theorem make_is (n:Nat) (O:n<=1000) (w:World):(Instr.makeSlice 32 (.int .i64 (n:Int)) (.int .i64 (n:Int))).run prog w=.ok (.slice (some ⟨w.heap.size,0,none⟩) n n) (w.alloc (.cells (madeCells #[.int .i64 0] n) 3)):=by
 obtain⟨i,J,F,H,I⟩:=info_parts qmA;have h:=run_make (P:=prog) w 32 3 i _ underlying32 J F .i64 .i64 (n:Int) (n:Int) (by omega) (Int.le_refl _) (by rw [I];omega) (by omega);rw [H,Int.toNat_natCast,qbO] at h;exact h
theorem qn9 {W:World} {g B n:Nat} (hg:W.heap[g]? = some (.cells (madeCells #[.int .i64 0] n) 3 (0,0))) (F:B<=g) (I:n<=1000):IOwn W B (.slice (some ⟨g,0,none⟩) n n) (List.replicate n 0):=by
 have e:(madeCells #[.int .i64 0] n).toList=(List.replicate n 0).map fun z=>Value.int .i64 z:=by
  rw [List.map_replicate,<-toList_madeCells_one]
 have H:(List.replicate n (0:Int)).length=n:=qaO;unfold IOwn;rw [H];refine⟨by simp,.inr ⟨g,n,_,rfl,F,hg,qae _,by unfold maxLen;omega,by rw [<-qbm,e];simp,?_⟩⟩;rw [e,qbO];exact qak (by simp)
theorem qjU (U:Nat) (L:List (List Int)) (ao:Option Addr) (b off c:Nat) (w:World) (hl:L.length<=9223372036854775807) (hP:PRws w ao b off L) :
  Calls prog 12 #[.agg #[.int .u8 (U:Int),.slice ao L.length c]] w fun e w'=>∃u,e=.returned u/\(∃B,w.heap.size<=B/\PaOwn w' B u (ptsD (1+U % 4) L))/\Below w.heap.size w w':=by
 obtain⟨H,av,N1⟩:=nw1 w #[.int .u8 (U:Int),.slice ao L.length c] 24;have Z:=N1.also (q:=fun W=>PRws W ao b off L) (hP.below N1.o.1);have k0:=qC _ _ 0 _ _ _ N1.o.2;have az:(U:Int) % 4=((U % 4:Nat):Int):=by omega
 obtain⟨x,hx⟩:=qX (U % 4);have aN:x<4:=by omega
 rw [hx];rw [hx] at az;have HL:=qH hl;clear N1 hP hx hl;go_enter func12,ntmps12;go_upto_region 1 with fail;rw [<-av];clear av;go_wp2_with fail;clear k0 az;obtain⟨n,hn⟩:=qX (1+x);have aA:(1:Int)+(x:Int)=(n:Int):=by omega
 rw [aA];have Y:=qH (qA hn (show 1<=n/\n<=4 by omega));have H0:Hu (PaOwn H H.heap.size (.slice none 0 0) (ptsK n 0 L)):=qH (PaOwn.nil _ _);clear aA hn aN
 go_loopw [4,5] (fun x4 x5 W=>∃i:Nat,x5=.int .i64 (i:Int)/\i<=12/\i<=L.length/\Hu (PaOwn W H.heap.size x4 (ptsK n i L))/\Hu (Below H.heap.size H W)) (fun _ x5 _=>12-(intOf x5).toNat)
 case atStart=>exact⟨0,rfl,qal _,qal _,H0,qH qB⟩
 case round =>
  obtain⟨i,rfl,aO,aQ,O,hB⟩:=hrel;have Kr:=Z.below hB.o;have J:=hB;obtain⟨va,vc,aM⟩:=O.o.shape (qh7 n i L);subst aM;have c1:=qC _ _ 1 _ _ _ Kr.o.1.2;clear hB
  by_cases F:i<L.length/\i<12
  ·obtain⟨ai,ax⟩:=F;have ah:(i:Int)<(L.length:Int):=by omega
   have aP:(i:Int)<12:=by omega
   have HP:=qH (one_any U L ao b off c i n wr ai ax Y.o.2.1 Y.o.2.2 HL.o Kr.o.2)
   go_wp2_with ((with_reducible refine lW_ rfl 24 _ rfl (w.heap.size) #[.int .u8 (U:Int),.slice ao L.length c] Kr.o.1.2 underlying24 2 ?_))
   refine HP.o.mono ?_;rintro e w3 ⟨u,rfl,⟨Bd,da,dc,rfl,ag⟩,af⟩;rw [qet] at ag ⊢;have HD:=qH ag;have aI:=qH (O.o.below af);have ak:=qH (J.o.trans (af.mono J.o.size));have aJ:H.heap.size<=w3.heap.size:=ak.o.size;have aF:∀q,(Value.slice va i vc).ownBlock=some q->H.heap.size<=q:=fun q hq=>by obtain⟨vs,h1,_⟩:=O.o;exact (h1.lt q hq).1
   have HQ:=qH aF;have aL:(ptsK n i L).length<1000000:=by rw [qh7];omega
   obtain⟨nm,l0,l1,l2,e0,e1,e2,e3⟩:∃nm l0 l1 l2,(ptD n i (L.getD i [])).name=nm/\(ptD n i (L.getD i [])).l0=l0/\(ptD n i (L.getD i [])).l1=l1/\(ptD n i (L.getD i [])).l2=l2:=⟨_,_,_,_,rfl,rfl,rfl,rfl⟩;rw [e0,e1,e2,e3];have HE:=qH (qA e0 (qA e1 (qA e2 e3)));clear ag af e0 e1 e2 e3 HP c1 Kr O J aF
   go_wp2_with (first | (at_builtin;refine qjm rfl _ _ rfl (p:=ptD n i (L.getD i [])) (Bd:=Bd) aI.o (by rw [qet];exact HD.o) aJ rfl rfl rfl aL HE.o.1.symm (qet _ _ _).symm HE.o.2.1.symm HE.o.2.2.1.symm HE.o.2.2.2.symm ?_;intro v' w' aB ay;obtain⟨aT,aU,aD⟩:=(Hu.o aB).shape (m:=i+1) (by rw [qaf,qh7];rfl);subst aD;have aH:Hu (Below H.heap.size H w'):=qH (qdZ (B:=H.heap.size) (qbU ak.o qN) HQ.o (by simp only [qab];omega) ay.o);clear ay) | fail)
   go_roundw
   case rel=>exact⟨i+1,by go_num,by omega,ai,by rw [qnq];exact aB,aH⟩
   case measure=>simp [intOf];omega
  ·by_cases au:L.length=0
   ·obtain rfl:i=0:=by omega
    have ah:¬(0:Int)<(L.length:Int):=by omega
    have e:ptsD n L=[ptE n]:=by unfold ptsD;rw [if_pos au]
    have aS:=fun W=>make_is n (by have:=Y.o.2;omega) W
    obtain⟨W7,aa,N7⟩:=nw1 wr (madeCells #[.int .i64 0] n) 3;obtain⟨W8,ae,N8⟩:=nw1 W7 #[.string ⟨#[112]⟩,.slice (some ⟨wr.heap.size,0,none⟩) n n,.int .i64 0,.int .i64 0,.int .i64 0] 55;have aG:=zkeep N8.o.1 _ _ N7.o.2;have ho:=qn9 aG (B:=wr.heap.size) qN (by have:=Y.o.2;omega);have aC:W7.heap.size=wr.heap.size+1:=by rw [aa];simp
    have aj:PaOwn W8 H.heap.size (.slice (some ⟨W7.heap.size,0,none⟩) 1 1) (ptsD n L):=by
     rw [e];refine⟨[.string ⟨#[112]⟩,.slice (some ⟨wr.heap.size,0,none⟩) n n,.int .i64 0,.int .i64 0,.int .i64 0],⟨rfl,.inr ⟨W7.heap.size,1,_,rfl,qaj J.o.size N7.o.1.size,N8.o.2,qae _,by decide,rfl,rfl⟩⟩,fun j hj=>?_⟩;obtain rfl:j=0:=by have:j<1:=hj;omega
     have hl:(ptE n).dev.length=n:=qaO;exact⟨wr.heap.size,some ⟨wr.heap.size,0,none⟩,n,⟨rfl,by show _=some (Value.slice _ (ptE n).dev.length n);rw [hl];rfl,rfl,rfl,rfl⟩,by show IOwn W8 _ (.slice _ (ptE n).dev.length n) (ptE n).dev;rw [hl];exact ho⟩
    rw [aC] at aj;have V:=qH (qA aj (Z.o.1.1.trans ((J.o.trans ((N7.o.1.trans (N8.o.1.mono N7.o.1.size)).mono J.o.size)).mono Z.o.1.1.size)));have HW:=qH (show w.heap.size<=H.heap.size from Z.o.1.1.size);rw [aa] at ae;clear N7 N8 aG ho aC aj e Kr O J F aa;go_wp2_with fail;rw [<-ae];clear ae;go_ret;exact⟨_,rfl,⟨H.heap.size,HW.o,by rw [Y.o.1];exact V.o.1⟩,V.o.2⟩
   ·have I:i=min L.length 12:=by omega
    have e:ptsK n i L=ptsD n L:=by unfold ptsD ptsK;rw [if_neg au,I]
    have aK:¬(i:Int)=0:=by omega
    have aR:((i:Int) == 0)=false:=by rw [beq_eq_false_iff_ne];exact aK
    rw [e] at O;have V:=qH (qA O.o (Z.o.1.1.trans (J.o.mono Z.o.1.1.size)));have HW:=qH (show w.heap.size<=H.heap.size from Z.o.1.1.size)
    by_cases ai:i<L.length
    ·have ah:(i:Int)<(L.length:Int):=by omega
     have ax:¬(i:Int)<12:=by omega
     clear e I Kr O J F;go_wp2;go_ret;exact⟨_,rfl,⟨H.heap.size,HW.o,by rw [Y.o.1];exact V.o.1⟩,V.o.2⟩
    ·have ah:¬(i:Int)<(L.length:Int):=by omega
     clear e I Kr O J F;go_wp2;go_ret;exact⟨_,rfl,⟨H.heap.size,HW.o,by rw [Y.o.1];exact V.o.1⟩,V.o.2⟩
def wtz (G:List Int) (i:Nat):Int:=if G.length=0 then 1 else G.getD (i % G.length) 0
def wts (G:List Int) (m:Nat):List Int:=(List.range m).map (wtz G)
theorem qhj (G:List Int) (m:Nat):(wts G m).length=m:=by unfold wts;simp
theorem wts_succ (G:List Int) (m:Nat):wts G (m+1)=wts G m++[wtz G m]:=by unfold wts;rw [List.range_succ,qa3];rfl
theorem wtz_le {G:List Int} (h:∀k,0<=G.getD k 0/\G.getD k 0<65536) (i:Nat):0<=wtz G i/\wtz G i<65536:=by
 unfold wtz;split
 ·decide
 ·exact h _
theorem qj2 (pa ga:Option Addr) (m pc gb go gc:Nat) (G:List Int) (w:World) (hm:m<=1000) (hl:G.length<=9223372036854775807) (hG:KCells w .u16 ga gb go G) (aa:∀k,0<=G.getD k 0/\G.getD k 0<65536) :
  Calls prog 13 #[.slice pa m pc,.slice ga G.length gc,.int .i8 0] w fun e w'=>∃u,e=.returned u/\IOwn w' w.heap.size u (wts G m)/\Below w.heap.size w w':=by
 have H0:=qH (qA hG (qA hl aa));have HO:Hu (IOwn w w.heap.size (.slice none 0 0) (wts G 0)):=qH ⟨rfl,.inl ⟨rfl,rfl⟩⟩;have aj:max ((m:Int)+0) 0=(m:Int):=by omega
 clear hG hl aa;go_enter func13,ntmps13;go_wp2_with fail;clear aj
 go_loopw [7,17] (fun x7 x17 W=>∃i:Nat,x17=.int .i64 (i:Int)/\i<=m/\Hu (IOwn W w.heap.size x7 (wts G i))/\Hu (Below w.heap.size w W)) (fun _ x17 _=>m-(intOf x17).toNat)
 case atStart=>exact⟨0,rfl,qal _,HO,qH qB⟩
 case round =>
  obtain⟨i,rfl,hi,hO,hB⟩:=hrel;obtain⟨va,vc,ak⟩:=qdI hO.o (qhj G i);subst ak
  by_cases ah:i<m
  ·have ag:(i:Int)<(m:Int):=by omega
   go_upto_if 22 with fail
   go_cut [9] (fun x9 W=>x9=.int .i64 (wtz G i)/\Hu (W=wr))
   case first =>
    by_cases F:G.length=0
    ·have e:wtz G i=1:=by unfold wtz;rw [if_pos F]
     have hg:¬(G.length:Int) > 0:=by omega
     clear F;go_wp2;go_meet;exact⟨congrArg (Value.int .i64) e.symm,qH rfl⟩
    ·have hg:(G.length:Int) > 0:=by omega
     have e:wtz G i=G.getD (i % G.length) 0:=by unfold wtz;rw [if_neg F]
     have hq:=qbD i (show G.length > 0 by omega);have O:(i:Int) % (G.length:Int)=((i % G.length:Nat):Int):=by rw [Int.natCast_emod]
     have U:(i:Int).tmod (G.length:Int)=((i % G.length:Nat):Int):=by rw [Int.tmod_eq_emod_of_nonneg (by omega)];exact O
     obtain⟨q,Y⟩:=qX (i % G.length);rw [Y] at e hq O U;have hc:=(H0.o.1.below hB.o).cell q hq;have hr:=H0.o.2.2 q;obtain rfl:=H0.o.1.addr (by omega);obtain⟨z,I⟩:=qX (G.getD q 0);rw [I] at e hc hr;have ax:(q:Int)<(G.length:Int):=by omega
     have av:=H0.o.2.1;clear Y I;go_wp2;go_meet;exact⟨congrArg (Value.int .i64) e.symm,qH rfl⟩
   case rest =>
    obtain⟨rfl,H⟩:=hcut;have H:=H.o.symm;subst H;obtain⟨z,I⟩:=qX (wtz G i);have HZ:=qH I;rw [I];have af:=hB.o.size;have ai:(wts G i).length<1000000:=by rw [qhj];omega
    have au:Hu (∀q,(Value.slice va i vc).ownBlock=some q->w.heap.size<=q):=qH fun q hq=>(hO.o.lt q hq).1
    clear I
    go_wp2_with (first | (at_builtin;refine qfX rfl _ _ rfl hO.o af rfl rfl rfl ai ?_;intro v' w' V J;obtain⟨ay,az,Z⟩:=qdI (m:=i+1) (Hu.o V) (by rw [qaf,qhj];rfl);subst Z;have ae:Hu (Below w.heap.size w w'):=qH (qdZ (B:=w.heap.size) (qbU hB.o qN) au.o (by simp only [qab];omega) J.o);clear J) | fail)
    go_roundw
    case rel=>exact⟨i+1,by go_num,ah,by rw [wts_succ,HZ.o];exact V,ae⟩
    case measure=>simp [intOf];omega
  ·obtain rfl:i=m:=by omega
   have ag:¬(i:Int)<(i:Int):=by omega
   go_wp2;go_ret;exact⟨_,rfl,hO.o,hB.o⟩
theorem qmV (U inn:Nat) (L:List Dr) (v:Value) (w:World) (hv:MoAt w v U inn L) :
  Calls prog 16 #[v] w fun e w'=>∃u,e=.returned u/\MdAt w' u (moM U inn L)/\Below w.heap.size w w':=by
 obtain⟨ao,b,off,cd,rfl,bu,bq,hL,hC⟩:=hv;obtain⟨I,aB,N1⟩:=nw2 w #[.int .u8 (U:Int),.int .u8 (inn:Int),.slice ao L.length cd] 27 #[.int .i64 0,.int .i64 0,.slice none 0 0,.slice none 0 0,.slice none 0 0] 38;have K1:=N1.also (q:=fun W=>DrCells W ao b off L) (hC.below N1.o.1);have k0:=qC _ _ 0 _ _ _ N1.o.2.1;have k1:=qC _ _ 1 _ _ _ N1.o.2.1;have aW:(U:Int) % 3=((U % 3:Nat):Int):=by omega
 have ae:(inn:Int) % 4=((inn % 4:Nat):Int):=by omega
 obtain⟨x,hx⟩:=qX (U % 3);obtain⟨y,hy⟩:=qX (inn % 4);have bD:x<3:=by omega
 have bF:y<4:=by omega
 obtain⟨k,hk⟩:=qX (mok U);obtain⟨n,hn⟩:=qX (mon U inn);have av:=mok_le U;have af:=mon_le U inn;have ay:(x=2/\y=3/\k=3/\n=2)\/(x=2/\y≠3/\k=3/\n=1+y)\/(x≠2/\k=1+x/\n=1+y):=by
  have e1:k=1+x:=by rw [<-hk];unfold mok;omega
  by_cases h3:x=2
  ·by_cases h4:y=3
   ·exact .inl ⟨h3,h4,by omega,by rw [<-hn];unfold mon;rw [if_pos ⟨by rw [hk];omega,by omega⟩]⟩
   ·exact .inr (.inl ⟨h3,h4,by omega,by rw [<-hn];unfold mon;rw [if_neg (by omega),hy]⟩)
  ·exact .inr (.inr ⟨h3,e1,by rw [<-hn];unfold mon;rw [if_neg (by rw [hk];omega),hy]⟩)
 have ah:moM U inn L=mdq k n (many k n) (mox L):=by unfold moM;rw [hk,hn]
 rw [hk] at av;rw [hn] at af;rw [ah];obtain⟨M,hM⟩:=qX (many k n);have aQ:0<M:=by
  rw [<-hM];unfold many;split
  ·omega
  ·split
   ·omega
   ·exact Nat.two_pow_pos n
 have aZ:M<=16:=by rw [<-hM];exact qmP k n af.2
 have aO:=qH hM;rw [hM];have HL:=qH (qA hL (qA av af));clear N1 hC hk hn ah hM hL av af;go_enter func16,ntmps16;go_upto_region 1 with fail;rw [<-aB];clear aB;obtain⟨W2,aC,N2⟩:=nw1 I #[.int .i64 (1+(x:Int)),.int .i64 (1+(y:Int)),.slice none 0 0,.slice none 0 0,.slice none 0 0] 38;go_upto_region 2 with fail;rw [<-aC];have r0:=qC _ _ 0 _ _ _ N2.o.2;have r1:=qC _ _ 1 _ _ _ N2.o.2;have f1:=qF _ _ 1 _ _ N2.o.2;clear aC k0 k1;have aP:=N2.o;clear hx hy aW ae aP
 go_cut [25] (fun x25 W=>x25=.bool (decide (x=2/\y=3))/\Hu (W=W2))
 case first =>
  rcases ay with ⟨rfl,rfl,rfl,rfl⟩ | ⟨rfl,ax,rfl,rfl⟩ | ⟨F,rfl,rfl⟩
  ·go_wp2;go_meet;exact⟨rfl,qH rfl⟩
  ·have bE:¬(1+(y:Int)=4):=by omega
   go_wp2;go_meet;exact⟨congrArg Value.bool (by simp [ax];omega),qH rfl⟩
  ·have bC:¬(1+(x:Int)=3):=by omega
   have e:decide (x=2/\y=3)=false:=qU (fun h=>F h.1);go_wp2;go_meet;exact⟨congrArg Value.bool e.symm,qH rfl⟩
 case rest =>
 obtain⟨rfl,ak⟩:=hcut;have ak:=ak.o.symm;subst ak;have V:(decide (x=2/\y=3)=true/\k=3/\n=2)\/(decide (x=2/\y=3)=false/\k=1+x/\n=1+y):=by
  rcases ay with ⟨rfl,rfl,rfl,rfl⟩ | ⟨rfl,ax,rfl,rfl⟩ | ⟨F,rfl,rfl⟩
  ·exact .inl ⟨rfl,rfl,rfl⟩
  ·exact .inr ⟨qU (fun h=>ax h.2),rfl,rfl⟩
  ·exact .inr ⟨qU (fun h=>F h.1),rfl,rfl⟩
 have F:decide (x=2/\y=3)=true->x=2:=fun h=>(of_decide_eq_true h).1
 obtain⟨c,hc⟩:=qX (decide (x=2/\y=3));rw [hc] at V F ⊢;clear hc ay
 go_upto_if 25 with fail
 go_cut [3] (fun x3 W=>x3=.pointer (some ⟨I.heap.size,0,none⟩)/\Kn (fun W=>Below I.heap.size I W/\W.heap[I.heap.size]? = some (.cells #[.int .i64 (k:Int),.int .i64 (n:Int),.slice none 0 0,.slice none 0 0,.slice none 0 0] 38 (0,0))) W)
 case first =>
  rcases V with ⟨rfl,rfl,rfl⟩ | ⟨rfl,rfl,rfl⟩
  ·obtain rfl:=F rfl;go_wp2;go_meet;exact⟨rfl,.of ⟨N2.o.1.setCell (p:=⟨I.heap.size,1,none⟩) qN _,heap_setCell_same _ _ 1 _ _ _ N2.o.2⟩⟩
  ·go_wp2;go_meet;exact⟨rfl,.of ⟨N2.o.1,by have:=N2.o.2;simpa using this⟩⟩
 case rest =>
  obtain⟨rfl,H3⟩:=hcut;clear V F f1 N2 r0 r1;have KC:=qH K1.o.2;have H4:=qH (qnk (M:=M) (L:=L) H3.o.1 H3.o.2);go_wp2_with fail
  go_loopw [4] (fun x4 W=>∃i:Nat,x4=.int .i64 (i:Int)/\i<=3/\Hu (OutSt I W k n M i L)) (fun x4 _=>3-(intOf x4).toNat)
  case atStart=>exact⟨0,rfl,qal _,H4⟩
  case round =>
   obtain⟨i,rfl,hi,hO⟩:=hrel
   by_cases J:i<3
   ·have bn:(i:Int)<3:=by omega
    obtain⟨aY,aJ⟩:=hO.o;have H5:=qH aJ;clear aJ;go_wp2_with fail;obtain⟨B,hB⟩:=qX wr.heap.size;rw [hB] at H5;clear hB
    go_loopw [5] (fun x5 W=>∃j:Nat,x5=.int .i64 (j:Int)/\j<=M/\Hu (∃vs,MoSt I W B k n M i j vs L)) (fun x5 _=>M-(intOf x5).toNat)
    case atStart=>exact⟨0,rfl,qal _,qH ⟨aY,H5.o⟩⟩
    case round =>
     obtain⟨j,rfl,hj,hI⟩:=hrel;obtain⟨vs,hm⟩:=hI.o;have r0:=qC _ _ 0 _ _ _ hm.row;have r1:=qC _ _ 1 _ _ _ hm.row;have HM:=qH hm;clear hm hI;go_wp2_with fail;refine (qnt k n HL.o.2.1 HL.o.2.2 _).mono ?_;rintro e W ⟨rfl,aR⟩;subst aR;rw [aO.o];clear r0 r1
     by_cases aS:j<M
     ·have aT:(j:Int)<(M:Int):=by omega
      obtain⟨W5,aD,N5⟩:=nw1 W #[.string ⟨#[49]⟩,.string ⟨#[49]⟩] 44;go_upto_region 11 with fail;rw [<-aD];clear aD;have Y:=HM.o.old.trans (N5.o.1.mono HM.o.old.size);have k2:=qC _ _ 2 _ _ _ (zkeep Y _ _ K1.o.1.2.1)
      go_upto_if 44 with fail
      go_cut [6] (fun x6 W'=>x6=.pointer (some ⟨W.heap.size,0,none⟩)/\Kn (fun W'=>Below W.heap.size W W'/\W'.heap[W.heap.size]? = some (.cells #[.string (ftxt (mox L i j)).1,.string (ftxt (mox L i j)).2] 44 (0,0))) W')
      case first =>
       by_cases Z:L.length=0
       ·have e:mox L i j=1:=by unfold mox;rw [if_pos Z]
        have aj:¬(L.length:Int) > 0:=by omega
        clear Z;go_wp2;go_meet;rw [e,ft_1];exact⟨rfl,.of N5.o⟩
       ·have aj:(L.length:Int) > 0:=by omega
        obtain⟨m,hm⟩:=qX ((9*i+j) % min L.length 30);have ae:m<L.length:=by rw [<-hm];exact qai (qbD _ (by omega)) (Nat.min_le_left _ _)
        have aM:mox L i j=(L.getD m dr0).q:=by unfold mox;rw [if_neg Z,hm]
        have aL:(min (L.length:Int) 30)=((min L.length 30:Nat):Int):=by omega
        have aX:(9*(i:Int)+(j:Int)).tmod (min (L.length:Int) 30)=(m:Int):=by
         rw [aL,Int.tmod_eq_emod_of_nonneg (by omega),<-hm,Int.natCast_emod];congr 1
        rw [aL] at aX;have bg:¬L=[]:=fun e=>by rw [e] at aj;simp at aj
        have bA:IntKind.i64.wrap (9*(i:Int))=9*(i:Int):=by simp [IntKind.wrap,IntKind.bits,IntKind.signed];omega
        have bf:IntKind.i64.wrap (9*(i:Int)+(j:Int))=9*(i:Int)+(j:Int):=by simp [IntKind.wrap,IntKind.bits,IntKind.signed];omega
        have ai:=KC.o.cell m ae;have aN:=KC.o.ok m ae;obtain rfl:=KC.o.addr (by omega);obtain⟨dd,aG⟩:=qX (L.getD m dr0);rw [aG] at ai aN aM;have bi:b<I.heap.size:=by obtain⟨_,_,_,_,_,_,_,_,⟨h,_⟩,_⟩:=ai;exact qac I _ h
        have bv:=HM.o.old.size;have bB:w.heap.size<I.heap.size:=(qG K1.o.1.2.1).1;obtain⟨p1,q1,o1,z1,p2,q2,o2,z2,⟨d0,d1,d2,d3,d4,d5⟩,aU,aV⟩:=ai.below Y;have hne:∀W',W5.grownBy W' (some W.heap.size)->∀(t:Nat) (u:Value),W5.cell? ⟨b,t,none⟩=some u->W'.cell? ⟨b,t,none⟩=some u:=fun W' h t u hc=>h.cell hc (fun e=>by have:b=W.heap.size:=qah e;omega)
        have g2:=rowG (g0:=W.heap.size) (zkeep Y _ _ K1.o.1.2.1) 2;have x0:=fun W' h=>hne W' h _ _ d0
        have x1:=fun W' h=>hne W' h _ _ d1
        have x2:=fun W' h=>hne W' h _ _ d2
        have x3:=fun W' h=>hne W' h _ _ d3
        have x4:=fun W' h=>hne W' h _ _ d4
        have x5:=fun W' h=>hne W' h _ _ d5
        have bz:(m:Int)<(L.length:Int):=by omega
        clear hne hm aG Z;go_upto_region 12 with fail;refine wp_region_held_drew (S:=fun W'=>W5.grownBy W' (some W.heap.size)) (by kernel_rfl) (keepB qB.drew) (fun hS0=>?_);refine hT 0 (h:=hT 1 (h:=hT 2 (h:=hT 3 (h:=hT 4 (h:=hT 5 (h:=hT 6 (h:=hT 7 (h:=hT 8 (h:=hT 9 (h:=?_))))))))));refine hT 10 (v:=.int .i64 (m:Int)) (h:=?_);refine hT 11 (h:=hT 12 (h:=?_));refine hC 13 (qnE dd p1 p2 q1 o1 z1 q2 o2 z2 _ aN (aU.below qB.drew) (aV.below qB.drew)) (h:=?_);rintro e w6 ⟨rfl,au⟩;rw [qem,<-aM];have K6:=N5.below (qb4 au);refine⟨_,rfl,qhw au,hN (h:=?_)⟩;refine hSt 14 2 K6.o.2 (h:=⟨qbZ (qhw au) (qci _ _ _),?_⟩);go_wp2;go_meet;exact⟨rfl,.of ⟨qS K6.o.1 qN _,qT _ _ _ _ _ _ K6.o.2⟩⟩
      case rest =>
       obtain⟨rfl,Kc⟩:=hcut;have az:=qH (HM.o.below Kc.o.1);obtain⟨y1,y2,hy⟩:=qcd (mox L i j);rw [hy] at Kc;have HY:=qH hy;clear hy N5 k2 Y HM;go_upto_region 13 with fail;refine wp_region_held_drew (S:=fun _=>True) (by kernel_rfl) trivial (fun hS0=>?_);refine hT 0 (h:=hT 1 (h:=hT 2 (h:=hT 3 (h:=hT 8 (h:=?_)))));refine Go.Proofs.YtplkdeknjghobaaGreatDoor.gr [(4,63),(5,64),(6,65)] [(6,[5])] [0,1,2,3,8] [4,5,6] [] 7 11 (fl2 [(4,fun z _=>z=vs i),(5,fun z _=>z=.agg #[.string y1,.string y2]),(6,fun z W'=>∃g6:Nat,W'.heap[g6]? = some (.cells #[.string y1,.string y2] 44 (0,0))/\z=.slice (some ⟨g6,0,none⟩) 1 1)]) _ 3
        (hS:=fun _ _=>trivial) (hstep:=⟨⟨_,rfl,fun v w3 hb hF K hK=>?_⟩,⟨_,rfl,fun v w3 hb hF K hK=>?_⟩,⟨_,rfl,fun v w3 hb hF K hK=>?_⟩,trivial⟩) (hend:=fun v w3 hb hF _ fu=>?_)
       ·have h0:=az.o.cell J (qb4 hb);exact gV hK rfl
       ·have hr:=zkeep (qb4 hb) _ _ Kc.o.2;have h0:=qC _ _ 0 _ _ _ hr;have h1:=qC _ _ 1 _ _ _ hr;exact gV hK rfl
       ·have e5:v 5=_:=hF.1;rw [e5] at hK ⊢;exact gW hK (h:=⟨⟨w3.heap.size,qM _ _ _ rfl,rfl⟩,qbU qB qN⟩)
       have e4:v 4=_:=hF 4 (by decide) (by decide);obtain⟨g6,aH,e6⟩:∃g:Nat,_:=hF 6 (by decide) (by decide);have aa:=az.o.below (qb4 hb);obtain⟨v',w4,hr,H,aI⟩:=qfB 35 (m:=1) (c:=1) (l2:=[(y1,y2)]) (aa.own J) aa.base.2 (qmb aH) rfl (by decide) (by omega);rw [<-HY.o,<-qhf] at H;obtain⟨a7,c7,rfl⟩:=H.shape;obtain⟨⟨b1,f1⟩,aA⟩:=aa.push J H aI;rw [e4,e6];refine hE 7 (he:=by exact qfT rfl rfl rfl rfl hr) (h:=⟨trivial,hN (h:=?_)⟩);refine hT 9 (hS:=trivial) (h:=?_);refine hSg 10 (h:=⟨trivial,?_⟩);have H9:=qH aA;refine wpAnyH_done (by kernel_rfl) ?_ _;clear aA b1 f1 H aI hr aa e4 e6 aH hF hb hS0;go_wp2;go_roundw
       case rel=>exact⟨j+1,by go_num,aS,qH ⟨_,H9.o⟩⟩
       case measure=>simp [intOf];omega
     ·have aT:¬(j:Int)<(M:Int):=by omega
      obtain rfl:j=M:=by omega
      go_wp2;go_roundw
      case rel=>exact⟨i+1,by go_num,J,qH (HM.o.next J aQ)⟩
      case measure=>simp [intOf];omega
   ·obtain rfl:i=3:=by omega
    obtain⟨a0,a1,a2,c0,c1,c2,hr,O,aK⟩:=hO.o.model;have rr:=zkeep O _ _ K1.o.1.2.2;have ag:=aK.kept (qdX (cs:=#[.int .i64 (k:Int),.int .i64 (n:Int),.slice a0 M c0,.slice a1 M c1,.slice a2 M c2]) rr (by simp));have aF:=qS (K1.o.1.1.trans (O.mono K1.o.1.1.size)) (g:=w.heap.size+1) (qbB _) #[.int .i64 (k:Int),.int .i64 (n:Int),.slice a0 M c0,.slice a1 M c1,.slice a2 M c2];have HE:=qH (qA hr (qA rr (qA ag aF)));clear hr O aK rr ag aF hO
    go_wp2_with (first | (with_reducible refine lW_ rfl 38 _ rfl (I.heap.size) #[.int .i64 (k:Int),.int .i64 (n:Int),.slice a0 M c0,.slice a1 M c1,.slice a2 M c2] HE.o.1 underlying38 5 ?_) | (with_reducible refine sR_ rfl 38 _ _ rfl (w.heap.size+1) #[.int .i64 (k:Int),.int .i64 (n:Int),.slice a0 M c0,.slice a1 M c1,.slice a2 M c2] HE.o.2.1 5 ?_))
    exact qR (v:=.agg #[.int .i64 (k:Int),.int .i64 (n:Int),.slice a0 M c0,.slice a1 M c1,.slice a2 M c2]) (rA_ rfl (w.heap.size+1) (qT _ _ _ _ _ _ HE.o.2.1) underlying38 5) rfl ⟨_,rfl,HE.o.2.2.1,HE.o.2.2.2⟩
theorem qm5 {R n:Nat} {f:Nat->Nat->Rat} {b w:Nat->Rat} {r c:Nat} (H:r<n) (F:c<n):normR R n f b w r c=sumQ R fun i=>w i*(f i r*f i c) :=
 qbX fun i _=>by unfold gR;rw [if_pos H,if_pos F]
theorem norm_out {R n:Nat} {f:Nat->Nat->Rat} {b w:Nat->Rat} {r:Nat} (F:r<n):normR R n f b w r n=sumQ R fun i=>w i*(f i r*b i) :=
 qbX fun i _=>by unfold gR;rw [if_pos F,if_neg (Nat.lt_irrefl n)]
theorem fit_best {R n:Nat} {f:Nat->Nat->Rat} {b w x:Nat->Rat} (U:∀i,i<R->0<=w i) (O:¬Sing n (normR R n f b w)) (hx:qcL n (normR R n f b w) (fun r=>normR R n f b w r n) x) (y:Nat->Rat):msR R n f b w x<=msR R n f b w y:=by
 refine (best_law f b w x y U (fun r F=>?_) fun h=>O (h.congr fun i I j J=>(qm5 I J).symm)).1;have:=hx r F;simp only [] at this;rw [norm_out F] at this;rw [<-this];exact qbX fun c H=>by rw [qm5 F H]
